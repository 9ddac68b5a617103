/- The walks of package note, part two: reading. Written by program (walk.py) out of a table of contracts and invariants. -/
import Derived.Test.YtomhcibbalhgkaaGreatNo
namespace Go.Proofs.YtomhcibbalhgkaaGreat
open Go.RowKit
set_option maxRecDepth 100000
set_option maxHeartbeats 2000000
set_option linter.unusedVariables false
set_option linter.unusedSimpArgs false
/-- Where a reader starts, and what stands ahead of a proof's wins. -/
abbrev r00 : RS := (0, 0)
theorem ext_all (S : ByteArray) : S.extract 0 S.size = S := by
  apply ints_inj
  rw [ints_extract, List.drop_zero, List.take_of_length_le (by rw [ints_length]; omega)]
theorem r00_ok (S : ByteArray) : okR S r00 := Nat.zero_le _
theorem pfD_ok (S : ByteArray) : okR S (pfD S r00) := byS_ok (blS_ok (blS_ok (nuS_ok (r00_ok S))))
theorem pfN_le (S : ByteArray) (x : RS) : pfN S x ≤ 4 := by unfold pfN; omega
theorem rdWins_flat (S : ByteArray) (x : RS) (i : Nat) : (rdWins S x i).1.flatMap Wn.c ++ Wn.c (rdWin S (rdWins S x i).2).1 = (rdWins S x (i + 1)).1.flatMap Wn.c := by
  show _ = ((rdWins S x i).1 ++ [_]).flatMap Wn.c
  rw [List.flatMap_append, List.flatMap_singleton]
theorem dec_ok {S : ByteArray} {p : Pf} {x : RS} (hp : p = rdPf S r00) (hx : x = (rdWins S (pfD S r00) (pfN S r00)).2) (h1 : endE S x = 0) (h2 : pfRight p = true) : pfErr S r00 = 0 ∧ pfDec S = p := by
  subst hp hx
  have h3 : pfErr S r00 = 0 := by unfold pfErr; rw [if_pos h1, if_pos h2]
  exact ⟨h3, by unfold pfDec; rw [if_pos h3]⟩
theorem dec_bad1 {S : ByteArray} {x : RS} (hx : x = (rdWins S (pfD S r00) (pfN S r00)).2) (h1 : endE S x ≠ 0) : pfErr S r00 = endE S x ∧ pfDec S = pf0 := by
  subst hx
  have h3 : pfErr S r00 = endE S (rdWins S (pfD S r00) (pfN S r00)).2 := by unfold pfErr; rw [if_neg h1]
  exact ⟨h3, by unfold pfDec; rw [if_neg (by rw [h3]; exact h1)]⟩
theorem dec_bad2 {S : ByteArray} {p : Pf} {x : RS} (hp : p = rdPf S r00) (hx : x = (rdWins S (pfD S r00) (pfN S r00)).2) (h1 : endE S x = 0) (h2 : pfRight p = false) : pfErr S r00 = 4 ∧ pfDec S = pf0 := by
  subst hp hx
  have h3 : pfErr S r00 = 4 := by unfold pfErr; rw [if_pos h1, if_neg (by rw [h2]; decide)]
  exact ⟨h3, by unfold pfDec; rw [if_neg (by rw [h3]; decide)]⟩
theorem rdPf_len {S : ByteArray} {p : Pf} (hp : p = rdPf S r00) : p.wins.length ≤ 4 := by
  subst hp
  exact Nat.le_trans (Nat.le_of_eq (rdWins_length _ _ _)) (pfN_le _ _)
theorem wn_len (x : Wn) : (Wn.c x).length = 10 := rfl

theorem win_any (b : Nat) (S : ByteArray) (x : RS) (w : World) (hS : S.size ≤ 1000000000) (hok : okR S x) (hA : HA.ok w (.cells b [.string (S.extract (x).1 S.size), .int .i64 (x).2])) :
  Calls Tryz.prog 119 #[.pointer (some ⟨b, 0, none⟩)] w fun e w' => e = .returned (.agg (Wn.c (rdWin S x).1).toArray) ∧ Upd w w' (.cells b [.string (S.extract (x).1 S.size), .int .i64 (x).2]) (.cells b [.string (S.extract ((rdWin S x).2).1 S.size), .int .i64 ((rdWin S x).2).2]) := by
 refine calls_of (n := 43) (E := [(0, .pointer (some ⟨b, 0, none⟩))]) (W := Hp w [b] [.cells b [.string (S.extract (x).1 S.size), .int .i64 (x).2]]) Tryz.func119 rfl rfl (Nat.le_of_ble_eq_true rfl) rfl (Hp.start rfl hA) ?_
 refine jsr ?_
 refine jl_m rfl (by decide) rfl (m_alloc) (fun b2 => ?_)
 refine jnt ?_
 refine jsr ?_
 refine jl_m rfl (by decide) rfl (m_alloc) (fun b3 => ?_)
 refine jnt ?_
 refine jsr ?_
 refine jz ?_
 refine juc (goes_func rfl) (fun w1 hw1 => chash_any b S (x) w1 hS hok hw1) ?_
 refine jz ?_
 refine jz ?_
 refine jst ?_
 refine jnt ?_
 refine jsr ?_
 refine jz ?_
 refine juc (goes_func rfl) (fun w1 hw1 => cnum_any b S (haS S (x)) w1 hS (haS_ok hok) hw1) ?_
 refine jz ?_
 refine juc (goes_func rfl) (fun w1 hw1 => cnum_any b S (nuS S (haS S (x))) w1 hS (nuS_ok (haS_ok hok)) hw1) ?_
 refine jz ?_
 refine jz ?_
 refine jst ?_
 refine jz ?_
 refine jz ?_
 refine jst ?_
 refine jnt ?_
 refine jsr ?_
 refine jz ?_
 refine juc (goes_func rfl) (fun w1 hw1 => cnum_any b S (nuS S (nuS S (haS S (x)))) w1 hS (nuS_ok (nuS_ok (haS_ok hok))) hw1) ?_
 refine jz ?_
 refine juc (goes_func rfl) (fun w1 hw1 => cnum_any b S (nuS S (nuS S (nuS S (haS S (x))))) w1 hS (nuS_ok (nuS_ok (nuS_ok (haS_ok hok)))) hw1) ?_
 refine jz ?_
 refine jz ?_
 refine jst ?_
 refine jz ?_
 refine jz ?_
 refine jst ?_
 refine jnt ?_
 refine jsr ?_
 refine jz ?_
 refine juc (goes_func rfl) (fun w1 hw1 => chash_any b S (nuS S (nuS S (nuS S (nuS S (haS S (x)))))) w1 hS (nuS_ok (nuS_ok (nuS_ok (nuS_ok (haS_ok hok))))) hw1) ?_
 refine jz ?_
 refine jz ?_
 refine jst ?_
 refine jnt ?_
 refine jsr ?_
 refine jz ?_
 refine juc (goes_func rfl) (fun w1 hw1 => cnum_any b S (haS S (nuS S (nuS S (nuS S (nuS S (haS S (x))))))) w1 hS (haS_ok (nuS_ok (nuS_ok (nuS_ok (nuS_ok (haS_ok hok)))))) hw1) ?_
 refine jz ?_
 refine jz ?_
 refine jst ?_
 refine jnt ?_
 refine jsr ?_
 refine jz ?_
 refine juc (goes_func rfl) (fun w1 hw1 => cblob_any b S (nuS S (haS S (nuS S (nuS S (nuS S (nuS S (haS S (x)))))))) 400 w1 hS (nuS_ok (haS_ok (nuS_ok (nuS_ok (nuS_ok (nuS_ok (haS_ok hok))))))) hw1) ?_
 refine jz ?_
 refine jz ?_
 refine jst ?_
 refine jnt ?_
 refine jsr ?_
 refine jz ?_
 refine juc (goes_func rfl) (fun w1 hw1 => cblob_any b S (blS S (nuS S (haS S (nuS S (nuS S (nuS S (nuS S (haS S (x)))))))) 400) 32 w1 hS (blS_ok (nuS_ok (haS_ok (nuS_ok (nuS_ok (nuS_ok (nuS_ok (haS_ok hok)))))))) hw1) ?_
 refine jz ?_
 refine jst ?_
 refine jnt ?_
 refine jsr ?_
 refine jz ?_
 refine juc (goes_func rfl) (fun w1 hw1 => cnum_any b S (blS S (blS S (nuS S (haS S (nuS S (nuS S (nuS S (nuS S (haS S (x)))))))) 400) 32) w1 hS (blS_ok (blS_ok (nuS_ok (haS_ok (nuS_ok (nuS_ok (nuS_ok (nuS_ok (haS_ok hok))))))))) hw1) ?_
 refine jz ?_
 refine jst ?_
 refine jnt ?_
 refine jsr ?_
 refine jz ?_
 refine jst ?_
 refine jnt ?_
 refine jc_ret ?_
 refine jq_res (.inl rfl) rfl (.cell rfl (by first | exact ld_agg (by first | exact mem0 | exact mem1 | exact mem2 | exact mem3 | exact mem4 | exact mem5) (by repeat constructor) | exact ld_agg (by first | exact mem0 | exact mem1 | exact mem2 | exact mem3 | exact mem4 | exact mem5) (by assumption)) .nil) ?_
 exact fun w' hw => ⟨rfl, (hw.part (.cons (by first | exact del0 | exact del1 | exact del2) .nil)).updd rfl⟩

theorem dec_any (S : ByteArray) (w : World) (hS : S.size ≤ 1000000000) :
  Calls Tryz.prog 107 #[.string S] w fun e w' => ∃ pr : Option Addr × Nat, e = .returned (.tuple #[.agg (Pf.c (pfDec S) pr.1 pr.2).toArray, .int .i64 (pfErr S r00)]) ∧ Fresh w w' (.row pr.1 (pfDec S).wins.length pr.2 135 10 ((pfDec S).wins.flatMap Wn.c)) := by
 refine calls_of (n := 45) (E := [(0, .string S)]) (W := Hp w [] []) Tryz.func107 rfl rfl (Nat.le_of_ble_eq_true rfl) rfl (Hp.nil _ _) ?_
 refine jsr ?_
 refine jl_m rfl (by decide) rfl (m_alloc) (fun b2 => ?_)
 refine jz ?_
 refine jnt ?_
 refine jsr ?_
 refine jz ?_
 refine jl_fcall rfl (by decide) rfl (goes_func rfl) (fun w1 hw1 => cread_any _ w1) (fun br => ?_)
 refine jz ?_
 refine jnt ?_
 refine jc_seq ?_
 refine jc_world (fun _ h => h.cast (H' := [.cells br [.string (S.extract (r00).1 S.size), .int .i64 (r00).2], .cells b2 [.int .u64 0, .string ⟨#[]⟩, .string ⟨#[]⟩, .slice none 0 0]]) (by rw [ext_all])) ?_
 refine jc_region ?_
 refine jz ?_
 refine juc (goes_func rfl) (fun w1 hw1 => cnum_any br S (r00) w1 hS (r00_ok S) hw1) ?_
 refine jy (y_build (Built.cell rfl rfl rfl (by repeat constructor) Built.nil)) ?_
 refine jl_m rfl (by decide) rfl (m_alloc) (fun b5 => ?_)
 refine jst ?_
 refine jnt ?_
 refine jsr ?_
 refine jz ?_
 refine juc (goes_func rfl) (fun w1 hw1 => cblob_any br S (nuS S (r00)) 400 w1 hS (nuS_ok (r00_ok S)) hw1) ?_
 refine jz ?_
 refine jst ?_
 refine jnt ?_
 refine jsr ?_
 refine jz ?_
 refine juc (goes_func rfl) (fun w1 hw1 => cblob_any br S (blS S (nuS S (r00)) 400) 16 w1 hS (blS_ok (nuS_ok (r00_ok S))) hw1) ?_
 refine jz ?_
 refine jst ?_
 refine jnt ?_
 refine jc_seq ?_
 refine jsr ?_
 refine jz ?_
 refine juc (goes_func rfl) (fun w1 hw1 => cbyte_any br S (blS S (blS S (nuS S (r00)) 400) 16) w1 hS (blS_ok (blS_ok (nuS_ok (r00_ok S)))) hw1) ?_
 refine jy (y_min rfl rfl) ?_
 refine jl_as (u := .int .i64 ((pfN S r00 : Nat) : Int)) (congrArg (Value.int .i64) (by have := byV_range S (pfC S r00); unfold pfN; unfold pfC pfB pfA at *; omega)) ?_
 refine jz ?_
 refine jnt ?_
 refine jc_block ?_
 refine jc_loop3 (fun (i : Nat) (ad : Option Addr) (c : Nat) => [(2, .pointer (some ⟨b2, 0, none⟩)), (4, .pointer (some ⟨br, 0, none⟩)), (5, .pointer (some ⟨b5, 0, none⟩)), (20, .int .i64 ((pfN S r00 : Nat) : Int)), (21, .int .i64 (i : Nat))]) (fun (i : Nat) (ad : Option Addr) (c : Nat) => fun w' => i ≤ pfN S r00 ∧ Hp w [] [.row ad (i) c 135 10 (((rdWins S (pfD S r00) i).1).flatMap Wn.c), .cells b5 [.int .u64 (nuV S r00), .string (blV S (pfA S r00) 400), .string (blV S (pfB S r00) 16), .slice ad (i) c], .cells br [.string (S.extract ((rdWins S (pfD S r00) i).2).1 S.size), .int .i64 ((rdWins S (pfD S r00) i).2).2], .cells b2 [.int .u64 0, .string ⟨#[]⟩, .string ⟨#[]⟩, .slice none 0 0]] w') (fun (i : Nat) (ad : Option Addr) (c : Nat) => pfN S r00 - i) 0 none 0 ?_ ?_ ?_
 ·exact ⟨rfl, rfl, rfl, rfl, rfl, trivial⟩
 ·exact fun _ h => ⟨by omega, h.nilrow 135 10⟩
 ·intro i ad c
  refine jc_and (fun hi => ?_)
  have hn4 := pfN_le S r00
  refine jsr ?_
  refine jy (y_lss rfl rfl) ?_
  refine jl_prop (fun h22 => ?_) (fun h22 => ?_)
  ·first
   | (exfalso; omega)
   | (
    refine jnt ?_
    refine jc_seq ?_
    refine jc_true rfl ?_
    refine jc_skip ?_
    refine jq_then ?_
    refine jc_seq ?_
    refine jc_block ?_
    refine jc_schedC (Hp w [] [.cells b5 [.int .u64 (nuV S r00), .string (blV S (pfA S r00) 400), .string (blV S (pfB S r00) 16), .slice ad (i) c]]) 7 [(0, true), (1, true), (2, true), (3, false), (4, false), (5, false), (6, true)] rfl (by kernel_rfl) (fun _ _ _ _ h => h) (fun _ h => (h.part (.cons (by first | exact del0 | exact del1 | exact del2) .nil)).drew) (fun _ h => h.drew) ?_
    simp only [pickO, nthO, List.drop_succ_cons, List.drop_zero]
    refine jkz ?_
    refine jkz ?_
    refine jkz ?_
    refine js_ucallH rfl (by decide) rfl (goes_func rfl) (by rfl) (fun w1 hw1 => win_any br S (rdWins S (pfD S r00) i).2 w1 hS (rdWins_ok (pfD_ok S) i) (hw1.get mem2)) (by first | exact rep0 | exact rep1 | exact rep2 | exact rep3 | exact rep4) (by intro _ h; exact h.part (.cons (by first | exact del0 | exact del1 | exact del2) .nil)) ?_
    refine js_m (by intros; rename_i h; exact h.part (.cons (by first | exact del0 | exact del1 | exact del2) .nil)) rfl (by decide) rfl (m_buildSlice (size := 10) (by decide) (Built.agg rfl rfl rfl (by repeat constructor) Built.nil)) (fun b27 => ?_)
    refine js_m2z rfl (by decide) rfl (m_append rfl rfl (by first | exact del0 | exact del1 | exact del2 | exact del3 | exact del4) (by first | exact del0 | exact del1 | exact del2 | exact del3 | exact del4) rfl (by omega) (by omega)) (by intros; rename_i h; exact h.part (.cons (by first | exact del0 | exact del1 | exact del2) .nil)) (fun a28 c28 => ?_)
    refine jkz ?_
    refine js_nil ?_
    refine jst ?_
    refine jl_nil ?_
    refine jq_block ?_
    refine jq_then ?_
    refine jc_region ?_
    refine jy (y_add_fits rfl rfl (by simp only [fits]; omega)) ?_
    refine jz ?_
    refine jl_nil ?_
    refine jq_round3 (i := i) (j := ad) (l := c) (i + 1) a28 c28 ?_ ?_ ?_
    ·omega
    ·exact ⟨rfl, rfl, rfl, rfl, lk_int rfl (by omega), trivial⟩
    ·exact fun _ h => ⟨by omega, h.cast (by rw [← rdWins_flat]; rfl)⟩
    )
  ·first
   | (exfalso; omega)
   | (
    refine jnt ?_
    refine jc_seq ?_
    refine jc_false rfl ?_
    refine jc_exit ?_
    refine jq_then_exit ?_
    refine jq_then_exit ?_
    refine jq_hit ?_
    refine jq_then ?_
    refine jc_seq ?_
    have hie : i = pfN S r00 := by omega
    obtain ⟨p, hp⟩ : ∃ p, p = rdPf S r00 := ⟨_, rfl⟩
    obtain ⟨x, hx⟩ : ∃ x, x = (rdWins S (pfD S r00) (pfN S r00)).2 := ⟨_, rfl⟩
    have hok : okR S x := hx ▸ rdWins_ok (pfD_ok S) _
    refine jc_world (fun _ h => h.cast (H' := [.row ad p.wins.length c 135 10 (p.wins.flatMap Wn.c), .cells b5 (Pf.c p ad c), .cells br [.string (S.extract (x).1 S.size), .int .i64 (x).2], .cells b2 [.int .u64 0, .string ⟨#[]⟩, .string ⟨#[]⟩, .slice none 0 0]]) (by subst hie hp hx; have hl : (rdPf S r00).wins.length = pfN S r00 := rdWins_length _ _ _; simp only [Pf.c, hl]; rfl)) ?_
    refine jc_region ?_
    refine jz ?_
    refine jpc (goes_func rfl) (fun w1 hw1 => cend_any br S x w1 hok (CellAt.of_cells (hw1.get (A := .cells br [.string (S.extract (x).1 S.size), .int .i64 (x).2]) mem2) rfl) (CellAt.of_cells (hw1.get (A := .cells br [.string (S.extract (x).1 S.size), .int .i64 (x).2]) mem2) rfl)) ?_
    refine jz ?_
    refine jnt ?_
    refine jc_seq ?_
    refine jsr ?_
    refine jz ?_
    refine jy (y_eql rfl rfl) ?_
    refine jl_prop (fun h34 => ?_) (fun h34 => ?_)
    ·first
     | (exfalso; omega)
     | (
      refine jz ?_
      refine jz ?_
      refine jpc (goes_func rfl) (fun w1 hw1 => right_any p ad c w1 (ElAt.of_row wn_len rfl (hw1.get (A := .row ad p.wins.length c 135 10 (p.wins.flatMap Wn.c)) mem0)) (by have := rdPf_len hp; omega)) ?_
      refine jl_bool (fun h37 => ?_) (fun h37 => ?_)
      ·skip
       refine jz ?_
       refine jy (y_pick_true rfl rfl) ?_
       refine jnt ?_
       refine jc_false rfl ?_
       refine jc_skip ?_
       refine jq_then ?_
       refine jc_seq ?_
       refine jsr ?_
       refine jz ?_
       refine jy (y_neq rfl rfl) ?_
       refine jl_prop (fun h41 => ?_) (fun h41 => ?_)
       ·first
        | (exfalso; omega)
        | (
         refine jnt ?_
         refine jc_true rfl ?_
         refine jsr ?_
         refine jy (y_build Built.nil) ?_
         refine jz ?_
         refine jst ?_
         refine jz ?_
         refine jnt ?_
         refine jc_ret ?_
         refine jq_then_ret ?_
         refine jq_res (.inl rfl) rfl (.cell rfl (by first | exact ld_agg (by first | exact mem0 | exact mem1 | exact mem2 | exact mem3 | exact mem4 | exact mem5) (by repeat constructor) | exact ld_agg (by first | exact mem0 | exact mem1 | exact mem2 | exact mem3 | exact mem4 | exact mem5) (by assumption)) (.tmp rfl .nil)) ?_
         first | exact fun _ hw => ⟨(none, 0), by rw [(dec_bad1 hx (by omega)).1, (dec_bad1 hx (by omega)).2]; rfl, by rw [(dec_bad1 hx (by omega)).2]; exact (Hp.nilrow 135 10 (Hp.of_ch hw.ch)).fresh⟩ | exact fun _ hw => ⟨(none, 0), by rw [(dec_bad2 hp hx (by omega) (by assumption)).1, (dec_bad2 hp hx (by omega) (by assumption)).2]; rfl, by rw [(dec_bad2 hp hx (by omega) (by assumption)).2]; exact (Hp.nilrow 135 10 (Hp.of_ch hw.ch)).fresh⟩ | (exfalso; omega)
         )
       ·first
        | (exfalso; omega)
        | (
         refine jnt ?_
         refine jc_false rfl ?_
         refine jc_skip ?_
         refine jq_then ?_
         refine jsr ?_
         refine jz ?_
         refine jst ?_
         refine jz ?_
         refine jnt ?_
         refine jc_ret ?_
         refine jq_res (.inl rfl) rfl (.cell rfl (by first | exact ld_agg (by first | exact mem0 | exact mem1 | exact mem2 | exact mem3 | exact mem4 | exact mem5) (by repeat constructor) | exact ld_agg (by first | exact mem0 | exact mem1 | exact mem2 | exact mem3 | exact mem4 | exact mem5) (by assumption)) (.tmp rfl .nil)) ?_
         first | exact fun _ hw => ⟨(ad, c), by rw [(dec_ok hp hx (by omega) (by assumption)).1, (dec_ok hp hx (by omega) (by assumption)).2]; rfl, by rw [(dec_ok hp hx (by omega) (by assumption)).2]; exact (hw.part (.cons del0 .nil)).fresh⟩ | (exfalso; omega)
         )
      ·skip
       refine jz ?_
       refine jy (y_pick_true rfl rfl) ?_
       refine jnt ?_
       refine jc_true rfl ?_
       refine jc_region ?_
       refine jz ?_
       refine jnt ?_
       refine jc_seq ?_
       refine jsr ?_
       refine jz ?_
       refine jy (y_neq rfl rfl) ?_
       refine jl_prop (fun h41 => ?_) (fun h41 => ?_)
       ·first
        | (exfalso; omega)
        | (
         refine jnt ?_
         refine jc_true rfl ?_
         refine jsr ?_
         refine jy (y_build Built.nil) ?_
         refine jz ?_
         refine jst ?_
         refine jz ?_
         refine jnt ?_
         refine jc_ret ?_
         refine jq_then_ret ?_
         refine jq_res (.inl rfl) rfl (.cell rfl (by first | exact ld_agg (by first | exact mem0 | exact mem1 | exact mem2 | exact mem3 | exact mem4 | exact mem5) (by repeat constructor) | exact ld_agg (by first | exact mem0 | exact mem1 | exact mem2 | exact mem3 | exact mem4 | exact mem5) (by assumption)) (.tmp rfl .nil)) ?_
         first | exact fun _ hw => ⟨(none, 0), by rw [(dec_bad1 hx (by omega)).1, (dec_bad1 hx (by omega)).2]; rfl, by rw [(dec_bad1 hx (by omega)).2]; exact (Hp.nilrow 135 10 (Hp.of_ch hw.ch)).fresh⟩ | exact fun _ hw => ⟨(none, 0), by rw [(dec_bad2 hp hx (by omega) (by assumption)).1, (dec_bad2 hp hx (by omega) (by assumption)).2]; rfl, by rw [(dec_bad2 hp hx (by omega) (by assumption)).2]; exact (Hp.nilrow 135 10 (Hp.of_ch hw.ch)).fresh⟩ | (exfalso; omega)
         )
       ·first
        | (exfalso; omega)
        | (
         refine jnt ?_
         refine jc_false rfl ?_
         refine jc_skip ?_
         refine jq_then ?_
         refine jsr ?_
         refine jz ?_
         refine jst ?_
         refine jz ?_
         refine jnt ?_
         refine jc_ret ?_
         refine jq_res (.inl rfl) rfl (.cell rfl (by first | exact ld_agg (by first | exact mem0 | exact mem1 | exact mem2 | exact mem3 | exact mem4 | exact mem5) (by repeat constructor) | exact ld_agg (by first | exact mem0 | exact mem1 | exact mem2 | exact mem3 | exact mem4 | exact mem5) (by assumption)) (.tmp rfl .nil)) ?_
         first | exact fun _ hw => ⟨(ad, c), by rw [(dec_ok hp hx (by omega) (by assumption)).1, (dec_ok hp hx (by omega) (by assumption)).2]; rfl, by rw [(dec_ok hp hx (by omega) (by assumption)).2]; exact (hw.part (.cons del0 .nil)).fresh⟩ | (exfalso; omega)
         )
      )
    ·first
     | (exfalso; omega)
     | (
      refine jz ?_
      refine jsk ?_
      refine jsk ?_
      refine jsk ?_
      refine jy (y_pick_false rfl rfl) ?_
      refine jnt ?_
      refine jc_false rfl ?_
      refine jc_skip ?_
      refine jq_then ?_
      refine jc_seq ?_
      refine jsr ?_
      refine jz ?_
      refine jy (y_neq rfl rfl) ?_
      refine jl_prop (fun h41 => ?_) (fun h41 => ?_)
      ·first
       | (exfalso; omega)
       | (
        refine jnt ?_
        refine jc_true rfl ?_
        refine jsr ?_
        refine jy (y_build Built.nil) ?_
        refine jz ?_
        refine jst ?_
        refine jz ?_
        refine jnt ?_
        refine jc_ret ?_
        refine jq_then_ret ?_
        refine jq_res (.inl rfl) rfl (.cell rfl (by first | exact ld_agg (by first | exact mem0 | exact mem1 | exact mem2 | exact mem3 | exact mem4 | exact mem5) (by repeat constructor) | exact ld_agg (by first | exact mem0 | exact mem1 | exact mem2 | exact mem3 | exact mem4 | exact mem5) (by assumption)) (.tmp rfl .nil)) ?_
        first | exact fun _ hw => ⟨(none, 0), by rw [(dec_bad1 hx (by omega)).1, (dec_bad1 hx (by omega)).2]; rfl, by rw [(dec_bad1 hx (by omega)).2]; exact (Hp.nilrow 135 10 (Hp.of_ch hw.ch)).fresh⟩ | exact fun _ hw => ⟨(none, 0), by rw [(dec_bad2 hp hx (by omega) (by assumption)).1, (dec_bad2 hp hx (by omega) (by assumption)).2]; rfl, by rw [(dec_bad2 hp hx (by omega) (by assumption)).2]; exact (Hp.nilrow 135 10 (Hp.of_ch hw.ch)).fresh⟩ | (exfalso; omega)
        )
      ·first
       | (exfalso; omega)
       | (
        refine jnt ?_
        refine jc_false rfl ?_
        refine jc_skip ?_
        refine jq_then ?_
        refine jsr ?_
        refine jz ?_
        refine jst ?_
        refine jz ?_
        refine jnt ?_
        refine jc_ret ?_
        refine jq_res (.inl rfl) rfl (.cell rfl (by first | exact ld_agg (by first | exact mem0 | exact mem1 | exact mem2 | exact mem3 | exact mem4 | exact mem5) (by repeat constructor) | exact ld_agg (by first | exact mem0 | exact mem1 | exact mem2 | exact mem3 | exact mem4 | exact mem5) (by assumption)) (.tmp rfl .nil)) ?_
        first | exact fun _ hw => ⟨(ad, c), by rw [(dec_ok hp hx (by omega) (by assumption)).1, (dec_ok hp hx (by omega) (by assumption)).2]; rfl, by rw [(dec_ok hp hx (by omega) (by assumption)).2]; exact (hw.part (.cons del0 .nil)).fresh⟩ | (exfalso; omega)
        )
      )
    )

theorem of_bne {P : Prop} [Decidable P] (h : (!decide P) = true) : ¬ P := by simpa using h
theorem pf_ne {p q : Pf} (h : p.amount ≠ q.amount ∨ p.sig ≠ q.sig ∨ p.token ≠ q.token ∨ p.wins ≠ q.wins) : false = pfSame p q := by
  unfold pfSame
  rw [eq_comm, decide_eq_false_iff_not]
  rintro rfl
  rcases h with h | h | h | h <;> exact h rfl
theorem pf_eq {p q : Pf} (h1 : p.amount = q.amount) (h2 : p.sig = q.sig) (h3 : p.token = q.token) (h4 : p.wins = q.wins) : true = pfSame p q := by
  unfold pfSame
  rw [eq_comm, decide_eq_true_eq]
  cases p; cases q
  simp_all
theorem take_both {α : Type} {l m : List α} {i : Nat} (h : i < l.length) (hm : i < m.length) (ht : l.take i = m.take i) (he : l[i] = m[i]) : l.take (i + 1) = m.take (i + 1) := by
  rw [List.take_succ_eq_append_getElem h, List.take_succ_eq_append_getElem hm, ht, he]
theorem get_ne {α : Type} {l m : List α} {i : Nat} (h : i < l.length) (hm : i < m.length) {x y : α} (hx : l[i] = x) (hy : m[i] = y) (he : x ≠ y) : l ≠ m := by
  rintro rfl
  exact he (hx.symm.trans hy)
theorem len_ne {α : Type} {l m : List α} (h : l.length ≠ m.length) : l ≠ m := fun e => h (by rw [e])

theorem same_any (p q : Pf) (ad aq : Option Addr) (c d : Nat) (w : World) (hE : ElAt w ad 10 (p.wins.map Wn.c)) (hQ : ElAt w aq 10 (q.wins.map Wn.c)) (hl : p.wins.length ≤ 1000000000) (hm : q.wins.length ≤ 1000000000) :
  Calls Tryz.prog 75 #[.agg (Pf.c p ad c).toArray, .agg (Pf.c q aq d).toArray] w fun e w' => e = .returned (.bool (pfSame p q)) ∧ Ch [] w w' := by
 refine calls_of (n := 52) (E := [(0, .agg (Pf.c p ad c).toArray), (1, .agg (Pf.c q aq d).toArray)]) (W := Hp w [] []) Tryz.func75 rfl rfl (Nat.le_of_ble_eq_true rfl) rfl (Hp.nil _ _) ?_
 refine jsr ?_
 refine jl_m rfl (by decide) rfl (m_box rfl rfl) (fun b2 => ?_)
 refine jl_m rfl (by decide) rfl (m_box rfl rfl) (fun b3 => ?_)
 refine jz ?_
 refine jnt ?_
 refine jc_seq ?_
 refine jsr ?_
 refine jz ?_
 refine jz ?_
 refine jz ?_
 refine jz ?_
 refine jy (y_neq rfl rfl) ?_
 refine jl_prop (fun h10 => ?_) (fun h10 => ?_)
 ·first
  | (exfalso; omega)
  | (
   refine jz ?_
   refine jsk ?_
   refine jsk ?_
   refine jsk ?_
   refine jsk ?_
   refine jsk ?_
   refine jy (y_pick_true rfl rfl) ?_
   refine jz ?_
   refine jsk ?_
   refine jsk ?_
   refine jsk ?_
   refine jsk ?_
   refine jsk ?_
   refine jy (y_pick_true rfl rfl) ?_
   refine jz ?_
   refine jsk ?_
   refine jsk ?_
   refine jsk ?_
   refine jsk ?_
   refine jsk ?_
   refine jsk ?_
   refine jsk ?_
   refine jy (y_pick_true rfl rfl) ?_
   refine jnt ?_
   refine jc_true rfl ?_
   refine jsr ?_
   refine jz ?_
   refine jnt ?_
   refine jc_ret ?_
   refine jq_then_ret ?_
   refine jq_ret1 rfl rfl ?_
   exact fun _ hw => ⟨congrArg (fun b => Ending.returned (Value.bool b)) (pf_ne (by first | exact .inl (by assumption) | exact .inr (.inl (of_bne (by assumption))) | exact .inr (.inr (.inl (of_bne (by assumption)))) | exact .inr (.inr (.inr (len_ne (by omega)))))), hw.ch⟩
   )
 ·first
  | (exfalso; omega)
  | (
   refine jz ?_
   refine jz ?_
   refine jz ?_
   refine jz ?_
   refine jz ?_
   refine jy (y_sneq rfl rfl) ?_
   refine jl_bool (fun h16 => ?_) (fun h16 => ?_)
   ·skip
    refine jy (y_pick_false rfl rfl) ?_
    refine jz ?_
    refine jsk ?_
    refine jsk ?_
    refine jsk ?_
    refine jsk ?_
    refine jsk ?_
    refine jy (y_pick_true rfl rfl) ?_
    refine jz ?_
    refine jsk ?_
    refine jsk ?_
    refine jsk ?_
    refine jsk ?_
    refine jsk ?_
    refine jsk ?_
    refine jsk ?_
    refine jy (y_pick_true rfl rfl) ?_
    refine jnt ?_
    refine jc_true rfl ?_
    refine jsr ?_
    refine jz ?_
    refine jnt ?_
    refine jc_ret ?_
    refine jq_then_ret ?_
    refine jq_ret1 rfl rfl ?_
    exact fun _ hw => ⟨congrArg (fun b => Ending.returned (Value.bool b)) (pf_ne (by first | exact .inl (by assumption) | exact .inr (.inl (of_bne (by assumption))) | exact .inr (.inr (.inl (of_bne (by assumption)))) | exact .inr (.inr (.inr (len_ne (by omega)))))), hw.ch⟩
   ·skip
    refine jy (y_pick_false rfl rfl) ?_
    refine jz ?_
    refine jz ?_
    refine jz ?_
    refine jz ?_
    refine jz ?_
    refine jy (y_sneq rfl rfl) ?_
    refine jl_bool (fun h23 => ?_) (fun h23 => ?_)
    ·skip
     refine jy (y_pick_false rfl rfl) ?_
     refine jz ?_
     refine jsk ?_
     refine jsk ?_
     refine jsk ?_
     refine jsk ?_
     refine jsk ?_
     refine jsk ?_
     refine jsk ?_
     refine jy (y_pick_true rfl rfl) ?_
     refine jnt ?_
     refine jc_true rfl ?_
     refine jsr ?_
     refine jz ?_
     refine jnt ?_
     refine jc_ret ?_
     refine jq_then_ret ?_
     refine jq_ret1 rfl rfl ?_
     exact fun _ hw => ⟨congrArg (fun b => Ending.returned (Value.bool b)) (pf_ne (by first | exact .inl (by assumption) | exact .inr (.inl (of_bne (by assumption))) | exact .inr (.inr (.inl (of_bne (by assumption)))) | exact .inr (.inr (.inr (len_ne (by omega)))))), hw.ch⟩
    ·skip
     refine jy (y_pick_false rfl rfl) ?_
     refine jz ?_
     refine jz ?_
     refine jz ?_
     refine jy (y_len_slice rfl) ?_
     refine jz ?_
     refine jz ?_
     refine jy (y_len_slice rfl) ?_
     refine jy (y_neq rfl rfl) ?_
     refine jl_prop (fun h32 => ?_) (fun h32 => ?_)
     ·first
      | (exfalso; omega)
      | (
       refine jy (y_pick_false rfl rfl) ?_
       refine jnt ?_
       refine jc_true rfl ?_
       refine jsr ?_
       refine jz ?_
       refine jnt ?_
       refine jc_ret ?_
       refine jq_then_ret ?_
       refine jq_ret1 rfl rfl ?_
       exact fun _ hw => ⟨congrArg (fun b => Ending.returned (Value.bool b)) (pf_ne (by first | exact .inl (by assumption) | exact .inr (.inl (of_bne (by assumption))) | exact .inr (.inr (.inl (of_bne (by assumption)))) | exact .inr (.inr (.inr (len_ne (by omega)))))), hw.ch⟩
       )
     ·first
      | (exfalso; omega)
      | (
       refine jy (y_pick_false rfl rfl) ?_
       refine jnt ?_
       refine jc_false rfl ?_
       refine jc_skip ?_
       refine jq_then ?_
       refine jc_seq ?_
       refine jsr ?_
       refine jz ?_
       refine jz ?_
       refine jy (y_len_slice rfl) ?_
       refine jz ?_
       refine jnt ?_
       refine jc_block ?_
       refine jc_loop (fun (i : Nat) => [(2, .pointer (some ⟨b2, 0, none⟩)), (3, .pointer (some ⟨b3, 0, none⟩)), (36, .int .i64 p.wins.length), (37, .int .i64 (i : Nat))]) (fun (i : Nat) => fun w' => (i ≤ p.wins.length ∧ p.wins.take i = q.wins.take i) ∧ Hp w [] [.cells b3 (Pf.c q aq d), .cells b2 (Pf.c p ad c)] w') (fun (i : Nat) => p.wins.length - i) 0 ?_ ?_ ?_
       ·exact ⟨rfl, rfl, rfl, rfl, trivial⟩
       ·exact fun _ h => ⟨⟨by omega, rfl⟩, h⟩
       ·intro i
        refine jc_and (fun hi => ?_)
        refine jsr ?_
        refine jy (y_lss rfl rfl) ?_
        refine jl_prop (fun h38 => ?_) (fun h38 => ?_)
        ·first
         | (exfalso; omega)
         | (
          have hlt : i < p.wins.length := by omega
          have hlq : i < q.wins.length := by omega
          obtain ⟨bb, oo, ea, hold⟩ := hE.get hlt
          obtain ⟨bq, oq, eq, holq⟩ := hQ.get hlq
          subst ea
          subst eq
          generalize hxe : p.wins[i]'hlt = x at *
          generalize hye : q.wins[i]'hlq = y at *
          refine jnt ?_
          refine jc_seq ?_
          refine jc_true rfl ?_
          refine jc_skip ?_
          refine jq_then ?_
          refine jc_seq ?_
          refine jc_block ?_
          refine jsr ?_
          refine jz ?_
          refine jz ?_
          refine jnt ?_
          refine jc_seq ?_
          refine jc_draw (by kernel_rfl) (fun _ h => h.drew) ?_
          refine juz ?_
          refine juz ?_
          refine juz ?_
          refine juy (y_indexAddr_slice (off := oo + i * 10) rfl rfl (by omega) (by omega) (by omega)) ?_
          refine juy (y_loadAgg_old rfl rfl hold (by simp)) ?_
          refine juz ?_
          refine juz ?_
          refine juz ?_
          refine juy (y_indexAddr_slice (off := oq + i * 10) rfl rfl (by omega) (by omega) (by omega)) ?_
          refine juy (y_loadAgg_old rfl rfl holq (by simp)) ?_
          refine juy (y_neq_agg rfl rfl (by kernel_rfl) (fun w => eq_wn 9997 x y w)) ?_
          refine ju_bool (fun h50 => ?_) (fun h50 => ?_)
          ·skip
           refine ju_nil ?_
           refine jq_then ?_
           refine jc_true rfl ?_
           refine jsr ?_
           refine jz ?_
           refine jnt ?_
           refine jc_ret ?_
           refine jq_block_ret ?_
           refine jq_then_ret ?_
           refine jq_then_ret ?_
           refine jq_block_ret ?_
           refine jq_then_ret ?_
           refine jq_ret1 rfl rfl ?_
           exact fun _ hw => ⟨congrArg (fun b => Ending.returned (Value.bool b)) (pf_ne (.inr (.inr (.inr (get_ne hlt hlq hxe hye (by first | assumption | simp_all)))))), hw.ch⟩
          ·skip
           refine ju_nil ?_
           refine jq_then ?_
           refine jc_false rfl ?_
           refine jc_skip ?_
           refine jq_block ?_
           refine jq_then ?_
           refine jc_region ?_
           refine jy (y_add_fits rfl rfl (by simp only [fits]; omega)) ?_
           refine jz ?_
           refine jl_nil ?_
           refine jq_round (i := i) (i + 1) ?_ ?_ ?_
           ·omega
           ·exact ⟨rfl, rfl, rfl, lk_int rfl (by omega), trivial⟩
           ·exact fun _ h => ⟨⟨by omega, take_both hlt hlq hi.2 (by rw [hxe, hye]; first | assumption | simp_all)⟩, h⟩
          )
        ·first
         | (exfalso; omega)
         | (
          refine jnt ?_
          refine jc_seq ?_
          refine jc_false rfl ?_
          refine jc_exit ?_
          refine jq_then_exit ?_
          refine jq_then_exit ?_
          refine jq_hit ?_
          refine jq_then ?_
          refine jsr ?_
          refine jz ?_
          refine jnt ?_
          refine jc_ret ?_
          refine jq_ret1 rfl rfl ?_
          exact fun _ hw => ⟨congrArg (fun b => Ending.returned (Value.bool b)) (pf_eq (by omega) (by simp_all) (by simp_all) (by have h1 := hi.2; rwa [List.take_of_length_le (by omega), List.take_of_length_le (by omega)] at h1)), hw.ch⟩
          )
       )
   )

end Go.Proofs.YtomhcibbalhgkaaGreat