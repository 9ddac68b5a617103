/- The walks of the document's answer for coins, part three: whole transactions. Written by program (walk.py) out of a table of contracts and invariants. -/
import Derived.Test.YtamlleachfngeaaGreatRo
namespace Go.Proofs.YtamlleachfngeaaGreat
open Go.RowKit
set_option maxRecDepth 100000
set_option maxHeartbeats 4000000
set_option linter.unusedVariables false
set_option linter.unusedSimpArgs false
theorem tx_no3 {t : Trx} {o : Oup} {i : Nat} (hi : i < t.outs.length) (hx : t.outs[i] = o) (h : ouFits o = false) : false = txRight t := by
  rw [eq_comm, Bool.eq_false_iff]
  intro hr
  have h1 := (txRight_iff.1 hr).2.2.2.2.1 o (hx ▸ List.getElem_mem hi)
  rw [h] at h1
  exact absurd h1 (by decide)
theorem in_no {x : Inp} (h : ¬ (x.pt.tx.size = 16 ∧ (0 ≤ x.pt.out ∧ x.pt.out ≤ 255) ∧ (1 ≤ x.path ∧ x.path ≤ 3) ∧ x.sig.size ≤ 400)) : inFits x = false := by
  rw [Bool.eq_false_iff]
  intro h2
  exact h (inFits_iff.1 h2)
theorem pt_in {t : Trx} {i k : Nat} {x y : Inp} (hk : k < i) (hi : i < t.ins.length) (hy : t.ins[k]'(by omega) = y) (e : y.pt = x.pt) : x.pt ∈ (t.ins.take i).map Inp.pt := by
  refine List.mem_map.2 ⟨y, ?_, e⟩
  rw [← hy]
  exact List.mem_iff_getElem.2 ⟨k, by rw [List.length_take]; omega, by rw [List.getElem_take]⟩
theorem pt_out {l : List Inp} {x : Inp} (h : ∀ z ∈ l, z.pt ≠ x.pt) : x.pt ∉ l.map Inp.pt := fun hm => by
  obtain ⟨z, hz, e⟩ := List.mem_map.1 hm
  exact h z hz e
theorem bl_empty {S : ByteArray} {x : RS} {m : Int} (h : ¬ (blS S x m).2 = 0) : blV S x m = ⟨#[]⟩ := by
  unfold blS at h
  unfold blV
  by_cases h0 : (tkS S x 2).2 = 0
  · rw [if_pos h0] at h ⊢
    by_cases h1 : (tkS S (blT S x m) (lenV S x)).2 = 0
    · rw [if_pos h1] at h; exact absurd h1 h
    · exact tk_empty h1
  · rw [if_neg h0]
theorem ta {S : ByteArray} (h : ¬ (dA S).2 = 0) : txErr S = (dA S).2 := by
  have hc : dC S = ⟨#[]⟩ := bl_empty h
  rw [te5 hc]
  unfold endE flS failE
  simp only [if_neg h, h, false_and, if_false]
theorem tb {S : ByteArray} (h : (dA S).2 = 0) (hc : dC S = ⟨#[]⟩) : txErr S = 4 := by
  rw [te5 hc]
  unfold endE flS failE
  simp only [if_pos h]
  rw [if_neg (by simp)]
def e35' (x : RS) : Prop := x.2 = 0 ∨ x.2 = 3 ∨ x.2 = 5
theorem tk35' {S : ByteArray} {x : RS} {n : Nat} (h : e35' x) : e35' (tkS S x n) := by
  unfold tkS
  split
  · split
    · exact .inl rfl
    · exact .inr (.inl rfl)
  · exact h
theorem bl35' {S : ByteArray} {x : RS} {m : Int} (h : e35' x) : e35' (blS S x m) := by
  have h1 := tk35' (S := S) (n := 2) h
  have h2 : e35' (blT S x m) := by
    unfold blT
    split
    · unfold failE e35'
      simp only
      split
      · exact .inr (.inr rfl)
      · exact h1
    · exact h1
  have h3 := tk35' (S := S) (n := lenV S x) h2
  unfold blS
  split
  · split
    · exact h3
    · exact h3
  · exact h1
theorem sg35' {S : ByteArray} {x : RS} (h : e35' x) : ∀ k, e35' (sgX S x k)
  | 0 => h
  | k + 1 => bl35' (sg35' h k)
theorem dE35 (S : ByteArray) : (dE S).2 = 0 ∨ (dE S).2 = 3 ∨ (dE S).2 = 5 := bl35' (sg35' (bl35' (.inl rfl)) _)
theorem endE_bad {S : ByteArray} {x : RS} (h : ¬ x.2 = 0) : endE S x = x.2 := by unfold endE; rw [if_neg (fun h2 => h h2.1)]
theorem endE_ok {S : ByteArray} {x : RS} (h : x.2 = 0) : ¬ (endE S x ≠ 0 ∧ endE S x ≠ 4) := by
  unfold endE
  split
  · omega
  · omega

theorem rtxright_any (t : Trx) (a1 : Option Addr) (c1 : Nat) (a2 : Option Addr) (c2 : Nat) (a3 : Option Addr) (c3 : Nat) (w : World) (hf : t.Fit) (h1 : ElAt w a1 4 (t.ins.map Inp.c)) (h2 : ElAt w a2 9 (t.outs.map Oup.c)) (h3 : ElAt w a3 10 (t.pf.wins.map Wn.c)) (l1 : t.ins.length ≤ 1000000000) (l2 : t.outs.length ≤ 1000000000) (l3 : t.pf.wins.length ≤ 1000000000) :
  Calls Tryz.prog 14 #[.agg (Trx.c t a1 c1 a2 c2 a3 c3).toArray] w fun e w' => e = .returned (.bool (txRight t)) ∧ Ch [] w w' := by
 refine calls_of (n := 107) (E := [(0, .agg (Trx.c t a1 c1 a2 c2 a3 c3).toArray)]) (W := Hp w [] []) Tryz.func14 rfl rfl (Nat.le_of_ble_eq_true rfl) rfl (Hp.nil _ _) ?_
 refine jsr ?_
 refine jl_m rfl (by decide) rfl (m_box rfl rfl) (fun b1 => ?_)
 refine jz ?_
 refine jnt ?_
 refine jc_seq ?_
 refine jsr ?_
 refine jz ?_
 refine jnt ?_
 refine jc_block ?_
 refine jc_loop (fun (i : Nat) => [(1, .pointer (some ⟨b1, 0, none⟩)), (3, .int .i64 (i : Nat))]) (fun (i : Nat) => fun w' => (i ≤ t.ins.length ∧ (∀ z ∈ t.ins.take i, inFits z = true) ∧ ((t.ins.take i).map Inp.pt).Nodup) ∧ Hp w [] [.cells b1 (Trx.c t a1 c1 a2 c2 a3 c3)] w') (fun (i : Nat) => t.ins.length - i) 0 ?_ ?_ ?_
 ·exact ⟨rfl, rfl, trivial⟩
 ·exact fun _ h => ⟨⟨by omega, by simp, by simp⟩, h⟩
 ·intro i
  refine jc_and (fun hi => ?_)
  refine jc_seq ?_
  refine jsr ?_
  refine jz ?_
  refine jz ?_
  refine jz ?_
  refine jy (y_len_slice rfl) ?_
  refine jy (y_lss rfl rfl) ?_
  refine jl_prop (fun h11 => ?_) (fun h11 => ?_)
  ·first
   | (exfalso; omega)
   | (
    have hlt : i < t.ins.length := by omega
    obtain ⟨bb, oo, ea, hall⟩ : ∃ b o, a1 = some ⟨b, o, none⟩ ∧ ∀ k (hk : k < t.ins.length), Old w b (o + k * 4) (Inp.c t.ins[k]) := (by obtain ⟨b, o, e, _⟩ := h1.get hlt; refine ⟨b, o, e, fun k hk => ?_⟩; obtain ⟨b', o', e', h'⟩ := h1.get hk; rw [e] at e'; cases e'; exact h')
    subst ea
    have hold := hall i hlt
    generalize hxe : t.ins[i]'hlt = x at *
    refine jnt ?_
    refine jc_true rfl ?_
    refine jc_skip ?_
    refine jq_then ?_
    refine jc_seq ?_
    refine jc_block ?_
    refine jsr ?_
    refine jz ?_
    refine jz ?_
    refine jz ?_
    refine jy (y_indexAddr_slice (off := oo + i * 4) rfl rfl (by omega) (by omega) (by omega)) ?_
    refine jy (y_loadAgg_old rfl rfl hold (by simp)) ?_
    refine jl_m rfl (by decide) rfl (m_alloc) (fun b4 => ?_)
    refine jst ?_
    refine jnt ?_
    refine jc_seq ?_
    refine jsr ?_
    refine jz ?_
    refine jz ?_
    refine jz ?_
    refine jy (y_len_str rfl) ?_
    refine jy (y_neq rfl rfl) ?_
    refine jl_prop (fun h23 => ?_) (fun h23 => ?_)
    ·first
     | (exfalso; omega)
     | (
      refine jz ?_
      refine jsk ?_
      refine jsk ?_
      refine jsk ?_
      refine jsk ?_
      refine jy (y_pick_true rfl rfl) ?_
      refine jz ?_
      refine jsk ?_
      refine jsk ?_
      refine jsk ?_
      refine jsk ?_
      refine jy (y_pick_true rfl rfl) ?_
      refine jz ?_
      refine jsk ?_
      refine jsk ?_
      refine jsk ?_
      refine jy (y_pick_true rfl rfl) ?_
      refine jz ?_
      refine jsk ?_
      refine jsk ?_
      refine jsk ?_
      refine jy (y_pick_true rfl rfl) ?_
      refine jz ?_
      refine jsk ?_
      refine jsk ?_
      refine jsk ?_
      refine jsk ?_
      refine jy (y_pick_true rfl rfl) ?_
      refine jnt ?_
      refine jc_true rfl ?_
      refine jsr ?_
      refine jz ?_
      refine jnt ?_
      refine jc_ret ?_
      refine jq_then_ret ?_
      refine jq_block_ret ?_
      refine jq_then_ret ?_
      refine jq_then_ret ?_
      refine jq_block_ret ?_
      refine jq_then_ret ?_
      refine jq_ret1 rfl rfl ?_
      exact fun _ hw => ⟨congrArg (fun b => Ending.returned (Value.bool b)) (tx_no1 hlt hxe (in_no (by omega))), hw.ch⟩
      )
    ·first
     | (exfalso; omega)
     | (
      refine jz ?_
      refine jz ?_
      refine jz ?_
      refine jz ?_
      refine jy (y_lss rfl rfl) ?_
      refine jl_prop (fun h28 => ?_) (fun h28 => ?_)
      ·first
       | (exfalso; omega)
       | (
        refine jy (y_pick_false rfl rfl) ?_
        refine jz ?_
        refine jsk ?_
        refine jsk ?_
        refine jsk ?_
        refine jsk ?_
        refine jy (y_pick_true rfl rfl) ?_
        refine jz ?_
        refine jsk ?_
        refine jsk ?_
        refine jsk ?_
        refine jy (y_pick_true rfl rfl) ?_
        refine jz ?_
        refine jsk ?_
        refine jsk ?_
        refine jsk ?_
        refine jy (y_pick_true rfl rfl) ?_
        refine jz ?_
        refine jsk ?_
        refine jsk ?_
        refine jsk ?_
        refine jsk ?_
        refine jy (y_pick_true rfl rfl) ?_
        refine jnt ?_
        refine jc_true rfl ?_
        refine jsr ?_
        refine jz ?_
        refine jnt ?_
        refine jc_ret ?_
        refine jq_then_ret ?_
        refine jq_block_ret ?_
        refine jq_then_ret ?_
        refine jq_then_ret ?_
        refine jq_block_ret ?_
        refine jq_then_ret ?_
        refine jq_ret1 rfl rfl ?_
        exact fun _ hw => ⟨congrArg (fun b => Ending.returned (Value.bool b)) (tx_no1 hlt hxe (in_no (by omega))), hw.ch⟩
        )
      ·first
       | (exfalso; omega)
       | (
        refine jy (y_pick_false rfl rfl) ?_
        refine jz ?_
        refine jz ?_
        refine jz ?_
        refine jz ?_
        refine jy (y_gtr rfl rfl) ?_
        refine jl_prop (fun h34 => ?_) (fun h34 => ?_)
        ·first
         | (exfalso; omega)
         | (
          refine jy (y_pick_false rfl rfl) ?_
          refine jz ?_
          refine jsk ?_
          refine jsk ?_
          refine jsk ?_
          refine jy (y_pick_true rfl rfl) ?_
          refine jz ?_
          refine jsk ?_
          refine jsk ?_
          refine jsk ?_
          refine jy (y_pick_true rfl rfl) ?_
          refine jz ?_
          refine jsk ?_
          refine jsk ?_
          refine jsk ?_
          refine jsk ?_
          refine jy (y_pick_true rfl rfl) ?_
          refine jnt ?_
          refine jc_true rfl ?_
          refine jsr ?_
          refine jz ?_
          refine jnt ?_
          refine jc_ret ?_
          refine jq_then_ret ?_
          refine jq_block_ret ?_
          refine jq_then_ret ?_
          refine jq_then_ret ?_
          refine jq_block_ret ?_
          refine jq_then_ret ?_
          refine jq_ret1 rfl rfl ?_
          exact fun _ hw => ⟨congrArg (fun b => Ending.returned (Value.bool b)) (tx_no1 hlt hxe (in_no (by omega))), hw.ch⟩
          )
        ·first
         | (exfalso; omega)
         | (
          refine jy (y_pick_false rfl rfl) ?_
          refine jz ?_
          refine jz ?_
          refine jz ?_
          refine jy (y_lss rfl rfl) ?_
          refine jl_prop (fun h39 => ?_) (fun h39 => ?_)
          ·first
           | (exfalso; omega)
           | (
            refine jy (y_pick_false rfl rfl) ?_
            refine jz ?_
            refine jsk ?_
            refine jsk ?_
            refine jsk ?_
            refine jy (y_pick_true rfl rfl) ?_
            refine jz ?_
            refine jsk ?_
            refine jsk ?_
            refine jsk ?_
            refine jsk ?_
            refine jy (y_pick_true rfl rfl) ?_
            refine jnt ?_
            refine jc_true rfl ?_
            refine jsr ?_
            refine jz ?_
            refine jnt ?_
            refine jc_ret ?_
            refine jq_then_ret ?_
            refine jq_block_ret ?_
            refine jq_then_ret ?_
            refine jq_then_ret ?_
            refine jq_block_ret ?_
            refine jq_then_ret ?_
            refine jq_ret1 rfl rfl ?_
            exact fun _ hw => ⟨congrArg (fun b => Ending.returned (Value.bool b)) (tx_no1 hlt hxe (in_no (by omega))), hw.ch⟩
            )
          ·first
           | (exfalso; omega)
           | (
            refine jy (y_pick_false rfl rfl) ?_
            refine jz ?_
            refine jz ?_
            refine jz ?_
            refine jy (y_gtr rfl rfl) ?_
            refine jl_prop (fun h44 => ?_) (fun h44 => ?_)
            ·first
             | (exfalso; omega)
             | (
              refine jy (y_pick_false rfl rfl) ?_
              refine jz ?_
              refine jsk ?_
              refine jsk ?_
              refine jsk ?_
              refine jsk ?_
              refine jy (y_pick_true rfl rfl) ?_
              refine jnt ?_
              refine jc_true rfl ?_
              refine jsr ?_
              refine jz ?_
              refine jnt ?_
              refine jc_ret ?_
              refine jq_then_ret ?_
              refine jq_block_ret ?_
              refine jq_then_ret ?_
              refine jq_then_ret ?_
              refine jq_block_ret ?_
              refine jq_then_ret ?_
              refine jq_ret1 rfl rfl ?_
              exact fun _ hw => ⟨congrArg (fun b => Ending.returned (Value.bool b)) (tx_no1 hlt hxe (in_no (by omega))), hw.ch⟩
              )
            ·first
             | (exfalso; omega)
             | (
              refine jy (y_pick_false rfl rfl) ?_
              refine jz ?_
              refine jz ?_
              refine jz ?_
              refine jy (y_len_str rfl) ?_
              refine jy (y_gtr rfl rfl) ?_
              refine jl_prop (fun h50 => ?_) (fun h50 => ?_)
              ·first
               | (exfalso; omega)
               | (
                refine jy (y_pick_false rfl rfl) ?_
                refine jnt ?_
                refine jc_true rfl ?_
                refine jsr ?_
                refine jz ?_
                refine jnt ?_
                refine jc_ret ?_
                refine jq_then_ret ?_
                refine jq_block_ret ?_
                refine jq_then_ret ?_
                refine jq_then_ret ?_
                refine jq_block_ret ?_
                refine jq_then_ret ?_
                refine jq_ret1 rfl rfl ?_
                exact fun _ hw => ⟨congrArg (fun b => Ending.returned (Value.bool b)) (tx_no1 hlt hxe (in_no (by omega))), hw.ch⟩
                )
              ·first
               | (exfalso; omega)
               | (
                refine jy (y_pick_false rfl rfl) ?_
                refine jnt ?_
                refine jc_false rfl ?_
                refine jc_skip ?_
                refine jq_then ?_
                refine jsr ?_
                refine jz ?_
                refine jnt ?_
                refine jc_block ?_
                refine jc_loop (fun (k : Nat) => [(1, .pointer (some ⟨b1, 0, none⟩)), (3, .int .i64 (i : Nat)), (4, .pointer (some ⟨b4, 0, none⟩)), (5, .int .i64 (k : Nat))]) (fun (k : Nat) => fun w' => (k ≤ i ∧ ∀ z ∈ t.ins.take k, z.pt ≠ x.pt) ∧ Hp w [] [.cells b4 (Inp.c x), .cells b1 (Trx.c t (some ⟨bb, oo, none⟩) c1 a2 c2 a3 c3)] w') (fun (k : Nat) => i - k) 0 ?_ ?_ ?_
                ·exact ⟨rfl, rfl, rfl, rfl, trivial⟩
                ·exact fun _ h => ⟨⟨by omega, by simp⟩, h⟩
                ·intro k
                 refine jc_and (fun hk => ?_)
                 refine jc_seq ?_
                 refine jsr ?_
                 refine jz ?_
                 refine jz ?_
                 refine jy (y_lss rfl rfl) ?_
                 refine jl_prop (fun h54 => ?_) (fun h54 => ?_)
                 ·first
                  | (exfalso; omega)
                  | (
                   have hlk : k < t.ins.length := by omega
                   have holk := hall k hlk
                   generalize hye : t.ins[k]'hlk = y at *
                   refine jnt ?_
                   refine jc_true rfl ?_
                   refine jc_skip ?_
                   refine jq_then ?_
                   refine jc_seq ?_
                   refine jc_block ?_
                   refine jc_seq ?_
                   refine jc_draw (by kernel_rfl) (fun _ h => h.drew) ?_
                   refine juz ?_
                   refine juz ?_
                   refine juz ?_
                   refine juy (y_indexAddr_slice (off := oo + k * 4) rfl rfl (by omega) (by omega) (by omega)) ?_
                   refine juz ?_
                   refine juy (y_loadAgg_old rfl rfl (holk.take 2) (by simp)) ?_
                   refine juz ?_
                   refine juz ?_
                   refine juy (y_eql_agg rfl rfl (by kernel_rfl) (fun w => eq_pnt 9998 y.pt x.pt w)) ?_
                   refine ju_bool (fun h65 => ?_) (fun h65 => ?_)
                   ·skip
                    refine ju_nil ?_
                    refine jq_then ?_
                    refine jc_true rfl ?_
                    refine jsr ?_
                    refine jz ?_
                    refine jnt ?_
                    refine jc_ret ?_
                    refine jq_block_ret ?_
                    refine jq_then_ret ?_
                    refine jq_then_ret ?_
                    refine jq_block_ret ?_
                    refine jq_block_ret ?_
                    refine jq_then_ret ?_
                    refine jq_then_ret ?_
                    refine jq_block_ret ?_
                    refine jq_then_ret ?_
                    refine jq_ret1 rfl rfl ?_
                    exact fun _ hw => ⟨congrArg (fun b => Ending.returned (Value.bool b)) (tx_no2 hlt hxe (pt_in (by omega) hlt hye (by simp_all))), hw.ch⟩
                   ·skip
                    refine ju_nil ?_
                    refine jq_then ?_
                    refine jc_false rfl ?_
                    refine jc_skip ?_
                    refine jq_block ?_
                    refine jq_then ?_
                    refine jc_region ?_
                    refine jz ?_
                    refine jy (y_add_fits rfl rfl (by simp only [fits]; omega)) ?_
                    refine jz ?_
                    refine jl_nil ?_
                    refine jq_round (i := k) (k + 1) ?_ ?_ ?_
                    ·omega
                    ·exact ⟨rfl, rfl, rfl, lk_int rfl (by omega), trivial⟩
                    ·exact fun _ h => ⟨⟨by omega, all_take hlk hk.2 (by rw [hye]; simp_all)⟩, h⟩
                   )
                 ·first
                  | (exfalso; omega)
                  | (
                   refine jnt ?_
                   refine jc_false rfl ?_
                   refine jc_exit ?_
                   refine jq_then_exit ?_
                   refine jq_then_exit ?_
                   refine jq_hit ?_
                   refine jq_block ?_
                   refine jq_then ?_
                   refine jc_region ?_
                   refine jz ?_
                   refine jy (y_add_fits rfl rfl (by simp only [fits]; omega)) ?_
                   refine jz ?_
                   refine jl_nil ?_
                   refine jq_round (i := i) (i + 1) ?_ ?_ ?_
                   ·omega
                   ·exact ⟨rfl, lk_int rfl (by omega), trivial⟩
                   ·exact fun _ h => ⟨⟨by omega, all_take hlt hi.2.1 (by rw [hxe]; exact inFits_iff.2 (by omega)), nd_next hlt hxe hi.2.2 (pt_out (by have h9 := hk.2; rwa [show k = i by omega] at h9))⟩, h.pop⟩
                   )
                )
              )
            )
          )
        )
      )
    )
  ·first
   | (exfalso; omega)
   | (
    refine jnt ?_
    refine jc_false rfl ?_
    refine jc_exit ?_
    refine jq_then_exit ?_
    refine jq_then_exit ?_
    refine jq_hit ?_
    refine jq_then ?_
    refine jc_seq ?_
    refine jsr ?_
    refine jz ?_
    refine jnt ?_
    refine jc_block ?_
    refine jc_loop (fun (j : Nat) => [(1, .pointer (some ⟨b1, 0, none⟩)), (6, .int .i64 (j : Nat))]) (fun (j : Nat) => fun w' => (j ≤ t.outs.length ∧ ∀ z ∈ t.outs.take j, ouFits z = true) ∧ Hp w [] [.cells b1 (Trx.c t a1 c1 a2 c2 a3 c3)] w') (fun (j : Nat) => t.outs.length - j) 0 ?_ ?_ ?_
    ·exact ⟨rfl, rfl, trivial⟩
    ·exact fun _ h => ⟨⟨by omega, by simp⟩, h⟩
    ·intro j
     refine jc_and (fun hj => ?_)
     refine jc_seq ?_
     refine jsr ?_
     refine jz ?_
     refine jz ?_
     refine jz ?_
     refine jy (y_len_slice rfl) ?_
     refine jy (y_lss rfl rfl) ?_
     refine jl_prop (fun h70 => ?_) (fun h70 => ?_)
     ·first
      | (exfalso; omega)
      | (
       have hlt : j < t.outs.length := by omega
       obtain ⟨bb, oo, ea, hold⟩ := h2.get hlt
       subst ea
       have hfx := hf.outs _ (List.getElem_mem hlt)
       generalize hxe : t.outs[j]'hlt = x at *
       refine jnt ?_
       refine jc_true rfl ?_
       refine jc_skip ?_
       refine jq_then ?_
       refine jc_seq ?_
       refine jc_block ?_
       refine jsr ?_
       refine jz ?_
       refine jz ?_
       refine jz ?_
       refine jy (y_indexAddr_slice (off := oo + j * 9) rfl rfl (by omega) (by omega) (by omega)) ?_
       refine jy (y_loadAgg_old rfl rfl hold (by simp)) ?_
       refine jpc (goes_func rfl) (fun w1 hw1 => rfits_any x w1 hfx) ?_
       refine jl_bool (fun h78 => ?_) (fun h78 => ?_)
       ·skip
        refine jz ?_
        refine jnt ?_
        refine jc_false rfl ?_
        refine jc_skip ?_
        refine jq_block ?_
        refine jq_then ?_
        refine jc_region ?_
        refine jz ?_
        refine jy (y_add_fits rfl rfl (by simp only [fits]; omega)) ?_
        refine jz ?_
        refine jl_nil ?_
        refine jq_round (i := j) (j + 1) ?_ ?_ ?_
        ·omega
        ·exact ⟨rfl, lk_int rfl (by omega), trivial⟩
        ·exact fun _ h => ⟨⟨by omega, all_take hlt hj.2 (by rw [hxe]; assumption)⟩, h⟩
       ·skip
        refine jz ?_
        refine jnt ?_
        refine jc_true rfl ?_
        refine jsr ?_
        refine jz ?_
        refine jnt ?_
        refine jc_ret ?_
        refine jq_block_ret ?_
        refine jq_then_ret ?_
        refine jq_then_ret ?_
        refine jq_block_ret ?_
        refine jq_then_ret ?_
        refine jq_ret1 rfl rfl ?_
        exact fun _ hw => ⟨congrArg (fun b => Ending.returned (Value.bool b)) (tx_no3 hlt hxe (by assumption)), hw.ch⟩
       )
     ·first
      | (exfalso; omega)
      | (
       refine jnt ?_
       refine jc_false rfl ?_
       refine jc_exit ?_
       refine jq_then_exit ?_
       refine jq_then_exit ?_
       refine jq_hit ?_
       refine jq_then ?_
       refine jsr ?_
       refine jz ?_
       refine jz ?_
       refine jy (y_len_slice rfl) ?_
       refine jy (y_geq rfl rfl) ?_
       refine jl_prop (fun h83 => ?_) (fun h83 => ?_)
       ·first
        | (exfalso; omega)
        | (
         refine jz ?_
         refine jz ?_
         refine jz ?_
         refine jy (y_len_slice rfl) ?_
         refine jy (y_leq rfl rfl) ?_
         refine jl_prop (fun h88 => ?_) (fun h88 => ?_)
         ·first
          | (exfalso; omega)
          | (
           refine jy (y_pick_true rfl rfl) ?_
           refine jz ?_
           refine jz ?_
           refine jz ?_
           refine jy (y_len_slice rfl) ?_
           refine jy (y_geq rfl rfl) ?_
           refine jl_prop (fun h94 => ?_) (fun h94 => ?_)
           ·first
            | (exfalso; omega)
            | (
             refine jy (y_pick_true rfl rfl) ?_
             refine jz ?_
             refine jz ?_
             refine jz ?_
             refine jy (y_len_slice rfl) ?_
             refine jy (y_leq rfl rfl) ?_
             refine jl_prop (fun h100 => ?_) (fun h100 => ?_)
             ·first
              | (exfalso; omega)
              | (
               refine jy (y_pick_true rfl rfl) ?_
               refine jz ?_
               refine jz ?_
               refine jz ?_
               refine jpc (goes_func rfl) (fun w1 hw1 => rright_any t.pf a3 c3 w1 (h3.keep hw1) l3) ?_
               refine jy (y_pick_true rfl rfl) ?_
               refine jz ?_
               refine jnt ?_
               refine jc_ret ?_
               refine jq_ret1 rfl rfl ?_
               exact fun _ hw => ⟨congrArg (fun b => Ending.returned (Value.bool b)) (by have ha1 : ∀ z ∈ t.ins, inFits z = true := (by have := hi.2.1; rwa [List.take_of_length_le (by omega)] at this); have hnd : (t.ins.map Inp.pt).Nodup := (by have := hi.2.2; rwa [List.take_of_length_le (by omega)] at this); have ha2 : ∀ z ∈ t.outs, ouFits z = true := (by have := hj.2; rwa [List.take_of_length_le (by omega)] at this); rw [Bool.eq_iff_iff, txRight_iff]; first | exact ⟨fun h => ⟨ha1, hnd, by omega, by omega, ha2, h⟩, fun h => h.2.2.2.2.2⟩ | (simp only [Bool.false_eq_true, false_iff]; rintro ⟨q1, q2, q3, q4, q5, q6⟩; omega)), hw.ch⟩
               )
             ·first
              | (exfalso; omega)
              | (
               refine jy (y_pick_true rfl rfl) ?_
               refine jz ?_
               refine jsk ?_
               refine jsk ?_
               refine jsk ?_
               refine jy (y_pick_false rfl rfl) ?_
               refine jz ?_
               refine jnt ?_
               refine jc_ret ?_
               refine jq_ret1 rfl rfl ?_
               exact fun _ hw => ⟨congrArg (fun b => Ending.returned (Value.bool b)) (by have ha1 : ∀ z ∈ t.ins, inFits z = true := (by have := hi.2.1; rwa [List.take_of_length_le (by omega)] at this); have hnd : (t.ins.map Inp.pt).Nodup := (by have := hi.2.2; rwa [List.take_of_length_le (by omega)] at this); have ha2 : ∀ z ∈ t.outs, ouFits z = true := (by have := hj.2; rwa [List.take_of_length_le (by omega)] at this); rw [Bool.eq_iff_iff, txRight_iff]; first | exact ⟨fun h => ⟨ha1, hnd, by omega, by omega, ha2, h⟩, fun h => h.2.2.2.2.2⟩ | (simp only [Bool.false_eq_true, false_iff]; rintro ⟨q1, q2, q3, q4, q5, q6⟩; omega)), hw.ch⟩
               )
             )
           ·first
            | (exfalso; omega)
            | (
             refine jy (y_pick_true rfl rfl) ?_
             refine jz ?_
             refine jsk ?_
             refine jsk ?_
             refine jsk ?_
             refine jsk ?_
             refine jy (y_pick_false rfl rfl) ?_
             refine jz ?_
             refine jsk ?_
             refine jsk ?_
             refine jsk ?_
             refine jy (y_pick_false rfl rfl) ?_
             refine jz ?_
             refine jnt ?_
             refine jc_ret ?_
             refine jq_ret1 rfl rfl ?_
             exact fun _ hw => ⟨congrArg (fun b => Ending.returned (Value.bool b)) (by have ha1 : ∀ z ∈ t.ins, inFits z = true := (by have := hi.2.1; rwa [List.take_of_length_le (by omega)] at this); have hnd : (t.ins.map Inp.pt).Nodup := (by have := hi.2.2; rwa [List.take_of_length_le (by omega)] at this); have ha2 : ∀ z ∈ t.outs, ouFits z = true := (by have := hj.2; rwa [List.take_of_length_le (by omega)] at this); rw [Bool.eq_iff_iff, txRight_iff]; first | exact ⟨fun h => ⟨ha1, hnd, by omega, by omega, ha2, h⟩, fun h => h.2.2.2.2.2⟩ | (simp only [Bool.false_eq_true, false_iff]; rintro ⟨q1, q2, q3, q4, q5, q6⟩; omega)), hw.ch⟩
             )
           )
         ·first
          | (exfalso; omega)
          | (
           refine jy (y_pick_true rfl rfl) ?_
           refine jz ?_
           refine jsk ?_
           refine jsk ?_
           refine jsk ?_
           refine jsk ?_
           refine jy (y_pick_false rfl rfl) ?_
           refine jz ?_
           refine jsk ?_
           refine jsk ?_
           refine jsk ?_
           refine jsk ?_
           refine jy (y_pick_false rfl rfl) ?_
           refine jz ?_
           refine jsk ?_
           refine jsk ?_
           refine jsk ?_
           refine jy (y_pick_false rfl rfl) ?_
           refine jz ?_
           refine jnt ?_
           refine jc_ret ?_
           refine jq_ret1 rfl rfl ?_
           exact fun _ hw => ⟨congrArg (fun b => Ending.returned (Value.bool b)) (by have ha1 : ∀ z ∈ t.ins, inFits z = true := (by have := hi.2.1; rwa [List.take_of_length_le (by omega)] at this); have hnd : (t.ins.map Inp.pt).Nodup := (by have := hi.2.2; rwa [List.take_of_length_le (by omega)] at this); have ha2 : ∀ z ∈ t.outs, ouFits z = true := (by have := hj.2; rwa [List.take_of_length_le (by omega)] at this); rw [Bool.eq_iff_iff, txRight_iff]; first | exact ⟨fun h => ⟨ha1, hnd, by omega, by omega, ha2, h⟩, fun h => h.2.2.2.2.2⟩ | (simp only [Bool.false_eq_true, false_iff]; rintro ⟨q1, q2, q3, q4, q5, q6⟩; omega)), hw.ch⟩
           )
         )
       ·first
        | (exfalso; omega)
        | (
         refine jz ?_
         refine jsk ?_
         refine jsk ?_
         refine jsk ?_
         refine jsk ?_
         refine jy (y_pick_false rfl rfl) ?_
         refine jz ?_
         refine jsk ?_
         refine jsk ?_
         refine jsk ?_
         refine jsk ?_
         refine jy (y_pick_false rfl rfl) ?_
         refine jz ?_
         refine jsk ?_
         refine jsk ?_
         refine jsk ?_
         refine jsk ?_
         refine jy (y_pick_false rfl rfl) ?_
         refine jz ?_
         refine jsk ?_
         refine jsk ?_
         refine jsk ?_
         refine jy (y_pick_false rfl rfl) ?_
         refine jz ?_
         refine jnt ?_
         refine jc_ret ?_
         refine jq_ret1 rfl rfl ?_
         exact fun _ hw => ⟨congrArg (fun b => Ending.returned (Value.bool b)) (by have ha1 : ∀ z ∈ t.ins, inFits z = true := (by have := hi.2.1; rwa [List.take_of_length_le (by omega)] at this); have hnd : (t.ins.map Inp.pt).Nodup := (by have := hi.2.2; rwa [List.take_of_length_le (by omega)] at this); have ha2 : ∀ z ∈ t.outs, ouFits z = true := (by have := hj.2; rwa [List.take_of_length_le (by omega)] at this); rw [Bool.eq_iff_iff, txRight_iff]; first | exact ⟨fun h => ⟨ha1, hnd, by omega, by omega, ha2, h⟩, fun h => h.2.2.2.2.2⟩ | (simp only [Bool.false_eq_true, false_iff]; rintro ⟨q1, q2, q3, q4, q5, q6⟩; omega)), hw.ch⟩
         )
       )
    )

end Go.Proofs.YtamlleachfngeaaGreat