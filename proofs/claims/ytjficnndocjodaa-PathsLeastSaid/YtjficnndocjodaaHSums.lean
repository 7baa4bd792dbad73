/- paths.sums answers 'fw' of the costs, if they may be; and the leaves paths.step, lsa.Router, the reference's upTo and routerMay, an error's number. -/
import Derived.Test.YtjficnndocjodaaHArr
import Derived.Deep.RegionWith
import Derived.Deep.RegionLaw
import Derived.IntWalk
import Derived.StillTailTactics
import Derived.BigRegion
namespace Go.Proofs.Ytjficnndocjodaa.H
open Go.RowKit Go.Proofs.YtjficnndocjodaaW.PrintWords Go.Proofs.YtjficnndocjodaaW.PrintLast Go.Proofs.YtjficnndocjodaaW.PrintMore
set_option linter.unusedVariables false
set_option linter.unusedSimpArgs false

theorem step_calls (x : Int) (w : World) : Calls Try.prog 36 #[.int .i64 x] w fun e w' => e = .returned (.int .i64 (stp x)) ∧ w' = w := by
  by_cases h : x = 0
  · have h1 : (x == 0) = true := by simpa using h
    have hs := Aside0.mk (show stp x = 262144 by rw [stp, if_pos h])
    clear h
    go_enter Try.func36, Try.ntmps36
    go_wp2
    go_ret
    exact ⟨by rw [hs.out]; rfl, rfl⟩
  · have h1 : (x == 0) = false := by simpa using h
    have hs := Aside0.mk (show stp x = x by rw [stp, if_neg h])
    clear h
    go_enter Try.func36, Try.ntmps36
    go_wp2
    go_ret
    exact ⟨by rw [hs.out]; rfl, rfl⟩

theorem Router_calls (x : Int) (w : World) : Calls Try.prog 27 #[.int .i64 x] w fun e w' => e = .returned (.bool (isRouter x)) ∧ w' = w := by
  by_cases h : 1 ≤ x
  · by_cases h2 : x ≤ 4
    · have hs := Aside0.mk (show isRouter x = true by simp [isRouter, h, h2])
      go_enter Try.func27, Try.ntmps27
      go_wp2
      go_ret
      exact ⟨by rw [hs.out]; rfl, rfl⟩
    · have hs := Aside0.mk (show isRouter x = false by simp [isRouter, h2])
      have h3 : decide (x ≤ 4) = false := by simpa using h2
      go_enter Try.func27, Try.ntmps27
      go_wp2
      go_ret
      exact ⟨by rw [hs.out]; rfl, rfl⟩
  · have hs := Aside0.mk (show isRouter x = false by simp [isRouter, h])
    have h3 : decide (1 ≤ x) = false := by simpa using h
    go_enter Try.func27, Try.ntmps27
    go_wp2
    go_ret
    exact ⟨by rw [hs.out]; rfl, rfl⟩
theorem routerMay_calls (x : Int) (w : World) : Calls Try.prog 29 #[.int .i64 x] w fun e w' => e = .returned (.bool (isRouter x)) ∧ w' = w := by
  by_cases h : 1 ≤ x
  · by_cases h2 : x ≤ 4
    · have hs := Aside0.mk (show isRouter x = true by simp [isRouter, h, h2])
      go_enter Try.func29, Try.ntmps29
      go_wp2
      go_ret
      exact ⟨by rw [hs.out]; rfl, rfl⟩
    · have hs := Aside0.mk (show isRouter x = false by simp [isRouter, h2])
      have h3 : decide (x ≤ 4) = false := by simpa using h2
      go_enter Try.func29, Try.ntmps29
      go_wp2
      go_ret
      exact ⟨by rw [hs.out]; rfl, rfl⟩
  · have hs := Aside0.mk (show isRouter x = false by simp [isRouter, h])
    have h3 : decide (1 ≤ x) = false := by simpa using h
    go_enter Try.func29, Try.ntmps29
    go_wp2
    go_ret
    exact ⟨by rw [hs.out]; rfl, rfl⟩
set_option maxHeartbeats 1000000 in
set_option maxRecDepth 100000 in
theorem sums_calls (c : List Int) (hc : c.length = 16) (hok : costsOk c = true) (gc : Nat) (w : World) (hb : Blk w gc 23 c) :
    Calls Try.prog 28 #[.pointer (some ⟨gc, 0, none⟩)] w fun e w' => e = .returned (.agg (AV (fw c))) ∧ Below w.heap.size w w' := by
  have HC := Aside0.mk hc
  have HK := Aside0.mk hok
  have HBC := Aside0.mk hb
  clear hc hok hb
  have HB := Aside0.mk (Below.refl w.heap.size w)
  go_enter Try.func28, Try.ntmps28
  go_wp2_with (first | ((with_reducible refine gate_dst (N := 2) rfl ?_); refine box_event ?hg (N := 2) ?hd (cs := AV (zs16)) (t := 23) ?hr ?_; (case hd => rfl); (case hg => rfl); (case hr => first | (go_simp; done) | (go_simp; rfl)); intro g0 hg0 w1 hbox hb1; have HX0 := Aside0.mk (show Blk w1 g0 23 _ from hbox); replace HBC := Aside0.mk (HBC.out.below hb1); have HG0 := Aside0.mk (show w.heap.size ≤ g0 by rw [hg0]; exact HB.out.size); replace HB := Aside0.mk (below_step HB.out hb1); clear hbox hb1 hg0) | ((with_reducible refine gate_dst (N := 3) rfl ?_); refine box_event ?hg (N := 3) ?hd (cs := AV (zs16)) (t := 23) ?hr ?_; (case hd => rfl); (case hg => rfl); (case hr => first | (go_simp; done) | (go_simp; rfl)); intro g1 hg1 w1 hbox hb1; have HX1 := Aside0.mk (show Blk w1 g1 23 _ from hbox); have HN := Aside0.mk (show g0 ≠ g1 by rw [hg1]; exact Nat.ne_of_lt HX0.out.lt); have HNC := Aside0.mk (show gc ≠ g1 by rw [hg1]; exact Nat.ne_of_lt HBC.out.lt); replace HBC := Aside0.mk (HBC.out.below hb1); replace HX0 := Aside0.mk (HX0.out.below hb1); have HG1 := Aside0.mk (show w.heap.size ≤ g1 by rw [hg1]; exact HB.out.size); replace HB := Aside0.mk (below_step HB.out hb1); clear hbox hb1 hg1))
  go_loopw [9] (fun i wr => ∃ k : Nat, k ≤ 4 ∧ i = .int .i64 (k : Int) ∧ Aside0 (Blk wr g1 23 (initTo c (k * 4))) ∧ Aside0 (Blk wr g0 23 (zs16)) ∧ Aside0 (Blk wr gc 23 c) ∧ Aside0 (Below w.heap.size w wr)) (fun i _ => 4 - (intOf i).toNat)
  case atStart => exact ⟨0, by omega, rfl, HX1, HX0, HBC, HB⟩
  case round =>
    clear HB HX1 HX0 HBC
    obtain ⟨k, hk, rfl, HX1, HX0, HBC, HB⟩ := hrel
    by_cases hk4 : k < 4
    · have kI : (k : Int) < 4 := by omega
      go_wp2_with (fail)
      go_loopw [12] (fun i wr => ∃ j : Nat, j ≤ 4 ∧ i = .int .i64 (j : Int) ∧ Aside0 (Blk wr g1 23 (initTo c (k * 4 + j))) ∧ Aside0 (Blk wr g0 23 (zs16)) ∧ Aside0 (Blk wr gc 23 c) ∧ Aside0 (Below w.heap.size w wr)) (fun i _ => 4 - (intOf i).toNat)
      case atStart => exact ⟨0, by omega, rfl, HX1, HX0, HBC, HB⟩
      case round =>
        clear HB HX1 HX0 HBC
        obtain ⟨j, hj, rfl, HX1, HX0, HBC, HB⟩ := hrel
        by_cases hj4 : j < 4
        · have jI : (j : Int) < 4 := by omega
          by_cases hkj : k = j
          · have t1 : ((k : Int) != (j : Int)) = false := by rw [hkj]; simp
            have t2 : ((k : Int) == (j : Int)) = true := by rw [hkj]; simp
            have HX2 := Aside0.mk (show Blk wr g1 23 (initTo c (k * 4 + (j + 1))) by have := initTo_same c k hk4; subst hkj; rw [← Nat.add_assoc, this]; exact HX1.out)
            clear hkj HX1
            go_wp2_with (fail)
            go_roundw
            case rel => exact ⟨j + 1, by omega, by go_num, HX2, HX0, HBC, HB⟩
            case measure => simp [intOf]; omega
          · have t1 : ((k : Int) != (j : Int)) = true := by simp; omega
            have t2 : ((k : Int) == (j : Int)) = false := by simp; omega
            have cc := HBC.out.cell (k * 4 + j) (by rw [HC.out]; omega)
            have c1 := HX1.out.cell (k * 4 + j) (by rw [initTo_length]; omega)
            have f1 := HX1.out.frozen (k * 4 + j)
            obtain ⟨x, hx⟩ : ∃ x, x = gt c (k * 4 + j) := ⟨_, rfl⟩
            rw [← hx] at cc
            have HXX := Aside0.mk hx
            clear hx
            go_wp2_with (fail)
            go_region_with (go_at_call 36; refine (step_calls _ _).mono ?_; rintro e w1 ⟨rfl, rfl⟩)
            have hp := (Put.setCell wr g1 (k * 4 + j) (.int .i64 (stp x))).drew
            have HX2 := Aside0.mk (show Blk (wr.setCell ⟨g1, k * 4 + j, none⟩ (.int .i64 (stp x))).drew g1 23 (initTo c (k * 4 + (j + 1))) by rw [← Nat.add_assoc, initTo_step c k j hk4 hj4 hkj, ← HXX.out]; exact HX1.out.set _ _)
            replace HX0 := Aside0.mk (show Blk (wr.setCell ⟨g1, k * 4 + j, none⟩ (.int .i64 (stp x))).drew g0 23 (zs16) from HX0.out.put hp HN.out)
            replace HBC := Aside0.mk (show Blk (wr.setCell ⟨g1, k * 4 + j, none⟩ (.int .i64 (stp x))).drew gc 23 c from HBC.out.put hp HNC.out)
            replace HB := Aside0.mk (show Below w.heap.size w (wr.setCell ⟨g1, k * 4 + j, none⟩ (.int .i64 (stp x))).drew from hp.below _ _ HB.out HG1.out)
            generalize (wr.setCell ⟨g1, k * 4 + j, none⟩ (.int .i64 (stp x))).drew = w2 at *
            clear hp HX1 cc c1 f1 HXX hkj
            go_wp2_with (fail)
            go_roundw
            case rel => exact ⟨j + 1, by omega, by go_num, HX2, HX0, HBC, HB⟩
            case measure => simp [intOf]; omega
        · obtain rfl : j = 4 := by omega
          replace HX1 := Aside0.mk (show Blk wr g1 23 (initTo c ((k + 1) * 4)) by rw [show (k + 1) * 4 = k * 4 + 4 by omega]; exact HX1.out)
          go_wp2_with (fail)
          go_roundw
          case rel => exact ⟨k + 1, by omega, by go_num, HX1, HX0, HBC, HB⟩
          case measure => simp [intOf]; omega
    · have kI : ¬ (k : Int) < 4 := by omega
      replace HX1 := Aside0.mk (show Blk wr g1 23 (fwTo c 0) by have := HX1.out; rw [show k * 4 = 16 by omega] at this; exact this)
      go_wp2_with (fail)
      go_loopw [32] (fun i wr => ∃ k : Nat, k ≤ 4 ∧ i = .int .i64 (k : Int) ∧ Aside0 (Blk wr g1 23 (fwTo c (k * 16))) ∧ Aside0 (Blk wr g0 23 (zs16)) ∧ Aside0 (Below w.heap.size w wr)) (fun i _ => 4 - (intOf i).toNat)
      case atStart => exact ⟨0, by omega, rfl, HX1, HX0, HB⟩
      case round =>
        clear HB HX1 HX0 HBC
        obtain ⟨o, ho, rfl, HX1, HX0, HB⟩ := hrel
        by_cases ho4 : o < 4
        · have oI : (o : Int) < 4 := by omega
          go_wp2_with (fail)
          go_loopw [35] (fun i wr => ∃ a : Nat, a ≤ 4 ∧ i = .int .i64 (a : Int) ∧ Aside0 (Blk wr g1 23 (fwTo c (o * 16 + a * 4))) ∧ Aside0 (Blk wr g0 23 (zs16)) ∧ Aside0 (Below w.heap.size w wr)) (fun i _ => 4 - (intOf i).toNat)
          case atStart => exact ⟨0, by omega, rfl, HX1, HX0, HB⟩
          case round =>
            clear HB HX1 HX0
            obtain ⟨a, ha, rfl, HX1, HX0, HB⟩ := hrel
            by_cases ha4 : a < 4
            · have aI : (a : Int) < 4 := by omega
              go_wp2_with (fail)
              go_loopw [38] (fun i wr => ∃ b : Nat, b ≤ 4 ∧ i = .int .i64 (b : Int) ∧ Aside0 (Blk wr g1 23 (fwTo c (o * 16 + a * 4 + b))) ∧ Aside0 (Blk wr g0 23 (zs16)) ∧ Aside0 (Below w.heap.size w wr)) (fun i _ => 4 - (intOf i).toNat)
              case atStart => exact ⟨0, by omega, rfl, HX1, HX0, HB⟩
              case round =>
                clear HB HX1 HX0
                obtain ⟨b, hbb, rfl, HX1, HX0, HB⟩ := hrel
                by_cases hb4 : b < 4
                · have bI : (b : Int) < 4 := by omega
                  have hl := Aside0.mk (fwTo_length c (o * 16 + a * 4 + b))
                  have hsm := Aside0.mk (fwTo_small HK.out (o * 16 + a * 4 + b))
                  obtain ⟨s, hs⟩ : ∃ s, s = fwTo c (o * 16 + a * 4 + b) := ⟨_, rfl⟩
                  rw [← hs] at hl hsm HX1
                  have HS := Aside0.mk hs
                  clear hs
                  have c1 := HX1.out.cell (a * 4 + b) (by rw [hl.out]; omega)
                  have c2 := HX1.out.cell (a * 4 + o) (by rw [hl.out]; omega)
                  have c3 := HX1.out.cell (o * 4 + b) (by rw [hl.out]; omega)
                  have f1 := HX1.out.frozen (a * 4 + b)
                  have b1 := hsm.out (a * 4 + b)
                  have b2 := hsm.out (a * 4 + o)
                  have b3 := hsm.out (o * 4 + b)
                  obtain ⟨x1, hx1⟩ : ∃ x, x = gt s (a * 4 + b) := ⟨_, rfl⟩
                  obtain ⟨x2, hx2⟩ : ∃ x, x = gt s (a * 4 + o) := ⟨_, rfl⟩
                  obtain ⟨x3, hx3⟩ : ∃ x, x = gt s (o * 4 + b) := ⟨_, rfl⟩
                  rw [← hx1] at c1 b1
                  rw [← hx2] at c2 b2
                  rw [← hx3] at c3 b3
                  have HX := Aside0.mk (And.intro hx1 (And.intro hx2 hx3))
                  obtain ⟨b10, b11⟩ := b1
                  obtain ⟨b20, b21⟩ := b2
                  obtain ⟨b30, b31⟩ := b3
                  clear hx1 hx2 hx3
                  have hw : IntKind.i64.wrap (x2 + x3) = x2 + x3 := IntWalk.i64_in _ (by omega)
                  go_wp2_with (fail)
                  obtain ⟨v, hv⟩ : ∃ v, (if x2 + x3 < x1 then x2 + x3 else x1) = v := ⟨_, rfl⟩
                  have HV := Aside0.mk (show lesser x1 (x2 + x3) = v from hv)
                  go_wp2_with (fail)
                  go_still_tail 21, (by kernel_rfl)
                  change wpList _ _ _ _ _ wr.drew
                  go_wp2_with (first | (refine wpL_set rfl rfl rfl rfl HX1.out.drew (by rw [hl.out]; omega) ?_; intro w2 hX2 hP2; have HX2 := Aside0.mk (show Blk w2 g1 23 (fwTo c (o * 16 + a * 4 + (b + 1))) by rw [← Nat.add_assoc, fwTo_step c o a b ha4 hb4, ← HS.out, relax, ← HX.out.1, ← HX.out.2.1, ← HX.out.2.2, HV.out]; exact hX2); replace HX0 := Aside0.mk (HX0.out.drew.put hP2 HN.out); replace HB := Aside0.mk (hP2.below _ _ HB.out.drew HG1.out); clear hX2 hP2 HX HX1 HS HV))
                  go_roundw
                  case rel => exact ⟨b + 1, by omega, by go_num, HX2, HX0, HB⟩
                  case measure => simp [intOf]; omega
                · obtain rfl : b = 4 := by omega
                  replace HX1 := Aside0.mk (show Blk wr g1 23 (fwTo c (o * 16 + (a + 1) * 4)) by rw [show o * 16 + (a + 1) * 4 = o * 16 + a * 4 + 4 by omega]; exact HX1.out)
                  go_wp2_with (fail)
                  go_roundw
                  case rel => exact ⟨a + 1, by omega, by go_num, HX1, HX0, HB⟩
                  case measure => simp [intOf]; omega
            · obtain rfl : a = 4 := by omega
              replace HX1 := Aside0.mk (show Blk wr g1 23 (fwTo c ((o + 1) * 16)) by rw [show (o + 1) * 16 = o * 16 + 4 * 4 by omega]; exact HX1.out)
              go_wp2_with (fail)
              go_roundw
              case rel => exact ⟨o + 1, by omega, by go_num, HX1, HX0, HB⟩
              case measure => simp [intOf]; omega
        · obtain rfl : o = 4 := by omega
          replace HX1 := Aside0.mk (show Blk wr g1 23 (fw c) from HX1.out)
          go_wp2_with (first | ((with_reducible refine gate_dst (N := 65) rfl ?_); refine wpL_load rfl rfl rfl HX1.out Try.underlying23 (by rw [fw_length]; exact size23) ?_) | ((with_reducible refine gate_store (p := 2) rfl ?_); refine wpL_store rfl rfl rfl rfl HX0.out (by rw [fw_length]; exact size23) (by rw [fw_length]; rfl) ?_; intro w2 hX2 hP2; have HX := Aside0.mk hX2; replace HB := Aside0.mk (hP2.below _ _ HB.out HG0.out); clear hX2 hP2))
          refine bodyPost_ret (v := .agg (AV (fw c))) (results_cell_row rfl _ _ g0 23 (AV (fw c)) (0, 0) _ rfl HX.out Try.underlying23 rfl (by rw [AV_size, fw_length]; exact size23)) rfl ⟨rfl, HB.out⟩
end Go.Proofs.Ytjficnndocjodaa.H
