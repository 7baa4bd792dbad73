/- The reference's least costs from one router: 'least' of the costs, if they may be and the router is one. -/
import Derived.Test.YtjficnndocjodaaHArr
import Derived.Deep.RegionWith
import Derived.StillTailTactics
import Derived.IntWalk
namespace Go.Proofs.Ytjficnndocjodaa.H
open Go.RowKit Go.Proofs.YtjficnndocjodaaW.PrintWords Go.Proofs.YtjficnndocjodaaW.PrintLast Go.Proofs.YtjficnndocjodaaW.PrintMore
set_option linter.unusedVariables false
set_option linter.unusedSimpArgs false

def zs4 : List Int := List.replicate 4 0
/-- The first n places are -1. -/
def negTo (n : Nat) : List Int := List.replicate n (-1) ++ List.replicate (4 - n) 0
theorem negTo_step (n : Nat) (h : n < 4) : (negTo n).set n (-1) = negTo (n + 1) := by
  rcases (by omega : n = 0 ∨ n = 1 ∨ n = 2 ∨ n = 3) with rfl | rfl | rfl | rfl <;> rfl
theorem negTo_length (n : Nat) (h : n ≤ 4) : (negTo n).length = 4 := by
  simp [negTo]; omega

set_option maxHeartbeats 1000000 in
set_option maxRecDepth 100000 in
theorem least_calls (c : List Int) (hc : c.length = 16) (hok : costsOk c = true) (f : Nat) (hf : f < 4) (w : World) :
    Calls Try.prog 30 #[.agg (AV c), .int .i64 (f : Int)] w fun e w' => e = .returned (.agg (AV (least c f))) ∧ Below w.heap.size w w' := by
  have HC := Aside0.mk hc
  have HK := Aside0.mk hok
  clear hc hok
  have hfI : (f : Int) < 4 := by omega
  have HB := Aside0.mk (Below.refl w.heap.size w)
  go_enter Try.func30, Try.ntmps30
  go_wp2_with (first | ((with_reducible refine gate_dst (N := 2) rfl ?_); refine box_event ?hg (N := 2) ?hd (cs := AV c) (t := 23) ?hr ?_; (case hd => rfl); (case hg => rfl); (case hr => first | (go_simp; done) | (go_simp; rfl)); intro gc hgc w1 hbox hb1; have HBC := Aside0.mk (show Blk w1 gc 23 c from hbox); replace HB := Aside0.mk (below_step HB.out hb1); clear hbox hb1 hgc) | ((with_reducible refine gate_dst (N := 4) rfl ?_); refine box_event ?hg (N := 4) ?hd (cs := AV zs4) (t := 22) ?hr ?_; (case hd => rfl); (case hg => rfl); (case hr => first | (go_simp; done) | (go_simp; rfl)); intro g0 hg0 w1 hbox hb1; have HX0 := Aside0.mk (show Blk w1 g0 22 zs4 from hbox); replace HBC := Aside0.mk (HBC.out.below hb1); have HG0 := Aside0.mk (show w.heap.size ≤ g0 by rw [hg0]; exact HB.out.size); replace HB := Aside0.mk (below_step HB.out hb1); clear hbox hb1 hg0) | ((with_reducible refine gate_dst (N := 5) rfl ?_); refine box_event ?hg (N := 5) ?hd (cs := AV zs4) (t := 22) ?hr ?_; (case hd => rfl); (case hg => rfl); (case hr => first | (go_simp; done) | (go_simp; rfl)); intro g1 hg1 w1 hbox hb1; have HX1 := Aside0.mk (show Blk w1 g1 22 (negTo 0) from hbox); have HN := Aside0.mk (show g0 ≠ g1 by rw [hg1]; exact Nat.ne_of_lt HX0.out.lt); have HNC := Aside0.mk (show gc ≠ g1 by rw [hg1]; exact Nat.ne_of_lt HBC.out.lt); replace HBC := Aside0.mk (HBC.out.below hb1); replace HX0 := Aside0.mk (HX0.out.below hb1); have HG1 := Aside0.mk (show w.heap.size ≤ g1 by rw [hg1]; exact HB.out.size); replace HB := Aside0.mk (below_step HB.out hb1); clear hbox hb1 hg1))
  go_loopw [6] (fun i wr => ∃ k : Nat, k ≤ 4 ∧ i = .int .i64 (k : Int) ∧ Aside0 (Blk wr g1 22 (negTo k)) ∧ Aside0 (Blk wr g0 22 zs4) ∧ Aside0 (Blk wr gc 23 c) ∧ Aside0 (Below w.heap.size w wr)) (fun i _ => 4 - (intOf i).toNat)
  case atStart => exact ⟨0, by omega, rfl, HX1, HX0, HBC, HB⟩
  case round =>
    clear HB HX1 HX0 HBC
    obtain ⟨k, hk, rfl, HX1, HX0, HBC, HB⟩ := hrel
    by_cases hk4 : k < 4
    · have kI : (k : Int) < 4 := by omega
      go_wp2_with (first | (refine wpL_set rfl rfl rfl rfl HX1.out (by rw [negTo_length k (by omega)]; omega) ?_; intro w2 hX2 hP2; replace HX1 := Aside0.mk (show Blk w2 g1 22 (negTo (k + 1)) by rw [← negTo_step k hk4]; exact hX2); replace HX0 := Aside0.mk (HX0.out.put hP2 HN.out); replace HBC := Aside0.mk (HBC.out.put hP2 HNC.out); replace HB := Aside0.mk (hP2.below _ _ HB.out HG1.out); clear hX2 hP2))
      go_roundw
      case rel => exact ⟨k + 1, by omega, by go_num, HX1, HX0, HBC, HB⟩
      case measure => simp [intOf]; omega
    · have kI : ¬ (k : Int) < 4 := by omega
      replace HX1 := Aside0.mk (show Blk wr g1 22 (List.replicate 4 (-1)) by have := HX1.out; rw [show k = 4 by omega] at this; exact this)
      go_wp2_with (first | (refine wpL_set rfl rfl rfl rfl HX1.out (by simpa using hf) ?_; intro w2 hX2 hP2; replace HX1 := Aside0.mk (show Blk w2 g1 22 (leastTo c f 0) from hX2); replace HX0 := Aside0.mk (HX0.out.put hP2 HN.out); replace HBC := Aside0.mk (HBC.out.put hP2 HNC.out); replace HB := Aside0.mk (hP2.below _ _ HB.out HG1.out); clear hX2 hP2))
      go_loopw [7] (fun i wr => ∃ k : Nat, k ≤ 4 ∧ i = .int .i64 (k : Int) ∧ Aside0 (Blk wr g1 22 (leastTo c f (k * 16))) ∧ Aside0 (Blk wr g0 22 zs4) ∧ Aside0 (Blk wr gc 23 c) ∧ Aside0 (Below w.heap.size w wr)) (fun i _ => 4 - (intOf i).toNat)
      case atStart => exact ⟨0, by omega, rfl, HX1, HX0, HBC, HB⟩
      case round =>
        clear HB HX1 HX0 HBC
        obtain ⟨o, ho, rfl, HX1, HX0, HBC, HB⟩ := hrel
        by_cases ho4 : o < 4
        · have oI : (o : Int) < 4 := by omega
          go_wp2_with (fail)
          go_loopw [8] (fun i wr => ∃ a : Nat, a ≤ 4 ∧ i = .int .i64 (a : Int) ∧ Aside0 (Blk wr g1 22 (leastTo c f (o * 16 + a * 4))) ∧ Aside0 (Blk wr g0 22 zs4) ∧ Aside0 (Blk wr gc 23 c) ∧ Aside0 (Below w.heap.size w wr)) (fun i _ => 4 - (intOf i).toNat)
          case atStart => exact ⟨0, by omega, rfl, HX1, HX0, HBC, HB⟩
          case round =>
            clear HB HX1 HX0 HBC
            obtain ⟨a, ha, rfl, HX1, HX0, HBC, HB⟩ := hrel
            by_cases ha4 : a < 4
            · have aI : (a : Int) < 4 := by omega
              go_wp2_with (fail)
              go_loopw [9] (fun i wr => ∃ b : Nat, b ≤ 4 ∧ i = .int .i64 (b : Int) ∧ Aside0 (Blk wr g1 22 (leastTo c f (o * 16 + a * 4 + b))) ∧ Aside0 (Blk wr g0 22 zs4) ∧ Aside0 (Blk wr gc 23 c) ∧ Aside0 (Below w.heap.size w wr)) (fun i _ => 4 - (intOf i).toNat)
              case atStart => exact ⟨0, by omega, rfl, HX1, HX0, HBC, HB⟩
              case round =>
                clear HB HX1 HX0 HBC
                obtain ⟨b, hbb, rfl, HX1, HX0, HBC, HB⟩ := hrel
                by_cases hb4 : b < 4
                · have bI : (b : Int) < 4 := by omega
                  have hl := Aside0.mk (leastTo_length c f (o * 16 + a * 4 + b))
                  have hsm := Aside0.mk (leastTo_small HK.out f (o * 16 + a * 4 + b))
                  have HST := Aside0.mk (leastTo_step c f o a b ha4 hb4)
                  obtain ⟨d, hs⟩ : ∃ d, d = leastTo c f (o * 16 + a * 4 + b) := ⟨_, rfl⟩
                  rw [← hs] at hl hsm HX1 HST
                  clear hs
                  have c1 := HX1.out.cell a (by rw [hl.out]; omega)
                  have c2 := HBC.out.cell (a * 4 + b) (by rw [HC.out]; omega)
                  have c3 := HX1.out.cell b (by rw [hl.out]; omega)
                  have b1 := hsm.out a
                  have b2 := costsOk_at HK.out a b ha4 hb4
                  have b3 := hsm.out b
                  obtain ⟨x1, hx1⟩ : ∃ x, x = gt d a := ⟨_, rfl⟩
                  obtain ⟨x2, hx2⟩ : ∃ x, x = gt c (a * 4 + b) := ⟨_, rfl⟩
                  obtain ⟨x3, hx3⟩ : ∃ x, x = gt d b := ⟨_, rfl⟩
                  rw [← hx1] at c1 b1
                  rw [← hx2] at c2 b2
                  rw [← hx3] at c3 b3
                  have HX := Aside0.mk (And.intro hx1 (And.intro hx2 hx3))
                  obtain ⟨b10, b11⟩ := b1
                  obtain ⟨b20, b21, b22⟩ := b2
                  obtain ⟨b30, b31⟩ := b3
                  clear hx1 hx2 hx3 b22
                  have b12 : x1 ≤ 5000000 := by omega
                  have hw : IntKind.i64.wrap (x1 + x2) = x1 + x2 := IntWalk.i64_in _ (by omega)
                  clear b11 b31
                  by_cases t1 : 0 ≤ x1
                  · have d1 : decide (0 ≤ x1) = true := by simpa using t1
                    by_cases t2 : 0 < x2
                    · have d2 : decide (0 < x2) = true := by simpa using t2
                      by_cases t3 : x3 < 0
                      · have d3 : decide (x3 < 0) = true := by simpa using t3
                        have HL := Aside0.mk (show lstep c d a b = d.set b (x1 + x2) by rw [lstep, if_pos (by rw [lless, ← HX.out.1, ← HX.out.2.1, ← HX.out.2.2]; simp; omega), ← HX.out.1, ← HX.out.2.1])
                        go_wp2_with (fail)
                        go_quiet (fail)
                        go_wp2_with (fail)
                        have c1q : (wr.drewN nq).cell? ⟨g1, a, none⟩ = some (.int .i64 x1) := c1
                        have c2q : (wr.drewN nq).cell? ⟨gc, a * 4 + b, none⟩ = some (.int .i64 x2) := c2
                        replace HX1 := Aside0.mk (HX1.out.drewN nq)
                        replace HX0 := Aside0.mk (HX0.out.drewN nq)
                        replace HBC := Aside0.mk (HBC.out.drewN nq)
                        replace HB := Aside0.mk (pw_below_drewN HB.out nq)
                        generalize wr.drewN nq = wq at *
                        clear c1 c2 c3
                        go_still_tail 11, (by kernel_rfl)
                        change wpList _ _ _ _ _ wq.drew
                        go_wp2_with (first | (refine wpL_set rfl rfl rfl rfl HX1.out.drew (by rw [hl.out]; omega) ?_; intro w2 hX2 hP2; replace HX1 := Aside0.mk (show Blk w2 g1 22 (leastTo c f (o * 16 + a * 4 + (b + 1))) by rw [← Nat.add_assoc, HST.out, HL.out]; exact hX2); replace HX0 := Aside0.mk (HX0.out.drew.put hP2 HN.out); replace HBC := Aside0.mk (HBC.out.drew.put hP2 HNC.out); replace HB := Aside0.mk (hP2.below _ _ HB.out.drew HG1.out); clear hX2 hP2))
                        go_roundw
                        case rel => exact ⟨b + 1, by omega, by go_num, HX1, HX0, HBC, HB⟩
                        case measure => simp [intOf]; omega
                      · have d3 : decide (x3 < 0) = false := by simpa using t3
                        by_cases t4 : x1 + x2 < x3
                        · have d4 : decide (x1 + x2 < x3) = true := by simpa using t4
                          have HL := Aside0.mk (show lstep c d a b = d.set b (x1 + x2) by rw [lstep, if_pos (by rw [lless, ← HX.out.1, ← HX.out.2.1, ← HX.out.2.2]; simp; omega), ← HX.out.1, ← HX.out.2.1])
                          go_wp2_with (fail)
                          go_quiet (fail)
                          go_wp2_with (fail)
                          have c1q : (wr.drewN nq).cell? ⟨g1, a, none⟩ = some (.int .i64 x1) := c1
                          have c2q : (wr.drewN nq).cell? ⟨gc, a * 4 + b, none⟩ = some (.int .i64 x2) := c2
                          replace HX1 := Aside0.mk (HX1.out.drewN nq)
                          replace HX0 := Aside0.mk (HX0.out.drewN nq)
                          replace HBC := Aside0.mk (HBC.out.drewN nq)
                          replace HB := Aside0.mk (pw_below_drewN HB.out nq)
                          generalize wr.drewN nq = wq at *
                          clear c1 c2 c3
                          go_still_tail 11, (by kernel_rfl)
                          change wpList _ _ _ _ _ wq.drew
                          go_wp2_with (first | (refine wpL_set rfl rfl rfl rfl HX1.out.drew (by rw [hl.out]; omega) ?_; intro w2 hX2 hP2; replace HX1 := Aside0.mk (show Blk w2 g1 22 (leastTo c f (o * 16 + a * 4 + (b + 1))) by rw [← Nat.add_assoc, HST.out, HL.out]; exact hX2); replace HX0 := Aside0.mk (HX0.out.drew.put hP2 HN.out); replace HBC := Aside0.mk (HBC.out.drew.put hP2 HNC.out); replace HB := Aside0.mk (hP2.below _ _ HB.out.drew HG1.out); clear hX2 hP2))
                          go_roundw
                          case rel => exact ⟨b + 1, by omega, by go_num, HX1, HX0, HBC, HB⟩
                          case measure => simp [intOf]; omega
                        · have d4 : decide (x1 + x2 < x3) = false := by simpa using t4
                          have HL := Aside0.mk (show lstep c d a b = d by rw [lstep, if_neg (by rw [lless, ← HX.out.1, ← HX.out.2.1, ← HX.out.2.2]; simp; omega)])
                          go_wp2_with (fail)
                          go_quiet (fail)
                          go_wp2_with (fail)
                          replace HX1 := Aside0.mk (show Blk (wr.drewN nq) g1 22 (leastTo c f (o * 16 + a * 4 + (b + 1))) by rw [← Nat.add_assoc, HST.out, HL.out]; exact HX1.out)
                          go_roundw
                          case rel => exact ⟨b + 1, by omega, by go_num, HX1, ⟨HX0.out.drewN nq⟩, ⟨HBC.out.drewN nq⟩, ⟨pw_below_drewN HB.out nq⟩⟩
                          case measure => simp [intOf]; omega
                    · have d2 : decide (0 < x2) = false := by simpa using t2
                      have HL := Aside0.mk (show lstep c d a b = d by rw [lstep, if_neg (by rw [lless, ← HX.out.1, ← HX.out.2.1, ← HX.out.2.2]; simp; omega)])
                      go_wp2_with (fail)
                      go_quiet (fail)
                      go_wp2_with (fail)
                      replace HX1 := Aside0.mk (show Blk (wr.drewN nq) g1 22 (leastTo c f (o * 16 + a * 4 + (b + 1))) by rw [← Nat.add_assoc, HST.out, HL.out]; exact HX1.out)
                      go_roundw
                      case rel => exact ⟨b + 1, by omega, by go_num, HX1, ⟨HX0.out.drewN nq⟩, ⟨HBC.out.drewN nq⟩, ⟨pw_below_drewN HB.out nq⟩⟩
                      case measure => simp [intOf]; omega
                  · have d1 : decide (0 ≤ x1) = false := by simpa using t1
                    have HL := Aside0.mk (show lstep c d a b = d by rw [lstep, if_neg (by rw [lless, ← HX.out.1, ← HX.out.2.1, ← HX.out.2.2]; simp; omega)])
                    go_wp2_with (fail)
                    go_quiet (fail)
                    go_wp2_with (fail)
                    replace HX1 := Aside0.mk (show Blk (wr.drewN nq) g1 22 (leastTo c f (o * 16 + a * 4 + (b + 1))) by rw [← Nat.add_assoc, HST.out, HL.out]; exact HX1.out)
                    go_roundw
                    case rel => exact ⟨b + 1, by omega, by go_num, HX1, ⟨HX0.out.drewN nq⟩, ⟨HBC.out.drewN nq⟩, ⟨pw_below_drewN HB.out nq⟩⟩
                    case measure => simp [intOf]; omega
                · replace HX1 := Aside0.mk (show Blk wr g1 22 (leastTo c f (o * 16 + (a + 1) * 4)) by rw [show o * 16 + (a + 1) * 4 = o * 16 + a * 4 + b by omega]; exact HX1.out)
                  have bI : ¬ (b : Int) < 4 := by omega
                  go_wp2_with (fail)
                  go_roundw
                  case rel => exact ⟨a + 1, by omega, by go_num, HX1, HX0, HBC, HB⟩
                  case measure => simp [intOf]; omega
            · replace HX1 := Aside0.mk (show Blk wr g1 22 (leastTo c f ((o + 1) * 16)) by rw [show (o + 1) * 16 = o * 16 + a * 4 by omega]; exact HX1.out)
              have aI : ¬ (a : Int) < 4 := by omega
              go_wp2_with (fail)
              go_roundw
              case rel => exact ⟨o + 1, by omega, by go_num, HX1, HX0, HBC, HB⟩
              case measure => simp [intOf]; omega
        · have oI : ¬ (o : Int) < 4 := by omega
          replace HX1 := Aside0.mk (show Blk wr g1 22 (least c f) by have := HX1.out; rw [show o = 4 by omega] at this; exact this)
          go_wp2_with (first | ((with_reducible refine gate_dst (N := 74) rfl ?_); refine wpL_load rfl rfl rfl HX1.out Try.underlying22 (by rw [least_length]; exact size22) ?_) | ((with_reducible refine gate_store (p := 4) rfl ?_); refine wpL_store rfl rfl rfl rfl HX0.out (by rw [least_length]; exact size22) (by rw [least_length]; rfl) ?_; intro w2 hX2 hP2; have HX := Aside0.mk hX2; replace HB := Aside0.mk (hP2.below _ _ HB.out HG0.out); clear hX2 hP2))
          refine bodyPost_ret (v := .agg (AV (least c f))) (results_cell_row rfl _ _ g0 22 (AV (least c f)) (0, 0) _ rfl HX.out Try.underlying22 rfl (by rw [AV_size, least_length]; exact size22)) rfl ⟨rfl, HB.out⟩
end Go.Proofs.Ytjficnndocjodaa.H
