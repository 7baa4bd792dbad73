/- The walk of the law PathsForms. -/
import Derived.Test.YtjficnndocjodaaHAwakeP
import Derived.Test.YtjficnndocjodaaHBits
namespace Go.Proofs.Ytjficnndocjodaa.H
open Go.RowKit Go.Proofs.YtjficnndocjodaaW.PrintWords Go.Proofs.YtjficnndocjodaaW.PrintLast Go.Proofs.YtjficnndocjodaaW.PrintMore
open Go.Proofs.Ytjficnndocjodaa.PPaths
set_option linter.unusedVariables false
set_option linter.unusedSimpArgs false

set_option maxHeartbeats 1000000 in
set_option maxRecDepth 100000 in
theorem PathsForms_walk (which x : Int) (w : World) : Calls Try.prog 5 #[.int .i64 which, .int .i64 x] w fun e w' => e = .returned (.bool true) ∧ Below w.heap.size w w' := by
  obtain ⟨i, hi, hi4⟩ := and3_nat which
  obtain ⟨j, hj, hj4⟩ := and3_nat (which / 4)
  obtain ⟨m, hm, hm2⟩ := and1_nat (which / 16)
  obtain ⟨d, hd, hd4⟩ := and1023_nat x
  have jI : (j : Int) < 4 := by omega
  have mI : (m : Int) < 2 := by omega
  have iI : (i : Int) < 4 := by omega
  have dI : (d : Int) < 1024 := by omega
  have HB := Aside0.mk (Below.refl w.heap.size w)
  go_enter Try.func5, Try.ntmps5
  go_wp2_with (first | (go_at_call 18; refine (awake_calls _).mono ?_; rintro e w1 ⟨rfl, hb1⟩; replace HB := Aside0.mk (below_step HB.out hb1); clear hb1) | ((with_reducible refine gate_dst (N := 6) rfl ?_); refine box_event ?hg (N := 6) ?hd (cs := AV zs16) (t := 23) ?hr ?_; (case hd => rfl); (case hg => rfl); (case hr => first | (go_simp; done) | (go_simp; rfl)); intro g1 hg1 w1 hbox hb1; have HX1 := Aside0.mk (show Blk w1 g1 23 zs16 from hbox); have HG1 := Aside0.mk (show w.heap.size ≤ g1 by rw [hg1]; exact HB.out.size); replace HB := Aside0.mk (below_step HB.out hb1); clear hbox hb1 hg1) | ((with_reducible refine gate_dst (N := 7) rfl ?_); refine box_event ?hg (N := 7) ?hd (cs := AV zs16) (t := 23) ?hr ?_; (case hd => rfl); (case hg => rfl); (case hr => first | (go_simp; done) | (go_simp; rfl)); intro g2 hg2 w1 hbox hb1; have HX2 := Aside0.mk (show Blk w1 g2 23 zs16 from hbox); have HN := Aside0.mk (show g1 ≠ g2 by rw [hg2]; exact Nat.ne_of_lt HX1.out.lt); replace HX1 := Aside0.mk (HX1.out.below hb1); replace HB := Aside0.mk (below_step HB.out hb1); clear hbox hb1 hg2))
  have c6 := HX1.out.cell (i * 4 + j) (by rw [show zs16.length = 16 from rfl]; omega)
  have f6 := HX1.out.frozen (i * 4 + j)
  have hlt := HX1.out.lt
  have hw1 : IntKind.i64.wrap (-(1 + (d : Int))) = -(1 + (d : Int)) := IntWalk.i64_in _ (by omega)
  have hw2 : IntKind.i64.wrap (65535 + (1 + (d : Int))) = 65535 + (1 + (d : Int)) := IntWalk.i64_in _ (by omega)
  rcases (by omega : m = 0 ∨ m = 1) with rfl | rfl
  · go_region_with (fail)
    obtain ⟨W, hW⟩ : ∃ W, W = ((w1.setCell ⟨g1, i * 4 + j, none⟩ (.int .i64 (-(1 + (d : Int))))).alloc (.cells #[.int .i64 (-(1 + (d : Int))), .int .i64 (65535 + (1 + (d : Int)))] 3)).drew := ⟨_, rfl⟩
    rw [← hW]
    have hp := Put.setCell w1 g1 (i * 4 + j) (.int .i64 (-(1 + (d : Int))))
    replace HX1 := Aside0.mk (show Blk W g1 23 (zs16.set (i * 4 + j) (-(1 + (d : Int)))) by rw [hW]; exact ((HX1.out.set _ _).alloc _).drew)
    replace HX2 := Aside0.mk (show Blk W g2 23 zs16 by rw [hW]; exact ((HX2.out.put hp (Ne.symm HN.out)).alloc _).drew)
    replace HB := Aside0.mk (show Below w.heap.size w W by rw [hW]; exact (below_alloc (hp.below _ _ HB.out HG1.out) _).drew)
    have HK := Aside0.mk (set_bad i j hi4 hj4 (-(1 + (d : Int))) (by omega))
    clear hW hp c6 f6 hlt
    go_wp2_with (first | ((with_reducible refine gate_dst (N := 39) rfl ?_); refine wpL_load rfl rfl rfl HX1.out Try.underlying23 (by rw [List.length_set]; exact size23) ?_))
    refine (Routes_calls _ (by rw [List.length_set]; rfl) 1 _).mono ?_
    rintro e w2 ⟨v, rfl, _, hb1⟩
    rw [routesOf_bad _ _ (.inl HK.out)]
    replace HB := Aside0.mk (below_step HB.out hb1)
    replace HX2 := Aside0.mk (HX2.out.below hb1)
    clear hb1
    go_wp2_with (first | ((with_reducible refine gate_dst (N := 44) rfl ?_); refine wpL_load rfl rfl rfl HX2.out Try.underlying23 size23 ?_))
    refine (Routes_calls _ rfl _ _).mono ?_
    rintro e w3 ⟨v3, rfl, _, hb1⟩
    rw [routesOf_bad _ _ (.inr (by simp [isRouter]; omega))]
    replace HB := Aside0.mk (below_step HB.out hb1)
    replace HX2 := Aside0.mk (HX2.out.below hb1)
    clear hb1
    go_wp2_with (first | ((with_reducible refine gate_dst (N := 51) rfl ?_); refine wpL_load rfl rfl rfl HX2.out Try.underlying23 size23 ?_))
    refine (Routes_calls _ rfl _ _).mono ?_
    rintro e w4 ⟨v4, rfl, _, hb1⟩
    rw [routesOf_bad _ _ (.inr (by simp [isRouter]; omega))]
    replace HB := Aside0.mk (below_step HB.out hb1)
    replace HX2 := Aside0.mk (HX2.out.below hb1)
    clear hb1
    go_wp2_with (first | ((with_reducible refine gate_dst (N := 58) rfl ?_); refine wpL_load rfl rfl rfl HX2.out Try.underlying23 size23 ?_))
    refine (Routes_calls _ rfl _ _).mono ?_
    rintro e w5 ⟨v5, rfl, hO, hb1⟩
    rw [zs16_two] at hO ⊢
    obtain ⟨A, cp, hv⟩ := Kd.S_slice hO
    subst hv
    replace HB := Aside0.mk (below_step HB.out hb1)
    clear hb1 hO
    rw [show (rts []).length = 0 from rfl]
    go_wp2
    go_ret
    exact ⟨rfl, HB.out⟩
  · go_region_with (fail)
    obtain ⟨W, hW⟩ : ∃ W, W = ((w1.setCell ⟨g1, i * 4 + j, none⟩ (.int .i64 (65535 + (1 + (d : Int))))).alloc (.cells #[.int .i64 (-(1 + (d : Int))), .int .i64 (65535 + (1 + (d : Int)))] 3)).drew := ⟨_, rfl⟩
    rw [← hW]
    have hp := Put.setCell w1 g1 (i * 4 + j) (.int .i64 (65535 + (1 + (d : Int))))
    replace HX1 := Aside0.mk (show Blk W g1 23 (zs16.set (i * 4 + j) (65535 + (1 + (d : Int)))) by rw [hW]; exact ((HX1.out.set _ _).alloc _).drew)
    replace HX2 := Aside0.mk (show Blk W g2 23 zs16 by rw [hW]; exact ((HX2.out.put hp (Ne.symm HN.out)).alloc _).drew)
    replace HB := Aside0.mk (show Below w.heap.size w W by rw [hW]; exact (below_alloc (hp.below _ _ HB.out HG1.out) _).drew)
    have HK := Aside0.mk (set_bad i j hi4 hj4 (65535 + (1 + (d : Int))) (by omega))
    clear hW hp c6 f6 hlt
    go_wp2_with (first | ((with_reducible refine gate_dst (N := 39) rfl ?_); refine wpL_load rfl rfl rfl HX1.out Try.underlying23 (by rw [List.length_set]; exact size23) ?_))
    refine (Routes_calls _ (by rw [List.length_set]; rfl) 1 _).mono ?_
    rintro e w2 ⟨v, rfl, _, hb1⟩
    rw [routesOf_bad _ _ (.inl HK.out)]
    replace HB := Aside0.mk (below_step HB.out hb1)
    replace HX2 := Aside0.mk (HX2.out.below hb1)
    clear hb1
    go_wp2_with (first | ((with_reducible refine gate_dst (N := 44) rfl ?_); refine wpL_load rfl rfl rfl HX2.out Try.underlying23 size23 ?_))
    refine (Routes_calls _ rfl _ _).mono ?_
    rintro e w3 ⟨v3, rfl, _, hb1⟩
    rw [routesOf_bad _ _ (.inr (by simp [isRouter]; omega))]
    replace HB := Aside0.mk (below_step HB.out hb1)
    replace HX2 := Aside0.mk (HX2.out.below hb1)
    clear hb1
    go_wp2_with (first | ((with_reducible refine gate_dst (N := 51) rfl ?_); refine wpL_load rfl rfl rfl HX2.out Try.underlying23 size23 ?_))
    refine (Routes_calls _ rfl _ _).mono ?_
    rintro e w4 ⟨v4, rfl, _, hb1⟩
    rw [routesOf_bad _ _ (.inr (by simp [isRouter]; omega))]
    replace HB := Aside0.mk (below_step HB.out hb1)
    replace HX2 := Aside0.mk (HX2.out.below hb1)
    clear hb1
    go_wp2_with (first | ((with_reducible refine gate_dst (N := 58) rfl ?_); refine wpL_load rfl rfl rfl HX2.out Try.underlying23 size23 ?_))
    refine (Routes_calls _ rfl _ _).mono ?_
    rintro e w5 ⟨v5, rfl, hO, hb1⟩
    rw [zs16_two] at hO ⊢
    obtain ⟨A, cp, hv⟩ := Kd.S_slice hO
    subst hv
    replace HB := Aside0.mk (below_step HB.out hb1)
    clear hb1 hO
    rw [show (rts []).length = 0 from rfl]
    go_wp2
    go_ret
    exact ⟨rfl, HB.out⟩
end Go.Proofs.Ytjficnndocjodaa.H
