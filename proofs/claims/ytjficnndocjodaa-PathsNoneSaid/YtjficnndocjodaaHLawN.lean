/- The walk of the law PathsNone. -/
import Derived.Test.YtjficnndocjodaaHLawP
import Derived.Test.YtjficnndocjodaaHBits
import Derived.Test.YtjficnndocjodaaHNone
import Derived.Deep.RegionHeld3
import Derived.Test.YtjficnndocjodaaHSpoil
namespace Go.Proofs.Ytjficnndocjodaa.H
open Go.RowKit Go.Proofs.YtjficnndocjodaaW.PrintWords Go.Proofs.YtjficnndocjodaaW.PrintLast Go.Proofs.YtjficnndocjodaaW.PrintMore
open Go.Proofs.Ytjficnndocjodaa.PPaths
set_option linter.unusedVariables false
set_option linter.unusedSimpArgs false

theorem SR_one {w : World} {base : Nat} {ok : Nat → Prop} {A : Option Addr} {n cap : Nat} {x y : Int} {fl : List Int} (h : SRoutes w base ok (.slice A n cap) [(x, y, fl)]) :
    ∃ g A2 c2, A = some ⟨g, 0, none⟩ ∧ w.cell? ⟨g, 0, none⟩ = some (.int .i64 x) ∧ w.cell? ⟨g, 1, none⟩ = some (.int .i64 y) ∧ w.cell? ⟨g, 2, none⟩ = some (.slice A2 fl.length c2) ∧ fl.length ≤ c2 ∧ (Kd.int .i64).C w A2 fl.length fl := by
  have hn : n = 1 := (Kd.S_reads' h).1.trans (by simp [rts])
  obtain ⟨g, cap', hv, _⟩ := Kd.S_form h (by simp [rts])
  injection hv with e1 e2 e3
  subst e1
  obtain ⟨oki, cs, hcl, hM, hcc, hfr, hoki, hH⟩ := Kd.S_elem h z41 0 (by omega) (by omega)
  obtain ⟨v2, hcs, hR2⟩ := k41_openM hM
  subst hcs
  have q0 : w.cell? ⟨g, 0, none⟩ = some (.int .i64 x) := hcc 0 _ rfl
  have q1 : w.cell? ⟨g, 1, none⟩ = some (.int .i64 y) := hcc 1 _ rfl
  have q2 : w.cell? ⟨g, 2, none⟩ = some v2 := hcc 2 _ rfl
  obtain ⟨A2, c2, hv2, hl, hC⟩ := Kd.R_reads hR2
  exact ⟨g, A2, c2, rfl, q0, q1, by rw [q2, hv2]; rfl, hl, hC⟩

set_option maxHeartbeats 2000000 in
set_option maxRecDepth 100000 in
theorem PathsNone_walk (a b cost from' : Int) (w : World) : Calls Try.prog 7 #[.int .i64 a, .int .i64 b, .int .i64 cost, .int .i64 from'] w fun e w' => e = .returned (.bool true) ∧ Below w.heap.size w w' := by
  obtain ⟨i, hi, hi4⟩ := and3_nat a
  obtain ⟨j, hj, hj4⟩ := and3_nat b
  obtain ⟨m, hm, hm4⟩ := and3_nat from'
  obtain ⟨d, hd, hd4⟩ := and1023_nat cost
  have jI : (j : Int) < 4 := by omega
  have mI : (m : Int) < 4 := by omega
  have iI : (i : Int) < 4 := by omega
  have dI : (d : Int) < 1024 := by omega
  have HZ := Aside0.mk (zs16_all m hm4)
  have HB := Aside0.mk (Below.refl w.heap.size w)
  have ij : i * 4 + j < 16 := by omega
  have hcase : ((i : Int) == (j : Int)) = true ∨ ((i : Int) == (j : Int)) = false ∧ Aside0 (i ≠ j) := by
    by_cases e : i = j
    · left; simp; omega
    · right; exact ⟨by simp; omega, ⟨e⟩⟩
  rcases hcase with e | ⟨e, HIJ⟩
  all_goals
    go_enter Try.func7, Try.ntmps7
    go_wp2_with (first | (go_at_call 18; refine (awake_calls _).mono ?_; rintro e w1 ⟨rfl, hb1⟩; replace HB := Aside0.mk (below_step HB.out hb1); clear hb1) | ((with_reducible refine gate_dst (N := 12) rfl ?_); refine box_event ?hg (N := 12) ?hd (cs := AV zs16) (t := 23) ?hr ?_; (case hd => rfl); (case hg => rfl); (case hr => first | (go_simp; done) | (go_simp; rfl)); intro gc hgc w1 hbox hb1; have HBC := Aside0.mk (show Blk w1 gc 23 zs16 from hbox); have HGC := Aside0.mk (show w.heap.size ≤ gc by rw [hgc]; exact HB.out.size); replace HB := Aside0.mk (below_step HB.out hb1); clear hbox hb1 hgc) | ((with_reducible refine gate_dst (N := 27) rfl ?_); refine wpL_load rfl rfl rfl HBC.out Try.underlying23 size23 ?_))
    refine (Routes_calls zs16 rfl _ _).mono ?_
    rintro e w2 ⟨v, rfl, hO, hb1⟩
    rw [HZ.out] at hO ⊢
    obtain ⟨A, cp, hv⟩ := Kd.S_slice hO
    subst hv
    rw [show (rts []).length = 0 from rfl]
    replace HB := Aside0.mk (below_step HB.out hb1)
    replace HBC := Aside0.mk (HBC.out.below hb1)
    clear hb1 hO
  · go_wp2_with (first | (go_at_call 16; go_in))
    go_ret
    exact ⟨rfl, HB.out⟩
  · obtain ⟨c, hc⟩ : ∃ c, c = zs16.set (i * 4 + j) (1 + (d : Int)) := ⟨_, rfl⟩
    have HCL := Aside0.mk (show c.length = 16 by rw [hc, List.length_set]; rfl)
    have HC := Aside0.mk hc
    have HRO := Aside0.mk (one_routes i j hi4 hj4 HIJ.out (1 + (d : Int)) (by omega) (by omega) c hc m hm4)
    have HV := Aside0.mk (show gt c (i * 4 + j) = 1 + (d : Int) by rw [one_gt i j hi4 hj4 HIJ.out (1 + (d : Int)) (by omega) (by omega) c hc i j hi4 hj4, if_pos ⟨rfl, rfl⟩])
    clear hc
    go_wp2_with (first | (go_at_call 16; go_in) | ((with_reducible refine gate_store (p := 49) rfl ?_); refine wpL_set rfl rfl rfl rfl HBC.out (by show _ < 16; exact ij) ?_; intro w5 hX3 hP3; replace HBC := Aside0.mk (show Blk w5 gc 23 c by rw [HC.out]; exact hX3); replace HB := Aside0.mk (hP3.below _ _ HB.out HGC.out); clear hX3 hP3) | ((with_reducible refine gate_dst (N := 51) rfl ?_); refine wpL_load rfl rfl rfl HBC.out Try.underlying23 (by rw [HCL.out]; exact size23) ?_))
    refine (Routes_calls c HCL.out _ _).mono ?_
    rintro e w3 ⟨v, rfl, hO, hb1⟩
    rw [HRO.out] at hO ⊢
    replace HB := Aside0.mk (below_step HB.out hb1)
    replace HBC := Aside0.mk (HBC.out.below hb1)
    by_cases hmi : m = i
    · rw [if_pos hmi] at hO ⊢
      obtain ⟨A3, cp3, hv⟩ := Kd.S_slice hO
      subst hv
      obtain ⟨g, A2, c2, hA, q0, q1, q2, hl2, hC2⟩ := SR_one hO
      subst hA
      rw [show (rts [((j : Int) + 1, 1 + (d : Int), [(j : Int) + 1])]).length = 1 from rfl]
      have t1 : (1 + (m : Int) == (i : Int) + 1) = true := by simp; omega
      have t2 : ((j : Int) + 1 == (j : Int) + 1) = true := by simp
      have t3 : (1 + (d : Int) == 1 + (d : Int)) = true := by simp
      have t4 : IntKind.i64.wrap ((j : Int) + 1) = (j : Int) + 1 := IntWalk.i64_in _ (by omega)
      have qc := HBC.out.cell (i * 4 + j) (by rw [HCL.out]; exact ij)
      rw [HV.out] at qc
      rw [show [(j : Int) + 1].length = 1 from rfl] at q2
      have HS := Aside0.mk (And.intro hl2 hC2)
      clear hO hb1 hl2 hC2 hmi
      go_wp2_with (first | (go_at_call 16; go_in))
      have hCA := Aside0.mk (Kd.C_below HS.out.2 (show Below w3.heap.size w3 (w3.alloc (.cells #[.int .i64 ((j : Int) + 1)] 3)).drew from (below_alloc (Below.refl _ _) _).drew))
      have hCB := Aside0.mk (C_ints (w := (w3.alloc (.cells #[.int .i64 ((j : Int) + 1)] 3)).drew) (g := w3.heap.size) (t := 3) (fr := (0, 0)) [(j : Int) + 1] (blk_new _ _) (show (1 : Nat) ≤ 9223372036854775807 by omega))
      replace HB := Aside0.mk (show Below w.heap.size w (w3.alloc (.cells #[.int .i64 ((j : Int) + 1)] 3)) from below_alloc HB.out _)
      go_region_held3 (fun w' => w'.cell? ⟨g, 0, none⟩ = some (.int .i64 ((j : Int) + 1)) ∧ w'.cell? ⟨g, 1, none⟩ = some (.int .i64 (1 + (d : Int))) ∧ w'.cell? ⟨g, 2, none⟩ = some (.slice A2 1 c2) ∧ w'.cell? ⟨gc, i * 4 + j, none⟩ = some (.int .i64 (1 + (d : Int)))) (first | go_keep | assumption) ((go_at_call 20; refine (watchwordlaw0_SameInts.calls 5 _ _ [(j : Int) + 1] _ _ [(j : Int) + 1] true _ hCA.out HS.out.1 hCB.out (Nat.le_refl _) (sameInts_self _ 5 (show (1 : Nat) ≤ 9223372036854775807 by omega) (show (1 : Nat) < 5 by omega))).mono ?_; rintro e w4 ⟨rfl, ⟨⟨n4, rfl⟩⟩⟩))
      go_wp2_with (fail)
      go_ret
      exact ⟨rfl, pw_below_drewN HB.out _⟩
    · rw [if_neg hmi] at hO ⊢
      obtain ⟨A3, cp3, hv⟩ := Kd.S_slice hO
      subst hv
      rw [show (rts []).length = 0 from rfl]
      have t1 : (1 + (m : Int) == (i : Int) + 1) = false := by simp; omega
      clear hO hb1 hmi
      go_wp2_with (first | (go_at_call 16; go_in))
      go_quiet (fail)
      go_wp2_with (fail)
      go_ret
      exact ⟨rfl, pw_below_drewN HB.out nq⟩
end Go.Proofs.Ytjficnndocjodaa.H
