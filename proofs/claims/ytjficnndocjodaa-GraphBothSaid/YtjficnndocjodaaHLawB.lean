/- The walk of the law GraphBoth. -/
import Derived.Test.YtjficnndocjodaaHGAwake
import Derived.Test.YtjficnndocjodaaHEq
import Derived.Test.YtjficnndocjodaaHBoth
import Derived.IntWalk
namespace Go.Proofs.Ytjficnndocjodaa.H
open Go.RowKit Go.Proofs.YtjficnndocjodaaW.PrintWords Go.Proofs.YtjficnndocjodaaW.PrintLast Go.Proofs.YtjficnndocjodaaW.PrintMore
open Go.Proofs.Ytjficnndocjodaa.PGraphs
set_option linter.unusedVariables false
set_option linter.unusedSimpArgs false

set_option maxHeartbeats 4000000 in
set_option maxRecDepth 100000 in
theorem Both_bad (l : List La) (A : Option Addr) (cp : Nat) (w : World) (hr : Kd.C k57 w A l.length l) (hc : l.length ≤ cp) (hbad : storeOk l = false) :
    Calls Try.prog 9 #[.slice A l.length cp] w fun e w' => e = .returned (.bool true) ∧ Below w.heap.size w w' := by
  have HR := Aside0.mk hr
  have HC := Aside0.mk hc
  have HGR := Aside0.mk (show graphOf l = (zs16, 2000) by unfold graphOf; rw [hbad]; rfl)
  clear hr hc hbad
  have HB := Aside0.mk (Below.refl w.heap.size w)
  go_enter Try.func9, Try.ntmps9
  have heq : ∀ W : World, (Op.equalIn 10000 23 (.agg (AV zs16)) (.agg #[.int .i64 0, .int .i64 0, .int .i64 0, .int .i64 0, .int .i64 0, .int .i64 0, .int .i64 0, .int .i64 0, .int .i64 0, .int .i64 0, .int .i64 0, .int .i64 0, .int .i64 0, .int .i64 0, .int .i64 0, .int .i64 0])).run Try.prog W = .ok true W := fun W => (eq_arr zs16 zs16 rfl rfl W).trans (by rw [decide_eq_true rfl])
  go_wp2_with (first | (go_at_call 25; refine (awake20_calls _).mono ?_; rintro e w1 ⟨rfl, hb1⟩; replace HB := Aside0.mk (below_step HB.out hb1); clear hb1) | ((with_reducible refine gate_dst (N := 3) rfl ?_); refine box_event ?hg (N := 3) ?hd (cs := AV zs16) (t := 23) ?hr ?_; (case hd => rfl); (case hg => rfl); (case hr => first | (go_simp; done) | (go_simp; rfl)); intro g3 hg w1 hbox hb1; have HX3 := Aside0.mk (show Blk w1 g3 23 zs16 from hbox); have HG3 := Aside0.mk (show w.heap.size ≤ g3 by rw [hg]; exact HB.out.size); replace HB := Aside0.mk (below_step HB.out hb1); clear hbox hb1 hg) | (go_at_call 21; refine (Of_calls l A cp _ (Kd.C_below HR.out HB.out) HC.out).mono ?_; rintro e w1 ⟨rfl, hb1⟩; rw [HGR.out]; replace HB := Aside0.mk (below_step HB.out hb1); clear hb1) | ((with_reducible refine gate_store (p := 3) rfl ?_); refine wpL_store rfl rfl rfl (c := zs16) rfl HX3.out (by exact size23) (by rfl) ?_; intro w4 hX2 hP2; replace HX3 := Aside0.mk hX2; replace HB := Aside0.mk (hP2.below _ _ HB.out HG3.out); clear hX2 hP2) | ((with_reducible refine gate_dst (N := 21) rfl ?_); refine wpL_load rfl rfl rfl HX3.out Try.underlying23 size23 ?_) | (go_at_call 16; go_in))
  go_ret
  exact ⟨rfl, HB.out⟩

set_option maxHeartbeats 4000000 in
set_option maxRecDepth 100000 in
theorem Both_good (l : List La) (A : Option Addr) (cp : Nat) (w : World) (hr : Kd.C k57 w A l.length l) (hc : l.length ≤ cp) (hok : storeOk l = true) :
    Calls Try.prog 9 #[.slice A l.length cp] w fun e w' => e = .returned (.bool true) ∧ Below w.heap.size w w' := by
  have HR := Aside0.mk hr
  have HC := Aside0.mk hc
  have HOK := Aside0.mk hok
  have l63 : l.length ≤ 9223372036854775807 := hr.2.1
  obtain ⟨x, hx⟩ : ∃ x, x = bothTo (tellAt l l.length) 16 := ⟨_, rfl⟩
  have HXE := Aside0.mk hx
  have HL := Aside0.mk (show x.length = 16 by rw [hx]; exact bothTo_length _ _)
  have HGR := Aside0.mk (show graphOf l = (x, 0) by unfold graphOf; rw [hok, hx]; rfl)
  have HXK := Aside0.mk (show costsOk x = true by rw [hx]; exact both_ok l hok)
  clear hr hc hok hx
  have HB := Aside0.mk (Below.refl w.heap.size w)
  go_enter Try.func9, Try.ntmps9
  go_wp2_with (first | (go_at_call 25; refine (awake20_calls _).mono ?_; rintro e w1 ⟨rfl, hb1⟩; replace HB := Aside0.mk (below_step HB.out hb1); clear hb1) | ((with_reducible refine gate_dst (N := 3) rfl ?_); refine box_event ?hg (N := 3) ?hd (cs := AV zs16) (t := 23) ?hr ?_; (case hd => rfl); (case hg => rfl); (case hr => first | (go_simp; done) | (go_simp; rfl)); intro g3 hg w1 hbox hb1; have HX3 := Aside0.mk (show Blk w1 g3 23 zs16 from hbox); have HG3 := Aside0.mk (show w.heap.size ≤ g3 by rw [hg]; exact HB.out.size); replace HB := Aside0.mk (below_step HB.out hb1); clear hbox hb1 hg) | (go_at_call 21; refine (Of_calls l A cp _ (Kd.C_below HR.out HB.out) HC.out).mono ?_; rintro e w1 ⟨rfl, hb1⟩; rw [HGR.out]; replace HB := Aside0.mk (below_step HB.out hb1); clear hb1) | ((with_reducible refine gate_store (p := 3) rfl ?_); refine wpL_store rfl rfl rfl (c := x) rfl HX3.out (by rw [HL.out]; exact size23) (by rw [HL.out]; rfl) ?_; intro w4 hX2 hP2; replace HX3 := Aside0.mk hX2; replace HB := Aside0.mk (hP2.below _ _ HB.out HG3.out); clear hX2 hP2) | (go_at_call 16; go_in))
  go_loopw [5] (fun i wr => ∃ a : Nat, a ≤ 4 ∧ i = .int .i64 (a : Int) ∧ Aside0 (Blk wr g3 23 x) ∧ Aside0 (Below w.heap.size w wr)) (fun i _ => 4 - (intOf i).toNat)
  case atStart => exact ⟨0, by omega, rfl, HX3, HB⟩
  case round =>
    clear HB HX3
    obtain ⟨a, ha, rfl, HX3, HB⟩ := hrel
    by_cases ha4 : a < 4
    · have aI : (a : Int) < 4 := by omega
      go_wp2_with (fail)
      go_loopw [6] (fun i wr => ∃ b : Nat, b ≤ 4 ∧ i = .int .i64 (b : Int) ∧ Aside0 (Blk wr g3 23 x) ∧ Aside0 (Below w.heap.size w wr)) (fun i _ => 4 - (intOf i).toNat)
      case atStart => exact ⟨0, by omega, rfl, HX3, HB⟩
      case round =>
        clear HB HX3
        obtain ⟨b, hb, rfl, HX3, HB⟩ := hrel
        by_cases hb4 : b < 4
        · have bI : (b : Int) < 4 := by omega
          obtain ⟨y, hy⟩ : ∃ y, y = gt x (a * 4 + b) := ⟨_, rfl⟩
          obtain ⟨z, hz⟩ : ∃ z, z = gt x (b * 4 + a) := ⟨_, rfl⟩
          have cy : wr.cell? ⟨g3, a * 4 + b, none⟩ = some (.int .i64 y) := by rw [hy]; exact HX3.out.cell (a * 4 + b) (by rw [HL.out]; omega)
          have cz : wr.cell? ⟨g3, b * 4 + a, none⟩ = some (.int .i64 z) := by rw [hz]; exact HX3.out.cell (b * 4 + a) (by rw [HL.out]; omega)
          have hs : decide (0 < y) = decide (0 < z) := by rw [hy, hz, HXE.out]; exact both_sym _ a b ha4 hb4
          obtain ⟨q, t1⟩ : ∃ q, decide (0 < y) = q := ⟨_, rfl⟩
          have t2 : decide (0 < z) = q := by rw [← hs]; exact t1
          clear hs hy hz
          go_wp2_with (fail)
          go_quiet (fail)
          clear cy cz t1 t2
          go_wp2_with (fail)
          go_roundw
          case rel => exact ⟨b + 1, by omega, by go_num, ⟨HX3.out.drewN _⟩, ⟨pw_below_drewN HB.out _⟩⟩
          case measure => simp [intOf]; omega
        · have bI : ¬ (b : Int) < 4 := by omega
          go_wp2_with (fail)
          go_roundw
          case rel => exact ⟨a + 1, by omega, by go_num, HX3, HB⟩
          case measure => simp [intOf]; omega
    · have aI : ¬ (a : Int) < 4 := by omega
      go_wp2_with (fail)
      go_loopw [7] (fun i wr => ∃ n : Nat, n ≤ l.length ∧ i = .int .i64 (n : Int) ∧ Aside0 (Blk wr g3 23 x) ∧ Aside0 (Below w.heap.size w wr)) (fun i _ => l.length - (intOf i).toNat)
      case atStart => exact ⟨0, by omega, rfl, HX3, HB⟩
      case round =>
        clear HB HX3
        obtain ⟨n, hn, rfl, HX3, HB⟩ := hrel
        by_cases hnl : n < l.length
        · have nI : (n : Int) < (l.length : Int) := by omega
          obtain ⟨ad, A3, c3, hA, q0, q1, q2, q3, hl3, hC3⟩ := la_cells HR.out (Below.refl w.heap.size w) n hnl
          have HRK := Aside0.mk HR.out
          subst hA
          have hro := st_router l HOK.out n hnl
          have HLK := Aside0.mk (st_link l HOK.out n hnl)
          have HWY := Aside0.mk (fun (a b j : Nat) ha hb => both_way l HOK.out a b ha hb n j hnl)
          have HC3 := Aside0.mk hC3
          have n63 : (laAt l n).f3.length ≤ 9223372036854775807 := hC3.2.1
          clear hl3 hC3
          unfold isWay at HWY
          rw [← HXE.out] at HWY
          generalize laAt l n = la at *
          obtain ⟨r, f1, f2, ls⟩ := la
          simp only at q0 q1 q2 q3 hro HLK HWY HC3 n63
          obtain ⟨n3, hn3⟩ : ∃ n3, n3 = ls.length := ⟨_, rfl⟩
          rw [← hn3] at q3 n63
          have HN3 := Aside0.mk hn3
          obtain ⟨a', ha'⟩ : ∃ a : Nat, r = (a : Int) + 1 := ⟨(r - 1).toNat, by omega⟩
          have aI' : (a' : Int) < 4 := by omega
          have r1 : ¬ r < 1 := by omega
          have r4 : ¬ 4 < r := by omega
          have HA := Aside0.mk ha'
          have wa : IntKind.i64.wrap (r - 1) = (a' : Int) := by rw [IntWalk.i64_in _ (by omega)]; omega
          have HQ0 := Aside0.mk q0
          have HQ3 := Aside0.mk q3
          clear hn3 ha' hro q0 q1 q2 q3
          go_wp2_with (fail)
          go_loopw [8] (fun i wr => ∃ m : Nat, m ≤ n3 ∧ i = .int .i64 (m : Int) ∧ Aside0 (Blk wr g3 23 x) ∧ Aside0 (Below w.heap.size w wr)) (fun i _ => n3 - (intOf i).toNat)
          case atStart => exact ⟨0, by omega, rfl, HX3, HB⟩
          case round =>
            clear HB HX3
            obtain ⟨m, hm, rfl, HX3, HB⟩ := hrel
            have q3 := (HB.out.cell (World.block_lt_of_cell? w _ HQ3.out)).trans HQ3.out
            by_cases hml : m < n3
            · have mI : (m : Int) < (n3 : Int) := by omega
              obtain ⟨ad3, hA3, p0, p1⟩ := lk_cells HC3.out HB.out m (by rw [← HN3.out]; exact hml)
              subst hA3
              have hlk := HLK.out m (by rw [← HN3.out]; exact hml)
              have hwy := fun b hb => HWY.out a' b m (by omega) hb
              generalize lkAt ls m = lk at *
              obtain ⟨tt, co⟩ := lk
              simp only at p0 p1 hlk hwy
              obtain ⟨b, hb⟩ : ∃ b : Nat, tt = (b : Int) + 1 := ⟨(tt - 1).toNat, by omega⟩
              have bI : (b : Int) < 4 := by omega
              have s1 : ¬ tt < 1 := by omega
              have s4 : ¬ 4 < tt := by omega
              have wb : IntKind.i64.wrap (tt - 1) = (b : Int) := by rw [IntWalk.i64_in _ (by omega)]; omega
              have ab : a' * 4 + b < 16 := by omega
              have hy0 := hwy b (by omega) ⟨HA.out, by rw [← HN3.out]; exact hml, hb⟩
              have co0 : (co == 0) = false := by simp; omega
              have co1 : ¬ co = 0 := by omega
              clear hlk hb hwy
              obtain ⟨y, hy⟩ : ∃ y, y = gt x (a' * 4 + b) := ⟨_, rfl⟩
              have HY := Aside0.mk (show gt x (a' * 4 + b) = y from hy.symm)
              rw [← hy] at hy0
              clear hy
              go_wp2_with (first | ((with_reducible refine gate_dst (N := 9) rfl ?_); refine box_event ?hg (N := 9) ?hd (cs := #[.int .i64 0, .int .i64 0]) (t := 59) ?hr ?_; (case hd => rfl); (case hg => rfl); (case hr => first | (go_simp; done) | (go_simp; rfl)); intro g9 hg9 w3 hbox hb1; have HX9 := Aside0.mk hbox; have HG9 := Aside0.mk (show w.heap.size ≤ g9 by rw [hg9]; exact HB.out.size); have HN39 := Aside0.mk (show g3 ≠ g9 by rw [hg9]; exact Nat.ne_of_lt HX3.out.lt); replace HX3 := Aside0.mk (HX3.out.below hb1); replace HB := Aside0.mk (below_step HB.out hb1); clear hbox hb1 hg9) | ((with_reducible refine gate_store (p := 9) rfl ?_); refine wpL_storeC rfl rfl rfl (cs := #[.int .i64 tt, .int .i64 co]) rfl HX9.out size59 rfl (by simp [Value.oneCell']) ?_; intro w4 hX4 hP4; replace HX9 := Aside0.mk hX4; replace HX3 := Aside0.mk (HX3.out.put hP4 HN39.out); replace HB := Aside0.mk (hP4.below _ _ HB.out HG9.out); clear hX4 hP4; have q90 : w4.cell? ⟨g9, 0, none⟩ = some (.int .i64 tt) := (blk_cell HX9.out 0).trans rfl; have q91 : w4.cell? ⟨g9, 1, none⟩ = some (.int .i64 co) := (blk_cell HX9.out 1).trans rfl; have q0 := (HB.out.cell (World.block_lt_of_cell? w _ HQ0.out)).trans HQ0.out; have cy : w4.cell? ⟨g3, a' * 4 + b, none⟩ = some (.int .i64 y) := by rw [← HY.out]; exact HX3.out.cell (a' * 4 + b) (by rw [HL.out]; exact ab)))
              rcases hy0 with rfl | rfl
              · go_quiet (fail)
                clear q90 q0 cy
                go_wp2_with (fail)
                go_roundw
                case rel => exact ⟨m + 1, by omega, by go_num, ⟨HX3.out.drewN _⟩, ⟨pw_below_drewN HB.out _⟩⟩
                case measure => simp [intOf]; omega
              · go_quiet (fail)
                clear q90 q0 cy
                go_wp2_with (fail)
                all_goals
                  go_roundw
                  case rel => exact ⟨m + 1, by omega, by go_num, ⟨HX3.out.drewN _⟩, ⟨pw_below_drewN HB.out _⟩⟩
                  case measure => simp [intOf]; omega
            · have mI : ¬ (m : Int) < (n3 : Int) := by omega
              go_wp2_with (fail)
              go_roundw
              case rel => exact ⟨n + 1, by omega, by go_num, HX3, HB⟩
              case measure => simp [intOf]; omega
        · have nI : ¬ (n : Int) < (l.length : Int) := by omega
          go_wp2_with (first | ((with_reducible refine gate_dst (N := 113) rfl ?_); refine wpL_load rfl rfl rfl HX3.out Try.underlying23 (by rw [HL.out]; exact size23) ?_) | (go_at_call 23; refine (May_calls x HL.out _).mono ?_; rintro e w5 ⟨rfl, hb1⟩; rw [HXK.out]; replace HB := Aside0.mk (below_step HB.out hb1); clear hb1))
          go_ret
          exact ⟨rfl, HB.out⟩
theorem GraphBoth_walk (l : List La) (A : Option Addr) (cp : Nat) (w : World) (hr : Kd.C k57 w A l.length l) (hc : l.length ≤ cp) :
    Calls Try.prog 9 #[.slice A l.length cp] w fun e w' => e = .returned (.bool true) ∧ Below w.heap.size w w' := by
  cases h : storeOk l with
  | true => exact Both_good l A cp w hr hc h
  | false => exact Both_bad l A cp w hr hc h
end Go.Proofs.Ytjficnndocjodaa.H
