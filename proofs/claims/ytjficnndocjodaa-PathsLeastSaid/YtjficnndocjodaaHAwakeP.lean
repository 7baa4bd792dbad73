/- watchwordlaw21.awake answers true. -/
import Derived.Test.YtjficnndocjodaaHRoutes
import Derived.Test.YtjficnndocjodaaPPathsx2
import Derived.Test.YtjficnndocjodaaPPathsx3
namespace Go.Proofs.Ytjficnndocjodaa.H
open Go.RowKit Go.Proofs.YtjficnndocjodaaW.PrintWords Go.Proofs.YtjficnndocjodaaW.PrintLast Go.Proofs.YtjficnndocjodaaW.PrintMore
open Go.Proofs.Ytjficnndocjodaa.PPaths
set_option linter.unusedVariables false
set_option linter.unusedSimpArgs false

def c0 : List Int := [0, 5, 2, 0, 5, 0, 3, 0, 2, 3, 0, 0, 0, 0, 0, 0]
def r0 : List (Int × Int × List Int) := [(2, 5, [2, 3]), (3, 2, [3])]
theorem c0_one : routesOf c0 1 = (r0, 0) := by decide +kernel
theorem c0_five : routesOf c0 5 = ([], 2100) := by decide +kernel
theorem r0_same : watchwordlaw0_SameRoutes.f 5 (rts r0) (rts r0) = some true := by kernel_rfl

set_option maxHeartbeats 1000000 in
set_option maxRecDepth 100000 in
theorem awake_calls (w : World) : Calls Try.prog 18 #[] w fun e w' => e = .returned (.bool true) ∧ Below w.heap.size w w' := by
  have HB := Aside0.mk (Below.refl w.heap.size w)
  go_enter Try.func18, Try.ntmps18
  go_wp2_with (fail)
  refine (Routes_calls c0 rfl 1 _).mono ?_
  rintro e w1 ⟨v, rfl, hO, hb1⟩
  rw [c0_one] at hO ⊢
  replace HB := Aside0.mk (below_step (below_alloc HB.out _) hb1)
  have HX := Aside0.mk ((Blk.new w 23 c0).below hb1)
  have HO := Aside0.mk hO
  obtain ⟨A, cp, e1⟩ := Kd.S_slice HO.out
  subst e1
  have HG := Aside0.mk (show w.heap.size < w1.heap.size from HX.out.lt)
  clear hO hb1
  go_wp2_with (first | ((with_reducible refine gate_dst (N := 16) rfl ?_); refine wpL_load rfl rfl rfl HX.out Try.underlying23 size23 ?_))
  refine (Routes_calls c0 rfl 5 _).mono ?_
  rintro e w2 ⟨v, rfl, _, hb1⟩
  rw [c0_five]
  replace HB := Aside0.mk (below_step HB.out hb1)
  replace HO := Aside0.mk (Kd.S_below HO.out hb1)
  clear hb1
  go_wp2_with (fail)
  obtain ⟨W1, hW1⟩ : ∃ W, W = w2.alloc (.cells #[.int .i64 2, .int .i64 3] 3) := ⟨_, rfl⟩
  obtain ⟨W2, hW2⟩ : ∃ W, W = W1.alloc (.cells #[.int .i64 3] 3) := ⟨_, rfl⟩
  obtain ⟨W3, hW3⟩ : ∃ W, W = W2.alloc (.cells #[.int .i64 2, .int .i64 5, .slice (some ⟨w2.heap.size, 0, none⟩) 2 2, .int .i64 3, .int .i64 2, .slice (some ⟨w2.heap.size + 1, 0, none⟩) 1 1] 41) := ⟨_, rfl⟩
  rw [← hW1, ← hW2, ← hW3]
  have z1 : W1.heap.size = w2.heap.size + 1 := by rw [hW1]; simp
  have z2 : W2.heap.size = w2.heap.size + 1 + 1 := by rw [hW2]; simp [z1]
  have b1 : W3.heap[w2.heap.size]? = some (.cells (AV [2, 3]) 3 (0, 0)) := by
    rw [hW3]; refine blk_alloc ?_ _; rw [hW2]; refine blk_alloc ?_ _; rw [hW1]; exact blk_new _ _
  have b2 : W3.heap[w2.heap.size + 1]? = some (.cells (AV [3]) 3 (0, 0)) := by
    rw [hW3]; refine blk_alloc ?_ _; rw [hW2, ← z1]; exact blk_new _ _
  have b3 : W3.heap[w2.heap.size + 1 + 1]? = some (.cells #[.int .i64 2, .int .i64 5, .slice (some ⟨w2.heap.size, 0, none⟩) 2 2, .int .i64 3, .int .i64 2, .slice (some ⟨w2.heap.size + 1, 0, none⟩) 1 1] 41 (0, 0)) := by
    rw [hW3, ← z2]; exact blk_new _ _
  have k1 := k41_mk W3 (mkRt (2, 5, [2, 3])) (A2 := some ⟨w2.heap.size, 0, none⟩) (c2 := 2) (by decide) (C_ints [2, 3] b1 (by decide))
  have k2 := k41_mk W3 (mkRt (3, 2, [3])) (A2 := some ⟨w2.heap.size + 1, 0, none⟩) (c2 := 1) (by decide) (C_ints [3] b2 (by decide))
  have HC1 := Aside0.mk (C_block k41 (ps := rts r0) b3 (Reps.snoc (Reps.snoc (Reps.none _ _) k1 rfl) k2 rfl) (by decide))
  have HB3 := Aside0.mk (show Below w2.heap.size w2 W3 by rw [hW3, hW2, hW1]; exact below_alloc (below_alloc (below_alloc (Below.refl _ _) _) _) _)
  have HC0 := Aside0.mk (Kd.S_reads' (Kd.S_below HO.out HB3.out))
  replace HB := Aside0.mk (below_step HB.out HB3.out)
  clear b1 b2 b3 k1 k2 z1 z2 hW1 hW2 hW3
  refine (watchwordlaw0_SameRoutes.calls 5 _ _ (rts r0) _ _ (rts r0) true _ HC0.out.2.2 HC0.out.2.1 HC1.out (by decide) r0_same).mono ?_
  rintro e w3 ⟨rfl, hb1⟩
  replace HB := Aside0.mk (below_step HB.out hb1)
  clear hb1
  go_wp2
  go_ret
  exact ⟨rfl, HB.out⟩
end Go.Proofs.Ytjficnndocjodaa.H
