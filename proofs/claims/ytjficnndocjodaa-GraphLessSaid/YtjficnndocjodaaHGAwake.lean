/- watchwordlaw20.awake answers true. -/
import Derived.Test.YtjficnndocjodaaHGRef
import Derived.Test.YtjficnndocjodaaHMay
namespace Go.Proofs.Ytjficnndocjodaa.H
open Go.RowKit Go.Proofs.YtjficnndocjodaaW.PrintWords Go.Proofs.YtjficnndocjodaaW.PrintLast Go.Proofs.YtjficnndocjodaaW.PrintMore
open Go.Proofs.Ytjficnndocjodaa.PGraphs
set_option linter.unusedVariables false
set_option linter.unusedSimpArgs false

def l3 : List La := [⟨1, 1, 0, [⟨2, 5⟩, ⟨3, 9⟩]⟩, ⟨2, 1, 0, [⟨1, 7⟩]⟩, ⟨3, 1, 0, []⟩]
def l1 : List La := [⟨0, 0, 0, []⟩]
def g3 : List Int := [0, 5, 0, 0, 7, 0, 0, 0, 0, 0, 0, 0, 0, 0, 0, 0]
theorem l3_graph : graphOf l3 = (g3, 0) := by decide +kernel
theorem l1_graph : graphOf l1 = (zs16, 2000) := by decide +kernel
theorem g3_ok : costsOk g3 = true := by decide +kernel
theorem bad_ok : costsOk (zs16.set 10 1) = false := by decide +kernel

set_option maxHeartbeats 2000000 in
set_option maxRecDepth 100000 in
theorem awake20_calls (w : World) : Calls Try.prog 25 #[] w fun e w' => e = .returned (.bool true) ∧ Below w.heap.size w w' := by
  have HB := Aside0.mk (Below.refl w.heap.size w)
  go_enter Try.func25, Try.ntmps25
  go_wp2_with (fail)
  obtain ⟨W1, hW1⟩ : ∃ W, W = w.alloc (.cells #[.int .i64 2, .int .i64 5, .int .i64 3, .int .i64 9] 59) := ⟨_, rfl⟩
  obtain ⟨W2, hW2⟩ : ∃ W, W = W1.alloc (.cells #[.int .i64 1, .int .i64 7] 59) := ⟨_, rfl⟩
  obtain ⟨W3, hW3⟩ : ∃ W, W = W2.alloc (.cells #[.int .i64 1, .int .i64 1, .int .i64 0, .slice (some ⟨w.heap.size, 0, none⟩) 2 2, .int .i64 2, .int .i64 1, .int .i64 0, .slice (some ⟨w.heap.size + 1, 0, none⟩) 1 1, .int .i64 3, .int .i64 1, .int .i64 0, .slice none 0 0] 57) := ⟨_, rfl⟩
  rw [← hW1, ← hW2, ← hW3]
  have z1 : W1.heap.size = w.heap.size + 1 := by rw [hW1]; simp
  have z2 : W2.heap.size = w.heap.size + 1 + 1 := by rw [hW2]; simp [z1]
  have b1 : W3.heap[w.heap.size]? = some (.cells #[.int .i64 2, .int .i64 5, .int .i64 3, .int .i64 9] 59 (0, 0)) := by
    rw [hW3]; refine blk_alloc ?_ _; rw [hW2]; refine blk_alloc ?_ _; rw [hW1]; exact blk_new _ _
  have b2 : W3.heap[w.heap.size + 1]? = some (.cells #[.int .i64 1, .int .i64 7] 59 (0, 0)) := by
    rw [hW3]; refine blk_alloc ?_ _; rw [hW2, ← z1]; exact blk_new _ _
  have b3 : W3.heap[w.heap.size + 1 + 1]? = some (.cells #[.int .i64 1, .int .i64 1, .int .i64 0, .slice (some ⟨w.heap.size, 0, none⟩) 2 2, .int .i64 2, .int .i64 1, .int .i64 0, .slice (some ⟨w.heap.size + 1, 0, none⟩) 1 1, .int .i64 3, .int .i64 1, .int .i64 0, .slice none 0 0] 57 (0, 0)) := by
    rw [hW3, ← z2]; exact blk_new _ _
  have k1 := k57_mk W3 ⟨1, 1, 0, [⟨2, 5⟩, ⟨3, 9⟩]⟩ (A3 := some ⟨w.heap.size, 0, none⟩) (c3 := 2) (by decide) (C_block k59 (ps := [⟨2, 5⟩, ⟨3, 9⟩]) b1 (Reps.snoc (Reps.snoc (Reps.none _ _) (k59_mk W3 ⟨2, 5⟩) rfl) (k59_mk W3 ⟨3, 9⟩) rfl) (by decide))
  have k2 := k57_mk W3 ⟨2, 1, 0, [⟨1, 7⟩]⟩ (A3 := some ⟨w.heap.size + 1, 0, none⟩) (c3 := 1) (by decide) (C_block k59 (ps := [⟨1, 7⟩]) b2 (Reps.snoc (Reps.none _ _) (k59_mk W3 ⟨1, 7⟩) rfl) (by decide))
  have k3 := k57_mk W3 ⟨3, 1, 0, []⟩ (A3 := none) (c3 := 0) (by decide) (Kd.C_nil k59 W3)
  have HC := Aside0.mk (C_block k57 (ps := l3) b3 (Reps.snoc (Reps.snoc (Reps.snoc (Reps.none _ _) k1 rfl) k2 rfl) k3 rfl) (by decide))
  replace HB := Aside0.mk (show Below w.heap.size w W3 by rw [hW3, hW2, hW1]; exact below_alloc (below_alloc (below_alloc HB.out _) _) _)
  clear b1 b2 b3 k1 k2 k3 z1 z2 hW1 hW2 hW3
  refine (Of_calls l3 _ 3 _ HC.out (by decide)).mono ?_
  rintro e w1 ⟨rfl, hb1⟩
  rw [l3_graph]
  replace HB := Aside0.mk (below_step HB.out hb1)
  clear hb1 HC
  go_wp2_with (first | ((with_reducible refine gate_dst (N := 2) rfl ?_); refine box_event ?hg (N := 2) ?hd (cs := AV zs16) (t := 23) ?hr ?_; (case hd => rfl); (case hg => rfl); (case hr => first | (go_simp; done) | (go_simp; rfl)); intro g2 hg2 w1 hbox hb1; have HX2 := Aside0.mk (show Blk w1 g2 23 zs16 from hbox); have HG2 := Aside0.mk (show w.heap.size ≤ g2 by rw [hg2]; exact HB.out.size); replace HB := Aside0.mk (below_step HB.out hb1); clear hbox hb1 hg2) | ((with_reducible refine gate_store (p := 2) rfl ?_); refine wpL_store rfl rfl rfl (c := g3) rfl HX2.out size23 rfl ?_; intro w2 hX2 hP2; replace HX2 := Aside0.mk hX2; replace HB := Aside0.mk (hP2.below _ _ HB.out HG2.out); clear hX2 hP2))
  obtain ⟨W5, hW5⟩ : ∃ W, W = w2.alloc (.cells #[.int .i64 0, .int .i64 0, .int .i64 0, .slice none 0 0] 57) := ⟨_, rfl⟩
  rw [← hW5]
  have b5 : W5.heap[w2.heap.size]? = some (.cells #[.int .i64 0, .int .i64 0, .int .i64 0, .slice none 0 0] 57 (0, 0)) := by rw [hW5]; exact blk_new _ _
  have HC := Aside0.mk (C_block k57 (ps := l1) b5 (Reps.snoc (Reps.none _ _) (k57_mk W5 ⟨0, 0, 0, []⟩ (A3 := none) (c3 := 0) (by decide) (Kd.C_nil k59 W5)) rfl) (by decide))
  replace HX2 := Aside0.mk (show Blk W5 g2 23 g3 by rw [hW5]; exact HX2.out.alloc _)
  replace HB := Aside0.mk (show Below w.heap.size w W5 by rw [hW5]; exact below_alloc HB.out _)
  clear b5 hW5
  refine (Of_calls l1 _ 1 _ HC.out (by decide)).mono ?_
  rintro e w3 ⟨rfl, hb1⟩
  rw [l1_graph]
  replace HB := Aside0.mk (below_step HB.out hb1)
  replace HX2 := Aside0.mk (HX2.out.below hb1)
  clear hb1 HC
  go_wp2_with (first | ((with_reducible refine gate_dst (N := 4) rfl ?_); refine box_event ?hg (N := 4) ?hd (cs := AV zs16) (t := 23) ?hr ?_; (case hd => rfl); (case hg => rfl); (case hr => first | (go_simp; done) | (go_simp; rfl)); intro g4 hg4 w1 hbox hb1; have HX4 := Aside0.mk (show Blk w1 g4 23 zs16 from hbox); have HG4 := Aside0.mk (show w.heap.size ≤ g4 by rw [hg4]; exact HB.out.size); have HN24 := Aside0.mk (show g2 ≠ g4 by rw [hg4]; exact Nat.ne_of_lt HX2.out.lt); replace HX2 := Aside0.mk (HX2.out.below hb1); replace HB := Aside0.mk (below_step HB.out hb1); clear hbox hb1 hg4) | ((with_reducible refine gate_store (p := 4) rfl ?_); refine wpL_store rfl rfl rfl (c := zs16) rfl HX4.out size23 rfl ?_; intro w4 hX2 hP2; replace HX2 := Aside0.mk (HX2.out.put hP2 HN24.out); replace HB := Aside0.mk (hP2.below _ _ HB.out HG4.out); clear hX2 hP2 HX4) | ((with_reducible refine gate_dst (N := 6) rfl ?_); refine box_event ?hg (N := 6) ?hd (cs := AV zs16) (t := 23) ?hr ?_; (case hd => rfl); (case hg => rfl); (case hr => first | (go_simp; done) | (go_simp; rfl)); intro g6 hg6 w1 hbox hb1; have HX6 := Aside0.mk (show Blk w1 g6 23 zs16 from hbox); have HG6 := Aside0.mk (show w.heap.size ≤ g6 by rw [hg6]; exact HB.out.size); have HN26 := Aside0.mk (show g2 ≠ g6 by rw [hg6]; exact Nat.ne_of_lt HX2.out.lt); replace HX2 := Aside0.mk (HX2.out.below hb1); replace HB := Aside0.mk (below_step HB.out hb1); clear hbox hb1 hg6) | ((with_reducible refine gate_store (p := 28) rfl ?_); refine wpL_set rfl rfl rfl rfl HX6.out (by decide) ?_; intro w6 hX2 hP2; replace HX2 := Aside0.mk (HX2.out.put hP2 HN26.out); replace HX6 := Aside0.mk (show Blk w6 g6 23 (zs16.set 10 1) from hX2); replace HB := Aside0.mk (hP2.below _ _ HB.out HG6.out); clear hX2 hP2; have c0 : w6.cell? ⟨g2, 0, none⟩ = some (.int .i64 0) := HX2.out.cell 0 (by decide); have c1 : w6.cell? ⟨g2, 1, none⟩ = some (.int .i64 5) := HX2.out.cell 1 (by decide); have c2 : w6.cell? ⟨g2, 2, none⟩ = some (.int .i64 0) := HX2.out.cell 2 (by decide); have c3 : w6.cell? ⟨g2, 3, none⟩ = some (.int .i64 0) := HX2.out.cell 3 (by decide); have c4 : w6.cell? ⟨g2, 4, none⟩ = some (.int .i64 7) := HX2.out.cell 4 (by decide); have c5 : w6.cell? ⟨g2, 5, none⟩ = some (.int .i64 0) := HX2.out.cell 5 (by decide); have c6 : w6.cell? ⟨g2, 6, none⟩ = some (.int .i64 0) := HX2.out.cell 6 (by decide); have c7 : w6.cell? ⟨g2, 7, none⟩ = some (.int .i64 0) := HX2.out.cell 7 (by decide); have c8 : w6.cell? ⟨g2, 8, none⟩ = some (.int .i64 0) := HX2.out.cell 8 (by decide); have c9 : w6.cell? ⟨g2, 9, none⟩ = some (.int .i64 0) := HX2.out.cell 9 (by decide); have c10 : w6.cell? ⟨g2, 10, none⟩ = some (.int .i64 0) := HX2.out.cell 10 (by decide); have c11 : w6.cell? ⟨g2, 11, none⟩ = some (.int .i64 0) := HX2.out.cell 11 (by decide); have c12 : w6.cell? ⟨g2, 12, none⟩ = some (.int .i64 0) := HX2.out.cell 12 (by decide); have c13 : w6.cell? ⟨g2, 13, none⟩ = some (.int .i64 0) := HX2.out.cell 13 (by decide); have c14 : w6.cell? ⟨g2, 14, none⟩ = some (.int .i64 0) := HX2.out.cell 14 (by decide); have c15 : w6.cell? ⟨g2, 15, none⟩ = some (.int .i64 0) := HX2.out.cell 15 (by decide); have d0 : w6.cell? ⟨g6, 0, none⟩ = some (.int .i64 0) := HX6.out.cell 0 (by decide); have d1 : w6.cell? ⟨g6, 1, none⟩ = some (.int .i64 0) := HX6.out.cell 1 (by decide); have d2 : w6.cell? ⟨g6, 2, none⟩ = some (.int .i64 0) := HX6.out.cell 2 (by decide); have d3 : w6.cell? ⟨g6, 3, none⟩ = some (.int .i64 0) := HX6.out.cell 3 (by decide); have d4 : w6.cell? ⟨g6, 4, none⟩ = some (.int .i64 0) := HX6.out.cell 4 (by decide); have d5 : w6.cell? ⟨g6, 5, none⟩ = some (.int .i64 0) := HX6.out.cell 5 (by decide); have d6 : w6.cell? ⟨g6, 6, none⟩ = some (.int .i64 0) := HX6.out.cell 6 (by decide); have d7 : w6.cell? ⟨g6, 7, none⟩ = some (.int .i64 0) := HX6.out.cell 7 (by decide); have d8 : w6.cell? ⟨g6, 8, none⟩ = some (.int .i64 0) := HX6.out.cell 8 (by decide); have d9 : w6.cell? ⟨g6, 9, none⟩ = some (.int .i64 0) := HX6.out.cell 9 (by decide); have d10 : w6.cell? ⟨g6, 10, none⟩ = some (.int .i64 1) := HX6.out.cell 10 (by decide); have d11 : w6.cell? ⟨g6, 11, none⟩ = some (.int .i64 0) := HX6.out.cell 11 (by decide); have d12 : w6.cell? ⟨g6, 12, none⟩ = some (.int .i64 0) := HX6.out.cell 12 (by decide); have d13 : w6.cell? ⟨g6, 13, none⟩ = some (.int .i64 0) := HX6.out.cell 13 (by decide); have d14 : w6.cell? ⟨g6, 14, none⟩ = some (.int .i64 0) := HX6.out.cell 14 (by decide); have d15 : w6.cell? ⟨g6, 15, none⟩ = some (.int .i64 0) := HX6.out.cell 15 (by decide)) | (go_at_call 16; go_in))
  clear c0 c1 c2 c3 c4 c5 c6 c7 c8 c9 c10 c11 c12 c13 c14 c15 d0 d1 d2 d3 d4 d5 d6 d7 d8 d9 d10 d11 d12 d13 d14 d15
  refine (May_calls g3 rfl _).mono ?_
  rintro e w7 ⟨rfl, hb1⟩
  rw [g3_ok]
  replace HB := Aside0.mk (below_step HB.out hb1)
  replace HX6 := Aside0.mk (HX6.out.below hb1)
  clear hb1 HX2
  have e0 : w7.cell? ⟨g6, 0, none⟩ = some (.int .i64 0) := HX6.out.cell 0 (by decide)
  have e1 : w7.cell? ⟨g6, 1, none⟩ = some (.int .i64 0) := HX6.out.cell 1 (by decide)
  have e2 : w7.cell? ⟨g6, 2, none⟩ = some (.int .i64 0) := HX6.out.cell 2 (by decide)
  have e3 : w7.cell? ⟨g6, 3, none⟩ = some (.int .i64 0) := HX6.out.cell 3 (by decide)
  have e4 : w7.cell? ⟨g6, 4, none⟩ = some (.int .i64 0) := HX6.out.cell 4 (by decide)
  have e5 : w7.cell? ⟨g6, 5, none⟩ = some (.int .i64 0) := HX6.out.cell 5 (by decide)
  have e6 : w7.cell? ⟨g6, 6, none⟩ = some (.int .i64 0) := HX6.out.cell 6 (by decide)
  have e7 : w7.cell? ⟨g6, 7, none⟩ = some (.int .i64 0) := HX6.out.cell 7 (by decide)
  have e8 : w7.cell? ⟨g6, 8, none⟩ = some (.int .i64 0) := HX6.out.cell 8 (by decide)
  have e9 : w7.cell? ⟨g6, 9, none⟩ = some (.int .i64 0) := HX6.out.cell 9 (by decide)
  have e10 : w7.cell? ⟨g6, 10, none⟩ = some (.int .i64 1) := HX6.out.cell 10 (by decide)
  have e11 : w7.cell? ⟨g6, 11, none⟩ = some (.int .i64 0) := HX6.out.cell 11 (by decide)
  have e12 : w7.cell? ⟨g6, 12, none⟩ = some (.int .i64 0) := HX6.out.cell 12 (by decide)
  have e13 : w7.cell? ⟨g6, 13, none⟩ = some (.int .i64 0) := HX6.out.cell 13 (by decide)
  have e14 : w7.cell? ⟨g6, 14, none⟩ = some (.int .i64 0) := HX6.out.cell 14 (by decide)
  have e15 : w7.cell? ⟨g6, 15, none⟩ = some (.int .i64 0) := HX6.out.cell 15 (by decide)
  go_wp2_with (fail)
  clear e0 e1 e2 e3 e4 e5 e6 e7 e8 e9 e10 e11 e12 e13 e14 e15
  refine (May_calls (zs16.set 10 1) rfl _).mono ?_
  rintro e w8 ⟨rfl, hb1⟩
  rw [bad_ok]
  replace HB := Aside0.mk (below_step HB.out hb1)
  clear hb1 HX6
  go_wp2_with (fail)
  go_ret
  exact ⟨rfl, HB.out⟩
end Go.Proofs.Ytjficnndocjodaa.H
