/- The walk of the law GraphForms. -/
import Derived.Test.YtjficnndocjodaaHGAwake
import Derived.Test.YtjficnndocjodaaHBits
import Derived.Test.YtjficnndocjodaaHEq
namespace Go.Proofs.Ytjficnndocjodaa.H
open Go.RowKit Go.Proofs.YtjficnndocjodaaW.PrintWords Go.Proofs.YtjficnndocjodaaW.PrintLast Go.Proofs.YtjficnndocjodaaW.PrintMore
open Go.Proofs.Ytjficnndocjodaa.PGraphs
set_option linter.unusedVariables false
set_option linter.unusedSimpArgs false

def lA : List La := [⟨1, 1, 60, []⟩]
def lB : List La := [⟨2, 1, 0, []⟩, ⟨1, 1, 0, []⟩]
theorem lA_graph : graphOf lA = (zs16, 2000) := by decide +kernel
theorem lB_graph : graphOf lB = (zs16, 2000) := by decide +kernel
theorem l0_graph : graphOf [] = (zs16, 0) := by decide +kernel

set_option maxHeartbeats 4000000 in
set_option maxRecDepth 100000 in
theorem GraphForms_walk (which x : Int) (w : World) : Calls Try.prog 10 #[.int .i64 which, .int .i64 x] w fun e w' => e = .returned (.bool true) ∧ Below w.heap.size w w' := by
  obtain ⟨i, hi, hi4⟩ := and3_nat which
  obtain ⟨j, hj, hj4⟩ := and3_nat (which / 4)
  obtain ⟨m, hm, hm2⟩ := and1_nat (which / 16)
  obtain ⟨d, hd, hd4⟩ := and1023_nat x
  have jI : (j : Int) < 4 := by omega
  have mI : (m : Int) < 2 := by omega
  have iI : (i : Int) < 4 := by omega
  have dI : (d : Int) < 1024 := by omega
  have HB := Aside0.mk (Below.refl w.heap.size w)
  go_enter Try.func10, Try.ntmps10
  go_wp2_with (first | (go_at_call 25; refine (awake20_calls _).mono ?_; rintro e w1 ⟨rfl, hb1⟩; replace HB := Aside0.mk (below_step HB.out hb1); clear hb1) | ((with_reducible refine gate_dst (N := 6) rfl ?_); refine box_event ?hg (N := 6) ?hd (cs := AV zs16) (t := 23) ?hr ?_; (case hd => rfl); (case hg => rfl); (case hr => first | (go_simp; done) | (go_simp; rfl)); intro g6 hg w1 hbox hb1; have HXg6 := Aside0.mk (show Blk w1 g6 23 zs16 from hbox); have HGg6 := Aside0.mk (show w.heap.size ≤ g6 by rw [hg]; exact HB.out.size); replace HB := Aside0.mk (below_step HB.out hb1); clear hbox hb1 hg))
  have c6 := HXg6.out.cell (i * 4 + j) (by rw [show zs16.length = 16 from rfl]; omega)
  have f6 := HXg6.out.frozen (i * 4 + j)
  have hlt := HXg6.out.lt
  have hw1 : IntKind.i64.wrap (-(1 + (d : Int))) = -(1 + (d : Int)) := IntWalk.i64_in _ (by omega)
  have hw2 : IntKind.i64.wrap (65535 + (1 + (d : Int))) = 65535 + (1 + (d : Int)) := IntWalk.i64_in _ (by omega)
  rcases (by omega : m = 0 ∨ m = 1) with rfl | rfl
  · go_region_with (fail)
    obtain ⟨W, hW⟩ : ∃ W, W = ((w1.setCell ⟨g6, i * 4 + j, none⟩ (.int .i64 (-(1 + (d : Int))))).alloc (.cells #[.int .i64 (-(1 + (d : Int))), .int .i64 (65535 + (1 + (d : Int)))] 3)).drew := ⟨_, rfl⟩
    rw [← hW]
    have hp := Put.setCell w1 g6 (i * 4 + j) (.int .i64 (-(1 + (d : Int))))
    obtain ⟨cb, hcb⟩ : ∃ cb, cb = zs16.set (i * 4 + j) (-(1 + (d : Int))) := ⟨_, rfl⟩
    have HK := Aside0.mk (show costsOk cb = false by rw [hcb]; exact set_bad i j hi4 hj4 (-(1 + (d : Int))) (by omega))
    have HCL := Aside0.mk (show cb.length = 16 by rw [hcb, List.length_set]; rfl)
    replace HXg6 := Aside0.mk (show Blk W g6 23 cb by rw [hW, hcb]; exact ((HXg6.out.set _ _).alloc _).drew)
    replace HB := Aside0.mk (show Below w.heap.size w W by rw [hW]; exact (below_alloc (hp.below _ _ HB.out HGg6.out) _).drew)
    clear hW hp c6 f6 hlt hcb
    go_wp2_with (fail)
    obtain ⟨WA, hWA⟩ : ∃ X, X = W.alloc (.cells #[.int .i64 1, .int .i64 1, .int .i64 60, .slice none 0 0] 57) := ⟨_, rfl⟩
    rw [← hWA]
    have bA : WA.heap[W.heap.size]? = some (.cells #[.int .i64 1, .int .i64 1, .int .i64 60, .slice none 0 0] 57 (0, 0)) := by rw [hWA]; exact blk_new _ _
    have HC := Aside0.mk (C_block k57 (ps := lA) bA (Reps.snoc (Reps.none _ _) (k57_mk WA ⟨1, 1, 60, []⟩ (A3 := none) (c3 := 0) (by decide) (Kd.C_nil k59 WA)) rfl) (by decide))
    replace HXg6 := Aside0.mk (show Blk WA g6 23 cb by rw [hWA]; exact HXg6.out.alloc _)
    replace HB := Aside0.mk (show Below w.heap.size w WA by rw [hWA]; exact below_alloc HB.out _)
    clear bA hWA
    refine (Of_calls lA _ 1 _ HC.out (by decide)).mono ?_
    rintro e w3 ⟨rfl, hb1⟩
    rw [lA_graph]
    replace HB := Aside0.mk (below_step HB.out hb1)
    replace HXg6 := Aside0.mk (HXg6.out.below hb1)
    clear hb1 HC
    go_wp2_with (first | ((with_reducible refine gate_dst (N := 9) rfl ?_); refine box_event ?hg (N := 9) ?hd (cs := AV zs16) (t := 23) ?hr ?_; (case hd => rfl); (case hg => rfl); (case hr => first | (go_simp; done) | (go_simp; rfl)); intro g9 hg w1 hbox hb1; have HXg9 := Aside0.mk (show Blk w1 g9 23 zs16 from hbox); have HGg9 := Aside0.mk (show w.heap.size ≤ g9 by rw [hg]; exact HB.out.size); have HN6g9 := Aside0.mk (show g6 ≠ g9 by rw [hg]; exact Nat.ne_of_lt HXg6.out.lt); replace HXg6 := Aside0.mk (HXg6.out.below hb1); replace HB := Aside0.mk (below_step HB.out hb1); clear hbox hb1 hg) | ((with_reducible refine gate_store (p := 9) rfl ?_); refine wpL_store rfl rfl rfl (c := zs16) rfl HXg9.out size23 rfl ?_; intro w4 hX2 hP2; replace HXg9 := Aside0.mk hX2; replace HXg6 := Aside0.mk (HXg6.out.put hP2 HN6g9.out); replace HB := Aside0.mk (hP2.below _ _ HB.out HGg9.out); clear hX2 hP2))
    obtain ⟨WB, hWB⟩ : ∃ X, X = w4.alloc (.cells #[.int .i64 2, .int .i64 1, .int .i64 0, .slice none 0 0, .int .i64 1, .int .i64 1, .int .i64 0, .slice none 0 0] 57) := ⟨_, rfl⟩
    rw [← hWB]
    have bB : WB.heap[w4.heap.size]? = some (.cells #[.int .i64 2, .int .i64 1, .int .i64 0, .slice none 0 0, .int .i64 1, .int .i64 1, .int .i64 0, .slice none 0 0] 57 (0, 0)) := by rw [hWB]; exact blk_new _ _
    have HC := Aside0.mk (C_block k57 (ps := lB) bB (Reps.snoc (Reps.snoc (Reps.none _ _) (k57_mk WB ⟨2, 1, 0, []⟩ (A3 := none) (c3 := 0) (by decide) (Kd.C_nil k59 WB)) rfl) (k57_mk WB ⟨1, 1, 0, []⟩ (A3 := none) (c3 := 0) (by decide) (Kd.C_nil k59 WB)) rfl) (by decide))
    replace HXg6 := Aside0.mk (show Blk WB g6 23 cb by rw [hWB]; exact HXg6.out.alloc _)
    replace HB := Aside0.mk (show Below w.heap.size w WB by rw [hWB]; exact below_alloc HB.out _)
    clear bB hWB
    refine (Of_calls lB _ 2 _ HC.out (by decide)).mono ?_
    rintro e w5 ⟨rfl, hb1⟩
    rw [lB_graph]
    replace HB := Aside0.mk (below_step HB.out hb1)
    replace HXg6 := Aside0.mk (HXg6.out.below hb1)
    clear hb1 HC
    go_wp2_with (first | ((with_reducible refine gate_dst (N := 11) rfl ?_); refine box_event ?hg (N := 11) ?hd (cs := AV zs16) (t := 23) ?hr ?_; (case hd => rfl); (case hg => rfl); (case hr => first | (go_simp; done) | (go_simp; rfl)); intro g11 hg w1 hbox hb1; have HXg11 := Aside0.mk (show Blk w1 g11 23 zs16 from hbox); have HGg11 := Aside0.mk (show w.heap.size ≤ g11 by rw [hg]; exact HB.out.size); have HN6g11 := Aside0.mk (show g6 ≠ g11 by rw [hg]; exact Nat.ne_of_lt HXg6.out.lt); replace HXg6 := Aside0.mk (HXg6.out.below hb1); replace HB := Aside0.mk (below_step HB.out hb1); clear hbox hb1 hg) | ((with_reducible refine gate_store (p := 11) rfl ?_); refine wpL_store rfl rfl rfl (c := zs16) rfl HXg11.out size23 rfl ?_; intro w4 hX2 hP2; replace HXg11 := Aside0.mk hX2; replace HXg6 := Aside0.mk (HXg6.out.put hP2 HN6g11.out); replace HB := Aside0.mk (hP2.below _ _ HB.out HGg11.out); clear hX2 hP2))
    refine (Of_calls [] none 0 _ (Kd.C_nil k57 _) (by decide)).mono ?_
    rintro e w6 ⟨rfl, hb1⟩
    rw [l0_graph]
    replace HB := Aside0.mk (below_step HB.out hb1)
    replace HXg6 := Aside0.mk (HXg6.out.below hb1)
    clear hb1
    go_wp2_with (first | ((with_reducible refine gate_dst (N := 13) rfl ?_); refine box_event ?hg (N := 13) ?hd (cs := AV zs16) (t := 23) ?hr ?_; (case hd => rfl); (case hg => rfl); (case hr => first | (go_simp; done) | (go_simp; rfl)); intro g13 hg w1 hbox hb1; have HXg13 := Aside0.mk (show Blk w1 g13 23 zs16 from hbox); have HGg13 := Aside0.mk (show w.heap.size ≤ g13 by rw [hg]; exact HB.out.size); have HN6g13 := Aside0.mk (show g6 ≠ g13 by rw [hg]; exact Nat.ne_of_lt HXg6.out.lt); replace HXg6 := Aside0.mk (HXg6.out.below hb1); replace HB := Aside0.mk (below_step HB.out hb1); clear hbox hb1 hg) | ((with_reducible refine gate_store (p := 13) rfl ?_); refine wpL_store rfl rfl rfl (c := zs16) rfl HXg13.out size23 rfl ?_; intro w4 hX2 hP2; replace HXg13 := Aside0.mk hX2; replace HXg6 := Aside0.mk (HXg6.out.put hP2 HN6g13.out); replace HB := Aside0.mk (hP2.below _ _ HB.out HGg13.out); clear hX2 hP2) | ((with_reducible refine gate_dst (N := 56) rfl ?_); refine wpL_load rfl rfl rfl HXg6.out Try.underlying23 (by rw [HCL.out]; exact size23) ?_))
    refine (May_calls cb HCL.out _).mono ?_
    rintro e w7 ⟨rfl, hb1⟩
    rw [HK.out]
    replace HB := Aside0.mk (below_step HB.out hb1)
    replace HXg13 := Aside0.mk (HXg13.out.below hb1)
    clear hb1
    have e0 : w7.cell? ⟨g13, 0, none⟩ = some (.int .i64 0) := HXg13.out.cell 0 (by decide)
    have e1 : w7.cell? ⟨g13, 1, none⟩ = some (.int .i64 0) := HXg13.out.cell 1 (by decide)
    have e2 : w7.cell? ⟨g13, 2, none⟩ = some (.int .i64 0) := HXg13.out.cell 2 (by decide)
    have e3 : w7.cell? ⟨g13, 3, none⟩ = some (.int .i64 0) := HXg13.out.cell 3 (by decide)
    have e4 : w7.cell? ⟨g13, 4, none⟩ = some (.int .i64 0) := HXg13.out.cell 4 (by decide)
    have e5 : w7.cell? ⟨g13, 5, none⟩ = some (.int .i64 0) := HXg13.out.cell 5 (by decide)
    have e6 : w7.cell? ⟨g13, 6, none⟩ = some (.int .i64 0) := HXg13.out.cell 6 (by decide)
    have e7 : w7.cell? ⟨g13, 7, none⟩ = some (.int .i64 0) := HXg13.out.cell 7 (by decide)
    have e8 : w7.cell? ⟨g13, 8, none⟩ = some (.int .i64 0) := HXg13.out.cell 8 (by decide)
    have e9 : w7.cell? ⟨g13, 9, none⟩ = some (.int .i64 0) := HXg13.out.cell 9 (by decide)
    have e10 : w7.cell? ⟨g13, 10, none⟩ = some (.int .i64 0) := HXg13.out.cell 10 (by decide)
    have e11 : w7.cell? ⟨g13, 11, none⟩ = some (.int .i64 0) := HXg13.out.cell 11 (by decide)
    have e12 : w7.cell? ⟨g13, 12, none⟩ = some (.int .i64 0) := HXg13.out.cell 12 (by decide)
    have e13 : w7.cell? ⟨g13, 13, none⟩ = some (.int .i64 0) := HXg13.out.cell 13 (by decide)
    have e14 : w7.cell? ⟨g13, 14, none⟩ = some (.int .i64 0) := HXg13.out.cell 14 (by decide)
    have e15 : w7.cell? ⟨g13, 15, none⟩ = some (.int .i64 0) := HXg13.out.cell 15 (by decide)
    have heq : ∀ W : World, (Op.equalIn 10000 23 (.agg #[.int .i64 0, .int .i64 0, .int .i64 0, .int .i64 0, .int .i64 0, .int .i64 0, .int .i64 0, .int .i64 0, .int .i64 0, .int .i64 0, .int .i64 0, .int .i64 0, .int .i64 0, .int .i64 0, .int .i64 0, .int .i64 0]) (.agg #[.int .i64 0, .int .i64 0, .int .i64 0, .int .i64 0, .int .i64 0, .int .i64 0, .int .i64 0, .int .i64 0, .int .i64 0, .int .i64 0, .int .i64 0, .int .i64 0, .int .i64 0, .int .i64 0, .int .i64 0, .int .i64 0])).run Try.prog W = .ok true W := fun W => (eq_arr zs16 zs16 rfl rfl W).trans (by rw [decide_eq_true rfl])
    go_wp2_with (first | (go_at_call 16; go_in))
    go_ret
    exact ⟨rfl, HB.out⟩
  · go_region_with (fail)
    obtain ⟨W, hW⟩ : ∃ W, W = ((w1.setCell ⟨g6, i * 4 + j, none⟩ (.int .i64 (65535 + (1 + (d : Int))))).alloc (.cells #[.int .i64 (-(1 + (d : Int))), .int .i64 (65535 + (1 + (d : Int)))] 3)).drew := ⟨_, rfl⟩
    rw [← hW]
    have hp := Put.setCell w1 g6 (i * 4 + j) (.int .i64 (65535 + (1 + (d : Int))))
    obtain ⟨cb, hcb⟩ : ∃ cb, cb = zs16.set (i * 4 + j) (65535 + (1 + (d : Int))) := ⟨_, rfl⟩
    have HK := Aside0.mk (show costsOk cb = false by rw [hcb]; exact set_bad i j hi4 hj4 (65535 + (1 + (d : Int))) (by omega))
    have HCL := Aside0.mk (show cb.length = 16 by rw [hcb, List.length_set]; rfl)
    replace HXg6 := Aside0.mk (show Blk W g6 23 cb by rw [hW, hcb]; exact ((HXg6.out.set _ _).alloc _).drew)
    replace HB := Aside0.mk (show Below w.heap.size w W by rw [hW]; exact (below_alloc (hp.below _ _ HB.out HGg6.out) _).drew)
    clear hW hp c6 f6 hlt hcb
    go_wp2_with (fail)
    obtain ⟨WA, hWA⟩ : ∃ X, X = W.alloc (.cells #[.int .i64 1, .int .i64 1, .int .i64 60, .slice none 0 0] 57) := ⟨_, rfl⟩
    rw [← hWA]
    have bA : WA.heap[W.heap.size]? = some (.cells #[.int .i64 1, .int .i64 1, .int .i64 60, .slice none 0 0] 57 (0, 0)) := by rw [hWA]; exact blk_new _ _
    have HC := Aside0.mk (C_block k57 (ps := lA) bA (Reps.snoc (Reps.none _ _) (k57_mk WA ⟨1, 1, 60, []⟩ (A3 := none) (c3 := 0) (by decide) (Kd.C_nil k59 WA)) rfl) (by decide))
    replace HXg6 := Aside0.mk (show Blk WA g6 23 cb by rw [hWA]; exact HXg6.out.alloc _)
    replace HB := Aside0.mk (show Below w.heap.size w WA by rw [hWA]; exact below_alloc HB.out _)
    clear bA hWA
    refine (Of_calls lA _ 1 _ HC.out (by decide)).mono ?_
    rintro e w3 ⟨rfl, hb1⟩
    rw [lA_graph]
    replace HB := Aside0.mk (below_step HB.out hb1)
    replace HXg6 := Aside0.mk (HXg6.out.below hb1)
    clear hb1 HC
    go_wp2_with (first | ((with_reducible refine gate_dst (N := 9) rfl ?_); refine box_event ?hg (N := 9) ?hd (cs := AV zs16) (t := 23) ?hr ?_; (case hd => rfl); (case hg => rfl); (case hr => first | (go_simp; done) | (go_simp; rfl)); intro g9 hg w1 hbox hb1; have HXg9 := Aside0.mk (show Blk w1 g9 23 zs16 from hbox); have HGg9 := Aside0.mk (show w.heap.size ≤ g9 by rw [hg]; exact HB.out.size); have HN6g9 := Aside0.mk (show g6 ≠ g9 by rw [hg]; exact Nat.ne_of_lt HXg6.out.lt); replace HXg6 := Aside0.mk (HXg6.out.below hb1); replace HB := Aside0.mk (below_step HB.out hb1); clear hbox hb1 hg) | ((with_reducible refine gate_store (p := 9) rfl ?_); refine wpL_store rfl rfl rfl (c := zs16) rfl HXg9.out size23 rfl ?_; intro w4 hX2 hP2; replace HXg9 := Aside0.mk hX2; replace HXg6 := Aside0.mk (HXg6.out.put hP2 HN6g9.out); replace HB := Aside0.mk (hP2.below _ _ HB.out HGg9.out); clear hX2 hP2))
    obtain ⟨WB, hWB⟩ : ∃ X, X = w4.alloc (.cells #[.int .i64 2, .int .i64 1, .int .i64 0, .slice none 0 0, .int .i64 1, .int .i64 1, .int .i64 0, .slice none 0 0] 57) := ⟨_, rfl⟩
    rw [← hWB]
    have bB : WB.heap[w4.heap.size]? = some (.cells #[.int .i64 2, .int .i64 1, .int .i64 0, .slice none 0 0, .int .i64 1, .int .i64 1, .int .i64 0, .slice none 0 0] 57 (0, 0)) := by rw [hWB]; exact blk_new _ _
    have HC := Aside0.mk (C_block k57 (ps := lB) bB (Reps.snoc (Reps.snoc (Reps.none _ _) (k57_mk WB ⟨2, 1, 0, []⟩ (A3 := none) (c3 := 0) (by decide) (Kd.C_nil k59 WB)) rfl) (k57_mk WB ⟨1, 1, 0, []⟩ (A3 := none) (c3 := 0) (by decide) (Kd.C_nil k59 WB)) rfl) (by decide))
    replace HXg6 := Aside0.mk (show Blk WB g6 23 cb by rw [hWB]; exact HXg6.out.alloc _)
    replace HB := Aside0.mk (show Below w.heap.size w WB by rw [hWB]; exact below_alloc HB.out _)
    clear bB hWB
    refine (Of_calls lB _ 2 _ HC.out (by decide)).mono ?_
    rintro e w5 ⟨rfl, hb1⟩
    rw [lB_graph]
    replace HB := Aside0.mk (below_step HB.out hb1)
    replace HXg6 := Aside0.mk (HXg6.out.below hb1)
    clear hb1 HC
    go_wp2_with (first | ((with_reducible refine gate_dst (N := 11) rfl ?_); refine box_event ?hg (N := 11) ?hd (cs := AV zs16) (t := 23) ?hr ?_; (case hd => rfl); (case hg => rfl); (case hr => first | (go_simp; done) | (go_simp; rfl)); intro g11 hg w1 hbox hb1; have HXg11 := Aside0.mk (show Blk w1 g11 23 zs16 from hbox); have HGg11 := Aside0.mk (show w.heap.size ≤ g11 by rw [hg]; exact HB.out.size); have HN6g11 := Aside0.mk (show g6 ≠ g11 by rw [hg]; exact Nat.ne_of_lt HXg6.out.lt); replace HXg6 := Aside0.mk (HXg6.out.below hb1); replace HB := Aside0.mk (below_step HB.out hb1); clear hbox hb1 hg) | ((with_reducible refine gate_store (p := 11) rfl ?_); refine wpL_store rfl rfl rfl (c := zs16) rfl HXg11.out size23 rfl ?_; intro w4 hX2 hP2; replace HXg11 := Aside0.mk hX2; replace HXg6 := Aside0.mk (HXg6.out.put hP2 HN6g11.out); replace HB := Aside0.mk (hP2.below _ _ HB.out HGg11.out); clear hX2 hP2))
    refine (Of_calls [] none 0 _ (Kd.C_nil k57 _) (by decide)).mono ?_
    rintro e w6 ⟨rfl, hb1⟩
    rw [l0_graph]
    replace HB := Aside0.mk (below_step HB.out hb1)
    replace HXg6 := Aside0.mk (HXg6.out.below hb1)
    clear hb1
    go_wp2_with (first | ((with_reducible refine gate_dst (N := 13) rfl ?_); refine box_event ?hg (N := 13) ?hd (cs := AV zs16) (t := 23) ?hr ?_; (case hd => rfl); (case hg => rfl); (case hr => first | (go_simp; done) | (go_simp; rfl)); intro g13 hg w1 hbox hb1; have HXg13 := Aside0.mk (show Blk w1 g13 23 zs16 from hbox); have HGg13 := Aside0.mk (show w.heap.size ≤ g13 by rw [hg]; exact HB.out.size); have HN6g13 := Aside0.mk (show g6 ≠ g13 by rw [hg]; exact Nat.ne_of_lt HXg6.out.lt); replace HXg6 := Aside0.mk (HXg6.out.below hb1); replace HB := Aside0.mk (below_step HB.out hb1); clear hbox hb1 hg) | ((with_reducible refine gate_store (p := 13) rfl ?_); refine wpL_store rfl rfl rfl (c := zs16) rfl HXg13.out size23 rfl ?_; intro w4 hX2 hP2; replace HXg13 := Aside0.mk hX2; replace HXg6 := Aside0.mk (HXg6.out.put hP2 HN6g13.out); replace HB := Aside0.mk (hP2.below _ _ HB.out HGg13.out); clear hX2 hP2) | ((with_reducible refine gate_dst (N := 56) rfl ?_); refine wpL_load rfl rfl rfl HXg6.out Try.underlying23 (by rw [HCL.out]; exact size23) ?_))
    refine (May_calls cb HCL.out _).mono ?_
    rintro e w7 ⟨rfl, hb1⟩
    rw [HK.out]
    replace HB := Aside0.mk (below_step HB.out hb1)
    replace HXg13 := Aside0.mk (HXg13.out.below hb1)
    clear hb1
    have e0 : w7.cell? ⟨g13, 0, none⟩ = some (.int .i64 0) := HXg13.out.cell 0 (by decide)
    have e1 : w7.cell? ⟨g13, 1, none⟩ = some (.int .i64 0) := HXg13.out.cell 1 (by decide)
    have e2 : w7.cell? ⟨g13, 2, none⟩ = some (.int .i64 0) := HXg13.out.cell 2 (by decide)
    have e3 : w7.cell? ⟨g13, 3, none⟩ = some (.int .i64 0) := HXg13.out.cell 3 (by decide)
    have e4 : w7.cell? ⟨g13, 4, none⟩ = some (.int .i64 0) := HXg13.out.cell 4 (by decide)
    have e5 : w7.cell? ⟨g13, 5, none⟩ = some (.int .i64 0) := HXg13.out.cell 5 (by decide)
    have e6 : w7.cell? ⟨g13, 6, none⟩ = some (.int .i64 0) := HXg13.out.cell 6 (by decide)
    have e7 : w7.cell? ⟨g13, 7, none⟩ = some (.int .i64 0) := HXg13.out.cell 7 (by decide)
    have e8 : w7.cell? ⟨g13, 8, none⟩ = some (.int .i64 0) := HXg13.out.cell 8 (by decide)
    have e9 : w7.cell? ⟨g13, 9, none⟩ = some (.int .i64 0) := HXg13.out.cell 9 (by decide)
    have e10 : w7.cell? ⟨g13, 10, none⟩ = some (.int .i64 0) := HXg13.out.cell 10 (by decide)
    have e11 : w7.cell? ⟨g13, 11, none⟩ = some (.int .i64 0) := HXg13.out.cell 11 (by decide)
    have e12 : w7.cell? ⟨g13, 12, none⟩ = some (.int .i64 0) := HXg13.out.cell 12 (by decide)
    have e13 : w7.cell? ⟨g13, 13, none⟩ = some (.int .i64 0) := HXg13.out.cell 13 (by decide)
    have e14 : w7.cell? ⟨g13, 14, none⟩ = some (.int .i64 0) := HXg13.out.cell 14 (by decide)
    have e15 : w7.cell? ⟨g13, 15, none⟩ = some (.int .i64 0) := HXg13.out.cell 15 (by decide)
    have heq : ∀ W : World, (Op.equalIn 10000 23 (.agg #[.int .i64 0, .int .i64 0, .int .i64 0, .int .i64 0, .int .i64 0, .int .i64 0, .int .i64 0, .int .i64 0, .int .i64 0, .int .i64 0, .int .i64 0, .int .i64 0, .int .i64 0, .int .i64 0, .int .i64 0, .int .i64 0]) (.agg #[.int .i64 0, .int .i64 0, .int .i64 0, .int .i64 0, .int .i64 0, .int .i64 0, .int .i64 0, .int .i64 0, .int .i64 0, .int .i64 0, .int .i64 0, .int .i64 0, .int .i64 0, .int .i64 0, .int .i64 0, .int .i64 0])).run Try.prog W = .ok true W := fun W => (eq_arr zs16 zs16 rfl rfl W).trans (by rw [decide_eq_true rfl])
    go_wp2_with (first | (go_at_call 16; go_in))
    go_ret
    exact ⟨rfl, HB.out⟩
end Go.Proofs.Ytjficnndocjodaa.H
