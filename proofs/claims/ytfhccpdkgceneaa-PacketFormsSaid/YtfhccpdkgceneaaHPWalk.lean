/- The walks of PacketForms and of its 'awake'. -/
import Derived.Test.YtfhccpdkgceneaaHPPure
import Derived.Deep.RegionHeld3
import Derived.StillTailTactics
import Derived.IntWalk
namespace Go.Proofs.Ytfhccpdkgceneaa.K
open Go.RowKit Go.Proofs.YtfhccpdkgceneaaW.PrintWords Go.Proofs.YtfhccpdkgceneaaW.PrintLast Go.Proofs.YtfhccpdkgceneaaW.PrintMore
open Go.Proofs.Ytfhccpdkgceneaa.PPacketForms
set_option linter.unusedVariables false
set_option linter.unusedSimpArgs false

theorem C_block {α : Type} (d : Kd α) {w : World} {g : Nat} {t : TypeId} {fr : Nat × Nat} {cs : List Value} {ps : List α} (hb : w.heap[g]? = some (.cells cs.toArray t fr)) (hR : Reps (d.K w) d.sz ps cs) (hn : ps.length ≤ 9223372036854775807) :
    d.C w (some ⟨g, 0, none⟩) ps.length ps := by
  refine ⟨rfl, hn, fun _ => ⟨_, rfl, fun j p hj => ⟨(cs.drop (j * d.sz)).take d.sz, ?_, hR.2 j p hj, fun i u hu => ?_⟩⟩⟩
  · have hjl := (List.getElem?_eq_some_iff.1 hj).1
    have h1 : j * d.sz + d.sz ≤ cs.length := by rw [hR.1, ← Nat.succ_mul]; exact Nat.mul_le_mul_right _ hjl
    rw [List.length_take, List.length_drop]; omega
  · rw [add_plain, cell_of_row w g _ _ _ _ hb]
    rw [List.getElem?_take] at hu
    split at hu
    · rw [List.getElem?_drop] at hu
      simpa using hu
    · cases hu

set_option maxHeartbeats 4000000 in
set_option maxRecDepth 100000 in
theorem awake12_calls (w : World) : Calls Try.prog 25 #[] w fun e w' => e = .returned (.bool true) ∧ Below w.heap.size w w' := by
  have HB := Aside0.mk (Below.refl w.heap.size w)
  go_enter Try.func25, Try.ntmps25
  go_wp2_with (fail)
  obtain ⟨W1, hW1⟩ : ∃ W, W = w.alloc (.cells #[.int .i64 1, .int .i64 3] 3) := ⟨_, rfl⟩
  obtain ⟨W2, hW2⟩ : ∃ W, W = W1.alloc (.cells #[.int .i64 1, .int .i64 2, .slice (some ⟨w.heap.size, 0, none⟩) 2 2, .slice none 0 0, .slice none 0 0] 44) := ⟨_, rfl⟩
  rw [← hW1, ← hW2]
  have z1 : W1.heap.size = w.heap.size + 1 := by rw [hW1]; simp
  have b1 : W2.heap[w.heap.size]? = some (.cells #[.int .i64 1, .int .i64 3] 3 (0, 0)) := by rw [hW2]; refine blk_alloc ?_ _; rw [hW1]; exact blk_new _ _
  have BK1 := Aside0.mk (show W2.heap[w.heap.size + 1]? = some (.cells #[.int .i64 1, .int .i64 2, .slice (some ⟨w.heap.size, 0, none⟩) 2 2, .slice none 0 0, .slice none 0 0] 44 (0, 0)) by rw [hW2, ← z1]; exact blk_new _ _)
  have HCh := Aside0.mk (C_block (Kd.int .i64) (ps := [1, 3]) b1 (Reps.snoc (Reps.snoc (Reps.none _ _) (show (Kd.int .i64).K W2 1 [.int .i64 1] from rfl) rfl) (show (Kd.int .i64).K W2 3 [.int .i64 3] from rfl) rfl) (by decide))
  replace HB := Aside0.mk (show Below w.heap.size w W2 by rw [hW2, hW1]; exact below_alloc (below_alloc HB.out _) _)
  clear b1 z1 hW1 hW2
  refine (packet_Put.calls 60 1 2 _ 2 [1, 3] none 0 [] none 0 [] tp 0 _ HCh.out (by decide) (Kd.C_nil _ _) (Nat.le_refl _) (Kd.C_nil _ _) (Nat.le_refl _) put_tp).mono ?_
  rintro e w1 ⟨rfl, hb1⟩
  replace HB := Aside0.mk (below_step HB.out hb1)
  replace BK1 := Aside0.mk (blk_below BK1.out hb1)
  replace HCh := Aside0.mk (Kd.C_below HCh.out hb1)
  clear hb1
  have t1 : (tp.toList == ByteArray.toList ⟨#[2, 1, 0, 15, 0, 0, 0, 2, 0, 0, 0, 0, 2, 1, 3]⟩) = true := by rw [show tp = ⟨#[2, 1, 0, 15, 0, 0, 0, 2, 0, 0, 0, 0, 2, 1, 3]⟩ from rfl]; simp
  have t2 : (tp == ⟨#[2, 1, 0, 15, 0, 0, 0, 2, 0, 0, 0, 0, 2, 1, 3]⟩) = true := by decide
  have t3 : (tp = ⟨#[2, 1, 0, 15, 0, 0, 0, 2, 0, 0, 0, 0, 2, 1, 3]⟩) = True := by decide
  generalize hta : tp = tx at *
  have HT := Aside0.mk hta
  clear hta
  go_upto_region 6 with (first | (go_at_call 19; (with_reducible change Calls Try.prog _ #[Value.string tx] _ _); refine (packet_Get.calls 60 tx 1 2 [1, 3] [] [] 0 _ (by rw [← HT.out]; exact get_tp)).mono ?_; rintro e w2 ⟨v2, v3, v4, rfl, h2, h3, h4, hb1⟩; obtain ⟨Ag2, cg2, hv2, hc2, hC2⟩ := Kd.R_reads h2; subst hv2; obtain ⟨Ag3, cg3, hv3, hc3, hC3⟩ := Kd.S_reads h3; subst hv3; obtain ⟨Ag4, cg4, hv4, hc4, hC4⟩ := Kd.R_reads h4; subst hv4; replace HB := Aside0.mk (below_step HB.out hb1); replace BK1 := Aside0.mk (blk_below BK1.out hb1); replace HCh := Aside0.mk (Kd.C_below HCh.out hb1); have HG2 := Aside0.mk hC2; have HG3 := Aside0.mk hC3; have HG4 := Aside0.mk hC4; have HL2 := Aside0.mk hc2; have HL3 := Aside0.mk hc3; have HL4 := Aside0.mk hc4; clear hb1 h2 h3 h4 hc2 hc3 hc4 hC2 hC3 hC4) | (go_at_call 17; (with_reducible change Calls Try.prog _ #[Value.agg #[.int .i64 0, .int .i64 0, .slice none 0 0, .slice none 0 0, .slice none 0 0]] _ _); refine (packet_Put.calls 60 0 0 none 0 [] none 0 [] none 0 [] ⟨#[]⟩ 1200 _ (Kd.C_nil _ _) (Nat.le_refl _) (Kd.C_nil _ _) (Nat.le_refl _) (Kd.C_nil _ _) (Nat.le_refl _) put_zero).mono ?_; rintro e w3 ⟨rfl, hb1⟩; have BK4 := Aside0.mk (blk_below (blk_new w2 (.cells #[.int .i64 1, .int .i64 2, .slice Ag2 2 cg2, .slice Ag3 0 cg3, .slice Ag4 0 cg4] 44)) hb1); replace HB := Aside0.mk (below_step (below_alloc HB.out _) hb1); replace BK1 := Aside0.mk (blk_below (blk_alloc BK1.out _) hb1); replace HCh := Aside0.mk (Kd.C_below (Kd.C_alloc HCh.out _) hb1); replace HG2 := Aside0.mk (Kd.C_below (Kd.C_alloc HG2.out _) hb1); replace HG3 := Aside0.mk (Kd.C_below (Kd.C_alloc HG3.out _) hb1); replace HG4 := Aside0.mk (Kd.C_below (Kd.C_alloc HG4.out _) hb1); clear hb1) | (go_at_call 19; (with_reducible change Calls Try.prog _ #[Value.string ⟨#[]⟩] _ _); refine (packet_Get.calls 60 ⟨#[]⟩ 0 0 [] [] [] 1200 _ get_nil).mono ?_; rintro e w5 ⟨v2, v3, v4, rfl, h2, h3, h4, hb1⟩; obtain ⟨Az2, cz2, hv2, hc2, hC2⟩ := Kd.R_reads h2; subst hv2; obtain ⟨Az3, cz3, hv3, hc3, hC3⟩ := Kd.S_reads h3; subst hv3; obtain ⟨Az4, cz4, hv4, hc4, hC4⟩ := Kd.R_reads h4; subst hv4; replace HB := Aside0.mk (below_step HB.out hb1); replace BK1 := Aside0.mk (blk_below BK1.out hb1); replace BK4 := Aside0.mk (blk_below BK4.out hb1); replace HCh := Aside0.mk (Kd.C_below HCh.out hb1); replace HG2 := Aside0.mk (Kd.C_below HG2.out hb1); replace HG3 := Aside0.mk (Kd.C_below HG3.out hb1); replace HG4 := Aside0.mk (Kd.C_below HG4.out hb1); clear hb1 h2 h3 h4 hc2 hc3 hc4 hC2 hC3 hC4))
  replace HB := Aside0.mk (below_alloc HB.out (.cells #[.int .i64 0, .int .i64 0, .slice Az2 0 cz2, .slice Az3 0 cz3, .slice Az4 0 cz4] 44))
  replace BK1 := Aside0.mk (blk_alloc BK1.out (.cells #[.int .i64 0, .int .i64 0, .slice Az2 0 cz2, .slice Az3 0 cz3, .slice Az4 0 cz4] 44))
  replace BK4 := Aside0.mk (blk_alloc BK4.out (.cells #[.int .i64 0, .int .i64 0, .slice Az2 0 cz2, .slice Az3 0 cz3, .slice Az4 0 cz4] 44))
  replace HCh := Aside0.mk (Kd.C_alloc HCh.out (.cells #[.int .i64 0, .int .i64 0, .slice Az2 0 cz2, .slice Az3 0 cz3, .slice Az4 0 cz4] 44))
  replace HG2 := Aside0.mk (Kd.C_alloc HG2.out (.cells #[.int .i64 0, .int .i64 0, .slice Az2 0 cz2, .slice Az3 0 cz3, .slice Az4 0 cz4] 44))
  replace HG3 := Aside0.mk (Kd.C_alloc HG3.out (.cells #[.int .i64 0, .int .i64 0, .slice Az2 0 cz2, .slice Az3 0 cz3, .slice Az4 0 cz4] 44))
  replace HG4 := Aside0.mk (Kd.C_alloc HG4.out (.cells #[.int .i64 0, .int .i64 0, .slice Az2 0 cz2, .slice Az3 0 cz3, .slice Az4 0 cz4] 44))
  generalize w5.alloc (.cells #[.int .i64 0, .int .i64 0, .slice Az2 0 cz2, .slice Az3 0 cz3, .slice Az4 0 cz4] 44) = w6 at *
  have bk10 : w6.cell? ⟨w.heap.size + 1, 0, none⟩ = some (.int .i64 1) := (blk_cell BK1.out 0).trans rfl
  have bk11 : w6.cell? ⟨w.heap.size + 1, 1, none⟩ = some (.int .i64 2) := (blk_cell BK1.out 1).trans rfl
  have bk12 : w6.cell? ⟨w.heap.size + 1, 2, none⟩ = some (.slice (some ⟨w.heap.size, 0, none⟩) 2 2) := (blk_cell BK1.out 2).trans rfl
  have bk13 : w6.cell? ⟨w.heap.size + 1, 3, none⟩ = some (.slice none 0 0) := (blk_cell BK1.out 3).trans rfl
  have bk14 : w6.cell? ⟨w.heap.size + 1, 4, none⟩ = some (.slice none 0 0) := (blk_cell BK1.out 4).trans rfl
  have bk40 : w6.cell? ⟨w2.heap.size, 0, none⟩ = some (.int .i64 1) := (blk_cell BK4.out 0).trans rfl
  have bk41 : w6.cell? ⟨w2.heap.size, 1, none⟩ = some (.int .i64 2) := (blk_cell BK4.out 1).trans rfl
  have bk42 : w6.cell? ⟨w2.heap.size, 2, none⟩ = some (.slice Ag2 2 cg2) := (blk_cell BK4.out 2).trans rfl
  have bk43 : w6.cell? ⟨w2.heap.size, 3, none⟩ = some (.slice Ag3 0 cg3) := (blk_cell BK4.out 3).trans rfl
  have bk44 : w6.cell? ⟨w2.heap.size, 4, none⟩ = some (.slice Ag4 0 cg4) := (blk_cell BK4.out 4).trans rfl
  have hT := HT.out
  subst hT
  clear t1 t2 t3 HT
  unfold tp
  go_wp2_with (first | (go_at_call 9; go_in) | (go_at_call 21; refine (watchwordlaw0_SamePacket.calls 60 1 2 _ 2 [1, 3] none 0 [] none 0 [] 1 2 Ag2 cg2 [1, 3] Ag3 cg3 [] Ag4 cg4 [] true _ HCh.out (by decide) (Kd.C_nil _ _) (Nat.le_refl _) (Kd.C_nil _ _) (Nat.le_refl _) HG2.out HL2.out HG3.out HL3.out HG4.out HL4.out same_tp).mono ?_; rintro e w7 ⟨rfl, hb1⟩; replace HB := Aside0.mk (below_step HB.out hb1); replace BK1 := Aside0.mk (blk_below BK1.out hb1); replace HCh := Aside0.mk (Kd.C_below HCh.out hb1); clear hb1 bk10 bk11 bk12 bk13 bk14; have bk10 : w7.cell? ⟨w.heap.size + 1, 0, none⟩ = some (.int .i64 1) := (blk_cell BK1.out 0).trans rfl; have bk11 : w7.cell? ⟨w.heap.size + 1, 1, none⟩ = some (.int .i64 2) := (blk_cell BK1.out 1).trans rfl; have bk12 : w7.cell? ⟨w.heap.size + 1, 2, none⟩ = some (.slice (some ⟨w.heap.size, 0, none⟩) 2 2) := (blk_cell BK1.out 2).trans rfl; have bk13 : w7.cell? ⟨w.heap.size + 1, 3, none⟩ = some (.slice none 0 0) := (blk_cell BK1.out 3).trans rfl; have bk14 : w7.cell? ⟨w.heap.size + 1, 4, none⟩ = some (.slice none 0 0) := (blk_cell BK1.out 4).trans rfl) | (go_at_call 22; refine (packet_May.calls 60 1 2 _ 2 [1, 3] none 0 [] none 0 [] true _ HCh.out (by decide) (Kd.C_nil _ _) (Nat.le_refl _) (Kd.C_nil _ _) (Nat.le_refl _) may_tp).mono ?_; rintro e w8 ⟨rfl, hb1⟩; replace HB := Aside0.mk (below_step HB.out hb1); clear hb1))
  go_ret
  exact ⟨rfl, HB.out⟩
theorem mod_k (z : Int) (n : Nat) (h0 : 0 < n) (h : n ≤ 9223372036854775807) : ∃ k : Nat, wrap64 ((IntKind.u64.wrap z).tmod (n : Int)) = (k : Int) ∧ k < n := by
  have h1 : 0 ≤ IntKind.u64.wrap z := by rw [IntKind.wrap_u64]; omega
  rw [Int.tmod_eq_emod_of_nonneg h1]
  have h2 := Int.emod_nonneg (IntKind.u64.wrap z) (show (n : Int) ≠ 0 by omega)
  have h3 := Int.emod_lt_of_pos (IntKind.u64.wrap z) (show (0 : Int) < n by omega)
  generalize IntKind.u64.wrap z % (n : Int) = y at h2 h3 ⊢
  refine ⟨y.toNat, ?_, by omega⟩
  unfold wrap64
  omega

end Go.Proofs.Ytfhccpdkgceneaa.K
