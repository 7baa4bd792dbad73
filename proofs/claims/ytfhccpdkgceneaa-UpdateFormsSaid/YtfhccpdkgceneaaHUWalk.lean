/- The walks of UpdateForms and of its 'awake'. -/
import Derived.Test.YtfhccpdkgceneaaHUPure
import Derived.Deep.RegionHeld3
import Derived.StillTailTactics
import Derived.IntWalk
namespace Go.Proofs.Ytfhccpdkgceneaa.U
open Go.RowKit Go.Proofs.YtfhccpdkgceneaaW.PrintWords Go.Proofs.YtfhccpdkgceneaaW.PrintLast Go.Proofs.YtfhccpdkgceneaaW.PrintMore
open Go.Proofs.Ytfhccpdkgceneaa.PUpdateForms
set_option linter.unusedVariables false
set_option linter.unusedSimpArgs false

theorem C_block {α : Type} (d : Kd α) {w : World} {g : Nat} {t : TypeId} {fr : Nat × Nat} {cs : List Value} {ps : List α} (hb : w.heap[g]? = some (.cells cs.toArray t fr)) (hR : Reps (d.K w) d.sz ps cs) (hn : ps.length ≤ 9223372036854775807) :
    d.C w (some ⟨g, 0, none⟩) ps.length ps := by
  refine ⟨rfl, hn, fun _ => ⟨_, rfl, fun j p hj => ⟨(cs.drop (j * d.sz)).take d.sz, ?_, hR.2 j p hj, fun i u hu => ?_⟩⟩⟩
  · have hjl := (List.getElem?_eq_some_iff.1 hj).1
    have h1 : j * d.sz + d.sz ≤ cs.length := by rw [hR.1, ← Nat.succ_mul]; exact Nat.mul_le_mul_right _ hjl
    rw [List.length_take, List.length_drop]; omega
  · rw [add_plain, cell_of_row w g _ _ _ _ hb]
    rw [List.getElem?_take] at hu
    split at hu
    · rw [List.getElem?_drop] at hu
      simpa using hu
    · cases hu

theorem mod_k (z : Int) (n : Nat) (h0 : 0 < n) (h : n ≤ 9223372036854775807) : ∃ k : Nat, wrap64 ((IntKind.u64.wrap z).tmod (n : Int)) = (k : Int) ∧ k < n := by
  have h1 : 0 ≤ IntKind.u64.wrap z := by rw [IntKind.wrap_u64]; omega
  rw [Int.tmod_eq_emod_of_nonneg h1]
  have h2 := Int.emod_nonneg (IntKind.u64.wrap z) (show (n : Int) ≠ 0 by omega)
  have h3 := Int.emod_lt_of_pos (IntKind.u64.wrap z) (show (0 : Int) < n by omega)
  generalize IntKind.u64.wrap z % (n : Int) = y at h2 h3 ⊢
  refine ⟨y.toNat, ?_, by omega⟩
  unfold wrap64
  omega

set_option maxHeartbeats 4000000 in
set_option maxRecDepth 100000 in
theorem awake10_calls (w : World) : Calls Try.prog 12 #[] w fun e w' => e = .returned (.bool true) ∧ Below w.heap.size w w' := by
  have HB := Aside0.mk (Below.refl w.heap.size w)
  go_enter Try.func12, Try.ntmps12
  go_wp2_with (fail)
  obtain ⟨W1, hW1⟩ : ∃ W, W = w.alloc (.cells #[.int .i64 1, .int .i64 9] 62) := ⟨_, rfl⟩
  obtain ⟨W2, hW2⟩ : ∃ W, W = W1.alloc (.cells #[.int .i64 1, .int .i64 5, .int .i64 0, .slice none 0 0, .int .i64 3, .int .i64 6, .int .i64 0, .slice (some ⟨w.heap.size, 0, none⟩) 1 1] 29) := ⟨_, rfl⟩
  rw [← hW1, ← hW2]
  have z1 : W1.heap.size = w.heap.size + 1 := by rw [hW1]; simp
  have b1 : W2.heap[w.heap.size]? = some (.cells #[.int .i64 1, .int .i64 9] 62 (0, 0)) := by rw [hW2]; refine blk_alloc ?_ _; rw [hW1]; exact blk_new _ _
  have b2 : W2.heap[w.heap.size + 1]? = some (.cells #[.int .i64 1, .int .i64 5, .int .i64 0, .slice none 0 0, .int .i64 3, .int .i64 6, .int .i64 0, .slice (some ⟨w.heap.size, 0, none⟩) 1 1] 29 (0, 0)) := by rw [hW2, ← z1]; exact blk_new _ _
  have k1 := k29_mk W2 uA (A3 := none) (c3 := 0) (by decide) (Kd.C_nil k62 W2)
  have k2 := k29_mk W2 uS (A3 := some ⟨w.heap.size, 0, none⟩) (c3 := 1) (by decide) (C_block k62 (ps := [⟨1, 9⟩]) b1 (Reps.snoc (Reps.none _ _) (k62_mk W2 ⟨1, 9⟩) rfl) (by decide))
  have HC := Aside0.mk (C_block k29 (ps := [uA, uS]) b2 (Reps.snoc (Reps.snoc (Reps.none _ _) k1 rfl) k2 rfl) (by decide))
  replace HB := Aside0.mk (show Below w.heap.size w W2 by rw [hW2, hW1]; exact below_alloc (below_alloc HB.out _) _)
  clear b1 b2 k1 k2 z1 hW1 hW2
  refine (update_Put.calls 60 _ 2 [uA, uS] ta 0 _ HC.out (by decide) put_ta).mono ?_
  rintro e w1 ⟨rfl, hb1⟩
  replace HB := Aside0.mk (below_step HB.out hb1)
  replace HC := Aside0.mk (Kd.C_below HC.out hb1)
  clear hb1
  have HTA := Aside0.mk (show ta.size = 22 by decide)
  have tas : ta.size = 22 := HTA.out
  generalize hta : ta = tx at *
  have HT := Aside0.mk hta
  clear hta
  go_wp2_with (first | (go_at_call 14; (with_reducible change Calls Try.prog _ #[Value.string tx] _ _); refine (update_Get.calls 60 tx [uA, uS] 0 _ (by rw [← HT.out]; exact get_ta)).mono ?_; rintro e w2 ⟨v0, rfl, hs, hb1⟩; obtain ⟨A2, c2, hv2, hc2, hC2⟩ := Kd.S_reads hs; subst hv2; have HC2 := Aside0.mk hC2; have HLC2 := Aside0.mk hc2; replace HB := Aside0.mk (below_step HB.out hb1); replace HC := Aside0.mk (Kd.C_below HC.out hb1); clear hb1 hs hc2 hC2))
  obtain ⟨W5, hW5⟩ : ∃ W, W = w2.alloc (.cells #[.int .i64 0, .int .i64 0, .int .i64 0, .slice none 0 0] 29) := ⟨_, rfl⟩
  rw [← hW5]
  have b5 : W5.heap[w2.heap.size]? = some (.cells #[.int .i64 0, .int .i64 0, .int .i64 0, .slice none 0 0] 29 (0, 0)) := by rw [hW5]; exact blk_new _ _
  have HZ := Aside0.mk (C_block k29 (ps := [⟨0, 0, 0, []⟩]) b5 (Reps.snoc (Reps.none _ _) (k29_mk W5 ⟨0, 0, 0, []⟩ (A3 := none) (c3 := 0) (by decide) (Kd.C_nil k62 W5)) rfl) (by decide))
  replace HC := Aside0.mk (show Kd.C k29 W5 _ _ _ by rw [hW5]; exact Kd.C_alloc HC.out _)
  replace HC2 := Aside0.mk (show Kd.C k29 W5 _ _ _ by rw [hW5]; exact Kd.C_alloc HC2.out _)
  replace HB := Aside0.mk (show Below w.heap.size w W5 by rw [hW5]; exact below_alloc HB.out _)
  clear b5 hW5
  refine (update_Put.calls 60 _ 1 [⟨0, 0, 0, []⟩] ⟨#[]⟩ 1000 _ HZ.out (by decide) put_zero).mono ?_
  rintro e w3 ⟨rfl, hb1⟩
  replace HB := Aside0.mk (below_step HB.out hb1)
  replace HC := Aside0.mk (Kd.C_below HC.out hb1)
  replace HC2 := Aside0.mk (Kd.C_below HC2.out hb1)
  clear hb1 HZ
  go_wp2_with (first | (go_at_call 14; (with_reducible change Calls Try.prog _ #[Value.string ⟨#[]⟩] _ _); refine (update_Get.calls 60 ⟨#[]⟩ [] 1000 _ get_nil).mono ?_; rintro e w2 ⟨v0, rfl, hs, hb1⟩; replace HB := Aside0.mk (below_step HB.out hb1); replace HC := Aside0.mk (Kd.C_below HC.out hb1); replace HC2 := Aside0.mk (Kd.C_below HC2.out hb1); clear hb1 hs) | (go_at_call 14; (with_reducible change Calls Try.prog _ #[Value.string ⟨#[0]⟩] _ _); refine (update_Get.calls 60 ⟨#[0]⟩ [] 0 _ get_none).mono ?_; rintro e w2 ⟨v0, rfl, hs, hb1⟩; obtain ⟨A9, c9, hv2⟩ := Kd.S_slice hs; subst hv2; replace HB := Aside0.mk (below_step HB.out hb1); replace HC := Aside0.mk (Kd.C_below HC.out hb1); replace HC2 := Aside0.mk (Kd.C_below HC2.out hb1); clear hb1 hs) | (go_at_call 9; go_in) | (go_at_call 34; refine (watchwordlaw0_SameLsas.calls 60 _ 2 [uA, uS] _ c2 [uA, uS] true _ HC.out (by decide) HC2.out HLC2.out same_ta).mono ?_; rintro e w2 ⟨rfl, hb1⟩; first | (replace HB := Aside0.mk (below_step HB.out hb1); replace HC := Aside0.mk (Kd.C_below HC.out hb1); clear hb1) | (obtain ⟨n1, rfl⟩ := hb1; replace HB := Aside0.mk (pw_below_drewN HB.out n1); replace HC := Aside0.mk (Kd.C_drewN HC.out n1))) | (go_at_call 15; refine (update_May.calls 60 _ 2 [uA, uS] true _ HC.out (by decide) may_ta).mono ?_; rintro e w2 ⟨rfl, hb1⟩; replace HB := Aside0.mk (below_step HB.out hb1); clear hb1))
  go_ret
  exact ⟨rfl, HB.out⟩

def wb (w : World) : World := ((((((((w.alloc (.cells #[.int .i64 1, .int .i64 5, .int .i64 0, .slice none 0 0] 29)).alloc (.cells #[.int .i64 3, .int .i64 6, .int .i64 0, .slice none 0 0] 29)).alloc (.cells #[.int .i64 0, .int .i64 0, .int .i64 0, .slice none 0 0] 29)).alloc (.cells #[.int .i64 3, .int .i64 6, .int .i64 0, .slice none 0 0, .int .i64 1, .int .i64 5, .int .i64 0, .slice none 0 0] 29)).alloc (.cells #[.int .i64 1, .int .i64 5, .int .i64 0, .slice none 0 0, .int .i64 1, .int .i64 5, .int .i64 0, .slice none 0 0] 29)).alloc (.cells #[.int .i64 1, .int .i64 5, .int .i64 0, .slice none 0 0, .int .i64 2, .int .i64 0, .int .i64 0, .slice none 0 0, .int .i64 3, .int .i64 6, .int .i64 0, .slice none 0 0] 29)).alloc (.cells #[.int .i64 1, .int .i64 5, .int .i64 0, .slice none 0 0, .int .i64 2, .int .i64 1, .int .i64 0, .slice none 0 0, .int .i64 3, .int .i64 6, .int .i64 0, .slice none 0 0, .int .i64 4, .int .i64 1, .int .i64 0, .slice none 0 0, .int .i64 4, .int .i64 2, .int .i64 0, .slice none 0 0] 29)).alloc (.cells #[.slice (some ⟨w.heap.size + 1 + 1, 0, none⟩) 1 1, .slice (some ⟨w.heap.size + 1 + 1 + 1, 0, none⟩) 2 2, .slice (some ⟨w.heap.size + 1 + 1 + 1 + 1, 0, none⟩) 2 2, .slice (some ⟨w.heap.size + 1 + 1 + 1 + 1 + 1, 0, none⟩) 3 3, .slice (some ⟨w.heap.size + 1 + 1 + 1 + 1 + 1 + 1, 0, none⟩) 5 5] 22))
theorem wb_below {w0 w : World} (h : Below w0.heap.size w0 w) : Below w0.heap.size w0 (wb w) := below_alloc (below_alloc (below_alloc (below_alloc (below_alloc (below_alloc (below_alloc (below_alloc h _) _) _) _) _) _) _) _
theorem ch_bA (w : World) (o0 o1 o2 o3 o4 o5 o6 o7 : Obj) : ((((((((w.alloc o0).alloc o1).alloc o2).alloc o3).alloc o4).alloc o5).alloc o6).alloc o7).heap[w.heap.size]? = some o0 := by refine blk_alloc ?_ _; refine blk_alloc ?_ _; refine blk_alloc ?_ _; refine blk_alloc ?_ _; refine blk_alloc ?_ _; refine blk_alloc ?_ _; refine blk_alloc ?_ _; exact blk_new _ _
theorem ch_bB (w : World) (o0 o1 o2 o3 o4 o5 o6 o7 : Obj) : ((((((((w.alloc o0).alloc o1).alloc o2).alloc o3).alloc o4).alloc o5).alloc o6).alloc o7).heap[w.heap.size + 1]? = some o1 := by refine blk_alloc ?_ _; refine blk_alloc ?_ _; refine blk_alloc ?_ _; refine blk_alloc ?_ _; refine blk_alloc ?_ _; refine blk_alloc ?_ _; rw [show w.heap.size + 1 = (w.alloc o0).heap.size by simp]; exact blk_new _ _
theorem ch_b0 (w : World) (o0 o1 o2 o3 o4 o5 o6 o7 : Obj) : ((((((((w.alloc o0).alloc o1).alloc o2).alloc o3).alloc o4).alloc o5).alloc o6).alloc o7).heap[w.heap.size + 1 + 1]? = some o2 := by refine blk_alloc ?_ _; refine blk_alloc ?_ _; refine blk_alloc ?_ _; refine blk_alloc ?_ _; refine blk_alloc ?_ _; rw [show w.heap.size + 1 + 1 = ((w.alloc o0).alloc o1).heap.size by simp]; exact blk_new _ _
theorem ch_b1 (w : World) (o0 o1 o2 o3 o4 o5 o6 o7 : Obj) : ((((((((w.alloc o0).alloc o1).alloc o2).alloc o3).alloc o4).alloc o5).alloc o6).alloc o7).heap[w.heap.size + 1 + 1 + 1]? = some o3 := by refine blk_alloc ?_ _; refine blk_alloc ?_ _; refine blk_alloc ?_ _; refine blk_alloc ?_ _; rw [show w.heap.size + 1 + 1 + 1 = (((w.alloc o0).alloc o1).alloc o2).heap.size by simp]; exact blk_new _ _
theorem ch_b2 (w : World) (o0 o1 o2 o3 o4 o5 o6 o7 : Obj) : ((((((((w.alloc o0).alloc o1).alloc o2).alloc o3).alloc o4).alloc o5).alloc o6).alloc o7).heap[w.heap.size + 1 + 1 + 1 + 1]? = some o4 := by refine blk_alloc ?_ _; refine blk_alloc ?_ _; refine blk_alloc ?_ _; rw [show w.heap.size + 1 + 1 + 1 + 1 = ((((w.alloc o0).alloc o1).alloc o2).alloc o3).heap.size by simp]; exact blk_new _ _
theorem ch_b3 (w : World) (o0 o1 o2 o3 o4 o5 o6 o7 : Obj) : ((((((((w.alloc o0).alloc o1).alloc o2).alloc o3).alloc o4).alloc o5).alloc o6).alloc o7).heap[w.heap.size + 1 + 1 + 1 + 1 + 1]? = some o5 := by refine blk_alloc ?_ _; refine blk_alloc ?_ _; rw [show w.heap.size + 1 + 1 + 1 + 1 + 1 = (((((w.alloc o0).alloc o1).alloc o2).alloc o3).alloc o4).heap.size by simp]; exact blk_new _ _
theorem ch_b4 (w : World) (o0 o1 o2 o3 o4 o5 o6 o7 : Obj) : ((((((((w.alloc o0).alloc o1).alloc o2).alloc o3).alloc o4).alloc o5).alloc o6).alloc o7).heap[w.heap.size + 1 + 1 + 1 + 1 + 1 + 1]? = some o6 := by refine blk_alloc ?_ _; rw [show w.heap.size + 1 + 1 + 1 + 1 + 1 + 1 = ((((((w.alloc o0).alloc o1).alloc o2).alloc o3).alloc o4).alloc o5).heap.size by simp]; exact blk_new _ _
theorem ch_bT (w : World) (o0 o1 o2 o3 o4 o5 o6 o7 : Obj) : ((((((((w.alloc o0).alloc o1).alloc o2).alloc o3).alloc o4).alloc o5).alloc o6).alloc o7).heap[w.heap.size + 1 + 1 + 1 + 1 + 1 + 1 + 1]? = some o7 := by rw [show w.heap.size + 1 + 1 + 1 + 1 + 1 + 1 + 1 = (((((((w.alloc o0).alloc o1).alloc o2).alloc o3).alloc o4).alloc o5).alloc o6).heap.size by simp]; exact blk_new _ _
theorem wb_bA (w : World) : (wb w).heap[w.heap.size]? = some (.cells #[.int .i64 1, .int .i64 5, .int .i64 0, .slice none 0 0] 29 (0, 0)) := ch_bA w _ _ _ _ _ _ _ _
theorem wb_bB (w : World) : (wb w).heap[w.heap.size + 1]? = some (.cells #[.int .i64 3, .int .i64 6, .int .i64 0, .slice none 0 0] 29 (0, 0)) := ch_bB w _ _ _ _ _ _ _ _
theorem wb_bad (w : World) (q : Nat) (hq : q < 5) : ∃ A, (wb w).cell? ⟨w.heap.size + 1 + 1 + 1 + 1 + 1 + 1 + 1, q, none⟩ = some (.slice A (bad q).length (bad q).length) ∧ Kd.C k29 (wb w) A (bad q).length (bad q) := by
  have bt : (wb w).heap[w.heap.size + 1 + 1 + 1 + 1 + 1 + 1 + 1]? = some (.cells #[.slice (some ⟨w.heap.size + 1 + 1, 0, none⟩) 1 1, .slice (some ⟨w.heap.size + 1 + 1 + 1, 0, none⟩) 2 2, .slice (some ⟨w.heap.size + 1 + 1 + 1 + 1, 0, none⟩) 2 2, .slice (some ⟨w.heap.size + 1 + 1 + 1 + 1 + 1, 0, none⟩) 3 3, .slice (some ⟨w.heap.size + 1 + 1 + 1 + 1 + 1 + 1, 0, none⟩) 5 5] 22 (0, 0)) := ch_bT w _ _ _ _ _ _ _ _
  have hk : ∀ x : La, x.f3 = [] → k29.K (wb w) x [.int .i64 x.f0, .int .i64 x.f1, .int .i64 x.f2, .slice none 0 0] := fun x hx => by
    have := k29_mk (wb w) x (A3 := none) (c3 := 0) (by rw [hx]; decide) (by rw [hx]; exact Kd.C_nil k62 _)
    rw [hx] at this
    exact this
  match q, hq with
  | 0, _ => exact ⟨some ⟨w.heap.size + 1 + 1, 0, none⟩, (blk_cell bt 0).trans rfl, C_block k29 (ps := bad 0) (show (wb w).heap[w.heap.size + 1 + 1]? = some (.cells #[.int .i64 0, .int .i64 0, .int .i64 0, .slice none 0 0] 29 (0, 0)) from ch_b0 w _ _ _ _ _ _ _ _) (Reps.snoc (Reps.none _ _) (hk (⟨0, 0, 0, []⟩ : La) rfl) rfl) (by decide)⟩
  | 1, _ => exact ⟨some ⟨w.heap.size + 1 + 1 + 1, 0, none⟩, (blk_cell bt 1).trans rfl, C_block k29 (ps := bad 1) (show (wb w).heap[w.heap.size + 1 + 1 + 1]? = some (.cells #[.int .i64 3, .int .i64 6, .int .i64 0, .slice none 0 0, .int .i64 1, .int .i64 5, .int .i64 0, .slice none 0 0] 29 (0, 0)) from ch_b1 w _ _ _ _ _ _ _ _) (Reps.snoc (Reps.snoc (Reps.none _ _) (hk uB rfl) rfl) (hk uA rfl) rfl) (by decide)⟩
  | 2, _ => exact ⟨some ⟨w.heap.size + 1 + 1 + 1 + 1, 0, none⟩, (blk_cell bt 2).trans rfl, C_block k29 (ps := bad 2) (show (wb w).heap[w.heap.size + 1 + 1 + 1 + 1]? = some (.cells #[.int .i64 1, .int .i64 5, .int .i64 0, .slice none 0 0, .int .i64 1, .int .i64 5, .int .i64 0, .slice none 0 0] 29 (0, 0)) from ch_b2 w _ _ _ _ _ _ _ _) (Reps.snoc (Reps.snoc (Reps.none _ _) (hk uA rfl) rfl) (hk uA rfl) rfl) (by decide)⟩
  | 3, _ => exact ⟨some ⟨w.heap.size + 1 + 1 + 1 + 1 + 1, 0, none⟩, (blk_cell bt 3).trans rfl, C_block k29 (ps := bad 3) (show (wb w).heap[w.heap.size + 1 + 1 + 1 + 1 + 1]? = some (.cells #[.int .i64 1, .int .i64 5, .int .i64 0, .slice none 0 0, .int .i64 2, .int .i64 0, .int .i64 0, .slice none 0 0, .int .i64 3, .int .i64 6, .int .i64 0, .slice none 0 0] 29 (0, 0)) from ch_b3 w _ _ _ _ _ _ _ _) (Reps.snoc (Reps.snoc (Reps.snoc (Reps.none _ _) (hk uA rfl) rfl) (hk (⟨2, 0, 0, []⟩ : La) rfl) rfl) (hk uB rfl) rfl) (by decide)⟩
  | 4, _ => exact ⟨some ⟨w.heap.size + 1 + 1 + 1 + 1 + 1 + 1, 0, none⟩, (blk_cell bt 4).trans rfl, C_block k29 (ps := bad 4) (show (wb w).heap[w.heap.size + 1 + 1 + 1 + 1 + 1 + 1]? = some (.cells #[.int .i64 1, .int .i64 5, .int .i64 0, .slice none 0 0, .int .i64 2, .int .i64 1, .int .i64 0, .slice none 0 0, .int .i64 3, .int .i64 6, .int .i64 0, .slice none 0 0, .int .i64 4, .int .i64 1, .int .i64 0, .slice none 0 0, .int .i64 4, .int .i64 2, .int .i64 0, .slice none 0 0] 29 (0, 0)) from ch_b4 w _ _ _ _ _ _ _ _) (Reps.snoc (Reps.snoc (Reps.snoc (Reps.snoc (Reps.snoc (Reps.none _ _) (hk uA rfl) rfl) (hk (⟨2, 1, 0, []⟩ : La) rfl) rfl) (hk uB rfl) rfl) (hk (⟨4, 1, 0, []⟩ : La) rfl) rfl) (hk (⟨4, 2, 0, []⟩ : La) rfl) rfl) (by decide)⟩

theorem keepS {w0 w w' : World} {A : Option Addr} {l : List La} (h : Below w0.heap.size w0 w ∧ Kd.C k29 w A l.length l) (hb : Below w.heap.size w w') : Below w0.heap.size w0 w' ∧ Kd.C k29 w' A l.length l := ⟨below_step h.1 hb, Kd.C_below h.2 hb⟩
set_option maxHeartbeats 4000000 in
set_option maxRecDepth 100000 in
theorem UpdateForms_walk (which x : Int) (w : World) :
    Calls Try.prog 4 #[.int .i64 which, .int .i64 x] w fun e w' => e = .returned (.bool true) ∧ Below w.heap.size w w' := by
  obtain ⟨q, hq, hq5⟩ := mod_k which 5 (by decide) (by decide)
  obtain ⟨m, hm, hm19⟩ := mod_k x 19 (by decide) (by decide)
  have hq' : wrap64 ((IntKind.u64.wrap which).tmod 5) = (q : Int) := hq
  have hm' : wrap64 ((IntKind.u64.wrap x).tmod 19) = (m : Int) := hm
  have qI : (q : Int) < 5 := by omega
  have mI : (m : Int) < 19 := by omega
  clear hq hm
  have HB := Aside0.mk (Below.refl w.heap.size w)
  go_enter Try.func4, Try.ntmps4
  go_upto_region 5 with (first | (go_at_call 12; refine (awake10_calls _).mono ?_; rintro e w1 ⟨rfl, hb1⟩; replace HB := Aside0.mk (below_step HB.out hb1); clear hb1))
  change Code.wp _ _ _ _ (wb w1)
  have BKa := Aside0.mk (wb_bA w1)
  have BKb := Aside0.mk (wb_bB w1)
  obtain ⟨Aq, hcell, hCq⟩ := wb_bad w1 q hq5
  have HPQ := Aside0.mk (put_bad q hq5)
  have HMQ := Aside0.mk (may_bad q hq5)
  generalize bad q = lq at *
  have HCQ := Aside0.mk hCq
  replace HB := Aside0.mk (wb_below HB.out)
  clear hCq
  generalize w1.heap.size + 1 + 1 + 1 + 1 + 1 + 1 + 1 = gT at *
  generalize wb w1 = W at *
  go_wp2_with (first | (go_at_call 13; (with_reducible change Calls Try.prog _ #[Value.slice Aq lq.length lq.length] _ _); refine (update_Put.calls 60 Aq lq.length lq ⟨#[]⟩ 1000 _ HCQ.out (Nat.le_refl _) HPQ.out).mono ?_; rintro e w2 ⟨rfl, hb1⟩; replace HB := Aside0.mk (below_step HB.out hb1); replace HCQ := Aside0.mk (Kd.C_below HCQ.out hb1); replace BKa := Aside0.mk (blk_below BKa.out hb1); replace BKb := Aside0.mk (blk_below BKb.out hb1); clear hb1 hcell; have ca0 : w2.cell? ⟨w1.heap.size, 0, none⟩ = some (.int .i64 1) := (blk_cell BKa.out 0).trans rfl; have ca1 : w2.cell? ⟨w1.heap.size, 1, none⟩ = some (.int .i64 5) := (blk_cell BKa.out 1).trans rfl; have ca2 : w2.cell? ⟨w1.heap.size, 2, none⟩ = some (.int .i64 0) := (blk_cell BKa.out 2).trans rfl; have ca3 : w2.cell? ⟨w1.heap.size, 3, none⟩ = some (.slice none 0 0) := (blk_cell BKa.out 3).trans rfl; have cb0 : w2.cell? ⟨w1.heap.size + 1, 0, none⟩ = some (.int .i64 3) := (blk_cell BKb.out 0).trans rfl; have cb1 : w2.cell? ⟨w1.heap.size + 1, 1, none⟩ = some (.int .i64 6) := (blk_cell BKb.out 1).trans rfl; have cb2 : w2.cell? ⟨w1.heap.size + 1, 2, none⟩ = some (.int .i64 0) := (blk_cell BKb.out 2).trans rfl; have cb3 : w2.cell? ⟨w1.heap.size + 1, 3, none⟩ = some (.slice none 0 0) := (blk_cell BKb.out 3).trans rfl))
  clear ca0 ca1 ca2 ca3 cb0 cb1 cb2 cb3
  obtain ⟨W5, hW5⟩ : ∃ W, W = w2.alloc (.cells #[.int .i64 1, .int .i64 5, .int .i64 0, .slice none 0 0, .int .i64 3, .int .i64 6, .int .i64 0, .slice none 0 0] 29) := ⟨_, rfl⟩
  rw [← hW5]
  have b5 : W5.heap[w2.heap.size]? = some (.cells #[.int .i64 1, .int .i64 5, .int .i64 0, .slice none 0 0, .int .i64 3, .int .i64 6, .int .i64 0, .slice none 0 0] 29 (0, 0)) := by rw [hW5]; exact blk_new _ _
  have HZ := Aside0.mk (C_block k29 (ps := [uA, uB]) b5 (Reps.snoc (Reps.snoc (Reps.none _ _) (k29_mk W5 uA (A3 := none) (c3 := 0) (by decide) (Kd.C_nil k62 W5)) rfl) (k29_mk W5 uB (A3 := none) (c3 := 0) (by decide) (Kd.C_nil k62 W5)) rfl) (by decide))
  replace HCQ := Aside0.mk (show Kd.C k29 W5 _ _ _ by rw [hW5]; exact Kd.C_alloc HCQ.out _)
  replace HB := Aside0.mk (show Below w.heap.size w W5 by rw [hW5]; exact below_alloc HB.out _)
  clear b5 hW5 BKa BKb
  refine (update_Put.calls 60 _ 2 [uA, uB] tt 0 _ HZ.out (by decide) put_tt).mono ?_
  rintro e w3 ⟨rfl, hb1⟩
  replace HB := Aside0.mk (below_step HB.out hb1)
  replace HCQ := Aside0.mk (Kd.C_below HCQ.out hb1)
  clear hb1 HZ
  have HG0 := Aside0.mk (get_cut m hm19)
  have HG1 := Aside0.mk get_more
  have HG2 := Aside0.mk get_one
  have HG3 := Aside0.mk get_three
  have HG4 := Aside0.mk get_turned
  have tts : tt.size = 19 := by decide
  generalize tt = tx at *
  go_wp2_with (first | (go_at_call 9; go_in) | (go_at_call 14; (with_reducible change Calls Try.prog _ #[Value.string _] _ _); refine (update_Get.calls 60 _ [] 1000 _ ?hG).mono ?_; (case hG => first | (with_reducible exact HG0.out) | (with_reducible exact HG1.out) | (with_reducible exact HG2.out) | (with_reducible exact HG3.out) | (with_reducible exact HG4.out)); rintro e w4 ⟨v0, rfl, hs, hb1⟩; obtain ⟨A9, c9, hv9⟩ := Kd.S_slice hs; subst hv9; replace HB := Aside0.mk (below_step HB.out hb1); replace HCQ := Aside0.mk (Kd.C_below HCQ.out hb1); clear hb1 hs))
  go_region_held3 (fun w' => Below w.heap.size w w' ∧ Kd.C k29 w' Aq lq.length lq) (first | exact ⟨HB.out.drew, Kd.C_drew HCQ.out⟩ | exact keepS (by assumption) (by assumption)) (((go_at_call 14; refine (update_Get.calls 60 _ [] 1000 _ HG4.out).mono ?_; rintro e w4 ⟨v0, rfl, hs, hb1⟩; obtain ⟨A9, c9, hv9⟩ := Kd.S_slice hs; subst hv9; clear hs)))
  have hS : Below w.heap.size w w4 ∧ Kd.C k29 w4 Aq lq.length lq := by assumption
  replace HB := Aside0.mk hS.1
  replace HCQ := Aside0.mk hS.2
  clear hS
  go_wp2_with (first | (go_at_call 9; go_in) | (go_at_call 15; refine (update_May.calls 60 Aq _ lq false _ HCQ.out (Nat.le_refl _) HMQ.out).mono ?_; rintro e w2 ⟨rfl, hb1⟩; replace HB := Aside0.mk (below_step HB.out hb1); clear hb1))
  go_ret
  exact ⟨rfl, HB.out⟩
end Go.Proofs.Ytfhccpdkgceneaa.U
