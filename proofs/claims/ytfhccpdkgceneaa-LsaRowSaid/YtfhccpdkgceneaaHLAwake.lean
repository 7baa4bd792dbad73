/- watchwordlaw7.awake answers true. -/
import Derived.Test.YtfhccpdkgceneaaHLRow
import Derived.Deep.RegionHeld3
import Derived.IntWalk
namespace Go.Proofs.Ytfhccpdkgceneaa.R
open Go.RowKit Go.Proofs.YtfhccpdkgceneaaW.PrintWords Go.Proofs.YtfhccpdkgceneaaW.PrintLast Go.Proofs.YtfhccpdkgceneaaW.PrintMore
open Go.Proofs.Ytfhccpdkgceneaa.PLsaRow
set_option linter.unusedVariables false
set_option linter.unusedSimpArgs false

def ts : ByteArray := ⟨#[7, 2, 0, 0, 1, 2, 1, 1, 0, 10, 51, 17]⟩
theorem put_aw : lsa_Put.f 60 2 258 7 [⟨1, 10⟩] = some (ts, 0) := by decide +kernel
theorem get_aw : lsa_Get.f 60 ((⟨#[122, 122]⟩ ++ ts) ++ ⟨#[122]⟩) 2 = some (2, 258, 7, [⟨1, 10⟩], 14, 0) := by kernel_rfl
theorem head_aw : lsa_Head.f 60 2 258 7 [⟨1, 10⟩] = some (2, 258, 7, 13073, 0) := by decide +kernel
theorem put_zero : lsa_Put.f 60 0 0 0 [] = some (⟨#[]⟩, 700) := by decide +kernel
theorem get_nil : lsa_Get.f 60 ⟨#[]⟩ 0 = some (0, 0, 0, [], 0, 700) := by kernel_rfl
theorem same_aw : watchwordlaw0_SameLsa.f 60 2 258 7 [⟨1, 10⟩] 2 258 7 [⟨1, 10⟩] = some true := by decide +kernel
theorem may_aw : lsa_May.f 60 2 258 7 [⟨1, 10⟩] = some true := by decide +kernel
theorem C_block {α : Type} (d : Kd α) {w : World} {g : Nat} {t : TypeId} {fr : Nat × Nat} {cs : List Value} {ps : List α} (hb : w.heap[g]? = some (.cells cs.toArray t fr)) (hR : Reps (d.K w) d.sz ps cs) (hn : ps.length ≤ 9223372036854775807) :
    d.C w (some ⟨g, 0, none⟩) ps.length ps := by
  refine ⟨rfl, hn, fun _ => ⟨_, rfl, fun j p hj => ⟨(cs.drop (j * d.sz)).take d.sz, ?_, hR.2 j p hj, fun i u hu => ?_⟩⟩⟩
  · have hjl := (List.getElem?_eq_some_iff.1 hj).1
    have h1 : j * d.sz + d.sz ≤ cs.length := by rw [hR.1, ← Nat.succ_mul]; exact Nat.mul_le_mul_right _ hjl
    rw [List.length_take, List.length_drop]; omega
  · rw [add_plain, cell_of_row w g _ _ _ _ hb]
    rw [List.getElem?_take] at hu
    split at hu
    · rw [List.getElem?_drop] at hu
      simpa using hu
    · cases hu
theorem keepA {w0 w w' : World} {a0 a1 a2 a3 a4 a5 a6 a7 a8 a9 a10 a11 : Addr} {x0 x1 x2 x3 x4 x5 x6 x7 x8 x9 x10 x11 : Value} {A A' : Option Addr} {n n' : Nat} {ls ls' : List Lk} (h : w.cell? a0 = some x0 ∧ w.cell? a1 = some x1 ∧ w.cell? a2 = some x2 ∧ w.cell? a3 = some x3 ∧ w.cell? a4 = some x4 ∧ w.cell? a5 = some x5 ∧ w.cell? a6 = some x6 ∧ w.cell? a7 = some x7 ∧ w.cell? a8 = some x8 ∧ w.cell? a9 = some x9 ∧ w.cell? a10 = some x10 ∧ w.cell? a11 = some x11 ∧ Kd.C k62 w A n ls ∧ Kd.C k62 w A' n' ls' ∧ Below w0.heap.size w0 w) (hb : Below w.heap.size w w') : w'.cell? a0 = some x0 ∧ w'.cell? a1 = some x1 ∧ w'.cell? a2 = some x2 ∧ w'.cell? a3 = some x3 ∧ w'.cell? a4 = some x4 ∧ w'.cell? a5 = some x5 ∧ w'.cell? a6 = some x6 ∧ w'.cell? a7 = some x7 ∧ w'.cell? a8 = some x8 ∧ w'.cell? a9 = some x9 ∧ w'.cell? a10 = some x10 ∧ w'.cell? a11 = some x11 ∧ Kd.C k62 w' A n ls ∧ Kd.C k62 w' A' n' ls' ∧ Below w0.heap.size w0 w' := by
  obtain ⟨h0, h1, h2, h3, h4, h5, h6, h7, h8, h9, h10, h11, c3, c6, b⟩ := h
  exact ⟨(hb.cell (World.block_lt_of_cell? _ _ h0)).trans h0, (hb.cell (World.block_lt_of_cell? _ _ h1)).trans h1, (hb.cell (World.block_lt_of_cell? _ _ h2)).trans h2, (hb.cell (World.block_lt_of_cell? _ _ h3)).trans h3, (hb.cell (World.block_lt_of_cell? _ _ h4)).trans h4, (hb.cell (World.block_lt_of_cell? _ _ h5)).trans h5, (hb.cell (World.block_lt_of_cell? _ _ h6)).trans h6, (hb.cell (World.block_lt_of_cell? _ _ h7)).trans h7, (hb.cell (World.block_lt_of_cell? _ _ h8)).trans h8, (hb.cell (World.block_lt_of_cell? _ _ h9)).trans h9, (hb.cell (World.block_lt_of_cell? _ _ h10)).trans h10, (hb.cell (World.block_lt_of_cell? _ _ h11)).trans h11, Kd.C_below c3 hb, Kd.C_below c6 hb, below_step b hb⟩
theorem getA3 {w0 w : World} {a0 a1 a2 a3 a4 a5 a6 a7 a8 a9 a10 a11 : Addr} {x0 x1 x2 x3 x4 x5 x6 x7 x8 x9 x10 x11 : Value} {A A' : Option Addr} {n n' : Nat} {ls ls' : List Lk} (h : w.cell? a0 = some x0 ∧ w.cell? a1 = some x1 ∧ w.cell? a2 = some x2 ∧ w.cell? a3 = some x3 ∧ w.cell? a4 = some x4 ∧ w.cell? a5 = some x5 ∧ w.cell? a6 = some x6 ∧ w.cell? a7 = some x7 ∧ w.cell? a8 = some x8 ∧ w.cell? a9 = some x9 ∧ w.cell? a10 = some x10 ∧ w.cell? a11 = some x11 ∧ Kd.C k62 w A n ls ∧ Kd.C k62 w A' n' ls' ∧ Below w0.heap.size w0 w) : Kd.C k62 w A n ls := h.2.2.2.2.2.2.2.2.2.2.2.2.1
theorem getA6 {w0 w : World} {a0 a1 a2 a3 a4 a5 a6 a7 a8 a9 a10 a11 : Addr} {x0 x1 x2 x3 x4 x5 x6 x7 x8 x9 x10 x11 : Value} {A A' : Option Addr} {n n' : Nat} {ls ls' : List Lk} (h : w.cell? a0 = some x0 ∧ w.cell? a1 = some x1 ∧ w.cell? a2 = some x2 ∧ w.cell? a3 = some x3 ∧ w.cell? a4 = some x4 ∧ w.cell? a5 = some x5 ∧ w.cell? a6 = some x6 ∧ w.cell? a7 = some x7 ∧ w.cell? a8 = some x8 ∧ w.cell? a9 = some x9 ∧ w.cell? a10 = some x10 ∧ w.cell? a11 = some x11 ∧ Kd.C k62 w A n ls ∧ Kd.C k62 w A' n' ls' ∧ Below w0.heap.size w0 w) : Kd.C k62 w A' n' ls' := h.2.2.2.2.2.2.2.2.2.2.2.2.2.1
theorem getAB {w0 w : World} {a0 a1 a2 a3 a4 a5 a6 a7 a8 a9 a10 a11 : Addr} {x0 x1 x2 x3 x4 x5 x6 x7 x8 x9 x10 x11 : Value} {A A' : Option Addr} {n n' : Nat} {ls ls' : List Lk} (h : w.cell? a0 = some x0 ∧ w.cell? a1 = some x1 ∧ w.cell? a2 = some x2 ∧ w.cell? a3 = some x3 ∧ w.cell? a4 = some x4 ∧ w.cell? a5 = some x5 ∧ w.cell? a6 = some x6 ∧ w.cell? a7 = some x7 ∧ w.cell? a8 = some x8 ∧ w.cell? a9 = some x9 ∧ w.cell? a10 = some x10 ∧ w.cell? a11 = some x11 ∧ Kd.C k62 w A n ls ∧ Kd.C k62 w A' n' ls' ∧ Below w0.heap.size w0 w) : Below w0.heap.size w0 w := h.2.2.2.2.2.2.2.2.2.2.2.2.2.2

theorem eq_head (a b c d : Int) (w : World) : (Op.equalIn 10000 58 (.agg #[.int .i64 a, .int .i64 b, .int .i64 c, .int .i64 d]) (.agg #[.int .i64 a, .int .i64 b, .int .i64 c, .int .i64 d])).run Try.prog w = .ok true w := by
  refine (eqA_of (r := true && (true && (true && true))) Try.underlying58 (by kernel_rfl) ?_).trans rfl
  refine eqf_cons (by rfl) (by go_simp; rfl) (by go_simp; rfl) (by go_simp) ?_
  refine eqf_cons (by rfl) (by go_simp; rfl) (by go_simp; rfl) (by go_simp) ?_
  refine eqf_cons (by rfl) (by go_simp; rfl) (by go_simp; rfl) (by go_simp) ?_
  exact eqf_last (by rfl) (by go_simp; rfl) (by go_simp; rfl) (by go_simp)

set_option maxHeartbeats 4000000 in
set_option maxRecDepth 100000 in
theorem awake7_calls (w : World) : Calls Try.prog 7 #[] w fun e w' => e = .returned (.bool true) ∧ Below w.heap.size w w' := by
  have HB := Aside0.mk (Below.refl w.heap.size w)
  go_enter Try.func7, Try.ntmps7
  go_wp2_with (fail)
  obtain ⟨W1, hW1⟩ : ∃ W, W = w.alloc (.cells #[.int .i64 1, .int .i64 10] 62) := ⟨_, rfl⟩
  obtain ⟨W2, hW2⟩ : ∃ W, W = W1.alloc (.cells #[.int .i64 2, .int .i64 258, .int .i64 7, .slice (some ⟨w.heap.size, 0, none⟩) 1 1] 29) := ⟨_, rfl⟩
  rw [← hW1, ← hW2]
  have z1 : W1.heap.size = w.heap.size + 1 := by rw [hW1]; simp
  have b1 : W2.heap[w.heap.size]? = some (.cells #[.int .i64 1, .int .i64 10] 62 (0, 0)) := by rw [hW2]; refine blk_alloc ?_ _; rw [hW1]; exact blk_new _ _
  have BK1 := Aside0.mk (show W2.heap[w.heap.size + 1]? = some (.cells #[.int .i64 2, .int .i64 258, .int .i64 7, .slice (some ⟨w.heap.size, 0, none⟩) 1 1] 29 (0, 0)) by rw [hW2, ← z1]; exact blk_new _ _)
  have HCh := Aside0.mk (show Kd.C k62 W2 (some ⟨w.heap.size, 0, none⟩) 1 [⟨1, 10⟩] from C_block k62 (ps := [⟨1, 10⟩]) b1 (Reps.snoc (Reps.none _ _) (k62_mk W2 ⟨1, 10⟩) rfl) (by decide))
  replace HB := Aside0.mk (show Below w.heap.size w W2 by rw [hW2, hW1]; exact below_alloc (below_alloc HB.out _) _)
  clear b1 z1 hW1 hW2
  refine (lsa_Put.calls 60 2 258 7 _ 1 [⟨1, 10⟩] ts 0 _ HCh.out (by decide) put_aw).mono ?_
  rintro e w1 ⟨rfl, hb1⟩
  replace HB := Aside0.mk (below_step HB.out hb1)
  replace BK1 := Aside0.mk (blk_below BK1.out hb1)
  replace HCh := Aside0.mk (Kd.C_below HCh.out hb1)
  clear hb1
  have tss : ts.size = 12 := by decide
  go_upto_region 4 with (first | (go_at_call 10; refine (lsa_Get.calls 60 _ 2 2 258 7 [⟨1, 10⟩] 14 0 _ get_aw).mono ?_; rintro e w2 ⟨v3, rfl, h3, hb1⟩; obtain ⟨A6, c6, hv6, hc6, hC6⟩ := Kd.R_reads h3; subst hv6; have HC6 := Aside0.mk hC6; have HL6 := Aside0.mk hc6; replace HB := Aside0.mk (below_step HB.out hb1); replace BK1 := Aside0.mk (blk_below BK1.out hb1); replace HCh := Aside0.mk (Kd.C_below HCh.out hb1); clear hb1 h3 hc6 hC6))
  have BK4 := Aside0.mk (blk_new w2 (.cells #[.int .i64 2, .int .i64 258, .int .i64 7, .slice A6 1 c6] 29))
  replace HB := Aside0.mk (below_alloc HB.out (.cells #[.int .i64 2, .int .i64 258, .int .i64 7, .slice A6 1 c6] 29))
  replace BK1 := Aside0.mk (blk_alloc BK1.out (.cells #[.int .i64 2, .int .i64 258, .int .i64 7, .slice A6 1 c6] 29))
  replace HCh := Aside0.mk (Kd.C_alloc HCh.out (.cells #[.int .i64 2, .int .i64 258, .int .i64 7, .slice A6 1 c6] 29))
  replace HC6 := Aside0.mk (Kd.C_alloc HC6.out (.cells #[.int .i64 2, .int .i64 258, .int .i64 7, .slice A6 1 c6] 29))
  generalize w2.alloc (.cells #[.int .i64 2, .int .i64 258, .int .i64 7, .slice A6 1 c6] 29) = w3 at *
  generalize w2.heap.size = g4 at *
  have bk10 : w3.cell? ⟨w.heap.size + 1, 0, none⟩ = some (.int .i64 2) := (blk_cell BK1.out 0).trans rfl
  have bk11 : w3.cell? ⟨w.heap.size + 1, 1, none⟩ = some (.int .i64 258) := (blk_cell BK1.out 1).trans rfl
  have bk12 : w3.cell? ⟨w.heap.size + 1, 2, none⟩ = some (.int .i64 7) := (blk_cell BK1.out 2).trans rfl
  have bk13 : w3.cell? ⟨w.heap.size + 1, 3, none⟩ = some (.slice (some ⟨w.heap.size, 0, none⟩) 1 1) := (blk_cell BK1.out 3).trans rfl
  go_upto_region 5 with (first | (go_at_call 26; refine (lsa_Head.calls 60 2 258 7 _ 1 [⟨1, 10⟩] 2 258 7 13073 0 _ HCh.out (by decide) head_aw).mono ?_; rintro e w4 ⟨rfl, hb1⟩; replace HB := Aside0.mk (below_step HB.out hb1); replace BK1 := Aside0.mk (blk_below BK1.out hb1); replace BK4 := Aside0.mk (blk_below BK4.out hb1); replace HCh := Aside0.mk (Kd.C_below HCh.out hb1); replace HC6 := Aside0.mk (Kd.C_below HC6.out hb1); clear hb1))
  clear bk10 bk11 bk12 bk13
  have BK7 := Aside0.mk (blk_new w4 (.cells #[.int .i64 2, .int .i64 258, .int .i64 7, .int .i64 13073] 58))
  replace HB := Aside0.mk (below_alloc HB.out (.cells #[.int .i64 2, .int .i64 258, .int .i64 7, .int .i64 13073] 58))
  replace BK1 := Aside0.mk (blk_alloc BK1.out (.cells #[.int .i64 2, .int .i64 258, .int .i64 7, .int .i64 13073] 58))
  replace BK4 := Aside0.mk (blk_alloc BK4.out (.cells #[.int .i64 2, .int .i64 258, .int .i64 7, .int .i64 13073] 58))
  replace HCh := Aside0.mk (Kd.C_alloc HCh.out (.cells #[.int .i64 2, .int .i64 258, .int .i64 7, .int .i64 13073] 58))
  replace HC6 := Aside0.mk (Kd.C_alloc HC6.out (.cells #[.int .i64 2, .int .i64 258, .int .i64 7, .int .i64 13073] 58))
  generalize w4.alloc (.cells #[.int .i64 2, .int .i64 258, .int .i64 7, .int .i64 13073] 58) = w5 at *
  generalize w4.heap.size = g7 at *
  go_upto_region 9 with (first | (go_at_call 8; refine (lsa_Put.calls 60 0 0 0 none 0 [] ⟨#[]⟩ 700 _ (Kd.C_nil _ _) (Nat.le_refl _) put_zero).mono ?_; rintro e w6 ⟨rfl, hb1⟩; replace HB := Aside0.mk (below_step HB.out hb1); replace BK1 := Aside0.mk (blk_below BK1.out hb1); replace BK4 := Aside0.mk (blk_below BK4.out hb1); replace BK7 := Aside0.mk (blk_below BK7.out hb1); replace HCh := Aside0.mk (Kd.C_below HCh.out hb1); replace HC6 := Aside0.mk (Kd.C_below HC6.out hb1); clear hb1) | (go_at_call 10; refine (lsa_Get.calls 60 ⟨#[]⟩ 0 0 0 0 [] 0 700 _ get_nil).mono ?_; rintro e w7 ⟨v3, rfl, h3, hb1⟩; obtain ⟨A9, c9, hv9⟩ := Kd.R_slice h3; subst hv9; replace HB := Aside0.mk (below_step HB.out hb1); replace BK1 := Aside0.mk (blk_below BK1.out hb1); replace BK4 := Aside0.mk (blk_below BK4.out hb1); replace BK7 := Aside0.mk (blk_below BK7.out hb1); replace HCh := Aside0.mk (Kd.C_below HCh.out hb1); replace HC6 := Aside0.mk (Kd.C_below HC6.out hb1); clear hb1 h3))
  replace HB := Aside0.mk (below_alloc HB.out (.cells #[.int .i64 0, .int .i64 0, .int .i64 0, .slice A9 0 c9] 29))
  replace BK1 := Aside0.mk (blk_alloc BK1.out (.cells #[.int .i64 0, .int .i64 0, .int .i64 0, .slice A9 0 c9] 29))
  replace BK4 := Aside0.mk (blk_alloc BK4.out (.cells #[.int .i64 0, .int .i64 0, .int .i64 0, .slice A9 0 c9] 29))
  replace BK7 := Aside0.mk (blk_alloc BK7.out (.cells #[.int .i64 0, .int .i64 0, .int .i64 0, .slice A9 0 c9] 29))
  replace HCh := Aside0.mk (Kd.C_alloc HCh.out (.cells #[.int .i64 0, .int .i64 0, .int .i64 0, .slice A9 0 c9] 29))
  replace HC6 := Aside0.mk (Kd.C_alloc HC6.out (.cells #[.int .i64 0, .int .i64 0, .int .i64 0, .slice A9 0 c9] 29))
  generalize w7.alloc (.cells #[.int .i64 0, .int .i64 0, .int .i64 0, .slice A9 0 c9] 29) = w8 at *
  have bk10 : w8.cell? ⟨w.heap.size + 1, 0, none⟩ = some (.int .i64 2) := (blk_cell BK1.out 0).trans rfl
  have bk11 : w8.cell? ⟨w.heap.size + 1, 1, none⟩ = some (.int .i64 258) := (blk_cell BK1.out 1).trans rfl
  have bk12 : w8.cell? ⟨w.heap.size + 1, 2, none⟩ = some (.int .i64 7) := (blk_cell BK1.out 2).trans rfl
  have bk13 : w8.cell? ⟨w.heap.size + 1, 3, none⟩ = some (.slice (some ⟨w.heap.size, 0, none⟩) 1 1) := (blk_cell BK1.out 3).trans rfl
  have bk40 : w8.cell? ⟨g4, 0, none⟩ = some (.int .i64 2) := (blk_cell BK4.out 0).trans rfl
  have bk41 : w8.cell? ⟨g4, 1, none⟩ = some (.int .i64 258) := (blk_cell BK4.out 1).trans rfl
  have bk42 : w8.cell? ⟨g4, 2, none⟩ = some (.int .i64 7) := (blk_cell BK4.out 2).trans rfl
  have bk43 : w8.cell? ⟨g4, 3, none⟩ = some (.slice A6 1 c6) := (blk_cell BK4.out 3).trans rfl
  have bk70 : w8.cell? ⟨g7, 0, none⟩ = some (.int .i64 2) := (blk_cell BK7.out 0).trans rfl
  have bk71 : w8.cell? ⟨g7, 1, none⟩ = some (.int .i64 258) := (blk_cell BK7.out 1).trans rfl
  have bk72 : w8.cell? ⟨g7, 2, none⟩ = some (.int .i64 7) := (blk_cell BK7.out 2).trans rfl
  have bk73 : w8.cell? ⟨g7, 3, none⟩ = some (.int .i64 13073) := (blk_cell BK7.out 3).trans rfl
  have hS0 := Aside0.mk (show (fun w' => w'.cell? ⟨w.heap.size + 1, 0, none⟩ = some (.int .i64 2) ∧ w'.cell? ⟨w.heap.size + 1, 1, none⟩ = some (.int .i64 258) ∧ w'.cell? ⟨w.heap.size + 1, 2, none⟩ = some (.int .i64 7) ∧ w'.cell? ⟨w.heap.size + 1, 3, none⟩ = some (.slice (some ⟨w.heap.size, 0, none⟩) 1 1) ∧ w'.cell? ⟨g4, 0, none⟩ = some (.int .i64 2) ∧ w'.cell? ⟨g4, 1, none⟩ = some (.int .i64 258) ∧ w'.cell? ⟨g4, 2, none⟩ = some (.int .i64 7) ∧ w'.cell? ⟨g4, 3, none⟩ = some (.slice A6 1 c6) ∧ w'.cell? ⟨g7, 0, none⟩ = some (.int .i64 2) ∧ w'.cell? ⟨g7, 1, none⟩ = some (.int .i64 258) ∧ w'.cell? ⟨g7, 2, none⟩ = some (.int .i64 7) ∧ w'.cell? ⟨g7, 3, none⟩ = some (.int .i64 13073) ∧ Kd.C k62 w' (some ⟨w.heap.size, 0, none⟩) 1 [⟨1, 10⟩] ∧ Kd.C k62 w' A6 1 [⟨1, 10⟩] ∧ Below w.heap.size w w') w8.drew from ⟨bk10, bk11, bk12, bk13, bk40, bk41, bk42, bk43, bk70, bk71, bk72, bk73, Kd.C_drew HCh.out, Kd.C_drew HC6.out, HB.out.drew⟩)
  clear bk10 bk11 bk12 bk13 bk40 bk41 bk42 bk43 bk70 bk71 bk72 bk73
  have hcut : ts.extract 0 10 = ⟨#[7, 2, 0, 0, 1, 2, 1, 1, 0, 10]⟩ := by decide +kernel
  have hx10 : ∀ h : 10 < ts.size, ((ts[10]'h).toNat : Int) = 51 := fun h => by decide +kernel +revert
  have hx11 : ∀ h : 11 < ts.size, ((ts[11]'h).toNat : Int) = 17 := fun h => by decide +kernel +revert
  have hor : bits .or .i64 (51 * 256) 17 = 13073 := by decide +kernel
  have hor3 : bits .or .i64 (IntKind.i64.wrap (IntKind.i64.wrap 51 * 256)) (IntKind.i64.wrap 17) = 13073 := by decide +kernel
  have hor2 : bits .or .i64 13056 17 = 13073 := by decide +kernel
  have q10 : (10 < ts.size) = True := by rw [tss]; decide
  have q11 : (11 < ts.size) = True := by rw [tss]; decide
  have heq : ∀ W : World, (Op.equalIn 10000 58 (.agg #[.int .i64 2, .int .i64 258, .int .i64 7, .int .i64 13073]) (.agg #[.int .i64 2, .int .i64 258, .int .i64 7, .int .i64 13073])).run Try.prog W = .ok true W := fun W => eq_head _ _ _ _ W
  go_region_held3 (fun w' => w'.cell? ⟨w.heap.size + 1, 0, none⟩ = some (.int .i64 2) ∧ w'.cell? ⟨w.heap.size + 1, 1, none⟩ = some (.int .i64 258) ∧ w'.cell? ⟨w.heap.size + 1, 2, none⟩ = some (.int .i64 7) ∧ w'.cell? ⟨w.heap.size + 1, 3, none⟩ = some (.slice (some ⟨w.heap.size, 0, none⟩) 1 1) ∧ w'.cell? ⟨g4, 0, none⟩ = some (.int .i64 2) ∧ w'.cell? ⟨g4, 1, none⟩ = some (.int .i64 258) ∧ w'.cell? ⟨g4, 2, none⟩ = some (.int .i64 7) ∧ w'.cell? ⟨g4, 3, none⟩ = some (.slice A6 1 c6) ∧ w'.cell? ⟨g7, 0, none⟩ = some (.int .i64 2) ∧ w'.cell? ⟨g7, 1, none⟩ = some (.int .i64 258) ∧ w'.cell? ⟨g7, 2, none⟩ = some (.int .i64 7) ∧ w'.cell? ⟨g7, 3, none⟩ = some (.int .i64 13073) ∧ Kd.C k62 w' (some ⟨w.heap.size, 0, none⟩) 1 [⟨1, 10⟩] ∧ Kd.C k62 w' A6 1 [⟨1, 10⟩] ∧ Below w.heap.size w w') (first | assumption | exact hS0.out | exact keepA (by assumption) (by assumption)) (first | (go_at_call 11; refine (watchwordlaw0_SameLsa.calls 60 2 258 7 _ 1 [⟨1, 10⟩] 2 258 7 A6 c6 [⟨1, 10⟩] true _ (getA3 (by assumption)) (Nat.le_refl 1) (getA6 (by assumption)) HL6.out same_aw).mono ?_; rintro e w9 ⟨rfl, hb1⟩) | (go_at_call 27; refine (lsa_May.calls 60 2 258 7 _ 1 [⟨1, 10⟩] true _ (getA3 (by assumption)) (Nat.le_refl 1) may_aw).mono ?_; rintro e w10 ⟨rfl, hb1⟩) | (go_at_call 9; go_in))
  all_goals have hS : Below w.heap.size w w10 := getAB (by assumption)
  all_goals try go_wp2_with (fail)
  all_goals go_ret
  all_goals exact ⟨rfl, hS⟩
end Go.Proofs.Ytfhccpdkgceneaa.R

