/- The walk of the law PacketForms. -/
import Derived.Test.YtfhccpdkgceneaaHPWalk
import Derived.Test.YtfhccpdkgceneaaHBits
namespace Go.Proofs.Ytfhccpdkgceneaa.K
open Go.RowKit Go.Proofs.YtfhccpdkgceneaaW.PrintWords Go.Proofs.YtfhccpdkgceneaaW.PrintLast Go.Proofs.YtfhccpdkgceneaaW.PrintMore
open Go.Proofs.Ytfhccpdkgceneaa.PPacketForms Go.Proofs.Ytfhccpdkgceneaa.H
set_option linter.unusedVariables false
set_option linter.unusedSimpArgs false

def wb (w : World) (d : Nat) : World := ((((((((w.alloc (.cells #[.int .i64 1, .int .i64 1, .int .i64 0, .slice none 0 0] 29)).alloc (.cells #[.int .i64 1, .int .i64 1, .int .i64 0, .int .i64 0] 58)).alloc (.cells #[.int .i64 0] 3)).alloc (.cells #[.int .i64 1] 3)).alloc (.cells #[.int .i64 0, .int .i64 0, .int .i64 0, .slice none 0 0] 29)).alloc (.cells #[.int .i64 2] 3)).alloc (.cells #[.int .i64 0, .int .i64 0, .int .i64 0, .int .i64 0] 58)).alloc (.cells (List.toArray [.int .i64 0, .int .i64 0, .slice none 0 0, .slice none 0 0, .slice none 0 0, .int .i64 2, .int .i64 1, .slice none 0 0, .slice none 0 0, .slice none 0 0, .int .i64 1, .int .i64 0, .slice none 0 0, .slice none 0 0, .slice none 0 0, .int .i64 1, .int .i64 (4 + (1 + (d : Int))), .slice none 0 0, .slice none 0 0, .slice none 0 0, .int .i64 1, .int .i64 1, .slice (some ⟨w.heap.size + 1 + 1, 0, none⟩) 1 1, .slice none 0 0, .slice none 0 0, .int .i64 1, .int .i64 1, .slice none 0 0, .slice (some ⟨w.heap.size, 0, none⟩) 1 1, .slice none 0 0, .int .i64 1, .int .i64 1, .slice none 0 0, .slice none 0 0, .slice (some ⟨w.heap.size + 1, 0, none⟩) 1 1, .int .i64 4, .int .i64 1, .slice (some ⟨w.heap.size + 1 + 1 + 1, 0, none⟩) 1 1, .slice none 0 0, .slice none 0 0, .int .i64 4, .int .i64 1, .slice none 0 0, .slice (some ⟨w.heap.size + 1 + 1 + 1 + 1, 0, none⟩) 1 1, .slice none 0 0, .int .i64 4, .int .i64 1, .slice none 0 0, .slice none 0 0, .slice (some ⟨w.heap.size + 1, 0, none⟩) 1 1, .int .i64 5, .int .i64 1, .slice none 0 0, .slice (some ⟨w.heap.size, 0, none⟩) 1 1, .slice none 0 0, .int .i64 5, .int .i64 1, .slice (some ⟨w.heap.size + 1 + 1 + 1 + 1 + 1, 0, none⟩) 1 1, .slice none 0 0, .slice none 0 0, .int .i64 5, .int .i64 1, .slice none 0 0, .slice none 0 0, .slice (some ⟨w.heap.size + 1 + 1 + 1 + 1 + 1 + 1, 0, none⟩) 1 1]) 44))
theorem wb_below {w0 w : World} (d : Nat) (h : Below w0.heap.size w0 w) : Below w0.heap.size w0 (wb w d) := below_alloc (below_alloc (below_alloc (below_alloc (below_alloc (below_alloc (below_alloc (below_alloc h _) _) _) _) _) _) _) _
theorem ch_0 (w : World) (o0 o1 o2 o3 o4 o5 o6 o7 : Obj) : ((((((((w.alloc o0).alloc o1).alloc o2).alloc o3).alloc o4).alloc o5).alloc o6).alloc o7).heap[w.heap.size]? = some o0 := by refine blk_alloc ?_ _; refine blk_alloc ?_ _; refine blk_alloc ?_ _; refine blk_alloc ?_ _; refine blk_alloc ?_ _; refine blk_alloc ?_ _; refine blk_alloc ?_ _; exact blk_new _ _
theorem ch_1 (w : World) (o0 o1 o2 o3 o4 o5 o6 o7 : Obj) : ((((((((w.alloc o0).alloc o1).alloc o2).alloc o3).alloc o4).alloc o5).alloc o6).alloc o7).heap[w.heap.size + 1]? = some o1 := by refine blk_alloc ?_ _; refine blk_alloc ?_ _; refine blk_alloc ?_ _; refine blk_alloc ?_ _; refine blk_alloc ?_ _; refine blk_alloc ?_ _; rw [show w.heap.size + 1 = (w.alloc o0).heap.size by simp]; exact blk_new _ _
theorem ch_2 (w : World) (o0 o1 o2 o3 o4 o5 o6 o7 : Obj) : ((((((((w.alloc o0).alloc o1).alloc o2).alloc o3).alloc o4).alloc o5).alloc o6).alloc o7).heap[w.heap.size + 1 + 1]? = some o2 := by refine blk_alloc ?_ _; refine blk_alloc ?_ _; refine blk_alloc ?_ _; refine blk_alloc ?_ _; refine blk_alloc ?_ _; rw [show w.heap.size + 1 + 1 = ((w.alloc o0).alloc o1).heap.size by simp]; exact blk_new _ _
theorem ch_3 (w : World) (o0 o1 o2 o3 o4 o5 o6 o7 : Obj) : ((((((((w.alloc o0).alloc o1).alloc o2).alloc o3).alloc o4).alloc o5).alloc o6).alloc o7).heap[w.heap.size + 1 + 1 + 1]? = some o3 := by refine blk_alloc ?_ _; refine blk_alloc ?_ _; refine blk_alloc ?_ _; refine blk_alloc ?_ _; rw [show w.heap.size + 1 + 1 + 1 = (((w.alloc o0).alloc o1).alloc o2).heap.size by simp]; exact blk_new _ _
theorem ch_4 (w : World) (o0 o1 o2 o3 o4 o5 o6 o7 : Obj) : ((((((((w.alloc o0).alloc o1).alloc o2).alloc o3).alloc o4).alloc o5).alloc o6).alloc o7).heap[w.heap.size + 1 + 1 + 1 + 1]? = some o4 := by refine blk_alloc ?_ _; refine blk_alloc ?_ _; refine blk_alloc ?_ _; rw [show w.heap.size + 1 + 1 + 1 + 1 = ((((w.alloc o0).alloc o1).alloc o2).alloc o3).heap.size by simp]; exact blk_new _ _
theorem ch_5 (w : World) (o0 o1 o2 o3 o4 o5 o6 o7 : Obj) : ((((((((w.alloc o0).alloc o1).alloc o2).alloc o3).alloc o4).alloc o5).alloc o6).alloc o7).heap[w.heap.size + 1 + 1 + 1 + 1 + 1]? = some o5 := by refine blk_alloc ?_ _; refine blk_alloc ?_ _; rw [show w.heap.size + 1 + 1 + 1 + 1 + 1 = (((((w.alloc o0).alloc o1).alloc o2).alloc o3).alloc o4).heap.size by simp]; exact blk_new _ _
theorem ch_6 (w : World) (o0 o1 o2 o3 o4 o5 o6 o7 : Obj) : ((((((((w.alloc o0).alloc o1).alloc o2).alloc o3).alloc o4).alloc o5).alloc o6).alloc o7).heap[w.heap.size + 1 + 1 + 1 + 1 + 1 + 1]? = some o6 := by refine blk_alloc ?_ _; rw [show w.heap.size + 1 + 1 + 1 + 1 + 1 + 1 = ((((((w.alloc o0).alloc o1).alloc o2).alloc o3).alloc o4).alloc o5).heap.size by simp]; exact blk_new _ _
theorem ch_7 (w : World) (o0 o1 o2 o3 o4 o5 o6 o7 : Obj) : ((((((((w.alloc o0).alloc o1).alloc o2).alloc o3).alloc o4).alloc o5).alloc o6).alloc o7).heap[w.heap.size + 1 + 1 + 1 + 1 + 1 + 1 + 1]? = some o7 := by rw [show w.heap.size + 1 + 1 + 1 + 1 + 1 + 1 + 1 = (((((((w.alloc o0).alloc o1).alloc o2).alloc o3).alloc o4).alloc o5).alloc o6).heap.size by simp]; exact blk_new _ _
theorem wb_bad (w : World) (d q : Nat) (hq : q < 13) : ∃ Ah Al As, (wb w d).cell? ⟨w.heap.size + 1 + 1 + 1 + 1 + 1 + 1 + 1, q * 5, none⟩ = some (.int .i64 (bad d q).t) ∧ (wb w d).cell? ⟨w.heap.size + 1 + 1 + 1 + 1 + 1 + 1 + 1, q * 5 + 1, none⟩ = some (.int .i64 (bad d q).r) ∧ (wb w d).cell? ⟨w.heap.size + 1 + 1 + 1 + 1 + 1 + 1 + 1, q * 5 + 2, none⟩ = some (.slice Ah (bad d q).he.length (bad d q).he.length) ∧ (wb w d).cell? ⟨w.heap.size + 1 + 1 + 1 + 1 + 1 + 1 + 1, q * 5 + 3, none⟩ = some (.slice Al (bad d q).ls.length (bad d q).ls.length) ∧ (wb w d).cell? ⟨w.heap.size + 1 + 1 + 1 + 1 + 1 + 1 + 1, q * 5 + 4, none⟩ = some (.slice As (bad d q).hs.length (bad d q).hs.length) ∧
    Kd.C (Kd.int .i64) (wb w d) Ah (bad d q).he.length (bad d q).he ∧ Kd.C k29 (wb w d) Al (bad d q).ls.length (bad d q).ls ∧ Kd.C k58 (wb w d) As (bad d q).hs.length (bad d q).hs := by
  have bt : (wb w d).heap[w.heap.size + 1 + 1 + 1 + 1 + 1 + 1 + 1]? = some (.cells (List.toArray [.int .i64 0, .int .i64 0, .slice none 0 0, .slice none 0 0, .slice none 0 0, .int .i64 2, .int .i64 1, .slice none 0 0, .slice none 0 0, .slice none 0 0, .int .i64 1, .int .i64 0, .slice none 0 0, .slice none 0 0, .slice none 0 0, .int .i64 1, .int .i64 (4 + (1 + (d : Int))), .slice none 0 0, .slice none 0 0, .slice none 0 0, .int .i64 1, .int .i64 1, .slice (some ⟨w.heap.size + 1 + 1, 0, none⟩) 1 1, .slice none 0 0, .slice none 0 0, .int .i64 1, .int .i64 1, .slice none 0 0, .slice (some ⟨w.heap.size, 0, none⟩) 1 1, .slice none 0 0, .int .i64 1, .int .i64 1, .slice none 0 0, .slice none 0 0, .slice (some ⟨w.heap.size + 1, 0, none⟩) 1 1, .int .i64 4, .int .i64 1, .slice (some ⟨w.heap.size + 1 + 1 + 1, 0, none⟩) 1 1, .slice none 0 0, .slice none 0 0, .int .i64 4, .int .i64 1, .slice none 0 0, .slice (some ⟨w.heap.size + 1 + 1 + 1 + 1, 0, none⟩) 1 1, .slice none 0 0, .int .i64 4, .int .i64 1, .slice none 0 0, .slice none 0 0, .slice (some ⟨w.heap.size + 1, 0, none⟩) 1 1, .int .i64 5, .int .i64 1, .slice none 0 0, .slice (some ⟨w.heap.size, 0, none⟩) 1 1, .slice none 0 0, .int .i64 5, .int .i64 1, .slice (some ⟨w.heap.size + 1 + 1 + 1 + 1 + 1, 0, none⟩) 1 1, .slice none 0 0, .slice none 0 0, .int .i64 5, .int .i64 1, .slice none 0 0, .slice none 0 0, .slice (some ⟨w.heap.size + 1 + 1 + 1 + 1 + 1 + 1, 0, none⟩) 1 1]) 44 (0, 0)) := ch_7 w _ _ _ _ _ _ _ _
  have hl : ∀ (j : Nat) (x : La), x.f3 = [] → (wb w d).heap[w.heap.size + j]? = some (.cells #[.int .i64 x.f0, .int .i64 x.f1, .int .i64 x.f2, .slice none 0 0] 29 (0, 0)) → Kd.C k29 (wb w d) (some ⟨w.heap.size + j, 0, none⟩) [x].length [x] := fun j x hx hb => by
    have := k29_mk (wb w d) x (A3 := none) (c3 := 0) (by rw [hx]; decide) (by rw [hx]; exact Kd.C_nil k62 _)
    rw [hx] at this
    exact C_block k29 (ps := [x]) hb (Reps.snoc (Reps.none _ _) this rfl) (show (1 : Nat) ≤ _ by decide)
  have hh : ∀ (j : Nat) (x : Hd), (wb w d).heap[w.heap.size + j]? = some (.cells #[.int .i64 x.f0, .int .i64 x.f1, .int .i64 x.f2, .int .i64 x.f3] 58 (0, 0)) → Kd.C k58 (wb w d) (some ⟨w.heap.size + j, 0, none⟩) [x].length [x] := fun j x hb =>
    C_block k58 (ps := [x]) hb (Reps.snoc (Reps.none _ _) (k58_mk _ x) rfl) (show (1 : Nat) ≤ _ by decide)
  have hi : ∀ (j : Nat) (x : Int), (wb w d).heap[w.heap.size + j]? = some (.cells #[.int .i64 x] 3 (0, 0)) → Kd.C (Kd.int .i64) (wb w d) (some ⟨w.heap.size + j, 0, none⟩) [x].length [x] := fun j x hb =>
    C_block (Kd.int .i64) (ps := [x]) hb (Reps.snoc (Reps.none _ _) (show (Kd.int .i64).K (wb w d) x [.int .i64 x] from rfl) rfl) (show (1 : Nat) ≤ _ by decide)
  match q, hq with
  | 0, _ => exact ⟨none, none, none, (blk_cell bt (0 * 5)).trans rfl, (blk_cell bt (0 * 5 + 1)).trans rfl, (blk_cell bt (0 * 5 + 2)).trans rfl, (blk_cell bt (0 * 5 + 3)).trans rfl, (blk_cell bt (0 * 5 + 4)).trans rfl, Kd.C_nil _ _, Kd.C_nil _ _, Kd.C_nil _ _⟩
  | 1, _ => exact ⟨none, none, none, (blk_cell bt (1 * 5)).trans rfl, (blk_cell bt (1 * 5 + 1)).trans rfl, (blk_cell bt (1 * 5 + 2)).trans rfl, (blk_cell bt (1 * 5 + 3)).trans rfl, (blk_cell bt (1 * 5 + 4)).trans rfl, Kd.C_nil _ _, Kd.C_nil _ _, Kd.C_nil _ _⟩
  | 2, _ => exact ⟨none, none, none, (blk_cell bt (2 * 5)).trans rfl, (blk_cell bt (2 * 5 + 1)).trans rfl, (blk_cell bt (2 * 5 + 2)).trans rfl, (blk_cell bt (2 * 5 + 3)).trans rfl, (blk_cell bt (2 * 5 + 4)).trans rfl, Kd.C_nil _ _, Kd.C_nil _ _, Kd.C_nil _ _⟩
  | 3, _ => exact ⟨none, none, none, (blk_cell bt (3 * 5)).trans rfl, (blk_cell bt (3 * 5 + 1)).trans rfl, (blk_cell bt (3 * 5 + 2)).trans rfl, (blk_cell bt (3 * 5 + 3)).trans rfl, (blk_cell bt (3 * 5 + 4)).trans rfl, Kd.C_nil _ _, Kd.C_nil _ _, Kd.C_nil _ _⟩
  | 4, _ => exact ⟨some ⟨w.heap.size + 2, 0, none⟩, none, none, (blk_cell bt (4 * 5)).trans rfl, (blk_cell bt (4 * 5 + 1)).trans rfl, (blk_cell bt (4 * 5 + 2)).trans rfl, (blk_cell bt (4 * 5 + 3)).trans rfl, (blk_cell bt (4 * 5 + 4)).trans rfl, hi 2 0 (ch_2 w _ _ _ _ _ _ _ _), Kd.C_nil _ _, Kd.C_nil _ _⟩
  | 5, _ => exact ⟨none, some ⟨w.heap.size + 0, 0, none⟩, none, (blk_cell bt (5 * 5)).trans rfl, (blk_cell bt (5 * 5 + 1)).trans rfl, (blk_cell bt (5 * 5 + 2)).trans rfl, (blk_cell bt (5 * 5 + 3)).trans rfl, (blk_cell bt (5 * 5 + 4)).trans rfl, Kd.C_nil _ _, hl 0 aA rfl (ch_0 w _ _ _ _ _ _ _ _), Kd.C_nil _ _⟩
  | 6, _ => exact ⟨none, none, some ⟨w.heap.size + 1, 0, none⟩, (blk_cell bt (6 * 5)).trans rfl, (blk_cell bt (6 * 5 + 1)).trans rfl, (blk_cell bt (6 * 5 + 2)).trans rfl, (blk_cell bt (6 * 5 + 3)).trans rfl, (blk_cell bt (6 * 5 + 4)).trans rfl, Kd.C_nil _ _, Kd.C_nil _ _, hh 1 hA (ch_1 w _ _ _ _ _ _ _ _)⟩
  | 7, _ => exact ⟨some ⟨w.heap.size + 3, 0, none⟩, none, none, (blk_cell bt (7 * 5)).trans rfl, (blk_cell bt (7 * 5 + 1)).trans rfl, (blk_cell bt (7 * 5 + 2)).trans rfl, (blk_cell bt (7 * 5 + 3)).trans rfl, (blk_cell bt (7 * 5 + 4)).trans rfl, hi 3 1 (ch_3 w _ _ _ _ _ _ _ _), Kd.C_nil _ _, Kd.C_nil _ _⟩
  | 8, _ => exact ⟨none, some ⟨w.heap.size + 4, 0, none⟩, none, (blk_cell bt (8 * 5)).trans rfl, (blk_cell bt (8 * 5 + 1)).trans rfl, (blk_cell bt (8 * 5 + 2)).trans rfl, (blk_cell bt (8 * 5 + 3)).trans rfl, (blk_cell bt (8 * 5 + 4)).trans rfl, Kd.C_nil _ _, hl 4 aZ rfl (ch_4 w _ _ _ _ _ _ _ _), Kd.C_nil _ _⟩
  | 9, _ => exact ⟨none, none, some ⟨w.heap.size + 1, 0, none⟩, (blk_cell bt (9 * 5)).trans rfl, (blk_cell bt (9 * 5 + 1)).trans rfl, (blk_cell bt (9 * 5 + 2)).trans rfl, (blk_cell bt (9 * 5 + 3)).trans rfl, (blk_cell bt (9 * 5 + 4)).trans rfl, Kd.C_nil _ _, Kd.C_nil _ _, hh 1 hA (ch_1 w _ _ _ _ _ _ _ _)⟩
  | 10, _ => exact ⟨none, some ⟨w.heap.size + 0, 0, none⟩, none, (blk_cell bt (10 * 5)).trans rfl, (blk_cell bt (10 * 5 + 1)).trans rfl, (blk_cell bt (10 * 5 + 2)).trans rfl, (blk_cell bt (10 * 5 + 3)).trans rfl, (blk_cell bt (10 * 5 + 4)).trans rfl, Kd.C_nil _ _, hl 0 aA rfl (ch_0 w _ _ _ _ _ _ _ _), Kd.C_nil _ _⟩
  | 11, _ => exact ⟨some ⟨w.heap.size + 5, 0, none⟩, none, none, (blk_cell bt (11 * 5)).trans rfl, (blk_cell bt (11 * 5 + 1)).trans rfl, (blk_cell bt (11 * 5 + 2)).trans rfl, (blk_cell bt (11 * 5 + 3)).trans rfl, (blk_cell bt (11 * 5 + 4)).trans rfl, hi 5 2 (ch_5 w _ _ _ _ _ _ _ _), Kd.C_nil _ _, Kd.C_nil _ _⟩
  | 12, _ => exact ⟨none, none, some ⟨w.heap.size + 6, 0, none⟩, (blk_cell bt (12 * 5)).trans rfl, (blk_cell bt (12 * 5 + 1)).trans rfl, (blk_cell bt (12 * 5 + 2)).trans rfl, (blk_cell bt (12 * 5 + 3)).trans rfl, (blk_cell bt (12 * 5 + 4)).trans rfl, Kd.C_nil _ _, Kd.C_nil _ _, hh 6 hZ (ch_6 w _ _ _ _ _ _ _ _)⟩

set_option maxHeartbeats 4000000 in
set_option maxRecDepth 100000 in
theorem PacketForms_walk (which x : Int) (w : World) :
    Calls Try.prog 6 #[.int .i64 which, .int .i64 x] w fun e w' => e = .returned (.bool true) ∧ Below w.heap.size w w' := by
  obtain ⟨q, hq, hq13⟩ := mod_k which 13 (by decide) (by decide)
  obtain ⟨m, hm, hm9⟩ := mod_k which 9 (by decide) (by decide)
  obtain ⟨d, hd, hd4⟩ := and1023_nat x
  have hq' : wrap64 ((IntKind.u64.wrap which).tmod 13) = (q : Int) := hq
  have hm' : wrap64 ((IntKind.u64.wrap which).tmod 9) = (m : Int) := hm
  have qI : (q : Int) < 13 := by omega
  have mI : (m : Int) < 9 := by omega
  have dI : (d : Int) < 1024 := by omega
  clear hq hm
  have HB := Aside0.mk (Below.refl w.heap.size w)
  go_enter Try.func6, Try.ntmps6
  go_upto_region 6 with (first | (go_at_call 25; refine (awake12_calls _).mono ?_; rintro e w1 ⟨rfl, hb1⟩; replace HB := Aside0.mk (below_step HB.out hb1); clear hb1))
  change Code.wp _ _ _ _ (wb w1 d)
  obtain ⟨Ah, Al, As, e0, e1, e2, e3, e4, hCa, hCb, hCc⟩ := wb_bad w1 d q hq13
  have hput := put_bad d q hd4 hq13
  have hmay := may_bad d q hd4 hq13
  generalize bad d q = p at *
  obtain ⟨pt, pr, he, ls, hs⟩ := p
  simp only at e0 e1 e2 e3 e4 hCa hCb hCc
  have HPQ := Aside0.mk (show packet_Put.f 60 pt pr he ls hs = some (⟨#[]⟩, 1200) from hput)
  have HMQ := Aside0.mk (show packet_May.f 60 pt pr he ls hs = some false from hmay)
  have HCa := Aside0.mk hCa
  have HCb := Aside0.mk hCb
  have HCc := Aside0.mk hCc
  replace HB := Aside0.mk (wb_below d HB.out)
  clear hCa hCb hCc hput hmay
  generalize w1.heap.size + 1 + 1 + 1 + 1 + 1 + 1 + 1 = gT at *
  generalize wb w1 d = W at *
  go_wp2_with (fail)
  refine (packet_Put.calls 60 pt pr _ _ he _ _ ls _ _ hs ⟨#[]⟩ 1200 _ (Kd.C_alloc HCa.out _) (Nat.le_refl _) (Kd.C_alloc HCb.out _) (Nat.le_refl _) (Kd.C_alloc HCc.out _) (Nat.le_refl _) HPQ.out).mono ?_
  rintro e w2 ⟨rfl, hb1⟩
  have BK9 := Aside0.mk (blk_below (blk_new W (.cells #[.int .i64 pt, .int .i64 pr, .slice Ah he.length he.length, .slice Al ls.length ls.length, .slice As hs.length hs.length] 44)) hb1)
  replace HB := Aside0.mk (below_step (below_alloc HB.out _) hb1)
  replace HCa := Aside0.mk (Kd.C_below (Kd.C_alloc HCa.out _) hb1)
  replace HCb := Aside0.mk (Kd.C_below (Kd.C_alloc HCb.out _) hb1)
  replace HCc := Aside0.mk (Kd.C_below (Kd.C_alloc HCc.out _) hb1)
  clear hb1 e0 e1 e2 e3 e4
  go_wp2_with (fail)
  have b5 := blk_new w2 (.cells #[.int .i64 1, .int .i64 3] 3)
  have HCh := Aside0.mk (C_block (Kd.int .i64) (ps := [1, 3]) b5 (Reps.snoc (Reps.snoc (Reps.none _ _) (show (Kd.int .i64).K _ 1 [.int .i64 1] from rfl) rfl) (show (Kd.int .i64).K _ 3 [.int .i64 3] from rfl) rfl) (by decide))
  clear b5
  replace HB := Aside0.mk (below_alloc HB.out (.cells #[.int .i64 1, .int .i64 3] 3))
  replace BK9 := Aside0.mk (blk_alloc BK9.out (.cells #[.int .i64 1, .int .i64 3] 3))
  replace HCa := Aside0.mk (Kd.C_alloc HCa.out (.cells #[.int .i64 1, .int .i64 3] 3))
  replace HCb := Aside0.mk (Kd.C_alloc HCb.out (.cells #[.int .i64 1, .int .i64 3] 3))
  replace HCc := Aside0.mk (Kd.C_alloc HCc.out (.cells #[.int .i64 1, .int .i64 3] 3))
  generalize w2.alloc (.cells #[.int .i64 1, .int .i64 3] 3) = W5 at *
  refine (packet_Put.calls 60 1 2 _ 2 [1, 3] none 0 [] none 0 [] tp 0 _ HCh.out (by decide) (Kd.C_nil _ _) (Nat.le_refl _) (Kd.C_nil _ _) (Nat.le_refl _) put_tp).mono ?_
  rintro e w3 ⟨rfl, hb1⟩
  replace HB := Aside0.mk (below_step HB.out hb1)
  replace BK9 := Aside0.mk (blk_below BK9.out hb1)
  replace HCa := Aside0.mk (Kd.C_below HCa.out hb1)
  replace HCb := Aside0.mk (Kd.C_below HCb.out hb1)
  replace HCc := Aside0.mk (Kd.C_below HCc.out hb1)
  clear hb1 HCh
  have tps : tp.size = 15 := by decide
  go_upto_region 11 with (first | (go_at_call 9; go_in))
  go_still_tail 33, (by kernel_rfl)
  change wpList _ _ _ _ _ w3.drew
  go_upto_region 12 with (fail)
  have bS := blk_new w3 (.cells #[.string (⟨#[]⟩), .string (tp.extract 0 12), .string (tp.extract 0 14), .string (tp ++ ⟨#[120]⟩), .string ((tp.extract 0 1 ++ ⟨#[4]⟩) ++ tp.extract 2 15), .string ((tp.extract 0 1 ++ ⟨#[2]⟩) ++ tp.extract 2 15), .string ((tp.extract 0 3 ++ ⟨#[14]⟩) ++ tp.extract 4 15), .string ((tp.extract 0 12 ++ ⟨#[1]⟩) ++ tp.extract 13 15), .string (tp.extract 0 14 ++ ⟨#[5]⟩)] 9)
  have ct : ∀ m, m < 9 → ((w3.alloc (.cells #[.string (⟨#[]⟩), .string (tp.extract 0 12), .string (tp.extract 0 14), .string (tp ++ ⟨#[120]⟩), .string ((tp.extract 0 1 ++ ⟨#[4]⟩) ++ tp.extract 2 15), .string ((tp.extract 0 1 ++ ⟨#[2]⟩) ++ tp.extract 2 15), .string ((tp.extract 0 3 ++ ⟨#[14]⟩) ++ tp.extract 4 15), .string ((tp.extract 0 12 ++ ⟨#[1]⟩) ++ tp.extract 13 15), .string (tp.extract 0 14 ++ ⟨#[5]⟩)] 9)).drew).cell? ⟨w3.heap.size, m, none⟩ = some (.string (texts.getD m ⟨#[]⟩)) := fun m hm => match m, hm with
    | 0, _ => (blk_cell bS 0).trans rfl
    | 1, _ => (blk_cell bS 1).trans rfl
    | 2, _ => (blk_cell bS 2).trans rfl
    | 3, _ => (blk_cell bS 3).trans rfl
    | 4, _ => (blk_cell bS 4).trans rfl
    | 5, _ => (blk_cell bS 5).trans rfl
    | 6, _ => (blk_cell bS 6).trans rfl
    | 7, _ => (blk_cell bS 7).trans rfl
    | 8, _ => (blk_cell bS 8).trans rfl
  replace ct := ct m hm9
  have hgb := get_bad m hm9
  generalize texts.getD m ⟨#[]⟩ = txt at *
  have HGB := Aside0.mk hgb
  replace HB := Aside0.mk (show Below w.heap.size w (w3.alloc (.cells #[.string (⟨#[]⟩), .string (tp.extract 0 12), .string (tp.extract 0 14), .string (tp ++ ⟨#[120]⟩), .string ((tp.extract 0 1 ++ ⟨#[4]⟩) ++ tp.extract 2 15), .string ((tp.extract 0 1 ++ ⟨#[2]⟩) ++ tp.extract 2 15), .string ((tp.extract 0 3 ++ ⟨#[14]⟩) ++ tp.extract 4 15), .string ((tp.extract 0 12 ++ ⟨#[1]⟩) ++ tp.extract 13 15), .string (tp.extract 0 14 ++ ⟨#[5]⟩)] 9)).drew from (below_alloc HB.out _).drew)
  replace BK9 := Aside0.mk (show (w3.alloc (.cells #[.string (⟨#[]⟩), .string (tp.extract 0 12), .string (tp.extract 0 14), .string (tp ++ ⟨#[120]⟩), .string ((tp.extract 0 1 ++ ⟨#[4]⟩) ++ tp.extract 2 15), .string ((tp.extract 0 1 ++ ⟨#[2]⟩) ++ tp.extract 2 15), .string ((tp.extract 0 3 ++ ⟨#[14]⟩) ++ tp.extract 4 15), .string ((tp.extract 0 12 ++ ⟨#[1]⟩) ++ tp.extract 13 15), .string (tp.extract 0 14 ++ ⟨#[5]⟩)] 9)).drew.heap[W.heap.size]? = _ from blk_alloc BK9.out _)
  replace HCa := Aside0.mk (Kd.C_drew (Kd.C_alloc HCa.out (.cells #[.string (⟨#[]⟩), .string (tp.extract 0 12), .string (tp.extract 0 14), .string (tp ++ ⟨#[120]⟩), .string ((tp.extract 0 1 ++ ⟨#[4]⟩) ++ tp.extract 2 15), .string ((tp.extract 0 1 ++ ⟨#[2]⟩) ++ tp.extract 2 15), .string ((tp.extract 0 3 ++ ⟨#[14]⟩) ++ tp.extract 4 15), .string ((tp.extract 0 12 ++ ⟨#[1]⟩) ++ tp.extract 13 15), .string (tp.extract 0 14 ++ ⟨#[5]⟩)] 9)))
  replace HCb := Aside0.mk (Kd.C_drew (Kd.C_alloc HCb.out (.cells #[.string (⟨#[]⟩), .string (tp.extract 0 12), .string (tp.extract 0 14), .string (tp ++ ⟨#[120]⟩), .string ((tp.extract 0 1 ++ ⟨#[4]⟩) ++ tp.extract 2 15), .string ((tp.extract 0 1 ++ ⟨#[2]⟩) ++ tp.extract 2 15), .string ((tp.extract 0 3 ++ ⟨#[14]⟩) ++ tp.extract 4 15), .string ((tp.extract 0 12 ++ ⟨#[1]⟩) ++ tp.extract 13 15), .string (tp.extract 0 14 ++ ⟨#[5]⟩)] 9)))
  replace HCc := Aside0.mk (Kd.C_drew (Kd.C_alloc HCc.out (.cells #[.string (⟨#[]⟩), .string (tp.extract 0 12), .string (tp.extract 0 14), .string (tp ++ ⟨#[120]⟩), .string ((tp.extract 0 1 ++ ⟨#[4]⟩) ++ tp.extract 2 15), .string ((tp.extract 0 1 ++ ⟨#[2]⟩) ++ tp.extract 2 15), .string ((tp.extract 0 3 ++ ⟨#[14]⟩) ++ tp.extract 4 15), .string ((tp.extract 0 12 ++ ⟨#[1]⟩) ++ tp.extract 13 15), .string (tp.extract 0 14 ++ ⟨#[5]⟩)] 9)))
  clear bS hgb
  generalize (w3.alloc (.cells #[.string (⟨#[]⟩), .string (tp.extract 0 12), .string (tp.extract 0 14), .string (tp ++ ⟨#[120]⟩), .string ((tp.extract 0 1 ++ ⟨#[4]⟩) ++ tp.extract 2 15), .string ((tp.extract 0 1 ++ ⟨#[2]⟩) ++ tp.extract 2 15), .string ((tp.extract 0 3 ++ ⟨#[14]⟩) ++ tp.extract 4 15), .string ((tp.extract 0 12 ++ ⟨#[1]⟩) ++ tp.extract 13 15), .string (tp.extract 0 14 ++ ⟨#[5]⟩)] 9)).drew = W8 at *
  go_upto_region 13 with (first | (go_at_call 19; refine (packet_Get.calls 60 txt 0 0 [] [] [] 1200 _ HGB.out).mono ?_; rintro e w5 ⟨v2, v3, v4, rfl, h2, h3, h4, hb1⟩; obtain ⟨Az2, cz2, hv2, hc2, hC2⟩ := Kd.R_reads h2; subst hv2; obtain ⟨Az3, cz3, hv3, hc3, hC3⟩ := Kd.S_reads h3; subst hv3; obtain ⟨Az4, cz4, hv4, hc4, hC4⟩ := Kd.R_reads h4; subst hv4; replace HB := Aside0.mk (below_step HB.out hb1); replace BK9 := Aside0.mk (blk_below BK9.out hb1); replace HCa := Aside0.mk (Kd.C_below HCa.out hb1); replace HCb := Aside0.mk (Kd.C_below HCb.out hb1); replace HCc := Aside0.mk (Kd.C_below HCc.out hb1); clear hb1 h2 h3 h4 hc2 hc3 hc4 hC2 hC3 hC4 ct))
  replace HB := Aside0.mk (below_alloc HB.out (.cells #[.int .i64 0, .int .i64 0, .slice Az2 0 cz2, .slice Az3 0 cz3, .slice Az4 0 cz4] 44))
  replace BK9 := Aside0.mk (blk_alloc BK9.out (.cells #[.int .i64 0, .int .i64 0, .slice Az2 0 cz2, .slice Az3 0 cz3, .slice Az4 0 cz4] 44))
  replace HCa := Aside0.mk (Kd.C_alloc HCa.out (.cells #[.int .i64 0, .int .i64 0, .slice Az2 0 cz2, .slice Az3 0 cz3, .slice Az4 0 cz4] 44))
  replace HCb := Aside0.mk (Kd.C_alloc HCb.out (.cells #[.int .i64 0, .int .i64 0, .slice Az2 0 cz2, .slice Az3 0 cz3, .slice Az4 0 cz4] 44))
  replace HCc := Aside0.mk (Kd.C_alloc HCc.out (.cells #[.int .i64 0, .int .i64 0, .slice Az2 0 cz2, .slice Az3 0 cz3, .slice Az4 0 cz4] 44))
  generalize w5.alloc (.cells #[.int .i64 0, .int .i64 0, .slice Az2 0 cz2, .slice Az3 0 cz3, .slice Az4 0 cz4] 44) = w6 at *
  have bk90 : w6.cell? ⟨W.heap.size, 0, none⟩ = some (.int .i64 pt) := (blk_cell BK9.out 0).trans rfl
  have bk91 : w6.cell? ⟨W.heap.size, 1, none⟩ = some (.int .i64 pr) := (blk_cell BK9.out 1).trans rfl
  have bk92 : w6.cell? ⟨W.heap.size, 2, none⟩ = some (.slice Ah he.length he.length) := (blk_cell BK9.out 2).trans rfl
  have bk93 : w6.cell? ⟨W.heap.size, 3, none⟩ = some (.slice Al ls.length ls.length) := (blk_cell BK9.out 3).trans rfl
  have bk94 : w6.cell? ⟨W.heap.size, 4, none⟩ = some (.slice As hs.length hs.length) := (blk_cell BK9.out 4).trans rfl
  go_wp2_with (first | (go_at_call 9; go_in) | (go_at_call 22; refine (packet_May.calls 60 pt pr _ _ he _ _ ls _ _ hs false _ HCa.out (Nat.le_refl _) HCb.out (Nat.le_refl _) HCc.out (Nat.le_refl _) HMQ.out).mono ?_; rintro e w8 ⟨rfl, hb1⟩; replace HB := Aside0.mk (below_step HB.out hb1); clear hb1))
  go_ret
  exact ⟨rfl, HB.out⟩
end Go.Proofs.Ytfhccpdkgceneaa.K
