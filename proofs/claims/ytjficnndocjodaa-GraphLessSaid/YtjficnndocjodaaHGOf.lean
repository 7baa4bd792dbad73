/- graph.Of and the reference's GraphOf answer 'graphOf' of the list. -/
import Derived.Test.YtjficnndocjodaaHGMay
import Derived.StillTailTactics
import Derived.Deep.RegionHeld3
import Derived.IntWalk
namespace Go.Proofs.Ytjficnndocjodaa.H
open Go.RowKit Go.Proofs.YtjficnndocjodaaW.PrintWords Go.Proofs.YtjficnndocjodaaW.PrintLast Go.Proofs.YtjficnndocjodaaW.PrintMore
open Go.Proofs.Ytjficnndocjodaa.PGraphs
set_option linter.unusedVariables false
set_option linter.unusedSimpArgs false

theorem results_cell_slot {fn : Func} {p q : Tmp} {ty : TypeId} (h : fn.results = #[.cell p ty, .tmp q]) (tmps : Array Value) (w : World) (g : Nat) (t : TypeId) (cs : Array Value) (n : Nat) (e : TypeId) (v : Value)
    (hp : tmps.getD p undef = .pointer (some ⟨g, 0, none⟩)) (hq : tmps.getD q undef = v) (hg : w.heap[g]? = some (.cells cs t (0, 0)))
    (hu : Try.prog.underlying ty = some (.array n e)) (hi : (Try.prog.info? ty).map (·.size) = some cs.size) :
    (results fn tmps).run Try.prog w = .ok (.tuple #[.agg cs, v]) w := by
  have hp' : tmps[p]?.getD undef = .pointer (some ⟨g, 0, none⟩) := by simpa using hp
  have hq' : tmps[q]?.getD undef = v := by simpa using hq
  simp [results, h, hp', hq', asAddr, run_loadVar_row w g t ty cs (0, 0) _ hg hu rfl hi]
/-- A link of a list, as a walk reads it. -/
theorem lk_cells {w wr : World} {A : Option Addr} {ls : List Lk} (h : Kd.C k59 w A ls.length ls) (hb : Below w.heap.size w wr) (i : Nat) (hi : i < ls.length) :
    ∃ ad, A = some ad ∧ wr.cell? (ad.add (i * 2)) = some (.int .i64 (lkAt ls i).f0) ∧ wr.cell? ⟨(ad.add (i * 2)).block, (ad.add (i * 2)).off + 1, none⟩ = some (.int .i64 (lkAt ls i).f1) := by
  obtain ⟨ad, e, q0, q1⟩ := at_T59 h (i : Int) (by omega) (by omega)
  exact ⟨ad, e, (hb.cell (World.block_lt_of_cell? w _ q0)).trans q0, (hb.cell (World.block_lt_of_cell? w _ q1)).trans q1⟩

set_option maxHeartbeats 2000000 in
set_option maxRecDepth 100000 in
theorem Of_bad (l : List La) (A : Option Addr) (c : Nat) (w : World) (hr : Kd.C k57 w A l.length l) (hc : l.length ≤ c) (hbad : storeOk l = false) :
    Calls Try.prog 21 #[.slice A l.length c] w fun e w' => e = .returned (.tuple #[.agg (AV zs16), .int .i64 2000]) ∧ Below w.heap.size w w' := by
  have HR := Aside0.mk hr
  have HC := Aside0.mk hc
  have HK := Aside0.mk hbad
  clear hr hc hbad
  have HB := Aside0.mk (Below.refl w.heap.size w)
  go_enter Try.func21, Try.ntmps21
  go_wp2_with (first | ((with_reducible refine gate_dst (N := 2) rfl ?_); refine box_event ?hg (N := 2) ?hd (cs := AV zs16) (t := 23) ?hr ?_; (case hd => rfl); (case hg => rfl); (case hr => first | (go_simp; done) | (go_simp; rfl)); intro g2 hg2 w1 hbox hb1; have HX2 := Aside0.mk (show Blk w1 g2 23 zs16 from hbox); have HG2 := Aside0.mk (show w.heap.size ≤ g2 by rw [hg2]; exact HB.out.size); replace HB := Aside0.mk (below_step HB.out hb1); clear hbox hb1 hg2) | (go_at_call 32; refine (store_May_calls l A c _ (Kd.C_below HR.out HB.out) HC.out).mono ?_; rintro e w1 ⟨rfl, hb1⟩; rw [HK.out]; replace HB := Aside0.mk (below_step HB.out hb1); replace HX2 := Aside0.mk (HX2.out.below hb1); clear hb1) | ((with_reducible refine gate_store (p := 2) rfl ?_); refine wpL_store rfl rfl rfl (c := zs16) rfl HX2.out size23 rfl ?_; intro w2 hX2 hP2; replace HX2 := Aside0.mk hX2; replace HB := Aside0.mk (hP2.below _ _ HB.out HG2.out); clear hX2 hP2))
  refine bodyPost_ret (results_cell_slot rfl _ _ g2 23 (AV zs16) _ _ (.int .i64 2000) rfl rfl HX2.out Try.underlying23 (by rw [AV_size]; exact size23)) rfl ⟨rfl, HB.out⟩
theorem size57 : (Try.prog.info? 57).map (·.size) = some 4 := by kernel_rfl
theorem size59 : (Try.prog.info? 59).map (·.size) = some 2 := by kernel_rfl
def zs4' : List Int := List.replicate 4 0

set_option maxHeartbeats 4000000 in
set_option maxRecDepth 100000 in
theorem Of_good (l : List La) (A : Option Addr) (c : Nat) (w : World) (hr : Kd.C k57 w A l.length l) (hc : l.length ≤ c) (hok : storeOk l = true) :
    Calls Try.prog 21 #[.slice A l.length c] w fun e w' => e = .returned (.tuple #[.agg (AV (bothTo (tellAt l l.length) 16)), .int .i64 0]) ∧ Below w.heap.size w w' := by
  have HR := Aside0.mk hr
  have HC := Aside0.mk hc
  have HK := Aside0.mk hok
  have l63 : l.length ≤ 9223372036854775807 := hr.2.1
  clear hr hc hok
  have HB := Aside0.mk (Below.refl w.heap.size w)
  go_enter Try.func21, Try.ntmps21
  go_wp2_with (first | ((with_reducible refine gate_dst (N := 2) rfl ?_); refine box_event ?hg (N := 2) ?hd (cs := AV zs16) (t := 23) ?hr ?_; (case hd => rfl); (case hg => rfl); (case hr => first | (go_simp; done) | (go_simp; rfl)); intro g2 hg2 w1 hbox hb1; have HX2 := Aside0.mk (show Blk w1 g2 23 zs16 from hbox); have HG2 := Aside0.mk (show w.heap.size ≤ g2 by rw [hg2]; exact HB.out.size); replace HB := Aside0.mk (below_step HB.out hb1); clear hbox hb1 hg2) | (go_at_call 32; refine (store_May_calls l A c _ (Kd.C_below HR.out HB.out) HC.out).mono ?_; rintro e w1 ⟨rfl, hb1⟩; rw [HK.out]; replace HB := Aside0.mk (below_step HB.out hb1); replace HX2 := Aside0.mk (HX2.out.below hb1); clear hb1) | ((with_reducible refine gate_dst (N := 4) rfl ?_); refine box_event ?hg (N := 4) ?hd (cs := AV zs16) (t := 23) ?hr ?_; (case hd => rfl); (case hg => rfl); (case hr => first | (go_simp; done) | (go_simp; rfl)); intro g4 hg4 w1 hbox hb1; have HX4 := Aside0.mk (show Blk w1 g4 23 (tellAt l 0) from hbox); have HG4 := Aside0.mk (show w.heap.size ≤ g4 by rw [hg4]; exact HB.out.size); have HN24 := Aside0.mk (show g2 ≠ g4 by rw [hg4]; exact Nat.ne_of_lt HX2.out.lt); replace HX2 := Aside0.mk (HX2.out.below hb1); replace HB := Aside0.mk (below_step HB.out hb1); clear hbox hb1 hg4) | ((with_reducible refine gate_dst (N := 5) rfl ?_); refine box_event ?hg (N := 5) ?hd (cs := AV zs16) (t := 23) ?hr ?_; (case hd => rfl); (case hg => rfl); (case hr => first | (go_simp; done) | (go_simp; rfl)); intro g5 hg5 w1 hbox hb1; have HX5 := Aside0.mk (show Blk w1 g5 23 zs16 from hbox); have HG5 := Aside0.mk (show w.heap.size ≤ g5 by rw [hg5]; exact HB.out.size); have HN25 := Aside0.mk (show g2 ≠ g5 by rw [hg5]; exact Nat.ne_of_lt HX2.out.lt); have HN45 := Aside0.mk (show g4 ≠ g5 by rw [hg5]; exact Nat.ne_of_lt HX4.out.lt); replace HX2 := Aside0.mk (HX2.out.below hb1); replace HX4 := Aside0.mk (HX4.out.below hb1); replace HB := Aside0.mk (below_step HB.out hb1); clear hbox hb1 hg5))
  go_loopw [20] (fun i wr => ∃ n : Nat, n ≤ l.length ∧ i = .int .i64 (n : Int) ∧ Aside0 (Blk wr g4 23 (tellAt l n)) ∧ Aside0 (Blk wr g5 23 zs16) ∧ Aside0 (Blk wr g2 23 zs16) ∧ Aside0 (Below w.heap.size w wr)) (fun i _ => l.length - (intOf i).toNat)
  case atStart => exact ⟨0, by omega, rfl, HX4, HX5, HX2, HB⟩
  case round =>
    clear HB HX2 HX4 HX5
    obtain ⟨n, hn, rfl, HX4, HX5, HX2, HB⟩ := hrel
    by_cases hnl : n < l.length
    · have nI : (n : Int) < (l.length : Int) := by omega
      obtain ⟨ad, A3, c3, hA, q0, q1, q2, q3, hl3, hC3⟩ := la_cells HR.out HB.out n hnl
      have HRK := Aside0.mk HR.out
      subst hA
      have hro := st_router l HK.out n hnl
      have HLK := Aside0.mk (st_link l HK.out n hnl)
      have HTA := Aside0.mk (show tellAt l (n + 1) = tellIn (laAt l n).f0 (laAt l n).f3 (tellAt l n) (laAt l n).f3.length from rfl)
      have HTL := Aside0.mk (tellAt_length l n)
      have HC3 := Aside0.mk hC3
      have n63 : (laAt l n).f3.length ≤ 9223372036854775807 := hC3.2.1
      clear hl3 hC3
      generalize laAt l n = la at *
      obtain ⟨r, f1, f2, ls⟩ := la
      simp only at q0 q1 q2 q3 hro HLK HTA HC3 n63
      obtain ⟨n3, hn3⟩ : ∃ n3, n3 = ls.length := ⟨_, rfl⟩
      rw [← hn3] at q3 n63
      have HN3 := Aside0.mk hn3
      obtain ⟨a, ha⟩ : ∃ a : Nat, r = (a : Int) + 1 := ⟨(r - 1).toNat, by omega⟩
      have aI : (a : Int) < 4 := by omega
      have HA := Aside0.mk ha
      have wa : IntKind.i64.wrap (r - 1) = (a : Int) := by rw [IntWalk.i64_in _ (by omega)]; omega
      clear hn3 ha hro
      go_wp2_with (first | ((with_reducible refine gate_dst (N := 7) rfl ?_); refine box_event ?hg (N := 7) ?hd (cs := #[.int .i64 0, .int .i64 0, .int .i64 0, .slice none 0 0]) (t := 57) ?hr ?_; (case hd => rfl); (case hg => rfl); (case hr => first | (go_simp; done) | (go_simp; rfl)); intro g7 hg7 w1 hbox hb1; have HX7 := Aside0.mk hbox; have HG7 := Aside0.mk (show w.heap.size ≤ g7 by rw [hg7]; exact HB.out.size); have HN27 := Aside0.mk (show g2 ≠ g7 by rw [hg7]; exact Nat.ne_of_lt HX2.out.lt); have HN47 := Aside0.mk (show g4 ≠ g7 by rw [hg7]; exact Nat.ne_of_lt HX4.out.lt); have HN57 := Aside0.mk (show g5 ≠ g7 by rw [hg7]; exact Nat.ne_of_lt HX5.out.lt); replace HX2 := Aside0.mk (HX2.out.below hb1); replace HX4 := Aside0.mk (HX4.out.below hb1); replace HX5 := Aside0.mk (HX5.out.below hb1); replace HB := Aside0.mk (below_step HB.out hb1); clear hbox hb1 hg7) | ((with_reducible refine gate_store (p := 7) rfl ?_); refine wpL_storeC rfl rfl rfl (cs := #[.int .i64 r, .int .i64 f1, .int .i64 f2, .slice A3 n3 c3]) rfl HX7.out size57 rfl (by simp [Value.oneCell']) ?_; intro w2 hX4 hP4; replace HX7 := Aside0.mk hX4; replace HX2 := Aside0.mk (HX2.out.put hP4 HN27.out); replace HX4 := Aside0.mk (HX4.out.put hP4 HN47.out); replace HX5 := Aside0.mk (HX5.out.put hP4 HN57.out); replace HB := Aside0.mk (hP4.below _ _ HB.out HG7.out); clear hX4 hP4; have q73 : w2.cell? ⟨g7, 3, none⟩ = some (.slice A3 n3 c3) := (blk_cell HX7.out 3).trans rfl))
      go_loopw [27] (fun i wr => ∃ m : Nat, m ≤ n3 ∧ i = .int .i64 (m : Int) ∧ Aside0 (Blk wr g4 23 (tellIn r ls (tellAt l n) m)) ∧ Aside0 (Blk wr g5 23 zs16) ∧ Aside0 (Blk wr g2 23 zs16) ∧ Aside0 (wr.heap[g7]? = some (.cells #[.int .i64 r, .int .i64 f1, .int .i64 f2, .slice A3 n3 c3] 57 (0, 0))) ∧ Aside0 (Below w.heap.size w wr)) (fun i _ => n3 - (intOf i).toNat)
      case atStart => exact ⟨0, by omega, rfl, HX4, HX5, HX2, HX7, HB⟩
      case round =>
        clear HB HX2 HX4 HX5 HX7 q0 q1 q2 q3 q73
        obtain ⟨m, hm, rfl, HX4, HX5, HX2, HX7, HB⟩ := hrel
        by_cases hml : m < n3
        · have mI : (m : Int) < (n3 : Int) := by omega
          obtain ⟨ad3, hA3, p0, p1⟩ := lk_cells HC3.out HB.out m (by rw [← HN3.out]; exact hml)
          subst hA3
          have hlk := HLK.out m (by rw [← HN3.out]; exact hml)
          have HTI := Aside0.mk (show tellIn r ls (tellAt l n) (m + 1) = (tellIn r ls (tellAt l n) m).set ((r - 1).toNat * 4 + ((lkAt ls m).f0 - 1).toNat) (lkAt ls m).f1 from rfl)
          have HTN := Aside0.mk (show (tellIn r ls (tellAt l n) m).length = 16 by rw [tellIn_length, HTL.out])
          generalize lkAt ls m = lk at *
          obtain ⟨tt, co⟩ := lk
          simp only at p0 p1 hlk HTI
          obtain ⟨b, hb⟩ : ∃ b : Nat, tt = (b : Int) + 1 := ⟨(tt - 1).toNat, by omega⟩
          have bI : (b : Int) < 4 := by omega
          have wb : IntKind.i64.wrap (tt - 1) = (b : Int) := by rw [IntWalk.i64_in _ (by omega)]; omega
          have ab : a * 4 + b < 16 := by omega
          replace HTI := Aside0.mk (show tellIn r ls (tellAt l n) (m + 1) = (tellIn r ls (tellAt l n) m).set (a * 4 + b) co by rw [HTI.out, HA.out, hb, show ((a : Int) + 1 - 1).toNat = a by omega, show ((b : Int) + 1 - 1).toNat = b by omega])
          clear hlk hb
          go_wp2_with (first | ((with_reducible refine gate_dst (N := 9) rfl ?_); refine box_event ?hg (N := 9) ?hd (cs := #[.int .i64 0, .int .i64 0]) (t := 59) ?hr ?_; (case hd => rfl); (case hg => rfl); (case hr => first | (go_simp; done) | (go_simp; rfl)); intro g9 hg9 w3 hbox hb1; have HX9 := Aside0.mk hbox; have HG9 := Aside0.mk (show w.heap.size ≤ g9 by rw [hg9]; exact HB.out.size); have HN29 := Aside0.mk (show g2 ≠ g9 by rw [hg9]; exact Nat.ne_of_lt HX2.out.lt); have HN49 := Aside0.mk (show g4 ≠ g9 by rw [hg9]; exact Nat.ne_of_lt HX4.out.lt); have HN59 := Aside0.mk (show g5 ≠ g9 by rw [hg9]; exact Nat.ne_of_lt HX5.out.lt); have HN79 := Aside0.mk (show g7 ≠ g9 by rw [hg9]; exact Nat.ne_of_lt (blk_lt HX7.out)); replace HX7 := Aside0.mk (blk_below HX7.out hb1); replace HX2 := Aside0.mk (HX2.out.below hb1); replace HX4 := Aside0.mk (HX4.out.below hb1); replace HX5 := Aside0.mk (HX5.out.below hb1); replace HB := Aside0.mk (below_step HB.out hb1); clear hbox hb1 hg9) | ((with_reducible refine gate_store (p := 9) rfl ?_); refine wpL_storeC rfl rfl rfl (cs := #[.int .i64 tt, .int .i64 co]) rfl HX9.out size59 rfl (by simp [Value.oneCell']) ?_; intro w4 hX4 hP4; replace HX9 := Aside0.mk hX4; replace HX2 := Aside0.mk (HX2.out.put hP4 HN29.out); replace HX4 := Aside0.mk (HX4.out.put hP4 HN49.out); replace HX5 := Aside0.mk (HX5.out.put hP4 HN59.out); replace HX7 := Aside0.mk ((hP4.keep.2 g7 (blk_lt HX7.out) HN79.out (by simp)).trans HX7.out); replace HB := Aside0.mk (hP4.below _ _ HB.out HG9.out); clear hX4 hP4; have q70 : w4.cell? ⟨g7, 0, none⟩ = some (.int .i64 r) := (blk_cell HX7.out 0).trans rfl; have q90 : w4.cell? ⟨g9, 0, none⟩ = some (.int .i64 tt) := (blk_cell HX9.out 0).trans rfl; have q91 : w4.cell? ⟨g9, 1, none⟩ = some (.int .i64 co) := (blk_cell HX9.out 1).trans rfl))
          have hlt := HX4.out.lt
          go_still_tail 10, (by kernel_rfl)
          change wpList _ _ _ _ _ w4.drew
          go_wp2_with (first | (refine wpL_set rfl rfl rfl rfl HX4.out.drew (by rw [HTN.out]; exact ab) ?_; intro w5 hX2 hP2; have HX6 := Aside0.mk (show Blk w5 g4 23 (tellIn r ls (tellAt l n) (m + 1)) by rw [HTI.out]; exact hX2); replace HX5 := Aside0.mk (HX5.out.drew.put hP2 (Ne.symm HN45.out)); replace HX2 := Aside0.mk (HX2.out.drew.put hP2 HN24.out); replace HX7 := Aside0.mk ((hP2.keep.2 g7 (blk_lt HX7.out) (Ne.symm HN47.out) (by simp)).trans HX7.out); replace HB := Aside0.mk (hP2.below _ _ HB.out.drew HG4.out); clear hX2 hP2))
          go_roundw
          case rel => exact ⟨m + 1, by omega, by go_num, HX6, HX5, HX2, HX7, HB⟩
          case measure => simp [intOf]; omega
        · have mI : ¬ (m : Int) < (n3 : Int) := by omega
          replace HX4 := Aside0.mk (show Blk wr g4 23 (tellAt l (n + 1)) by rw [HTA.out, ← HN3.out, show n3 = m by omega]; exact HX4.out)
          go_wp2_with (fail)
          go_roundw
          case rel => exact ⟨n + 1, by omega, by go_num, HX4, HX5, HX2, HB⟩
          case measure => simp [intOf]; omega
    · have nI : ¬ (n : Int) < (l.length : Int) := by omega
      obtain ⟨t, ht⟩ : ∃ t, t = tellAt l l.length := ⟨_, rfl⟩
      replace HX4 := Aside0.mk (show Blk wr g4 23 t by rw [ht, show l.length = n by omega]; exact HX4.out)
      have HT := Aside0.mk (show t.length = 16 by rw [ht]; exact tellAt_length l _)
      have HTE := Aside0.mk ht
      replace HX5 := Aside0.mk (show Blk wr g5 23 (bothTo t 0) from HX5.out)
      clear ht
      go_wp2_with (first | ((with_reducible refine gate_dst (N := 43) rfl ?_); refine wpL_load rfl rfl rfl HX4.out Try.underlying23 (by rw [HT.out]; exact size23) ?_))
      go_loopw [44] (fun i wr => ∃ a : Nat, a ≤ 4 ∧ i = .int .i64 (a : Int) ∧ Aside0 (Blk wr g4 23 t) ∧ Aside0 (Blk wr g5 23 (bothTo t (a * 4))) ∧ Aside0 (Blk wr g2 23 zs16) ∧ Aside0 (Below w.heap.size w wr)) (fun i _ => 4 - (intOf i).toNat)
      case atStart => exact ⟨0, by omega, rfl, HX4, HX5, HX2, HB⟩
      case round =>
        clear HB HX2 HX4 HX5
        obtain ⟨a, ha, rfl, HX4, HX5, HX2, HB⟩ := hrel
        by_cases ha4 : a < 4
        · have aI : (a : Int) < 4 := by omega
          have i16 := index16 t HT.out a ha4
          go_wp2_with (first | ((with_reducible refine gate_dst (N := 11) rfl ?_); refine box_event ?hg (N := 11) ?hd (cs := AV zs4') (t := 22) ?hr ?_; (case hd => rfl); (case hg => rfl); (case hr => first | (go_simp; done) | (go_simp; rfl)); intro g11 hg11 w1 hbox hb1; have HX11 := Aside0.mk (show Blk w1 g11 22 zs4' from hbox); have HG11 := Aside0.mk (show w.heap.size ≤ g11 by rw [hg11]; exact HB.out.size); have HN211 := Aside0.mk (show g2 ≠ g11 by rw [hg11]; exact Nat.ne_of_lt HX2.out.lt); have HN411 := Aside0.mk (show g4 ≠ g11 by rw [hg11]; exact Nat.ne_of_lt HX4.out.lt); have HN511 := Aside0.mk (show g5 ≠ g11 by rw [hg11]; exact Nat.ne_of_lt HX5.out.lt); replace HX2 := Aside0.mk (HX2.out.below hb1); replace HX4 := Aside0.mk (HX4.out.below hb1); replace HX5 := Aside0.mk (HX5.out.below hb1); replace HB := Aside0.mk (below_step HB.out hb1); clear hbox hb1 hg11) | ((with_reducible refine gate_store (p := 11) rfl ?_); refine wpL_store rfl rfl rfl rfl HX11.out (by rw [row_length t a (by rw [HT.out]; omega)]; exact size22) (by rw [row_length t a (by rw [HT.out]; omega)]; rfl) ?_; intro w2 hX4 hP4; replace HX11 := Aside0.mk hX4; replace HX2 := Aside0.mk (HX2.out.put hP4 HN211.out); replace HX4 := Aside0.mk (HX4.out.put hP4 HN411.out); replace HX5 := Aside0.mk (HX5.out.put hP4 HN511.out); replace HB := Aside0.mk (hP4.below _ _ HB.out HG11.out); clear hX4 hP4) | ((with_reducible refine gate_dst (N := 48) rfl ?_); refine wpL_load rfl rfl rfl HX11.out Try.underlying22 (by rw [row_length t a (by rw [HT.out]; omega)]; exact size22) ?_))
          go_loopw [49] (fun i wr => ∃ b : Nat, b ≤ 4 ∧ i = .int .i64 (b : Int) ∧ Aside0 (Blk wr g4 23 t) ∧ Aside0 (Blk wr g5 23 (bothTo t (a * 4 + b))) ∧ Aside0 (Blk wr g2 23 zs16) ∧ Aside0 (Below w.heap.size w wr)) (fun i _ => 4 - (intOf i).toNat)
          case atStart => exact ⟨0, by omega, rfl, HX4, HX5, HX2, HB⟩
          case round =>
            clear HB HX2 HX4 HX5 HX11
            obtain ⟨b, hb, rfl, HX4, HX5, HX2, HB⟩ := hrel
            by_cases hb4 : b < 4
            · have bI : (b : Int) < 4 := by omega
              have i4 := index4row t HT.out a b ha4 hb4
              have cb := HX4.out.cell (b * 4 + a) (by rw [HT.out]; omega)
              have ab : a * 4 + b < 16 := by omega
              obtain ⟨y, hy⟩ : ∃ y, y = gt t (b * 4 + a) := ⟨_, rfl⟩
              obtain ⟨x, hx⟩ : ∃ x, x = gt t (a * 4 + b) := ⟨_, rfl⟩
              rw [← hy] at cb
              rw [← hx] at i4
              have hst : bothTo t (a * 4 + (b + 1)) = if 0 < y then (bothTo t (a * 4 + b)).set (a * 4 + b) x else bothTo t (a * 4 + b) := by
                rw [← Nat.add_assoc]
                show (if 0 < gt t ((a * 4 + b) % 4 * 4 + (a * 4 + b) / 4) then (bothTo t (a * 4 + b)).set (a * 4 + b) (gt t (a * 4 + b)) else bothTo t (a * 4 + b)) = _
                rw [show (a * 4 + b) % 4 * 4 + (a * 4 + b) / 4 = b * 4 + a by omega, ← hy, ← hx]
              by_cases hp : 0 < y
              · have t1 : decide (0 < y) = true := by simpa using hp
                have HE := Aside0.mk (show bothTo t (a * 4 + (b + 1)) = (bothTo t (a * 4 + b)).set (a * 4 + b) x by rw [hst, if_pos hp])
                clear hst hp hy hx
                go_wp2_with (first | (refine wpL_set rfl rfl rfl rfl HX5.out (by rw [bothTo_length]; exact ab) ?_; intro w2 hX2 hP2; have HX6 := Aside0.mk (show Blk w2 g5 23 (bothTo t (a * 4 + (b + 1))) by rw [HE.out]; exact hX2); replace HX4 := Aside0.mk (HX4.out.put hP2 HN45.out); replace HX2 := Aside0.mk (HX2.out.put hP2 HN25.out); replace HB := Aside0.mk (hP2.below _ _ HB.out HG5.out); clear hX2 hP2))
                go_roundw
                case rel => exact ⟨b + 1, by omega, by go_num, HX4, HX6, HX2, HB⟩
                case measure => simp [intOf]; omega
              · have t1 : decide (0 < y) = false := by simpa using hp
                have HE := Aside0.mk (show bothTo t (a * 4 + (b + 1)) = bothTo t (a * 4 + b) by rw [hst, if_neg hp])
                clear hst hp hy hx
                go_wp2_with (fail)
                go_roundw
                case rel => exact ⟨b + 1, by omega, by go_num, HX4, ⟨by rw [HE.out]; exact HX5.out⟩, HX2, HB⟩
                case measure => simp [intOf]; omega
            · have bI : ¬ (b : Int) < 4 := by omega
              replace HX5 := Aside0.mk (show Blk wr g5 23 (bothTo t ((a + 1) * 4)) by rw [show (a + 1) * 4 = a * 4 + b by omega]; exact HX5.out)
              go_wp2_with (fail)
              go_roundw
              case rel => exact ⟨a + 1, by omega, by go_num, HX4, HX5, HX2, HB⟩
              case measure => simp [intOf]; omega
        · have aI : ¬ (a : Int) < 4 := by omega
          replace HX5 := Aside0.mk (show Blk wr g5 23 (bothTo t 16) by rw [show 16 = a * 4 by omega]; exact HX5.out)
          go_wp2_with (first | ((with_reducible refine gate_dst (N := 66) rfl ?_); refine wpL_load rfl rfl rfl HX5.out Try.underlying23 (by rw [bothTo_length]; exact size23) ?_) | ((with_reducible refine gate_store (p := 2) rfl ?_); refine wpL_store rfl rfl rfl rfl HX2.out (by rw [bothTo_length]; exact size23) (by rw [bothTo_length]; rfl) ?_; intro w2 hX2 hP2; replace HX2 := Aside0.mk hX2; replace HB := Aside0.mk (hP2.below _ _ HB.out HG2.out); clear hX2 hP2))
          rw [← HTE.out]
          refine bodyPost_ret (results_cell_slot rfl _ _ g2 23 (AV (bothTo t 16)) _ _ (.int .i64 0) rfl rfl HX2.out Try.underlying23 (by rw [AV_size, bothTo_length]; exact size23)) rfl ⟨rfl, HB.out⟩
end Go.Proofs.Ytjficnndocjodaa.H
