/- The reference's GraphOf answers 'rgraphOf' of the list. -/
import Derived.Test.YtjficnndocjodaaHGOf
import Derived.Deep.RegionWith
namespace Go.Proofs.Ytjficnndocjodaa.H
open Go.RowKit Go.Proofs.YtjficnndocjodaaW.PrintWords Go.Proofs.YtjficnndocjodaaW.PrintLast Go.Proofs.YtjficnndocjodaaW.PrintMore
open Go.Proofs.Ytjficnndocjodaa.PGraphs
set_option linter.unusedVariables false
set_option linter.unusedSimpArgs false

set_option maxHeartbeats 2000000 in
set_option maxRecDepth 100000 in
theorem GraphOf_bad (l : List La) (A : Option Addr) (c : Nat) (w : World) (hr : Kd.C k57 w A l.length l) (hc : l.length ≤ c) (hbad : storeOk l = false) :
    Calls Try.prog 22 #[.slice A l.length c] w fun e w' => e = .returned (.tuple #[.agg (AV zs16), .int .i64 2000]) ∧ Below w.heap.size w w' := by
  have HR := Aside0.mk hr
  have HC := Aside0.mk hc
  have HK := Aside0.mk hbad
  clear hr hc hbad
  have HB := Aside0.mk (Below.refl w.heap.size w)
  go_enter Try.func22, Try.ntmps22
  go_wp2_with (first | ((with_reducible refine gate_dst (N := 2) rfl ?_); refine box_event ?hg (N := 2) ?hd (cs := AV zs16) (t := 23) ?hr ?_; (case hd => rfl); (case hg => rfl); (case hr => first | (go_simp; done) | (go_simp; rfl)); intro g2 hg2 w1 hbox hb1; have HX2 := Aside0.mk (show Blk w1 g2 23 zs16 from hbox); have HG2 := Aside0.mk (show w.heap.size ≤ g2 by rw [hg2]; exact HB.out.size); replace HB := Aside0.mk (below_step HB.out hb1); clear hbox hb1 hg2) | ((with_reducible refine gate_dst (N := 4) rfl ?_); refine box_event ?hg (N := 4) ?hd (cs := AV zs16) (t := 23) ?hr ?_; (case hd => rfl); (case hg => rfl); (case hr => first | (go_simp; done) | (go_simp; rfl)); intro g4 hg4 w1 hbox hb1; have HX4 := Aside0.mk (show Blk w1 g4 23 zs16 from hbox); have HG4 := Aside0.mk (show w.heap.size ≤ g4 by rw [hg4]; exact HB.out.size); replace HX2 := Aside0.mk (HX2.out.below hb1); replace HB := Aside0.mk (below_step HB.out hb1); clear hbox hb1 hg4) | (go_at_call 26; refine (ref_StoreMay_calls l A c _ (Kd.C_below HR.out HB.out) HC.out).mono ?_; rintro e w1 ⟨rfl, hb1⟩; rw [HK.out]; replace HB := Aside0.mk (below_step HB.out hb1); replace HX2 := Aside0.mk (HX2.out.below hb1); replace HX4 := Aside0.mk (HX4.out.below hb1); clear hb1) | ((with_reducible refine gate_dst (N := 10) rfl ?_); refine wpL_load rfl rfl rfl HX4.out Try.underlying23 size23 ?_) | ((with_reducible refine gate_store (p := 2) rfl ?_); refine wpL_store rfl rfl rfl (c := zs16) rfl HX2.out size23 rfl ?_; intro w2 hX2 hP2; replace HX2 := Aside0.mk hX2; replace HB := Aside0.mk (hP2.below _ _ HB.out HG2.out); clear hX2 hP2))
  refine bodyPost_ret (results_cell_slot rfl _ _ g2 23 (AV zs16) _ _ (.int .i64 2000) rfl rfl HX2.out Try.underlying23 (by rw [AV_size]; exact size23)) rfl ⟨rfl, HB.out⟩

set_option maxHeartbeats 4000000 in
set_option maxRecDepth 100000 in
theorem GraphOf_good (l : List La) (A : Option Addr) (c : Nat) (w : World) (hr : Kd.C k57 w A l.length l) (hc : l.length ≤ c) (hok : storeOk l = true) :
    Calls Try.prog 22 #[.slice A l.length c] w fun e w' => e = .returned (.tuple #[.agg (AV (rbothTo l 16)), .int .i64 0]) ∧ Below w.heap.size w w' := by
  have HR := Aside0.mk hr
  have HC := Aside0.mk hc
  have HK := Aside0.mk hok
  clear hr hc hok
  have HB := Aside0.mk (Below.refl w.heap.size w)
  go_enter Try.func22, Try.ntmps22
  go_wp2_with (first | ((with_reducible refine gate_dst (N := 2) rfl ?_); refine box_event ?hg (N := 2) ?hd (cs := AV zs16) (t := 23) ?hr ?_; (case hd => rfl); (case hg => rfl); (case hr => first | (go_simp; done) | (go_simp; rfl)); intro g2 hg2 w1 hbox hb1; have HX2 := Aside0.mk (show Blk w1 g2 23 zs16 from hbox); have HG2 := Aside0.mk (show w.heap.size ≤ g2 by rw [hg2]; exact HB.out.size); replace HB := Aside0.mk (below_step HB.out hb1); clear hbox hb1 hg2) | ((with_reducible refine gate_dst (N := 4) rfl ?_); refine box_event ?hg (N := 4) ?hd (cs := AV zs16) (t := 23) ?hr ?_; (case hd => rfl); (case hg => rfl); (case hr => first | (go_simp; done) | (go_simp; rfl)); intro g4 hg4 w1 hbox hb1; have HX4 := Aside0.mk (show Blk w1 g4 23 (rbothTo l 0) from hbox); have HG4 := Aside0.mk (show w.heap.size ≤ g4 by rw [hg4]; exact HB.out.size); have HN24 := Aside0.mk (show g2 ≠ g4 by rw [hg4]; exact Nat.ne_of_lt HX2.out.lt); replace HX2 := Aside0.mk (HX2.out.below hb1); replace HB := Aside0.mk (below_step HB.out hb1); clear hbox hb1 hg4) | (go_at_call 26; refine (ref_StoreMay_calls l A c _ (Kd.C_below HR.out HB.out) HC.out).mono ?_; rintro e w1 ⟨rfl, hb1⟩; rw [HK.out]; replace HB := Aside0.mk (below_step HB.out hb1); replace HX2 := Aside0.mk (HX2.out.below hb1); replace HX4 := Aside0.mk (HX4.out.below hb1); clear hb1))
  go_loopw [5] (fun i wr => ∃ a : Nat, a ≤ 4 ∧ i = .int .i64 (a : Int) ∧ Aside0 (Blk wr g4 23 (rbothTo l (a * 4))) ∧ Aside0 (Blk wr g2 23 zs16) ∧ Aside0 (Below w.heap.size w wr)) (fun i _ => 4 - (intOf i).toNat)
  case atStart => exact ⟨0, by omega, rfl, HX4, HX2, HB⟩
  case round =>
    clear HB HX2 HX4
    obtain ⟨a, ha, rfl, HX4, HX2, HB⟩ := hrel
    by_cases ha4 : a < 4
    · have aI : (a : Int) < 4 := by omega
      go_wp2_with (fail)
      go_loopw [6] (fun i wr => ∃ b : Nat, b ≤ 4 ∧ i = .int .i64 (b : Int) ∧ Aside0 (Blk wr g4 23 (rbothTo l (a * 4 + b))) ∧ Aside0 (Blk wr g2 23 zs16) ∧ Aside0 (Below w.heap.size w wr)) (fun i _ => 4 - (intOf i).toNat)
      case atStart => exact ⟨0, by omega, rfl, HX4, HX2, HB⟩
      case round =>
        clear HB HX2 HX4
        obtain ⟨b, hb, rfl, HX4, HX2, HB⟩ := hrel
        by_cases hb4 : b < 4
        · have bI : (b : Int) < 4 := by omega
          have ab : a * 4 + b < 16 := by omega
          have wa : IntKind.i64.wrap ((a : Int) + 1) = (a : Int) + 1 := IntWalk.i64_in _ (by omega)
          have wb : IntKind.i64.wrap ((b : Int) + 1) = (b : Int) + 1 := IntWalk.i64_in _ (by omega)
          obtain ⟨y, hy⟩ : ∃ y, y = toldOf l ((b : Int) + 1) ((a : Int) + 1) := ⟨_, rfl⟩
          obtain ⟨x, hx⟩ : ∃ x, x = toldOf l ((a : Int) + 1) ((b : Int) + 1) := ⟨_, rfl⟩
          have HY := Aside0.mk hy
          have HXX := Aside0.mk hx
          have hst : rbothTo l (a * 4 + (b + 1)) = if 0 < y then (rbothTo l (a * 4 + b)).set (a * 4 + b) x else rbothTo l (a * 4 + b) := by
            rw [← Nat.add_assoc]
            show (if 0 < toldOf l (((a * 4 + b) % 4 : Nat) + 1) (((a * 4 + b) / 4 : Nat) + 1) then (rbothTo l (a * 4 + b)).set (a * 4 + b) (toldOf l (((a * 4 + b) / 4 : Nat) + 1) (((a * 4 + b) % 4 : Nat) + 1)) else rbothTo l (a * 4 + b)) = _
            rw [show (a * 4 + b) % 4 = b by omega, show (a * 4 + b) / 4 = a by omega, ← hy, ← hx]
          by_cases hp : 0 < y
          · have t1 : decide (0 < y) = true := by simpa using hp
            have HE := Aside0.mk (show rbothTo l (a * 4 + (b + 1)) = (rbothTo l (a * 4 + b)).set (a * 4 + b) x by rw [hst, if_pos hp])
            clear hst hp hy hx
            go_wp2_with (first | (go_at_call 33; refine (ref_told_calls l A c _ _ _ (Kd.C_below HR.out HB.out) HC.out).mono ?_; rintro e w1 ⟨rfl, ⟨⟨n1, rfl⟩⟩⟩; rw [← HY.out]; replace HB := Aside0.mk (pw_below_drewN HB.out n1); replace HX2 := Aside0.mk (HX2.out.drewN n1); replace HX4 := Aside0.mk (HX4.out.drewN n1)))
            generalize wr.drewN n1 = wq at *
            have c4 := HX4.out.cell (a * 4 + b) (by rw [rbothTo_length]; exact ab)
            have f4 := HX4.out.frozen (a * 4 + b)
            have hlt := HX4.out.lt
            go_region_with (go_at_call 33; refine (ref_told_calls l A c _ _ _ (Kd.C_below HR.out HB.out.drew) HC.out).mono ?_; rintro e w1 ⟨rfl, ⟨⟨n2, rfl⟩⟩⟩; rw [← HXX.out])
            all_goals
              have hp2 := Put.setCell (wq.drewN (1 + n2)) g4 (a * 4 + b) (.int .i64 x)
              have HX6 := Aside0.mk (show Blk ((wq.drewN (1 + n2)).setCell ⟨g4, a * 4 + b, none⟩ (.int .i64 x)) g4 23 (rbothTo l (a * 4 + (b + 1))) by rw [HE.out]; exact (HX4.out.drewN _).set _ _)
              replace HX2 := Aside0.mk ((HX2.out.drewN (1 + n2)).put hp2 HN24.out)
              replace HB := Aside0.mk (hp2.below _ _ (pw_below_drewN HB.out (1 + n2)) HG4.out)
              generalize (wq.drewN (1 + n2)).setCell ⟨g4, a * 4 + b, none⟩ (.int .i64 x) = wz at *
              clear hp2 c4 f4 hlt HX4
              go_wp2_with (fail)
              go_roundw
              case rel => exact ⟨b + 1, by omega, by go_num, HX6, HX2, HB⟩
              case measure => simp [intOf]; omega
          · have t1 : decide (0 < y) = false := by simpa using hp
            have HE := Aside0.mk (show rbothTo l (a * 4 + (b + 1)) = rbothTo l (a * 4 + b) by rw [hst, if_neg hp])
            clear hst hp hy hx
            go_wp2_with (first | (go_at_call 33; refine (ref_told_calls l A c _ _ _ (Kd.C_below HR.out HB.out) HC.out).mono ?_; rintro e w1 ⟨rfl, ⟨⟨n1, rfl⟩⟩⟩; rw [← HY.out]; replace HB := Aside0.mk (pw_below_drewN HB.out n1); replace HX2 := Aside0.mk (HX2.out.drewN n1); replace HX4 := Aside0.mk (HX4.out.drewN n1)))
            go_roundw
            case rel => exact ⟨b + 1, by omega, by go_num, ⟨by rw [HE.out]; exact HX4.out⟩, HX2, HB⟩
            case measure => simp [intOf]; omega
        · have bI : ¬ (b : Int) < 4 := by omega
          replace HX4 := Aside0.mk (show Blk wr g4 23 (rbothTo l ((a + 1) * 4)) by rw [show (a + 1) * 4 = a * 4 + b by omega]; exact HX4.out)
          go_wp2_with (fail)
          go_roundw
          case rel => exact ⟨a + 1, by omega, by go_num, HX4, HX2, HB⟩
          case measure => simp [intOf]; omega
    · have aI : ¬ (a : Int) < 4 := by omega
      replace HX4 := Aside0.mk (show Blk wr g4 23 (rbothTo l 16) by rw [show 16 = a * 4 by omega]; exact HX4.out)
      go_wp2_with (first | ((with_reducible refine gate_dst (N := 36) rfl ?_); refine wpL_load rfl rfl rfl HX4.out Try.underlying23 (by rw [rbothTo_length]; exact size23) ?_) | ((with_reducible refine gate_store (p := 2) rfl ?_); refine wpL_store rfl rfl rfl rfl HX2.out (by rw [rbothTo_length]; exact size23) (by rw [rbothTo_length]; rfl) ?_; intro w2 hX2 hP2; replace HX2 := Aside0.mk hX2; replace HB := Aside0.mk (hP2.below _ _ HB.out HG2.out); clear hX2 hP2))
      refine bodyPost_ret (results_cell_slot rfl _ _ g2 23 (AV (rbothTo l 16)) _ _ (.int .i64 0) rfl rfl HX2.out Try.underlying23 (by rw [AV_size, rbothTo_length]; exact size23)) rfl ⟨rfl, HB.out⟩

theorem Of_calls (l : List La) (A : Option Addr) (c : Nat) (w : World) (hr : Kd.C k57 w A l.length l) (hc : l.length ≤ c) :
    Calls Try.prog 21 #[.slice A l.length c] w fun e w' => e = .returned (.tuple #[.agg (AV (graphOf l).1), .int .i64 (graphOf l).2]) ∧ Below w.heap.size w w' := by
  unfold graphOf
  cases h : storeOk l with
  | true => exact Of_good l A c w hr hc h
  | false => exact Of_bad l A c w hr hc h
theorem GraphOf_calls (l : List La) (A : Option Addr) (c : Nat) (w : World) (hr : Kd.C k57 w A l.length l) (hc : l.length ≤ c) :
    Calls Try.prog 22 #[.slice A l.length c] w fun e w' => e = .returned (.tuple #[.agg (AV (graphOf l).1), .int .i64 (graphOf l).2]) ∧ Below w.heap.size w w' := by
  rw [graph_same]
  unfold rgraphOf
  cases h : storeOk l with
  | true => exact GraphOf_good l A c w hr hc h
  | false => exact GraphOf_bad l A c w hr hc h
end Go.Proofs.Ytjficnndocjodaa.H
