/- graph.May and the reference's CostsMay answer 'costsOk' of the sixteen costs, whatever they are. -/
import Derived.Test.YtjficnndocjodaaHArr
namespace Go.Proofs.Ytjficnndocjodaa.H
open Go.RowKit Go.Proofs.YtjficnndocjodaaW.PrintWords Go.Proofs.YtjficnndocjodaaW.PrintLast Go.Proofs.YtjficnndocjodaaW.PrintMore
set_option linter.unusedVariables false
set_option linter.unusedSimpArgs false

set_option maxHeartbeats 1000000 in
set_option maxRecDepth 100000 in
theorem May_calls (c : List Int) (hc : c.length = 16) (w : World) :
    Calls Try.prog 23 #[.agg (AV c)] w fun e w' => e = .returned (.bool (costsOk c)) ∧ Below w.heap.size w w' := by
  have HC := Aside0.mk hc
  clear hc
  have HB := Aside0.mk (Below.refl w.heap.size w)
  go_enter Try.func23, Try.ntmps23
  go_wp2_with (first | ((with_reducible refine gate_dst (N := 1) rfl ?_); refine box_event ?hg (N := 1) ?hd (cs := AV c) (t := 23) ?hr ?_; (case hd => rfl); (case hg => rfl); (case hr => first | (go_simp; done) | (go_simp; rfl)); intro g0 hg0 w1 hbox hb1; have HX := Aside0.mk hbox; have HB := Aside0.mk hb1; clear hbox hb1 hg0) | ((with_reducible refine gate_dst (N := 7) rfl ?_); refine wpL_load rfl rfl rfl HX.out Try.underlying23 (by rw [HC.out]; exact size23) ?_))
  clear HX
  go_loopw [8] (fun i wr => ∃ k : Nat, k ≤ 4 ∧ i = .int .i64 (k : Int) ∧ Aside0 (∀ a b, a < k → b < 4 → okAt c a b = true) ∧ Aside0 (Below w.heap.size w wr)) (fun i _ => 4 - (intOf i).toNat)
  case atStart => exact ⟨0, by omega, rfl, ⟨fun a b h => by omega⟩, HB⟩
  case round =>
    clear HB
    obtain ⟨k, hk, rfl, HR, HB⟩ := hrel
    by_cases hk4 : k < 4
    · have i16 := index16 c HC.out k hk4
      go_wp2_with (first | ((with_reducible refine gate_dst (N := 4) rfl ?_); refine box_event ?hg (N := 4) ?hd (cs := AV [0, 0, 0, 0]) (t := 22) ?hr ?_; (case hd => rfl); (case hg => rfl); (case hr => first | (go_simp; done) | (go_simp; rfl)); intro g1 hg1 w1 hbox hb1; have HX := Aside0.mk hbox; have HG := Aside0.mk (show w.heap.size ≤ g1 by rw [hg1]; exact HB.out.size); replace HB := Aside0.mk (below_step HB.out hb1); clear hbox hb1 hg1) | ((with_reducible refine gate_store (p := 4) rfl ?_); refine wpL_store rfl rfl rfl rfl HX.out (by rw [row_length c k (by rw [HC.out]; omega)]; exact size22) (by rw [row_length c k (by rw [HC.out]; omega)]; rfl) ?_; intro w2 hX2 hP2; have HX := Aside0.mk hX2; have HP := Aside0.mk hP2; clear hX2 hP2) | ((with_reducible refine gate_dst (N := 12) rfl ?_); refine wpL_load rfl rfl rfl HX.out Try.underlying22 (by rw [row_length c k (by rw [HC.out]; omega)]; exact size22) ?_))
      have HB2 := Aside0.mk (HP.out.below _ _ HB.out HG.out)
      clear HB HP HX HG
      go_loop [13] (fun i => ∃ j : Nat, j ≤ 4 ∧ i = .int .i64 (j : Int) ∧ Aside0 (∀ b, b < j → okAt c k b = true)) (fun i => 4 - (intOf i).toNat)
      case atStart => exact ⟨0, by omega, rfl, ⟨fun b h => by omega⟩⟩
      case round =>
        obtain ⟨j, hj, rfl, HJ⟩ := hrel
        by_cases hj4 : j < 4
        · have i4 := index4row c HC.out k j hk4 hj4
          obtain ⟨x, hx⟩ : ∃ x, x = gt c (k * 4 + j) := ⟨_, rfl⟩
          rw [← hx] at i4
          have HX := Aside0.mk hx
          clear hx
          by_cases h1 : x < 0 ∨ 65535 < x ∨ (k = j ∧ x ≠ 0)
          · have hbad : okAt c k j = false := by
              rw [okAt, ← HX.out]; simp; omega
            have HF := Aside0.mk (costsOk_false c k j hk4 hj4 hbad)
            clear hbad
            by_cases h2 : x < 0
            · clear h1
              go_wp2_with (fail)
              go_ret
              exact ⟨by rw [HF.out]; rfl, HB2.out⟩
            · by_cases h3 : 65535 < x
              · clear h1
                go_wp2_with (fail)
                go_ret
                exact ⟨by rw [HF.out]; rfl, HB2.out⟩
              · obtain ⟨h4, h5⟩ : k = j ∧ x ≠ 0 := by omega
                clear h1
                have t1 : ((k : Int) == (j : Int)) = true := by rw [h4]; simp
                have t2 : (x == 0) = false := by simpa using h5
                have t3 : (x != 0) = true := by simpa using h5
                clear h4 h5
                go_wp2_with (fail)
                go_ret
                exact ⟨by rw [HF.out]; rfl, HB2.out⟩
          · have hgood : okAt c k j = true := by
              rw [okAt, ← HX.out]; simp; omega
            have HJ2 := Aside0.mk (show ∀ b, b < j + 1 → okAt c k b = true from fun b hb => if e : b = j then e ▸ hgood else HJ.out b (by omega))
            clear hgood
            have h2 : ¬ x < 0 := by omega
            have h3 : ¬ 65535 < x := by omega
            by_cases h4 : k = j
            · have h5 : x = 0 := by omega
              have t1 : ((k : Int) == (j : Int)) = true := by rw [h4]; simp
              have t2 : (x == 0) = true := by simpa using h5
              have t3 : (x != 0) = false := by simpa using h5
              clear h4 h5 h1
              go_wp2_with (fail)
              go_round
              case rel => exact ⟨j + 1, by omega, by go_num, HJ2⟩
              case measure => simp [intOf]; omega
            · have t1 : ((k : Int) == (j : Int)) = false := by simp; omega
              clear h4 h1
              go_wp2_with (fail)
              go_round
              case rel => exact ⟨j + 1, by omega, by go_num, HJ2⟩
              case measure => simp [intOf]; omega
        · have HR2 := Aside0.mk (show ∀ a b, a < k + 1 → b < 4 → okAt c a b = true from fun a b ha hb => if e : a = k then e ▸ HJ.out b (by omega) else HR.out a b (by omega) hb)
          clear HJ HR
          go_wp2_with (fail)
          go_roundw
          case rel => exact ⟨k + 1, by omega, by go_num, HR2, HB2⟩
          case measure => simp [intOf]; omega
    · go_wp2_with (fail)
      go_ret
      exact ⟨by rw [(costsOk_iff c).2 fun a b ha hb => HR.out a b (by omega) hb]; rfl, HB.out⟩

set_option maxHeartbeats 1000000 in
set_option maxRecDepth 100000 in
theorem CostsMay_calls (c : List Int) (hc : c.length = 16) (w : World) :
    Calls Try.prog 24 #[.agg (AV c)] w fun e w' => e = .returned (.bool (costsOk c)) ∧ Below w.heap.size w w' := by
  have HC := Aside0.mk hc
  clear hc
  have HB := Aside0.mk (Below.refl w.heap.size w)
  go_enter Try.func24, Try.ntmps24
  go_wp2_with (first | ((with_reducible refine gate_dst (N := 1) rfl ?_); refine box_event ?hg (N := 1) ?hd (cs := AV c) (t := 23) ?hr ?_; (case hd => rfl); (case hg => rfl); (case hr => first | (go_simp; done) | (go_simp; rfl)); intro g0 hg0 w1 hbox hb1; have HX := Aside0.mk (show Blk w1 g0 23 c from hbox); have HB := Aside0.mk hb1; clear hbox hb1 hg0))
  go_loop [3] (fun i => ∃ k : Nat, k ≤ 4 ∧ i = .int .i64 (k : Int) ∧ Aside0 (∀ a b, a < k → b < 4 → okAt c a b = true)) (fun i => 4 - (intOf i).toNat)
  case atStart => exact ⟨0, by omega, rfl, ⟨fun a b h => by omega⟩⟩
  case round =>
    obtain ⟨k, hk, rfl, HR⟩ := hrel
    by_cases hk4 : k < 4
    · go_wp2_with (fail)
      go_loop [4] (fun i => ∃ j : Nat, j ≤ 4 ∧ i = .int .i64 (j : Int) ∧ Aside0 (∀ b, b < j → okAt c k b = true)) (fun i => 4 - (intOf i).toNat)
      case atStart => exact ⟨0, by omega, rfl, ⟨fun b h => by omega⟩⟩
      case round =>
        obtain ⟨j, hj, rfl, HJ⟩ := hrel
        by_cases hj4 : j < 4
        · have cx := HX.out.cell (k * 4 + j) (by rw [HC.out]; omega)
          obtain ⟨x, hx⟩ : ∃ x, x = gt c (k * 4 + j) := ⟨_, rfl⟩
          rw [← hx] at cx
          have HXX := Aside0.mk hx
          clear hx
          by_cases h1 : x < 0 ∨ 65535 < x ∨ (k = j ∧ x ≠ 0)
          · have hbad : okAt c k j = false := by
              rw [okAt, ← HXX.out]; simp; omega
            have HF := Aside0.mk (costsOk_false c k j hk4 hj4 hbad)
            clear hbad
            by_cases h2 : x < 0
            · clear h1
              go_wp2
              go_ret
              exact ⟨by rw [HF.out]; rfl, HB.out⟩
            · by_cases h3 : 65535 < x
              · clear h1
                go_wp2
                go_ret
                exact ⟨by rw [HF.out]; rfl, HB.out⟩
              · obtain ⟨h4, h5⟩ : k = j ∧ x ≠ 0 := by omega
                clear h1
                have t1 : ((k : Int) == (j : Int)) = true := by rw [h4]; simp
                have t2 : (x == 0) = false := by simpa using h5
                have t3 : (x != 0) = true := by simpa using h5
                clear h4 h5
                go_wp2
                go_ret
                exact ⟨by rw [HF.out]; rfl, HB.out⟩
          · have hgood : okAt c k j = true := by
              rw [okAt, ← HXX.out]; simp; omega
            have HJ2 := Aside0.mk (show ∀ b, b < j + 1 → okAt c k b = true from fun b hb => if e : b = j then e ▸ hgood else HJ.out b (by omega))
            clear hgood
            have h2 : ¬ x < 0 := by omega
            have h3 : ¬ 65535 < x := by omega
            by_cases h4 : k = j
            · have h5 : x = 0 := by omega
              have t1 : ((k : Int) == (j : Int)) = true := by rw [h4]; simp
              have t2 : (x == 0) = true := by simpa using h5
              have t3 : (x != 0) = false := by simpa using h5
              clear h4 h5 h1
              go_wp2
              go_round
              case rel => exact ⟨j + 1, by omega, by go_num, HJ2⟩
              case measure => simp [intOf]; omega
            · have t1 : ((k : Int) == (j : Int)) = false := by simp; omega
              clear h4 h1
              go_wp2
              go_round
              case rel => exact ⟨j + 1, by omega, by go_num, HJ2⟩
              case measure => simp [intOf]; omega
        · have HR2 := Aside0.mk (show ∀ a b, a < k + 1 → b < 4 → okAt c a b = true from fun a b ha hb => if e : a = k then e ▸ HJ.out b (by omega) else HR.out a b (by omega) hb)
          clear HJ HR
          go_wp2
          go_round
          case rel => exact ⟨k + 1, by omega, by go_num, HR2⟩
          case measure => simp [intOf]; omega
    · go_wp2
      go_ret
      exact ⟨by rw [(costsOk_iff c).2 fun a b ha hb => HR.out a b (by omega) hb]; rfl, HB.out⟩
end Go.Proofs.Ytjficnndocjodaa.H
