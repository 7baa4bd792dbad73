/- The reference's Routes answers 'rroutesOf' of the costs and the router, whatever they are. -/
import Derived.Test.YtjficnndocjodaaHRoutes
import Derived.Test.YtjficnndocjodaaHLeast
namespace Go.Proofs.Ytjficnndocjodaa.H
open Go.RowKit Go.Proofs.YtjficnndocjodaaW.PrintWords Go.Proofs.YtjficnndocjodaaW.PrintLast Go.Proofs.YtjficnndocjodaaW.PrintMore
open Go.Proofs.Ytjficnndocjodaa.PPaths (S41 k41 k41_mkM)
set_option linter.unusedVariables false
set_option linter.unusedSimpArgs false
set_option maxHeartbeats 1000000 in
set_option maxRecDepth 100000 in
theorem RefRoutes_bad_costs (c : List Int) (hc : c.length = 16) (x : Int) (w : World) (hok : costsOk c = false) :
    Calls Try.prog 14 #[.agg (AV c), .int .i64 x] w fun e w' => e = .returned (.tuple #[.slice none 0 0, .int .i64 2100]) ∧ Below w.heap.size w w' := by
  have HC := Aside0.mk hc
  have HK := Aside0.mk hok
  clear hok
  clear hc
  have HB := Aside0.mk (Below.refl w.heap.size w)
  go_enter Try.func14, Try.ntmps14
  go_wp2_with (first | ((with_reducible refine gate_dst (N := 2) rfl ?_); refine box_event ?hg (N := 2) ?hd (cs := AV c) (t := 23) ?hr ?_; (case hd => rfl); (case hg => rfl); (case hr => first | (go_simp; done) | (go_simp; rfl)); intro gc hgc w1 hbox hb1; have HBC := Aside0.mk (show Blk w1 gc 23 c from hbox); replace HB := Aside0.mk (below_step HB.out hb1); clear hbox hb1 hgc) | ((with_reducible refine gate_dst (N := 12) rfl ?_); refine wpL_load rfl rfl rfl HBC.out Try.underlying23 (by rw [HC.out]; exact size23) ?_) | (go_at_call 24; refine (CostsMay_calls c HC.out _).mono ?_; rintro e w1 ⟨rfl, hb1⟩; rw [HK.out]; replace HB := Aside0.mk (below_step HB.out hb1); replace HBC := Aside0.mk (HBC.out.below hb1); clear hb1) | (go_at_call 29; refine (routerMay_calls _ _).mono ?_; rintro e w1 ⟨rfl, rfl⟩; rw [HR.out]))
  go_ret2
  exact ⟨rfl, HB.out⟩
set_option maxHeartbeats 1000000 in
set_option maxRecDepth 100000 in
theorem RefRoutes_bad_router (c : List Int) (hc : c.length = 16) (x : Int) (w : World) (hok : costsOk c = true) (hx : isRouter x = false) :
    Calls Try.prog 14 #[.agg (AV c), .int .i64 x] w fun e w' => e = .returned (.tuple #[.slice none 0 0, .int .i64 2100]) ∧ Below w.heap.size w w' := by
  have HC := Aside0.mk hc
  have HK := Aside0.mk hok
  have HR := Aside0.mk hx
  clear hok hx
  clear hc
  have HB := Aside0.mk (Below.refl w.heap.size w)
  go_enter Try.func14, Try.ntmps14
  go_wp2_with (first | ((with_reducible refine gate_dst (N := 2) rfl ?_); refine box_event ?hg (N := 2) ?hd (cs := AV c) (t := 23) ?hr ?_; (case hd => rfl); (case hg => rfl); (case hr => first | (go_simp; done) | (go_simp; rfl)); intro gc hgc w1 hbox hb1; have HBC := Aside0.mk (show Blk w1 gc 23 c from hbox); replace HB := Aside0.mk (below_step HB.out hb1); clear hbox hb1 hgc) | ((with_reducible refine gate_dst (N := 12) rfl ?_); refine wpL_load rfl rfl rfl HBC.out Try.underlying23 (by rw [HC.out]; exact size23) ?_) | (go_at_call 24; refine (CostsMay_calls c HC.out _).mono ?_; rintro e w1 ⟨rfl, hb1⟩; rw [HK.out]; replace HB := Aside0.mk (below_step HB.out hb1); replace HBC := Aside0.mk (HBC.out.below hb1); clear hb1) | (go_at_call 29; refine (routerMay_calls _ _).mono ?_; rintro e w1 ⟨rfl, rfl⟩; rw [HR.out]))
  go_ret2
  exact ⟨rfl, HB.out⟩
set_option maxHeartbeats 4000000 in
set_option maxRecDepth 100000 in
theorem RefRoutes_good (c : List Int) (hc : c.length = 16) (me : Nat) (hme : me < 4) (w : World) (hok : costsOk c = true) :
    Calls Try.prog 14 #[.agg (AV c), .int .i64 ((me : Int) + 1)] w fun e w' => ∃ v, e = .returned (.tuple #[v, .int .i64 0]) ∧ SRoutes w' w.heap.size (fun _ => True) v (routesBy (rskip c me) (rcost c me) (rfirst c me) 4) ∧ Below w.heap.size w w' := by
  have HC := Aside0.mk hc
  have HK := Aside0.mk hok
  have HR := Aside0.mk (show isRouter ((me : Int) + 1) = true by simp [isRouter]; omega)
  clear hc hok
  have hmI : (me : Int) < 4 := by omega
  have HB := Aside0.mk (Below.refl w.heap.size w)
  go_enter Try.func14, Try.ntmps14
  go_wp2_with (first | ((with_reducible refine gate_dst (N := 2) rfl ?_); refine box_event ?hg (N := 2) ?hd (cs := AV c) (t := 23) ?hr ?_; (case hd => rfl); (case hg => rfl); (case hr => first | (go_simp; done) | (go_simp; rfl)); intro gc hgc w1 hbox hb1; have HBC := Aside0.mk (show Blk w1 gc 23 c from hbox); replace HB := Aside0.mk (below_step HB.out hb1); clear hbox hb1 hgc) | ((with_reducible refine gate_dst (N := 12) rfl ?_); refine wpL_load rfl rfl rfl HBC.out Try.underlying23 (by rw [HC.out]; exact size23) ?_) | (go_at_call 24; refine (CostsMay_calls c HC.out _).mono ?_; rintro e w1 ⟨rfl, hb1⟩; rw [HK.out]; replace HB := Aside0.mk (below_step HB.out hb1); replace HBC := Aside0.mk (HBC.out.below hb1); clear hb1) | (go_at_call 29; refine (routerMay_calls _ _).mono ?_; rintro e w1 ⟨rfl, rfl⟩; rw [HR.out]) | ((with_reducible refine gate_dst (N := 20) rfl ?_); refine wpL_load rfl rfl rfl HBC.out Try.underlying23 (by rw [HC.out]; exact size23) ?_) | (go_at_call 30; refine (least_calls c HC.out HK.out me hme _).mono ?_; rintro e w1 ⟨rfl, hb1⟩; replace HB := Aside0.mk (below_step HB.out hb1); replace HBC := Aside0.mk (HBC.out.below hb1); clear hb1) | ((with_reducible refine gate_dst (N := 6) rfl ?_); refine box_event ?hg (N := 6) ?hd (cs := AV zs4) (t := 22) ?hr ?_; (case hd => rfl); (case hg => rfl); (case hr => first | (go_simp; done) | (go_simp; rfl)); intro gd hgd w1 hbox hb1; have HBD := Aside0.mk (show Blk w1 gd 22 zs4 from hbox); have HGD := Aside0.mk (show w.heap.size ≤ gd by rw [hgd]; exact HB.out.size); have HND := Aside0.mk (show gc ≠ gd by rw [hgd]; exact Nat.ne_of_lt HBC.out.lt); replace HBC := Aside0.mk (HBC.out.below hb1); replace HB := Aside0.mk (below_step HB.out hb1); clear hbox hb1 hgd) | ((with_reducible refine gate_store (p := 6) rfl ?_); refine wpL_store rfl rfl rfl rfl HBD.out (by rw [least_length]; exact size22) (by rw [least_length]; rfl) ?_; intro w2 hX2 hP2; replace HBD := Aside0.mk hX2; replace HBC := Aside0.mk (HBC.out.put hP2 HND.out); replace HB := Aside0.mk (hP2.below _ _ HB.out HGD.out); clear hX2 hP2))
  have HO := Aside0.mk (show SRoutes w2 w.heap.size (fun _ => True) (.slice none 0 0) (routesBy (rskip c me) (rcost c me) (rfirst c me) 0) from Kd.S_nil _ _ _ _ _)
  have HS := Aside0.mk (leastTo_small HK.out me 64)
  have HSL := Aside0.mk (least_length c me)
  obtain ⟨d, hs⟩ : ∃ d, d = least c me := ⟨_, rfl⟩
  rw [show leastTo c me 64 = d from hs.symm] at HS
  rw [← hs] at HBD HSL ⊢
  have HSE := Aside0.mk hs
  clear hs
  go_loopw [7, 8] (fun v i wr => ∃ k : Nat, k ≤ 4 ∧ i = .int .i64 (k : Int) ∧ Aside0 (SRoutes wr w.heap.size (fun _ => True) v (routesBy (rskip c me) (rcost c me) (rfirst c me) k)) ∧ Aside0 (Blk wr gd 22 d) ∧ Aside0 (Blk wr gc 23 c) ∧ Aside0 (Below w.heap.size w wr)) (fun _ i _ => 4 - (intOf i).toNat)
  case atStart => exact ⟨0, by omega, rfl, HO, HBD, HBC, HB⟩
  case round =>
    clear HB HBD HBC HO
    obtain ⟨k, hk, rfl, HO, HBD, HBC, HB⟩ := hrel
    by_cases hk4 : k < 4
    · have kI : (k : Int) < 4 := by omega
      have cd := HBD.out.cell k (by rw [HSL.out]; omega)
      obtain ⟨b0, b1⟩ := HS.out k
      obtain ⟨sum, hsum⟩ : ∃ x, x = gt d k := ⟨_, rfl⟩
      rw [← hsum] at cd b0 b1
      have HSUM := Aside0.mk (show gt (least c me) k = sum by rw [← HSE.out, hsum])
      clear hsum
      by_cases hskip : k = me ∨ sum < 0
      · have HO2 := Aside0.mk (show SRoutes wr w.heap.size (fun _ => True) u7 (routesBy (rskip c me) (rcost c me) (rfirst c me) (k + 1)) by rw [routesBy, if_pos (by rw [rskip, HSUM.out]; simpa using hskip)]; exact HO.out)
        by_cases h1 : k = me
        · have t1 : ((k : Int) == (me : Int)) = true := by rw [h1]; simp
          clear hskip h1 HO
          go_wp2_with (fail)
          go_roundw
          case rel => exact ⟨k + 1, by omega, by go_num, HO2, HBD, HBC, HB⟩
          case measure => simp [intOf]; omega
        · have t1 : ((k : Int) == (me : Int)) = false := by simp; omega
          have t2 : sum < 0 := by omega
          have t3 : decide (sum < 0) = true := by simpa using t2
          clear hskip h1 HO
          go_wp2_with (fail)
          go_roundw
          case rel => exact ⟨k + 1, by omega, by go_num, HO2, HBD, HBC, HB⟩
          case measure => simp [intOf]; omega
      · have h1 : k ≠ me := by omega
        have t1 : ((k : Int) == (me : Int)) = false := by simp; omega
        have t2 : ¬ sum < 0 := by omega
        have t3 : decide (sum < 0) = false := by simpa using t2
        have HE := Aside0.mk (show routesBy (rskip c me) (rcost c me) (rfirst c me) (k + 1) = routesBy (rskip c me) (rcost c me) (rfirst c me) k ++ [((k : Int) + 1, sum, firstBy (rfirst c me k) 4)] by rw [routesBy, if_neg (by rw [rskip, HSUM.out]; simp; omega), rcost, HSUM.out])
        clear hskip h1
        go_wp2_with (fail)
        obtain ⟨gr, hgr⟩ : ∃ gr, gr = wr.heap.size := ⟨_, rfl⟩
        obtain ⟨wx, hwx⟩ : ∃ wx, wx = wr.alloc (.cells #[.int .i64 ((k : Int) + 1), .int .i64 sum, .slice none 0 0] 41) := ⟨_, rfl⟩
        rw [← hgr, ← hwx]
        have HX := Aside0.mk (show wx.heap[gr]? = some (.cells #[.int .i64 ((k : Int) + 1), .int .i64 sum, .slice none 0 0] 41 (0, 0)) by rw [hwx, hgr]; exact blk_new _ _)
        have HF := Aside0.mk (show (Kd.int .i64).R 3 wx w.heap.size (fun _ => True) (.slice none 0 0) (firstBy (rfirst c me k) 0) from Kd.R_nil _ _ _ _ _)
        have HGR := Aside0.mk (show w.heap.size ≤ gr by rw [hgr]; exact HB.out.size)
        replace HO := Aside0.mk (show SRoutes wx w.heap.size (fun n => (True ∧ n ≠ gr) ∧ some n ≠ (Value.slice none 0 0).ownBlock) u7 (routesBy (rskip c me) (rcost c me) (rfirst c me) k) by rw [hwx]; exact Kd.S_apart_nil (Kd.S_alloc (Kd.S_elderB HO.out gr (by omega)) _))
        replace HBD := Aside0.mk (show Blk wx gd 22 d by rw [hwx]; exact HBD.out.alloc _)
        replace HBC := Aside0.mk (show Blk wx gc 23 c by rw [hwx]; exact HBC.out.alloc _)
        replace HB := Aside0.mk (show Below w.heap.size w wx by rw [hwx]; exact below_alloc HB.out _)
        clear hwx hgr cd
        go_loopw [10] (fun i wr => ∃ (j : Nat) (v : Value), j ≤ 4 ∧ i = .int .i64 (j : Int) ∧ Aside0 (wr.heap[gr]? = some (.cells #[.int .i64 ((k : Int) + 1), .int .i64 sum, v] 41 (0, 0))) ∧ Aside0 ((Kd.int .i64).R 3 wr w.heap.size (fun _ => True) v (firstBy (rfirst c me k) j)) ∧ Aside0 (SRoutes wr w.heap.size (fun n => (True ∧ n ≠ gr) ∧ some n ≠ v.ownBlock) u7 (routesBy (rskip c me) (rcost c me) (rfirst c me) k)) ∧ Aside0 (Blk wr gd 22 d) ∧ Aside0 (Blk wr gc 23 c) ∧ Aside0 (Below w.heap.size w wr)) (fun i _ => 4 - (intOf i).toNat)
        case atStart => exact ⟨0, .slice none 0 0, by omega, rfl, HX, HF, HO, HBD, HBC, HB⟩
        case round =>
          clear HB HBD HBC HO HF HX
          obtain ⟨j, v, hj, rfl, HX, HF, HO, HBD, HBC, HB⟩ := hrel
          obtain ⟨Av, cv, hv⟩ := Kd.R_slice HF.out
          subst hv
          by_cases hj4 : j < 4
          · have jI : (j : Int) < 4 := by omega
            go_wp2_with (first | ((with_reducible refine gate_dst (N := 48) rfl ?_); refine wpL_load rfl rfl rfl HBC.out Try.underlying23 (by rw [HC.out]; exact size23) ?_) | (go_at_call 30; refine (least_calls c HC.out HK.out j hj4 _).mono ?_; rintro e w1 ⟨rfl, hb1⟩; replace HB := Aside0.mk (below_step HB.out hb1); replace HBC := Aside0.mk (HBC.out.below hb1); replace HBD := Aside0.mk (HBD.out.below hb1); replace HX := Aside0.mk (blk_below HX.out hb1); replace HF := Aside0.mk (Kd.R_below HF.out hb1); replace HO := Aside0.mk (Kd.S_below HO.out hb1); clear hb1) | ((with_reducible refine gate_dst (N := 11) rfl ?_); refine box_event ?hg (N := 11) ?hd (cs := AV zs4) (t := 22) ?hr ?_; (case hd => rfl); (case hg => rfl); (case hr => first | (go_simp; done) | (go_simp; rfl)); intro ge hge w1 hbox hb1; have HBE := Aside0.mk (show Blk w1 ge 22 zs4 from hbox); have HGE := Aside0.mk (show w.heap.size ≤ ge by rw [hge]; exact HB.out.size); have HEN := Aside0.mk (show gc ≠ ge ∧ gd ≠ ge ∧ gr ≠ ge by rw [hge]; exact ⟨Nat.ne_of_lt HBC.out.lt, Nat.ne_of_lt HBD.out.lt, Nat.ne_of_lt (blk_lt HX.out)⟩); replace HBC := Aside0.mk (HBC.out.below hb1); replace HBD := Aside0.mk (HBD.out.below hb1); replace HX := Aside0.mk (blk_below HX.out hb1); replace HF := Aside0.mk (Kd.R_below HF.out hb1); replace HO := Aside0.mk (Kd.S_below HO.out hb1); replace HB := Aside0.mk (below_step HB.out hb1); clear hbox hb1 hge) | ((with_reducible refine gate_store (p := 11) rfl ?_); refine wpL_store rfl rfl rfl rfl HBE.out (by rw [least_length]; exact size22) (by rw [least_length]; rfl) ?_; intro w2 hX2 hP2; replace HF := Aside0.mk (Kd.R_mono (Kd.R_keep (Kd.R_types HF.out HBE.out (by decide)) hP2.keep (fun _ hk => hk.2)) (ok' := fun _ => True) (fun _ _ => trivial)); replace HO := Aside0.mk (Kd.S_mono (Kd.S_keep (Kd.S_types HO.out HBE.out (by decide)) hP2.keep (fun _ hk => hk.2)) (fun _ hk => hk.1)); replace HBE := Aside0.mk hX2; replace HBC := Aside0.mk (HBC.out.put hP2 HEN.out.1); replace HBD := Aside0.mk (HBD.out.put hP2 HEN.out.2.1); replace HX := Aside0.mk ((hP2.keep.2 gr (blk_lt HX.out) HEN.out.2.2 (by simp)).trans HX.out); replace HB := Aside0.mk (hP2.below _ _ HB.out HGE.out); clear hX2 hP2))
            simp only [Act.put, List.setIfInBounds_toArray, List.set_cons_zero, List.set_cons_succ]
            have cc := HBC.out.cell (me * 4 + j) (by rw [HC.out]; omega)
            have ce := HBE.out.cell k (by rw [least_length]; omega)
            have cd := HBD.out.cell k (by rw [HSL.out]; omega)
            obtain ⟨e0, e1, _⟩ := costsOk_at HK.out me j hme hj4
            obtain ⟨d0, d1⟩ := leastTo_small HK.out j 64 k
            obtain ⟨x, hx⟩ : ∃ x, x = gt c (me * 4 + j) := ⟨_, rfl⟩
            obtain ⟨y, hy⟩ : ∃ y, y = gt (least c j) k := ⟨_, rfl⟩
            rw [← hx] at cc e0 e1
            rw [← hy] at ce
            rw [show gt (leastTo c j 64) k = y from hy.symm] at d0 d1
            rw [show gt d k = sum by rw [HSE.out, HSUM.out]] at cd
            have HXY := Aside0.mk (And.intro hx hy)
            clear hx hy
            have hw : IntKind.i64.wrap (x + y) = x + y := IntWalk.i64_in _ (by omega)
            have hwm : IntKind.i64.wrap (me : Int) = (me : Int) := IntWalk.i64_in _ (by omega)
            clear d1
            have q2 : w2.cell? ⟨gr, 2, none⟩ = some (.slice Av (firstBy (rfirst c me k) j).length cv) := (blk_cell HX.out 2).trans rfl
            have HL := Aside0.mk (firstBy_length (rfirst c me k) j)
            by_cases t4 : j = me
            · have d4 : ((j : Int) != (me : Int)) = false := by rw [t4]; simp
              have d4' : ((j : Int) == (me : Int)) = true := by rw [t4]; simp
              have HP := Aside0.mk (show firstBy (rfirst c me k) (j + 1) = firstBy (rfirst c me k) j by rw [firstBy, if_neg (by rw [rfirst, ← HXY.out.1, ← HXY.out.2, HSUM.out]; simp; omega)])
              clear t4
              go_quiet (fail)
              go_wp2_with (fail)
              replace HX := Aside0.mk (show (w2.drewN nq).heap[gr]? = _ from HX.out)
              replace HF := Aside0.mk (show (Kd.int .i64).R 3 (w2.drewN nq) w.heap.size (fun _ => True) (.slice Av (firstBy (rfirst c me k) j).length cv) (firstBy (rfirst c me k) (j + 1)) by rw [HP.out]; exact Kd.R_drewN HF.out nq)
              replace HO := Aside0.mk (Kd.S_drewN HO.out nq)
              replace HBD := Aside0.mk (HBD.out.drewN nq)
              replace HBC := Aside0.mk (HBC.out.drewN nq)
              replace HB := Aside0.mk (pw_below_drewN HB.out nq)
              go_roundw
              case rel => exact ⟨j + 1, .slice Av (firstBy (rfirst c me k) j).length cv, by omega, by go_num, HX, HF, HO, HBD, HBC, HB⟩
              case measure => simp [intOf]; omega
            · have d4 : ((j : Int) != (me : Int)) = true := by simp; omega
              have d4' : ((j : Int) == (me : Int)) = false := by simp; omega
              by_cases t5 : 0 < x
              · have d5 : decide (0 < x) = true := by simpa using t5
                by_cases t6 : 0 ≤ y
                · have d6 : decide (0 ≤ y) = true := by simpa using t6
                  by_cases t7 : x + y = sum
                  · have d7 : (x + y == sum) = true := by simpa using t7
                    have HP := Aside0.mk (show firstBy (rfirst c me k) (j + 1) = firstBy (rfirst c me k) j ++ [(j : Int) + 1] by rw [firstBy, if_pos (by rw [rfirst, ← HXY.out.1, ← HXY.out.2, HSUM.out]; simp; omega)])
                    clear t4 t7
                    go_quiet (fail)
                    replace q2 : (w2.drewN nq).cell? ⟨gr, 2, none⟩ = some (.slice Av (firstBy (rfirst c me k) j).length cv) := q2
                    replace HX := Aside0.mk (show (w2.drewN nq).heap[gr]? = _ from HX.out)
                    replace HF := Aside0.mk (Kd.R_drewN HF.out nq)
                    replace HO := Aside0.mk (Kd.S_drewN HO.out nq)
                    replace HBD := Aside0.mk (HBD.out.drewN nq)
                    replace HBC := Aside0.mk (HBC.out.drewN nq)
                    replace HB := Aside0.mk (pw_below_drewN HB.out nq)
                    generalize w2.drewN nq = wq at *
                    clear cc ce cd
                    go_wp2_with (first | ((with_reducible refine gate_builtin (b := .append) (xs := #[.tmp 87, .tmp 90]) rfl ?_); at_builtin; refine Kd.R_append (Kd.int .i64) (w0 := w) w.heap.size rfl (.tmp 87) (.tmp 90) 39 3 (.int .i64 0) 8 rfl Try.underlying39 hinfo3 rfl (by decide) (by omega) _ (firstBy (rfirst c me k) j) ((j : Int) + 1) [.int .i64 ((j : Int) + 1)] (fun _ => True) (fun _ => False) rfl rfl rfl (fun _ h => h.elim) (fun _ _ => trivial) HF.out HB.out HB.out.size ?aL ?_; (case aL => have := HL.out; omega); intro v1 w2 hF hb hg hat; replace HBD := Aside0.mk (show Blk w2 gd 22 d from blk_grown HBD.out hg (Kd.R_ne HF.out HBD.out (by decide))); replace HBC := Aside0.mk (show Blk w2 gc 23 c from blk_grown HBC.out hg (Kd.R_ne HF.out HBC.out (by decide))); replace HX := Aside0.mk (blk_grown HX.out hg (Kd.R_ne HF.out HX.out (by decide))); replace HO := Aside0.mk (Kd.S_after HO.out hg hat); replace HF := Aside0.mk (show (Kd.int .i64).R 3 w2 w.heap.size (fun _ => True) v1 (firstBy (rfirst c me k) (j + 1)) by rw [HP.out]; exact hF); replace HB := Aside0.mk hb; clear hF hb hg hat q2; obtain ⟨A1, c1, e1⟩ := Kd.R_slice HF.out; subst e1) | ((with_reducible refine gate_store (p := 92) rfl ?_); refine wpL_setS rfl rfl size39 rfl rfl HX.out (Nat.lt_succ_self 2) ?_; intro w3 hX3 hP3; replace HF := Aside0.mk (Kd.R_keep (Kd.R_types HF.out HX.out (by decide)) hP3.keep (fun _ hk => hk.2)); replace HF := Aside0.mk (Kd.R_mono HF.out (ok' := fun _ => True) (fun _ _ => trivial)); replace HO := Aside0.mk (Kd.S_keep HO.out hP3.keep (fun _ hk => hk.1.2)); replace HBD := Aside0.mk (HBD.out.put hP3 (Blk.neC HBD.out HX.out (by decide))); replace HBC := Aside0.mk (HBC.out.put hP3 (Blk.neC HBC.out HX.out (by decide))); replace HX := Aside0.mk hX3; replace HB := Aside0.mk (hP3.below _ _ HB.out HGR.out); clear hX3 hP3))
                    exact ⟨⟨j + 1, _, by omega, by go_num, HX, HF, HO, HBD, HBC, HB⟩, by simp [intOf]; omega⟩
                  · have d7 : (x + y == sum) = false := by simpa using t7
                    have HP := Aside0.mk (show firstBy (rfirst c me k) (j + 1) = firstBy (rfirst c me k) j by rw [firstBy, if_neg (by rw [rfirst, ← HXY.out.1, ← HXY.out.2, HSUM.out]; simp; omega)])
                    clear t7 t4
                    go_quiet (fail)
                    go_wp2_with (fail)
                    replace HX := Aside0.mk (show (w2.drewN nq).heap[gr]? = _ from HX.out)
                    replace HF := Aside0.mk (show (Kd.int .i64).R 3 (w2.drewN nq) w.heap.size (fun _ => True) (.slice Av (firstBy (rfirst c me k) j).length cv) (firstBy (rfirst c me k) (j + 1)) by rw [HP.out]; exact Kd.R_drewN HF.out nq)
                    replace HO := Aside0.mk (Kd.S_drewN HO.out nq)
                    replace HBD := Aside0.mk (HBD.out.drewN nq)
                    replace HBC := Aside0.mk (HBC.out.drewN nq)
                    replace HB := Aside0.mk (pw_below_drewN HB.out nq)
                    go_roundw
                    case rel => exact ⟨j + 1, .slice Av (firstBy (rfirst c me k) j).length cv, by omega, by go_num, HX, HF, HO, HBD, HBC, HB⟩
                    case measure => simp [intOf]; omega
                · have d6 : decide (0 ≤ y) = false := by simpa using t6
                  have HP := Aside0.mk (show firstBy (rfirst c me k) (j + 1) = firstBy (rfirst c me k) j by rw [firstBy, if_neg (by rw [rfirst, ← HXY.out.1, ← HXY.out.2, HSUM.out]; simp; omega)])
                  clear t4
                  go_quiet (fail)
                  go_wp2_with (fail)
                  replace HX := Aside0.mk (show (w2.drewN nq).heap[gr]? = _ from HX.out)
                  replace HF := Aside0.mk (show (Kd.int .i64).R 3 (w2.drewN nq) w.heap.size (fun _ => True) (.slice Av (firstBy (rfirst c me k) j).length cv) (firstBy (rfirst c me k) (j + 1)) by rw [HP.out]; exact Kd.R_drewN HF.out nq)
                  replace HO := Aside0.mk (Kd.S_drewN HO.out nq)
                  replace HBD := Aside0.mk (HBD.out.drewN nq)
                  replace HBC := Aside0.mk (HBC.out.drewN nq)
                  replace HB := Aside0.mk (pw_below_drewN HB.out nq)
                  go_roundw
                  case rel => exact ⟨j + 1, .slice Av (firstBy (rfirst c me k) j).length cv, by omega, by go_num, HX, HF, HO, HBD, HBC, HB⟩
                  case measure => simp [intOf]; omega
              · have d5 : decide (0 < x) = false := by simpa using t5
                have HP := Aside0.mk (show firstBy (rfirst c me k) (j + 1) = firstBy (rfirst c me k) j by rw [firstBy, if_neg (by rw [rfirst, ← HXY.out.1, ← HXY.out.2, HSUM.out]; simp; omega)])
                clear t4
                go_quiet (fail)
                go_wp2_with (fail)
                replace HX := Aside0.mk (show (w2.drewN nq).heap[gr]? = _ from HX.out)
                replace HF := Aside0.mk (show (Kd.int .i64).R 3 (w2.drewN nq) w.heap.size (fun _ => True) (.slice Av (firstBy (rfirst c me k) j).length cv) (firstBy (rfirst c me k) (j + 1)) by rw [HP.out]; exact Kd.R_drewN HF.out nq)
                replace HO := Aside0.mk (Kd.S_drewN HO.out nq)
                replace HBD := Aside0.mk (HBD.out.drewN nq)
                replace HBC := Aside0.mk (HBC.out.drewN nq)
                replace HB := Aside0.mk (pw_below_drewN HB.out nq)
                go_roundw
                case rel => exact ⟨j + 1, .slice Av (firstBy (rfirst c me k) j).length cv, by omega, by go_num, HX, HF, HO, HBD, HBC, HB⟩
                case measure => simp [intOf]; omega
          · have jI : ¬ (j : Int) < 4 := by omega
            replace HF := Aside0.mk (show (Kd.int .i64).R 3 wr w.heap.size (fun _ => True) (.slice Av (firstBy (rfirst c me k) j).length cv) (firstBy (rfirst c me k) 4) by have := HF.out; rw [show j = 4 by omega] at this ⊢; exact this)
            have HL := Aside0.mk (routesBy_length (rskip c me) (rcost c me) (rfirst c me) k)
            have q0 : wr.cell? ⟨gr, 0, none⟩ = some (.int .i64 ((k : Int) + 1)) := (blk_cell HX.out 0).trans rfl
            have q1 : wr.cell? ⟨gr, 1, none⟩ = some (.int .i64 sum) := (blk_cell HX.out 1).trans rfl
            have q2 : wr.cell? ⟨gr, 2, none⟩ = some (.slice Av (firstBy (rfirst c me k) j).length cv) := (blk_cell HX.out 2).trans rfl
            go_wp2_with (first | ((with_reducible refine gate_builtin (b := .append) (xs := #[.tmp 93, .tmp 95]) rfl ?_); at_builtin; refine Kd.S_append k41 (w0 := w) w.heap.size rfl (.tmp 93) (.tmp 95) 24 41 (.agg #[(.int .i64 0), (.int .i64 0), (.slice none 0 0)]) 40 rfl Try.underlying24 hinfo41 rfl (by decide) (by omega) u7 (rts (routesBy (rskip c me) (rcost c me) (rfirst c me) k)) (mkRt ((k : Int) + 1, sum, firstBy (rfirst c me k) 4)) [.int .i64 ((k : Int) + 1), .int .i64 sum, .slice Av (firstBy (rfirst c me k) j).length cv] (fun _ => True) (fun q => some q = (.slice Av (firstBy (rfirst c me k) j).length cv : Value).ownBlock) rfl rfl ?aP ?aK (fun _ _ => trivial) ?aO HB.out HB.out.size ?aL ?_; (case aP => exact k41_mkM _ _ _ (mkRt ((k : Int) + 1, sum, firstBy (rfirst c me k) 4)) (Kd.R_mono (Kd.R_tight rfl HF.out) (fun _ h_ => h_))); (case aK => exact fun q hq => (Kd.R_mono (ok' := fun q => True ∧ some q ≠ (u7 : Value).ownBlock) (Kd.R_apart' HF.out (Kd.S_typed HO.out) (by decide)) (fun q hq => ⟨trivial, hq.2⟩)).1 q hq.symm); (case aO => exact Kd.S_mono HO.out (fun q hq => ⟨trivial, fun e => hq.2 e⟩)); (case aL => rw [rts, List.length_map]; have := HL.out; omega); intro v1 w2 hO hb hg hat; replace HBD := Aside0.mk (show Blk w2 gd 22 d from blk_grown HBD.out hg (Kd.S_ne HO.out HBD.out (by decide))); replace HBC := Aside0.mk (show Blk w2 gc 23 c from blk_grown HBC.out hg (Kd.S_ne HO.out HBC.out (by decide))); replace HO := Aside0.mk (show SRoutes w2 w.heap.size (fun _ => True) v1 (routesBy (rskip c me) (rcost c me) (rfirst c me) (k + 1)) by rw [HE.out]; unfold SRoutes; rw [rts_snoc]; exact hO); replace HB := Aside0.mk hb; clear hO hb hg hat q0 q1 q2 HX HF))
            exact ⟨⟨k + 1, by omega, by go_num, HO, HBD, HBC, HB⟩, by simp [intOf]; omega⟩
    · have kI : ¬ (k : Int) < 4 := by omega
      replace HO := Aside0.mk (show SRoutes wr w.heap.size (fun _ => True) u7 (routesBy (rskip c me) (rcost c me) (rfirst c me) 4) by have := HO.out; rw [show k = 4 by omega] at this; exact this)
      go_wp2_with (fail)
      go_ret2
      exact ⟨_, rfl, HO.out, HB.out⟩

theorem RefRoutes_calls (c : List Int) (hc : c.length = 16) (x : Int) (w : World) :
    Calls Try.prog 14 #[.agg (AV c), .int .i64 x] w fun e w' => ∃ v, e = .returned (.tuple #[v, .int .i64 (rroutesOf c x).2]) ∧ SRoutes w' w.heap.size (fun _ => True) v (rroutesOf c x).1 ∧ Below w.heap.size w w' := by
  cases hok : costsOk c with
  | false =>
    refine (RefRoutes_bad_costs c hc x w hok).mono fun e w' ⟨he, hb⟩ => ?_
    rw [rroutesOf, if_neg (by rw [hok]; simp)]
    exact ⟨_, he, Kd.S_nil _ _ _ _ _, hb⟩
  | true =>
    cases hx : isRouter x with
    | false =>
      refine (RefRoutes_bad_router c hc x w hok hx).mono fun e w' ⟨he, hb⟩ => ?_
      rw [rroutesOf, if_neg (by rw [hx]; simp)]
      exact ⟨_, he, Kd.S_nil _ _ _ _ _, hb⟩
    | true =>
      have hx2 : 1 ≤ x ∧ x ≤ 4 := by simpa [isRouter] using hx
      obtain ⟨me, hme⟩ := Int.eq_ofNat_of_zero_le (show 0 ≤ x - 1 by omega)
      have h1 : x = (me : Int) + 1 := by omega
      rw [rroutesOf, if_pos ⟨hok, hx⟩, show (x - 1).toNat = me by omega, h1]
      exact RefRoutes_good c hc me (by omega) w hok
end Go.Proofs.Ytjficnndocjodaa.H
