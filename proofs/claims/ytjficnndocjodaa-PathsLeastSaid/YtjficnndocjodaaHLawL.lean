/- The walk of the law PathsLeast. -/
import Derived.Test.YtjficnndocjodaaHLawW
import Derived.Test.YtjficnndocjodaaHLawT
namespace Go.Proofs.Ytjficnndocjodaa.H
open Go.RowKit Go.Proofs.YtjficnndocjodaaW.PrintWords Go.Proofs.YtjficnndocjodaaW.PrintLast Go.Proofs.YtjficnndocjodaaW.PrintMore
open Go.Proofs.Ytjficnndocjodaa.PPaths
set_option linter.unusedVariables false
set_option linter.unusedSimpArgs false

/-! ### where the entries of the lists stand -/
theorem routesBy_grow (skip : Nat → Bool) (cost : Nat → Int) (p : Nat → Nat → Bool) (n m : Nat) (h : n ≤ m) : ∃ r, routesBy skip cost p m = routesBy skip cost p n ++ r := by
  induction m with
  | zero => rw [show n = 0 by omega]; exact ⟨[], by simp⟩
  | succ m ih =>
    by_cases e : n = m + 1
    · rw [e]; exact ⟨[], by simp⟩
    · obtain ⟨r, hr⟩ := ih (by omega)
      show ∃ r, (if skip m = true then routesBy skip cost p m else routesBy skip cost p m ++ [((m : Int) + 1, cost m, firstBy (p m) 4)]) = _
      split
      · exact ⟨r, hr⟩
      · exact ⟨r ++ [((m : Int) + 1, cost m, firstBy (p m) 4)], by rw [hr, List.append_assoc]⟩
theorem routesBy_entry (skip : Nat → Bool) (cost : Nat → Int) (p : Nat → Nat → Bool) (n m : Nat) (h : n < m) (hs : skip n = false) :
    (routesBy skip cost p n).length < (routesBy skip cost p m).length ∧ rAt (routesBy skip cost p m) (routesBy skip cost p n).length = ((n : Int) + 1, cost n, firstBy (p n) 4) ∧ (routesBy skip cost p (n + 1)).length = (routesBy skip cost p n).length + 1 := by
  obtain ⟨r, hr⟩ := routesBy_grow skip cost p (n + 1) m h
  have e : routesBy skip cost p (n + 1) = routesBy skip cost p n ++ [((n : Int) + 1, cost n, firstBy (p n) 4)] := by
    show (if skip n = true then _ else _) = _
    rw [if_neg (by rw [hs]; simp)]
  rw [hr, e]
  refine ⟨by simp, ?_, by simp⟩
  simp [rAt, List.getD_eq_getElem?_getD]
theorem routesBy_skips (skip : Nat → Bool) (cost : Nat → Int) (p : Nat → Nat → Bool) (n : Nat) (hs : skip n = true) : routesBy skip cost p (n + 1) = routesBy skip cost p n := by
  show (if skip n = true then _ else _) = _
  rw [if_pos hs]
theorem firstBy_grow (p : Nat → Bool) (n m : Nat) (h : n ≤ m) : ∃ r, firstBy p m = firstBy p n ++ r := by
  induction m with
  | zero => rw [show n = 0 by omega]; exact ⟨[], by simp⟩
  | succ m ih =>
    by_cases e : n = m + 1
    · rw [e]; exact ⟨[], by simp⟩
    · obtain ⟨r, hr⟩ := ih (by omega)
      show ∃ r, (if p m = true then firstBy p m ++ [(m : Int) + 1] else firstBy p m) = _
      split
      · exact ⟨r ++ [(m : Int) + 1], by rw [hr, List.append_assoc]⟩
      · exact ⟨r, hr⟩
theorem firstBy_entry (p : Nat → Bool) (n m : Nat) (h : n < m) (hs : p n = true) :
    (firstBy p n).length < (firstBy p m).length ∧ gt (firstBy p m) (firstBy p n).length = (n : Int) + 1 ∧ (firstBy p (n + 1)).length = (firstBy p n).length + 1 := by
  obtain ⟨r, hr⟩ := firstBy_grow p (n + 1) m h
  have e : firstBy p (n + 1) = firstBy p n ++ [(n : Int) + 1] := by
    show (if p n = true then _ else _) = _
    rw [if_pos hs]
  rw [hr, e]
  refine ⟨by simp, ?_, by simp⟩
  simp [gt, List.getD_eq_getElem?_getD]
theorem firstBy_skips (p : Nat → Bool) (n : Nat) (hs : p n = false) : firstBy p (n + 1) = firstBy p n := by
  show (if p n = true then _ else _) = _
  rw [if_neg (by rw [hs]; simp)]
theorem firstBy_some (p : Nat → Bool) (a : Nat) (h : a < 4) (hs : p a = true) : 1 ≤ (firstBy p 4).length := by
  have := (firstBy_entry p a 4 h hs).1; omega

/-- A list of routes with all that stands in it. -/
def RF (w : World) (A : Option Addr) (l : List (Int × Int × List Int)) : Prop :=
  ∀ k, k < l.length → ∃ g A2 c2, A = some ⟨g, 0, none⟩ ∧ w.cell? ⟨g, k * 3, none⟩ = some (.int .i64 (rAt l k).1) ∧ w.cell? ⟨g, k * 3 + 1, none⟩ = some (.int .i64 (rAt l k).2.1) ∧ w.cell? ⟨g, k * 3 + 2, none⟩ = some (.slice A2 (rAt l k).2.2.length c2) ∧
    ∀ i, i < (rAt l k).2.2.length → ∃ g2, A2 = some ⟨g2, 0, none⟩ ∧ w.cell? ⟨g2, i, none⟩ = some (.int .i64 (gt (rAt l k).2.2 i))
theorem RI_cells {w : World} {base : Nat} {ok : Nat → Prop} {v : Value} {xs : List Int} (h : (Kd.int .i64).R 3 w base ok v xs) : ∃ A c, v = .slice A xs.length c ∧ ∀ i, i < xs.length → ∃ g2, A = some ⟨g2, 0, none⟩ ∧ w.cell? ⟨g2, i, none⟩ = some (.int .i64 (gt xs i)) := by
  obtain ⟨A, c, hv, hl, hC⟩ := Kd.R_reads h
  refine ⟨A, c, hv, fun i hi => ?_⟩
  obtain ⟨ad, hA, hcell⟩ := hC.2.2 (by omega)
  subst hA
  rw [hv] at h
  obtain ⟨g, hg⟩ := Kd.R_head h
  subst hg
  obtain ⟨cs, _, hK, hcc⟩ := hcell i xs[i] (List.getElem?_eq_getElem hi)
  have hK : cs = [Value.int .i64 xs[i]] := hK
  have this : w.cell? ((⟨g, 0, none⟩ : Addr).add (i * 1 + 0)) = some (.int .i64 xs[i]) := hcc 0 (.int .i64 xs[i]) (by rw [hK]; rfl)
  rw [add_plain, Nat.mul_one, Nat.add_zero] at this
  refine ⟨g, rfl, ?_⟩
  rw [this, show gt xs i = xs[i] by simp [gt, List.getD_eq_getElem?_getD, hi]]
theorem SR_full {w : World} {base : Nat} {ok : Nat → Prop} {A : Option Addr} {n cap : Nat} {l : List (Int × Int × List Int)} (h : SRoutes w base ok (.slice A n cap) l) : RF w A l := by
  have hn : n = l.length := (Kd.S_reads' h).1.trans (by simp [rts])
  intro k hk
  obtain ⟨g, cap', hv, _⟩ := Kd.S_form h (by simp [rts]; omega)
  injection hv with e1 e2 e3
  subst e1
  obtain ⟨oki, cs, hcl, hM, hcc, hfr, hoki, hH⟩ := Kd.S_elem h z41 (k : Int) (by omega) (by omega)
  obtain ⟨v2, hcs, hR2⟩ := k41_openM hM
  subst hcs
  have q0 : w.cell? ⟨g, k * 3, none⟩ = some (.int .i64 ((rts l).getD k z41).f0) := hcc 0 _ rfl
  have q1 : w.cell? ⟨g, k * 3 + 1, none⟩ = some (.int .i64 ((rts l).getD k z41).f1) := hcc 1 _ rfl
  have q2 : w.cell? ⟨g, k * 3 + 2, none⟩ = some v2 := hcc 2 _ rfl
  have hR2' : (Kd.int .i64).R _ w base _ v2 ((rts l).getD k z41).f2 := hR2
  rw [rAt_rts] at q0 q1 hR2'
  obtain ⟨A2, c2, hv2, hcell⟩ := RI_cells hR2'
  rw [hv2] at q2
  exact ⟨g, A2, c2, rfl, q0, q1, q2, hcell⟩
theorem RF.blw {w0 w : World} {A : Option Addr} {l : List (Int × Int × List Int)} (h : RF w0 A l) (hb : Below w0.heap.size w0 w) : RF w A l := by
  intro k hk
  obtain ⟨g, A2, c2, hA, q0, q1, q2, hc⟩ := h k hk
  have := World.block_lt_of_cell? w0 _ q0
  refine ⟨g, A2, c2, hA, cell_blw hb this q0, cell_blw (p := ⟨g, k * 3 + 1, none⟩) hb this q1, cell_blw (p := ⟨g, k * 3 + 2, none⟩) hb this q2, fun i hi => ?_⟩
  obtain ⟨g2, hA2, q⟩ := hc i hi
  exact ⟨g2, hA2, cell_blw hb (World.block_lt_of_cell? w0 _ q) q⟩

set_option maxHeartbeats 1000000 in
set_option maxRecDepth 100000 in
theorem PathsLeast_bad (c : List Int) (hc : c.length = 16) (x : Int) (w : World) (hbad : routesOf c x = ([], 2100)) : Calls Try.prog 4 #[.agg (AV c), .int .i64 x] w fun e w' => e = .returned (.bool true) ∧ Below w.heap.size w w' := by
  have HC := Aside0.mk hc
  have HBAD := Aside0.mk hbad
  clear hc hbad
  have HB := Aside0.mk (Below.refl w.heap.size w)
  go_enter Try.func4, Try.ntmps4
  go_wp2_with (first | ((with_reducible refine gate_dst (N := 2) rfl ?_); refine box_event ?hg (N := 2) ?hd (cs := AV c) (t := 23) ?hr ?_; (case hd => rfl); (case hg => rfl); (case hr => first | (go_simp; done) | (go_simp; rfl)); intro gc hgc w1 hbox hb1; have HBC := Aside0.mk (show Blk w1 gc 23 c from hbox); replace HB := Aside0.mk (below_step HB.out hb1); clear hbox hb1 hgc) | (go_at_call 18; refine (awake_calls _).mono ?_; rintro e w1 ⟨rfl, hb1⟩; replace HB := Aside0.mk (below_step HB.out hb1); replace HBC := Aside0.mk (HBC.out.below hb1); clear hb1) | ((with_reducible refine gate_dst (N := 17) rfl ?_); refine wpL_load rfl rfl rfl HBC.out Try.underlying23 (by rw [HC.out]; exact size23) ?_))
  refine (Routes_calls c HC.out x _).mono ?_
  rintro e w2 ⟨v, rfl, hO, hb1⟩
  rw [HBAD.out] at hO ⊢
  obtain ⟨A, cp, hv⟩ := Kd.S_slice hO
  subst hv
  replace HB := Aside0.mk (below_step HB.out hb1)
  clear hb1 hO
  rw [show (rts []).length = 0 from rfl]
  go_wp2_with (first | (go_at_call 16; go_in))
  go_ret
  exact ⟨rfl, HB.out⟩

set_option maxHeartbeats 2000000 in
set_option maxRecDepth 100000 in
theorem PathsLeast_good (c : List Int) (hc : c.length = 16) (x : Int) (w : World) (me : Nat) (hm : me < 4) (hx : x = (me : Int) + 1) (hok : costsOk c = true) : Calls Try.prog 4 #[.agg (AV c), .int .i64 x] w fun e w' => e = .returned (.bool true) ∧ Below w.heap.size w w' := by
  have HC := Aside0.mk hc
  have HK := Aside0.mk hok
  have HX := Aside0.mk hx
  have HM := Aside0.mk hm
  have mI : (me : Int) < 4 := by omega
  have wx : IntKind.i64.wrap (x - 1) = (me : Int) := by rw [IntWalk.i64_in _ (by omega)]; omega
  have x1 : decide (x < 1) = false := by simp; omega
  have x4 : decide (4 < x) = false := by simp; omega
  have x1' : ¬ x < 1 := by omega
  have x4' : ¬ 4 < x := by omega
  have HRO := Aside0.mk (routesOf_good c x me hm hx hok)
  have HWA := Aside0.mk (ways_are hok me hm)
  have HWL := Aside0.mk (waysTo_length c me 64)
  clear hc hok hx hm
  have HB := Aside0.mk (Below.refl w.heap.size w)
  go_enter Try.func4, Try.ntmps4
  go_wp2_with (first | ((with_reducible refine gate_dst (N := 2) rfl ?_); refine box_event ?hg (N := 2) ?hd (cs := AV c) (t := 23) ?hr ?_; (case hd => rfl); (case hg => rfl); (case hr => first | (go_simp; done) | (go_simp; rfl)); intro gc hgc w1 hbox hb1; have HBC := Aside0.mk (show Blk w1 gc 23 c from hbox); replace HB := Aside0.mk (below_step HB.out hb1); clear hbox hb1 hgc) | (go_at_call 18; refine (awake_calls _).mono ?_; rintro e w1 ⟨rfl, hb1⟩; replace HB := Aside0.mk (below_step HB.out hb1); replace HBC := Aside0.mk (HBC.out.below hb1); clear hb1) | ((with_reducible refine gate_dst (N := 17) rfl ?_); refine wpL_load rfl rfl rfl HBC.out Try.underlying23 (by rw [HC.out]; exact size23) ?_))
  refine (Routes_calls c HC.out x _).mono ?_
  rintro e w2 ⟨v, rfl, hO, hb1⟩
  rw [HRO.out] at hO ⊢
  obtain ⟨l, hl⟩ : ∃ l, l = routesBy (pskip (fw c) me) (pcost (fw c) me) (pfirst c (fw c) me) 4 := ⟨_, rfl⟩
  rw [← hl] at hO
  obtain ⟨A, cp, hv⟩ := Kd.S_slice hO
  subst hv
  have HRF := Aside0.mk (SR_full hO)
  rw [show (rts l).length = l.length by simp [rts]]
  have HL := Aside0.mk hl
  have l4 : l.length ≤ 4 := by rw [hl]; exact routesBy_length _ _ _ 4
  replace HB := Aside0.mk (below_step HB.out hb1)
  replace HBC := Aside0.mk (HBC.out.below hb1)
  have HB2 := Aside0.mk (Below.refl w2.heap.size w2)
  clear hb1 hO hl
  go_wp2_with (first | (go_at_call 16; go_in) | ((with_reducible refine gate_dst (N := 37) rfl ?_); refine wpL_load rfl rfl rfl HBC.out Try.underlying23 (by rw [HC.out]; exact size23) ?_) | (go_at_call 19; refine (ways_calls c HC.out HK.out me HM.out _).mono ?_; rintro e w3 ⟨rfl, hb1⟩; replace HB2 := Aside0.mk (below_step HB2.out hb1); clear hb1) | ((with_reducible refine gate_dst (N := 8) rfl ?_); refine box_event ?hg (N := 8) ?hd (cs := AV zs4) (t := 22) ?hr ?_; (case hd => rfl); (case hg => rfl); (case hr => first | (go_simp; done) | (go_simp; rfl)); intro g8 hg8 w4 hbox hb1; have HX8 := Aside0.mk (show Blk w4 g8 22 zs4 from hbox); have HG8 := Aside0.mk (show w2.heap.size ≤ g8 by rw [hg8]; exact HB2.out.size); replace HB2 := Aside0.mk (below_step HB2.out hb1); clear hbox hb1 hg8) | ((with_reducible refine gate_dst (N := 9) rfl ?_); refine box_event ?hg (N := 9) ?hd (cs := BV zb16) (t := 36) ?hr ?_; (case hd => rfl); (case hg => rfl); (case hr => first | (go_simp; done) | (go_simp; rfl)); intro g9 hg9 w5 hbox hb1; have HX9 := Aside0.mk (show BBlk w5 g9 36 zb16 from hbox); have HG9 := Aside0.mk (show w2.heap.size ≤ g9 by rw [hg9]; exact HB2.out.size); have HN := Aside0.mk (show g8 ≠ g9 by rw [hg9]; exact Nat.ne_of_lt HX8.out.lt); replace HX8 := Aside0.mk (HX8.out.below hb1); replace HB2 := Aside0.mk (below_step HB2.out hb1); clear hbox hb1 hg9) | ((with_reducible refine gate_store (p := 8) rfl ?_); refine wpL_store rfl rfl rfl rfl HX8.out (by rw [HWL.out.1]; exact size22) (by rw [HWL.out.1]; rfl) ?_; intro w6 hX4 hP4; replace HX8 := Aside0.mk hX4; replace HX9 := Aside0.mk (HX9.out.put hP4 (Ne.symm HN.out)); replace HB2 := Aside0.mk (hP4.below _ _ HB2.out HG8.out); clear hX4 hP4) | ((with_reducible refine gate_store (p := 9) rfl ?_); refine wpL_storeB rfl rfl rfl rfl HX9.out (by rw [HWL.out.2]; exact size36) (by rw [HWL.out.2]; rfl) ?_; intro w7 hX4 hP4; replace HX9 := Aside0.mk hX4; replace HX8 := Aside0.mk (HX8.out.put hP4 HN.out); replace HB2 := Aside0.mk (hP4.below _ _ HB2.out HG9.out); clear hX4 hP4))
  replace HRF := Aside0.mk (HRF.out.blw HB2.out)
  replace HB := Aside0.mk (below_step HB.out HB2.out)
  have HB7 := Aside0.mk (Below.refl w7.heap.size w7)
  clear HBC HB2 HG8 HG9 HN
  go_loopw [10, 11, 12, 13] (fun t i _ _ wr => ∃ d : Nat, d ≤ 4 ∧ i = .int .i64 (d : Int) ∧ t = .int .i64 ((routesBy (pskip (fw c) me) (pcost (fw c) me) (pfirst c (fw c) me) d).length : Int) ∧ Aside0 (Below w7.heap.size w7 wr)) (fun _ i _ _ _ => 4 - (intOf i).toNat)
  case atStart => exact ⟨0, by omega, rfl, rfl, HB7⟩
  case round =>
    clear HB7
    obtain ⟨d, hd, rfl, rfl, HB7⟩ := hrel
    by_cases hd4 : d < 4
    · have dI : (d : Int) < 4 := by omega
      obtain ⟨m, hm⟩ : ∃ m, m = (routesBy (pskip (fw c) me) (pcost (fw c) me) (pfirst c (fw c) me) d).length := ⟨_, rfl⟩
      rw [← hm]
      have HMM := Aside0.mk hm
      clear hm
      have c8 := (HX8.out.below HB7.out).cell d (by rw [HWL.out.1]; exact hd4)
      obtain ⟨y, hy⟩ : ∃ y, y = gt (waysTo c me 64).1 d := ⟨_, rfl⟩
      rw [← hy] at c8
      have HY := Aside0.mk hy
      clear hy
      by_cases e1 : d = me
      · have t1 : ((d : Int) == (me : Int)) = true := by simp; omega
        have HE := Aside0.mk (show (routesBy (pskip (fw c) me) (pcost (fw c) me) (pfirst c (fw c) me) (d + 1)).length = m by rw [routesBy_skips _ _ _ _ (by rw [e1]; simp [pskip]), HMM.out])
        clear e1
        go_wp2_with (fail)
        go_roundw
        case rel => exact ⟨d + 1, by omega, by go_num, by rw [HE.out], HB7⟩
        case measure => simp [intOf]; omega
      · have t1 : ((d : Int) == (me : Int)) = false := by simp; omega
        have hsk := pskip_M HK.out me d HM.out hd4
        have hwa := HWA.out d hd4 (fun h => e1 h.symm)
        rw [← HY.out] at hwa
        by_cases e2 : y < 0
        · have t2 : decide (y < 0) = true := by simpa using e2
          have HE := Aside0.mk (show (routesBy (pskip (fw c) me) (pcost (fw c) me) (pfirst c (fw c) me) (d + 1)).length = m by
            rw [routesBy_skips _ _ _ _ (by
              cases hq : pskip (fw c) me d with
              | true => rfl
              | false => have h1 := (hsk.1 hq).2; have := hwa.2 h1; omega), HMM.out])
          clear e1 e2 hsk hwa
          go_wp2_with (fail)
          go_roundw
          case rel => exact ⟨d + 1, by omega, by go_num, by rw [HE.out], HB7⟩
          case measure => simp [intOf]; omega
        · have t2 : decide (y < 0) = false := by simpa using e2
          have hnear : M c me d < 262144 := by
            by_cases h : M c me d < 262144
            · exact h
            · exact absurd (hwa.1 (by omega)) e2
          obtain ⟨hyM, hM0, hfst, a0, ha0, hpa0⟩ := hwa.2 hnear
          have hent := routesBy_entry (pskip (fw c) me) (pcost (fw c) me) (pfirst c (fw c) me) d 4 hd4 (hsk.2 ⟨e1, hnear⟩)
          rw [← HL.out, ← HMM.out] at hent
          obtain ⟨F, hF⟩ : ∃ F, F = firstBy (pfirst c (fw c) me d) 4 := ⟨_, rfl⟩
          have hF1 : 1 ≤ F.length := by rw [hF]; exact firstBy_some _ a0 ha0 hpa0
          have hF4 : F.length ≤ 4 := by rw [hF]; exact firstBy_length _ 4
          have hpc : pcost (fw c) me d = y := by rw [pcost, fw_M HK.out me d HM.out hd4, hyM]
          rw [hpc, ← hF] at hent
          have HFE := Aside0.mk hF
          have HFST := Aside0.mk hfst
          have HENT := Aside0.mk hent
          have mlt : (m : Int) < (l.length : Int) := by have := hent.1; omega
          have HRW := Aside0.mk HRF.out
          obtain ⟨g, A2, c2, hA, q0, q1, q2, hFc⟩ := HRF.out.blw HB7.out m hent.1
          rw [hent.2.1] at q0 q1 q2 hFc
          subst hA
          have HFC := Aside0.mk hFc
          have wd : IntKind.i64.wrap ((d : Int) + 1) = (d : Int) + 1 := IntWalk.i64_in _ (by omega)
          have u1 : decide ((l.length : Int) ≤ (m : Int)) = false := by simp; omega
          have u1' : decide ((m : Int) < (l.length : Int)) = true := by simp; omega
          have u1'' : decide (l.length ≤ m) = false := by simp; omega
          have u2 : ((d : Int) + 1 != (d : Int) + 1) = false := by simp
          have u3 : (y != y) = false := by simp
          obtain ⟨n2, hn2⟩ : ∃ n2, n2 = F.length := ⟨_, rfl⟩
          have HN2 := Aside0.mk hn2
          rw [← hn2] at hF1 hF4
          replace q2 : wr.cell? ⟨g, m * 3 + 2, none⟩ = some (.slice A2 (n2 : Int).toNat c2) := by rw [hn2]; exact q2
          rw [show (n2 : Int).toNat = n2 from rfl] at q2
          clear e1 e2 hsk hwa hnear hyM hM0 hfst ha0 hpa0 hent hF hpc hFc hn2
          go_wp2_with (fail)
          go_quiet (fail)
          go_wp2_with (fail)
          have HBI := Aside0.mk (pw_below_drewN HB7.out nq)
          clear q0 q1 q2 HB7 c8
          go_loopw [12, 13] (fun t i wr => ∃ a : Nat, a ≤ 4 ∧ i = .int .i64 (a : Int) ∧ t = .int .i64 ((firstBy (pfirst c (fw c) me d) a).length : Int) ∧ Aside0 (Below w7.heap.size w7 wr)) (fun _ i _ => 4 - (intOf i).toNat)
          case atStart => exact ⟨0, by omega, rfl, rfl, HBI⟩
          case round =>
            clear HBI
            obtain ⟨a, ha, rfl, rfl, HB7⟩ := hrel
            obtain ⟨g', A2', c2', hA, q0, q1, q2, hFc⟩ := HRW.out.blw HB7.out m HENT.out.1
            injection hA with hA
            injection hA with hA
            subst hA
            rw [HENT.out.2.1] at q2 hFc
            replace q2 : wr.cell? ⟨g, m * 3 + 2, none⟩ = some (.slice A2' n2 c2') := by rw [HN2.out]; exact q2
            clear q0 q1
            obtain ⟨k, hk⟩ : ∃ k, k = (firstBy (pfirst c (fw c) me d) a).length := ⟨_, rfl⟩
            rw [← hk]
            have HKK := Aside0.mk hk
            clear hk
            by_cases ha4 : a < 4
            · have aI : (a : Int) < 4 := by omega
              have cb := (HX9.out.below HB7.out).cell (d * 4 + a) (by rw [HWL.out.2]; omega)
              rw [HFST.out a ha4] at cb
              cases hp : pfirst c (fw c) me d a with
              | false =>
                rw [hp] at cb
                have HE := Aside0.mk (show (firstBy (pfirst c (fw c) me d) (a + 1)).length = k by rw [firstBy_skips _ _ hp, HKK.out])
                clear hp hFc
                go_wp2_with (fail)
                go_roundw
                case rel => exact ⟨a + 1, by omega, by go_num, by rw [HE.out], HB7⟩
                case measure => simp [intOf]; omega
              | true =>
                rw [hp] at cb
                have hent := firstBy_entry (pfirst c (fw c) me d) a 4 ha4 hp
                rw [← HFE.out, ← HKK.out] at hent
                have HE := Aside0.mk hent.2.2
                obtain ⟨g2, hA2, qk⟩ := hFc k hent.1
                rw [hent.2.1] at qk
                subst hA2
                have kn : k < n2 := by rw [HN2.out]; exact hent.1
                have kI : (k : Int) < (n2 : Int) := by omega
                have v1 : decide (n2 ≤ k) = false := by simp; omega
                have v2 : ((a : Int) + 1 != (a : Int) + 1) = false := by simp
                clear hp hFc hent kn
                go_wp2_with (fail)
                go_roundw
                case rel => exact ⟨a + 1, by omega, by go_num, by rw [HE.out]; go_num, HB7⟩
                case measure => simp [intOf]; omega
            · have aI : ¬ (a : Int) < 4 := by omega
              have v0 : k = n2 := by rw [HKK.out, HN2.out, HFE.out, show a = 4 by omega]
              have v1 : ((k : Int) != (n2 : Int)) = false := by rw [v0]; simp
              have v2 : decide ((k : Int) < 1) = false := by simp; omega
              clear v0 hFc
              go_wp2_with (fail)
              go_roundw
              case rel => exact ⟨d + 1, by omega, by go_num, by rw [HENT.out.2.2]; go_num, HB7⟩
              case measure => simp [intOf]; omega
    · have dI : ¬ (d : Int) < 4 := by omega
      have t1 : (((routesBy (pskip (fw c) me) (pcost (fw c) me) (pfirst c (fw c) me) d).length : Int) == (l.length : Int)) = true := by rw [HL.out, show d = 4 by omega]; simp
      go_wp2_with (fail)
      go_ret
      exact ⟨rfl, below_step HB.out HB7.out⟩
theorem PathsLeast_walk (c : List Int) (hc : c.length = 16) (x : Int) (w : World) : Calls Try.prog 4 #[.agg (AV c), .int .i64 x] w fun e w' => e = .returned (.bool true) ∧ Below w.heap.size w w' := by
  rcases routesOf_cases c x with h | ⟨me, hm, hx, hok⟩
  · exact PathsLeast_bad c hc x w h
  · exact PathsLeast_good c hc x w me hm hx hok
end Go.Proofs.Ytjficnndocjodaa.H
