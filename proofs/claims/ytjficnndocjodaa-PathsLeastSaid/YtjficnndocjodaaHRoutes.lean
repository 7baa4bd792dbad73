/- paths.Routes answers 'routesOf' of the costs and the router, whatever they are. -/
import Derived.Test.YtjficnndocjodaaHSums
import Derived.Test.YtjficnndocjodaaHMay
import Derived.Test.YtjficnndocjodaaPPathsx0
namespace Go.Proofs.Ytjficnndocjodaa.H
open Go.RowKit Go.Proofs.YtjficnndocjodaaW.PrintWords Go.Proofs.YtjficnndocjodaaW.PrintLast Go.Proofs.YtjficnndocjodaaW.PrintMore
open Go.Proofs.Ytjficnndocjodaa.PPaths (S41 k41 k41_mkM)
set_option linter.unusedVariables false
set_option linter.unusedSimpArgs false

/-- A route as the machine has it. -/
def mkRt (t : Int × Int × List Int) : S41 := ⟨t.1, t.2.1, t.2.2⟩
def rts (l : List (Int × Int × List Int)) : List S41 := l.map mkRt
abbrev SRoutes (w : World) (base : Nat) (ok : Nat → Prop) (v : Value) (l : List (Int × Int × List Int)) : Prop := Kd.S k41 41 w base ok v (rts l)
theorem hinfo3 : (Try.prog.info? 3).map (fun i => (i.zero, i.size, i.bytes)) = some (some (.int .i64 0), 1, 8) := by kernel_rfl
theorem hinfo41 : (Try.prog.info? 41).map (fun i => (i.zero, i.size, i.bytes)) = some (some (.agg #[.int .i64 0, .int .i64 0, .slice none 0 0]), 3, 40) := by kernel_rfl
theorem size39 : (Try.prog.info? 39).map (·.size) = some 1 := by kernel_rfl
theorem rts_snoc (l : List (Int × Int × List Int)) (t : Int × Int × List Int) : rts (l ++ [t]) = rts l ++ [mkRt t] := by simp [rts]

set_option maxHeartbeats 1000000 in
set_option maxRecDepth 100000 in
theorem Routes_bad_costs (c : List Int) (hc : c.length = 16) (x : Int) (w : World) (hok : costsOk c = false) :
    Calls Try.prog 13 #[.agg (AV c), .int .i64 x] w fun e w' => e = .returned (.tuple #[.slice none 0 0, .int .i64 2100]) ∧ Below w.heap.size w w' := by
  have HC := Aside0.mk hc
  have HK := Aside0.mk hok
  clear hc hok
  have HB := Aside0.mk (Below.refl w.heap.size w)
  go_enter Try.func13, Try.ntmps13
  go_wp2_with (first | ((with_reducible refine gate_dst (N := 2) rfl ?_); refine box_event ?hg (N := 2) ?hd (cs := AV c) (t := 23) ?hr ?_; (case hd => rfl); (case hg => rfl); (case hr => first | (go_simp; done) | (go_simp; rfl)); intro gc hgc w1 hbox hb1; have HBC := Aside0.mk (show Blk w1 gc 23 c from hbox); replace HB := Aside0.mk (below_step HB.out hb1); clear hbox hb1 hgc) | ((with_reducible refine gate_dst (N := 14) rfl ?_); refine wpL_load rfl rfl rfl HBC.out Try.underlying23 (by rw [HC.out]; exact size23) ?_) | (go_at_call 23; refine (May_calls c HC.out _).mono ?_; rintro e w1 ⟨rfl, hb1⟩; rw [HK.out]; replace HB := Aside0.mk (below_step HB.out hb1); clear hb1))
  go_ret2
  exact ⟨rfl, HB.out⟩

set_option maxHeartbeats 1000000 in
set_option maxRecDepth 100000 in
theorem Routes_bad_router (c : List Int) (hc : c.length = 16) (x : Int) (w : World) (hok : costsOk c = true) (hx : isRouter x = false) :
    Calls Try.prog 13 #[.agg (AV c), .int .i64 x] w fun e w' => e = .returned (.tuple #[.slice none 0 0, .int .i64 2100]) ∧ Below w.heap.size w w' := by
  have HC := Aside0.mk hc
  have HK := Aside0.mk hok
  have HR := Aside0.mk hx
  clear hc hok hx
  have HB := Aside0.mk (Below.refl w.heap.size w)
  go_enter Try.func13, Try.ntmps13
  go_wp2_with (first | ((with_reducible refine gate_dst (N := 2) rfl ?_); refine box_event ?hg (N := 2) ?hd (cs := AV c) (t := 23) ?hr ?_; (case hd => rfl); (case hg => rfl); (case hr => first | (go_simp; done) | (go_simp; rfl)); intro gc hgc w1 hbox hb1; have HBC := Aside0.mk (show Blk w1 gc 23 c from hbox); replace HB := Aside0.mk (below_step HB.out hb1); clear hbox hb1 hgc) | ((with_reducible refine gate_dst (N := 14) rfl ?_); refine wpL_load rfl rfl rfl HBC.out Try.underlying23 (by rw [HC.out]; exact size23) ?_) | (go_at_call 23; refine (May_calls c HC.out _).mono ?_; rintro e w1 ⟨rfl, hb1⟩; rw [HK.out]; replace HB := Aside0.mk (below_step HB.out hb1); replace HBC := Aside0.mk (HBC.out.below hb1); clear hb1) | (go_at_call 27; refine (Router_calls _ _).mono ?_; rintro e w1 ⟨rfl, rfl⟩; rw [HR.out]))
  go_ret2
  exact ⟨rfl, HB.out⟩

set_option maxHeartbeats 2000000 in
set_option maxRecDepth 100000 in
theorem Routes_good (c : List Int) (hc : c.length = 16) (me : Nat) (hme : me < 4) (w : World) (hok : costsOk c = true) :
    Calls Try.prog 13 #[.agg (AV c), .int .i64 ((me : Int) + 1)] w fun e w' => ∃ v, e = .returned (.tuple #[v, .int .i64 0]) ∧ SRoutes w' w.heap.size (fun _ => True) v (routesBy (pskip (fw c) me) (pcost (fw c) me) (pfirst c (fw c) me) 4) ∧ Below w.heap.size w w' := by
  have HC := Aside0.mk hc
  have HK := Aside0.mk hok
  have HR := Aside0.mk (show isRouter ((me : Int) + 1) = true by simp [isRouter]; omega)
  clear hc hok
  have hmI : (me : Int) < 4 := by omega
  have HB := Aside0.mk (Below.refl w.heap.size w)
  go_enter Try.func13, Try.ntmps13
  go_wp2_with (first | ((with_reducible refine gate_dst (N := 2) rfl ?_); refine box_event ?hg (N := 2) ?hd (cs := AV c) (t := 23) ?hr ?_; (case hd => rfl); (case hg => rfl); (case hr => first | (go_simp; done) | (go_simp; rfl)); intro gc hgc w1 hbox hb1; have HBC := Aside0.mk (show Blk w1 gc 23 c from hbox); replace HB := Aside0.mk (below_step HB.out hb1); clear hbox hb1 hgc) | ((with_reducible refine gate_dst (N := 14) rfl ?_); refine wpL_load rfl rfl rfl HBC.out Try.underlying23 (by rw [HC.out]; exact size23) ?_) | (go_at_call 23; refine (May_calls c HC.out _).mono ?_; rintro e w1 ⟨rfl, hb1⟩; rw [HK.out]; replace HB := Aside0.mk (below_step HB.out hb1); replace HBC := Aside0.mk (HBC.out.below hb1); clear hb1) | (go_at_call 27; refine (Router_calls _ _).mono ?_; rintro e w1 ⟨rfl, rfl⟩; rw [HR.out]) | (go_at_call 28; refine (sums_calls c HC.out HK.out gc _ HBC.out).mono ?_; rintro e w1 ⟨rfl, hb1⟩; replace HB := Aside0.mk (below_step HB.out hb1); replace HBC := Aside0.mk (HBC.out.below hb1); clear hb1) | ((with_reducible refine gate_dst (N := 6) rfl ?_); refine box_event ?hg (N := 6) ?hd (cs := AV zs16) (t := 23) ?hr ?_; (case hd => rfl); (case hg => rfl); (case hr => first | (go_simp; done) | (go_simp; rfl)); intro ga hga w1 hbox hb1; have HBA := Aside0.mk (show Blk w1 ga 23 zs16 from hbox); have HNA := Aside0.mk (show gc ≠ ga by rw [hga]; exact Nat.ne_of_lt HBC.out.lt); have HGA := Aside0.mk (show w.heap.size ≤ ga by rw [hga]; exact HB.out.size); replace HBC := Aside0.mk (HBC.out.below hb1); replace HB := Aside0.mk (below_step HB.out hb1); clear hbox hb1 hga) | ((with_reducible refine gate_store (p := 6) rfl ?_); refine wpL_store rfl rfl rfl rfl HBA.out (by rw [fw_length]; exact size23) (by rw [fw_length]; rfl) ?_; intro w2 hX2 hP2; replace HBA := Aside0.mk hX2; replace HBC := Aside0.mk (HBC.out.put hP2 HNA.out); replace HB := Aside0.mk (hP2.below _ _ HB.out HGA.out); clear hX2 hP2) | ((with_reducible refine gate_dst (N := 27) rfl ?_); refine wpL_mid rfl rfl rfl HBA.out me rfl (fw_length c) hme ?_))
  have HO := Aside0.mk (show SRoutes w2 w.heap.size (fun _ => True) (.slice none 0 0) (routesBy (pskip (fw c) me) (pcost (fw c) me) (pfirst c (fw c) me) 0) from Kd.S_nil _ _ _ _ _)
  have HS := Aside0.mk (fwTo_small HK.out 64)
  have HSL := Aside0.mk (fw_length c)
  obtain ⟨s, hs⟩ : ∃ s, s = fw c := ⟨_, rfl⟩
  rw [show fwTo c 64 = s from hs.symm] at HS
  rw [← hs] at HO HBA HSL ⊢
  have HSE := Aside0.mk hs
  clear hs
  go_loopw [8, 28] (fun v i wr => ∃ k : Nat, k ≤ 4 ∧ i = .int .i64 (k : Int) ∧ Aside0 (SRoutes wr w.heap.size (fun _ => True) v (routesBy (pskip s me) (pcost s me) (pfirst c s me) k)) ∧ Aside0 (Blk wr ga 23 s) ∧ Aside0 (Blk wr gc 23 c) ∧ Aside0 (Below w.heap.size w wr)) (fun _ i _ => 4 - (intOf i).toNat)
  case atStart => exact ⟨0, by omega, rfl, HO, HBA, HBC, HB⟩
  case round =>
    clear HB HBA HBC HO
    obtain ⟨k, hk, rfl, HO, HBA, HBC, HB⟩ := hrel
    by_cases hk4 : k < 4
    · have kI : (k : Int) < 4 := by omega
      have i4 := index4row s HSL.out me k hme hk4
      obtain ⟨b0, b1⟩ := HS.out (me * 4 + k)
      obtain ⟨sum, hsum⟩ : ∃ x, x = gt s (me * 4 + k) := ⟨_, rfl⟩
      rw [← hsum] at i4 b0 b1
      have HSUM := Aside0.mk hsum
      clear hsum
      by_cases hskip : k = me ∨ 262144 ≤ sum
      · have HO2 := Aside0.mk (show SRoutes wr w.heap.size (fun _ => True) u8 (routesBy (pskip s me) (pcost s me) (pfirst c s me) (k + 1)) by rw [routesBy, if_pos (by rw [pskip, ← HSUM.out]; simpa using hskip)]; exact HO.out)
        by_cases h1 : k = me
        · have t1 : ((k : Int) == (me : Int)) = true := by rw [h1]; simp
          clear hskip h1 HO
          go_wp2_with (fail)
          go_roundw
          case rel => exact ⟨k + 1, by omega, by go_num, HO2, HBA, HBC, HB⟩
          case measure => simp [intOf]; omega
        · have t1 : ((k : Int) == (me : Int)) = false := by simp; omega
          have t2 : 262144 ≤ sum := by omega
          have t3 : decide (262144 ≤ sum) = true := by simpa using t2
          clear hskip h1 HO
          go_wp2_with (fail)
          go_roundw
          case rel => exact ⟨k + 1, by omega, by go_num, HO2, HBA, HBC, HB⟩
          case measure => simp [intOf]; omega
      · have h1 : k ≠ me := by omega
        have t1 : ((k : Int) == (me : Int)) = false := by simp; omega
        have t2 : ¬ 262144 ≤ sum := by omega
        have t3 : decide (262144 ≤ sum) = false := by simpa using t2
        have HE := Aside0.mk (show routesBy (pskip s me) (pcost s me) (pfirst c s me) (k + 1) = routesBy (pskip s me) (pcost s me) (pfirst c s me) k ++ [((k : Int) + 1, sum, firstBy (pfirst c s me k) 4)] by rw [routesBy, if_neg (by rw [pskip, ← HSUM.out]; simp; omega), pcost, ← HSUM.out])
        clear hskip h1
        go_wp2_with (first | ((with_reducible refine gate_dst (N := 45) rfl ?_); refine wpL_mid rfl rfl rfl (HBC.out.alloc _) me rfl HC.out hme ?_))
        obtain ⟨gr, hgr⟩ : ∃ gr, gr = wr.heap.size := ⟨_, rfl⟩
        obtain ⟨wx, hwx⟩ : ∃ wx, wx = wr.alloc (.cells #[.int .i64 ((k : Int) + 1), .int .i64 sum, .slice none 0 0] 41) := ⟨_, rfl⟩
        rw [← hgr, ← hwx]
        have HX := Aside0.mk (show wx.heap[gr]? = some (.cells #[.int .i64 ((k : Int) + 1), .int .i64 sum, .slice none 0 0] 41 (0, 0)) by rw [hwx, hgr]; exact blk_new _ _)
        have HF := Aside0.mk (show (Kd.int .i64).R 3 wx w.heap.size (fun _ => True) (.slice none 0 0) (firstBy (pfirst c s me k) 0) from Kd.R_nil _ _ _ _ _)
        have HGR := Aside0.mk (show w.heap.size ≤ gr by rw [hgr]; exact HB.out.size)
        replace HO := Aside0.mk (show SRoutes wx w.heap.size (fun n => (True ∧ n ≠ gr) ∧ some n ≠ (Value.slice none 0 0).ownBlock) u8 (routesBy (pskip s me) (pcost s me) (pfirst c s me) k) by rw [hwx]; exact Kd.S_apart_nil (Kd.S_alloc (Kd.S_elderB HO.out gr (by omega)) _))
        replace HBA := Aside0.mk (show Blk wx ga 23 s by rw [hwx]; exact HBA.out.alloc _)
        replace HBC := Aside0.mk (show Blk wx gc 23 c by rw [hwx]; exact HBC.out.alloc _)
        replace HB := Aside0.mk (show Below w.heap.size w wx by rw [hwx]; exact below_alloc HB.out _)
        clear hwx hgr
        go_loopw [46] (fun i wr => ∃ (j : Nat) (v : Value), j ≤ 4 ∧ i = .int .i64 (j : Int) ∧ Aside0 (wr.heap[gr]? = some (.cells #[.int .i64 ((k : Int) + 1), .int .i64 sum, v] 41 (0, 0))) ∧ Aside0 ((Kd.int .i64).R 3 wr w.heap.size (fun _ => True) v (firstBy (pfirst c s me k) j)) ∧ Aside0 (SRoutes wr w.heap.size (fun n => (True ∧ n ≠ gr) ∧ some n ≠ v.ownBlock) u8 (routesBy (pskip s me) (pcost s me) (pfirst c s me) k)) ∧ Aside0 (Blk wr ga 23 s) ∧ Aside0 (Blk wr gc 23 c) ∧ Aside0 (Below w.heap.size w wr)) (fun i _ => 4 - (intOf i).toNat)
        case atStart => exact ⟨0, .slice none 0 0, by omega, rfl, HX, HF, HO, HBA, HBC, HB⟩
        case round =>
          clear HB HBA HBC HO HF HX
          obtain ⟨j, v, hj, rfl, HX, HF, HO, HBA, HBC, HB⟩ := hrel
          obtain ⟨Av, cv, hv⟩ := Kd.R_slice HF.out
          subst hv
          by_cases hj4 : j < 4
          · have jI : (j : Int) < 4 := by omega
            have i4 := index4row c HC.out me j hme hj4
            have ca := HBA.out.cell (j * 4 + k) (by rw [HSL.out]; omega)
            have cF : wr.cell? ⟨gr, 2, none⟩ = some (.slice Av (firstBy (pfirst c s me k) j).length cv) := (blk_cell HX.out 2).trans rfl
            obtain ⟨d0, d1⟩ := HS.out (j * 4 + k)
            obtain ⟨e0, e1, _⟩ := costsOk_at HK.out me j hme hj4
            have HP := Aside0.mk (show pfirst c s me k j = _ from rfl)
            obtain ⟨x, hx⟩ : ∃ x, x = gt c (me * 4 + j) := ⟨_, rfl⟩
            obtain ⟨y, hy⟩ : ∃ y, y = gt s (j * 4 + k) := ⟨_, rfl⟩
            rw [← hx] at i4 e0 e1
            rw [← hy] at ca d0 d1
            have HXY := Aside0.mk (And.intro hx hy)
            clear hx hy HP
            have hw : IntKind.i64.wrap (x + y) = x + y := IntWalk.i64_in _ (by omega)
            by_cases t4 : 0 < x
            · have d4 : decide (0 < x) = true := by simpa using t4
              by_cases t5 : x + y = sum
              · have d5 : (x + y == sum) = true := by simpa using t5
                have HP := Aside0.mk (show firstBy (pfirst c s me k) (j + 1) = firstBy (pfirst c s me k) j ++ [(j : Int) + 1] by rw [firstBy, if_pos (by rw [pfirst, ← HXY.out.1, ← HXY.out.2, ← HSUM.out]; simp; omega)])
                clear t5
                have HL := Aside0.mk (firstBy_length (pfirst c s me k) j)
                go_wp2_with (first | ((with_reducible refine gate_builtin (b := .append) (xs := #[.tmp 64, .tmp 67]) rfl ?_); at_builtin; refine Kd.R_append (Kd.int .i64) (w0 := w) w.heap.size rfl (.tmp 64) (.tmp 67) 39 3 (.int .i64 0) 8 rfl Try.underlying39 hinfo3 rfl (by decide) (by omega) _ (firstBy (pfirst c s me k) j) ((j : Int) + 1) [.int .i64 ((j : Int) + 1)] (fun _ => True) (fun _ => False) rfl rfl rfl (fun _ h => h.elim) (fun _ _ => trivial) HF.out HB.out HB.out.size ?aL ?_; (case aL => have := HL.out; omega); intro v1 w2 hF hb hg hat; replace HBA := Aside0.mk (show Blk w2 ga 23 s from blk_grown HBA.out hg (Kd.R_ne HF.out HBA.out (by decide))); replace HBC := Aside0.mk (show Blk w2 gc 23 c from blk_grown HBC.out hg (Kd.R_ne HF.out HBC.out (by decide))); replace HX := Aside0.mk (blk_grown HX.out hg (Kd.R_ne HF.out HX.out (by decide))); replace HO := Aside0.mk (Kd.S_after HO.out hg hat); replace HF := Aside0.mk (show (Kd.int .i64).R 3 w2 w.heap.size (fun _ => True) v1 (firstBy (pfirst c s me k) (j + 1)) by rw [HP.out]; exact hF); replace HB := Aside0.mk hb; clear hF hb hg hat cF ca; obtain ⟨A1, c1, e1⟩ := Kd.R_slice HF.out; subst e1) | ((with_reducible refine gate_store (p := 69) rfl ?_); refine wpL_setS rfl rfl size39 rfl rfl HX.out (Nat.lt_succ_self 2) ?_; intro w3 hX3 hP3; replace HF := Aside0.mk (Kd.R_keep (Kd.R_types HF.out HX.out (by decide)) hP3.keep (fun _ hk => hk.2)); replace HF := Aside0.mk (Kd.R_mono HF.out (ok' := fun _ => True) (fun _ _ => trivial)); replace HO := Aside0.mk (Kd.S_keep HO.out hP3.keep (fun _ hk => hk.1.2)); replace HBA := Aside0.mk (HBA.out.put hP3 (Blk.neC HBA.out HX.out (by decide))); replace HBC := Aside0.mk (HBC.out.put hP3 (Blk.neC HBC.out HX.out (by decide))); replace HX := Aside0.mk hX3; replace HB := Aside0.mk (hP3.below _ _ HB.out HGR.out); clear hX3 hP3))
                exact ⟨⟨j + 1, _, by omega, by go_num, HX, HF, HO, HBA, HBC, HB⟩, by simp [intOf]; omega⟩
              · have d5 : (x + y == sum) = false := by simpa using t5
                have HP := Aside0.mk (show firstBy (pfirst c s me k) (j + 1) = firstBy (pfirst c s me k) j by rw [firstBy, if_neg (by rw [pfirst, ← HXY.out.1, ← HXY.out.2, ← HSUM.out]; simp; omega)])
                clear t5
                go_wp2_with (fail)
                go_roundw
                case rel => exact ⟨j + 1, .slice Av (firstBy (pfirst c s me k) j).length cv, by omega, by go_num, HX, ⟨by rw [HP.out]; exact HF.out⟩, HO, HBA, HBC, HB⟩
                case measure => simp [intOf]; omega
            · have d4 : decide (0 < x) = false := by simpa using t4
              have HP := Aside0.mk (show firstBy (pfirst c s me k) (j + 1) = firstBy (pfirst c s me k) j by rw [firstBy, if_neg (by rw [pfirst, ← HXY.out.1]; simp; omega)])
              go_wp2_with (fail)
              go_roundw
              case rel => exact ⟨j + 1, .slice Av (firstBy (pfirst c s me k) j).length cv, by omega, by go_num, HX, ⟨by rw [HP.out]; exact HF.out⟩, HO, HBA, HBC, HB⟩
              case measure => simp [intOf]; omega
          · have jI : ¬ (j : Int) < 4 := by omega
            replace HF := Aside0.mk (show (Kd.int .i64).R 3 wr w.heap.size (fun _ => True) (.slice Av (firstBy (pfirst c s me k) j).length cv) (firstBy (pfirst c s me k) 4) by have := HF.out; rw [show j = 4 by omega] at this ⊢; exact this)
            have HL := Aside0.mk (routesBy_length (pskip s me) (pcost s me) (pfirst c s me) k)
            have q0 : wr.cell? ⟨gr, 0, none⟩ = some (.int .i64 ((k : Int) + 1)) := (blk_cell HX.out 0).trans rfl
            have q1 : wr.cell? ⟨gr, 1, none⟩ = some (.int .i64 sum) := (blk_cell HX.out 1).trans rfl
            have q2 : wr.cell? ⟨gr, 2, none⟩ = some (.slice Av (firstBy (pfirst c s me k) j).length cv) := (blk_cell HX.out 2).trans rfl
            go_wp2_with (first | ((with_reducible refine gate_builtin (b := .append) (xs := #[.tmp 71, .tmp 73]) rfl ?_); at_builtin; refine Kd.S_append k41 (w0 := w) w.heap.size rfl (.tmp 71) (.tmp 73) 24 41 (.agg #[(.int .i64 0), (.int .i64 0), (.slice none 0 0)]) 40 rfl Try.underlying24 hinfo41 rfl (by decide) (by omega) u8 (rts (routesBy (pskip s me) (pcost s me) (pfirst c s me) k)) (mkRt ((k : Int) + 1, sum, firstBy (pfirst c s me k) 4)) [.int .i64 ((k : Int) + 1), .int .i64 sum, .slice Av (firstBy (pfirst c s me k) j).length cv] (fun _ => True) (fun q => some q = (.slice Av (firstBy (pfirst c s me k) j).length cv : Value).ownBlock) rfl rfl ?aP ?aK (fun _ _ => trivial) ?aO HB.out HB.out.size ?aL ?_; (case aP => exact k41_mkM _ _ _ (mkRt ((k : Int) + 1, sum, firstBy (pfirst c s me k) 4)) (Kd.R_mono (Kd.R_tight rfl HF.out) (fun _ h_ => h_))); (case aK => exact fun q hq => (Kd.R_mono (ok' := fun q => True ∧ some q ≠ (u8 : Value).ownBlock) (Kd.R_apart' HF.out (Kd.S_typed HO.out) (by decide)) (fun q hq => ⟨trivial, hq.2⟩)).1 q hq.symm); (case aO => exact Kd.S_mono HO.out (fun q hq => ⟨trivial, fun e => hq.2 e⟩)); (case aL => rw [rts, List.length_map]; have := HL.out; omega); intro v1 w2 hO hb hg hat; replace HBA := Aside0.mk (show Blk w2 ga 23 s from blk_grown HBA.out hg (Kd.S_ne HO.out HBA.out (by decide))); replace HBC := Aside0.mk (show Blk w2 gc 23 c from blk_grown HBC.out hg (Kd.S_ne HO.out HBC.out (by decide))); replace HO := Aside0.mk (show SRoutes w2 w.heap.size (fun _ => True) v1 (routesBy (pskip s me) (pcost s me) (pfirst c s me) (k + 1)) by rw [HE.out]; unfold SRoutes; rw [rts_snoc]; exact hO); replace HB := Aside0.mk hb; clear hO hb hg hat q0 q1 q2 HX HF))
            exact ⟨⟨k + 1, by omega, by go_num, HO, HBA, HBC, HB⟩, by simp [intOf]; omega⟩
    · have kI : ¬ (k : Int) < 4 := by omega
      replace HO := Aside0.mk (show SRoutes wr w.heap.size (fun _ => True) u8 (routesBy (pskip (fw c) me) (pcost (fw c) me) (pfirst c (fw c) me) 4) by rw [← HSE.out]; have := HO.out; rw [show k = 4 by omega] at this; exact this)
      go_wp2_with (fail)
      go_ret2
      exact ⟨_, rfl, HO.out, HB.out⟩

theorem Routes_calls (c : List Int) (hc : c.length = 16) (x : Int) (w : World) :
    Calls Try.prog 13 #[.agg (AV c), .int .i64 x] w fun e w' => ∃ v, e = .returned (.tuple #[v, .int .i64 (routesOf c x).2]) ∧ SRoutes w' w.heap.size (fun _ => True) v (routesOf c x).1 ∧ Below w.heap.size w w' := by
  cases hok : costsOk c with
  | false =>
    refine (Routes_bad_costs c hc x w hok).mono fun e w' ⟨he, hb⟩ => ?_
    rw [routesOf, if_neg (by rw [hok]; simp)]
    exact ⟨_, he, Kd.S_nil _ _ _ _ _, hb⟩
  | true =>
    cases hx : isRouter x with
    | false =>
      refine (Routes_bad_router c hc x w hok hx).mono fun e w' ⟨he, hb⟩ => ?_
      rw [routesOf, if_neg (by rw [hx]; simp)]
      exact ⟨_, he, Kd.S_nil _ _ _ _ _, hb⟩
    | true =>
      have hx2 : 1 ≤ x ∧ x ≤ 4 := by simpa [isRouter] using hx
      obtain ⟨me, hme⟩ := Int.eq_ofNat_of_zero_le (show 0 ≤ x - 1 by omega)
      have h1 : x = (me : Int) + 1 := by omega
      rw [routesOf, if_pos ⟨hok, hx⟩, show (x - 1).toNat = me by omega, h1]
      exact Routes_good c hc me (by omega) w hok
end Go.Proofs.Ytjficnndocjodaa.H
