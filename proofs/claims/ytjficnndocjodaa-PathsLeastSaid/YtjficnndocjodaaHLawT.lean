/- The walk of the law PathsTriangle. -/
import Derived.Test.YtjficnndocjodaaHSpoil
import Derived.Test.YtjficnndocjodaaHBits
import Derived.Test.YtjficnndocjodaaHTri
namespace Go.Proofs.Ytjficnndocjodaa.H
open Go.RowKit Go.Proofs.YtjficnndocjodaaW.PrintWords Go.Proofs.YtjficnndocjodaaW.PrintLast Go.Proofs.YtjficnndocjodaaW.PrintMore
open Go.Proofs.Ytjficnndocjodaa.PPaths
set_option linter.unusedVariables false
set_option linter.unusedSimpArgs false

theorem size44 : (Try.prog.info? 44).map (·.size) = some 5 := by kernel_rfl
/-- What stands below the bound stays. -/
theorem cell_blw {B : Nat} {w0 w : World} (h : Below B w0 w) {p : Addr} (hp : p.block < B) {v : Value} (hc : w0.cell? p = some v) : w.cell? p = some v := by
  have : w.cell? p = w0.cell? p := by simp only [World.cell?]; rw [h.block _ hp]
  rw [this]; exact hc
/-- A list of routes, its numbers alone. -/
def RC (w : World) (A : Option Addr) (l : List (Int × Int × List Int)) : Prop :=
  ∀ k, k < l.length → ∃ g, A = some ⟨g, 0, none⟩ ∧ w.cell? ⟨g, k * 3, none⟩ = some (.int .i64 (rAt l k).1) ∧ w.cell? ⟨g, k * 3 + 1, none⟩ = some (.int .i64 (rAt l k).2.1)
theorem rAt_rts (l : List (Int × Int × List Int)) (k : Nat) : (rts l).getD k z41 = mkRt (rAt l k) := by
  unfold rts rAt
  rw [List.getD_eq_getElem?_getD, List.getD_eq_getElem?_getD, List.getElem?_map]
  cases l[k]? <;> rfl
theorem SR_cells {w : World} {base : Nat} {ok : Nat → Prop} {A : Option Addr} {n cap : Nat} {l : List (Int × Int × List Int)} (h : SRoutes w base ok (.slice A n cap) l) : n = l.length ∧ RC w A l := by
  have hn : n = l.length := (Kd.S_reads' h).1.trans (by simp [rts])
  refine ⟨hn, fun k hk => ?_⟩
  obtain ⟨g, cap', hv, _⟩ := Kd.S_form h (by simp [rts]; omega)
  injection hv with e1 e2 e3
  subst e1
  obtain ⟨oki, cs, hcl, hM, hcc, hfr, hoki, hH⟩ := Kd.S_elem h z41 (k : Int) (by omega) (by omega)
  obtain ⟨v2, hcs, hR2⟩ := k41_openM hM
  subst hcs
  have q0 : w.cell? ⟨g, k * 3, none⟩ = some (.int .i64 ((rts l).getD k z41).f0) := hcc 0 _ rfl
  have q1 : w.cell? ⟨g, k * 3 + 1, none⟩ = some (.int .i64 ((rts l).getD k z41).f1) := hcc 1 _ rfl
  rw [rAt_rts] at q0 q1
  exact ⟨g, rfl, q0, q1⟩
theorem RC.blw {w0 w : World} {A : Option Addr} {l : List (Int × Int × List Int)} (h : RC w0 A l) (hb : Below w0.heap.size w0 w) : RC w A l := by
  intro k hk
  obtain ⟨g, hA, q0, q1⟩ := h k hk
  have := World.block_lt_of_cell? w0 _ q0
  exact ⟨g, hA, cell_blw hb this q0, cell_blw (p := ⟨g, k * 3 + 1, none⟩) hb this q1⟩

section
variable {c : List Int} (hok : costsOk c = true) (me : Nat) (hm : me < 4)
include hok hm
/-- The routes' list, entry by entry. -/
theorem tri_entry (l : List (Int × Int × List Int)) (hl : l = routesBy (pskip (fw c) me) (pcost (fw c) me) (pfirst c (fw c) me) 4) (k : Nat) (hk : k < l.length) :
    ∃ t : Nat, (rAt l k).1 = (t : Int) ∧ 1 ≤ t ∧ t ≤ 4 ∧ 0 ≤ (rAt l k).2.1 ∧ (rAt l k).2.1 ≤ 786432 := by
  subst hl
  obtain ⟨t, ht, _, e⟩ := rAt_is _ _ _ 4 k hk
  have e1 := congrArg (fun r => r.1) e
  have e2 := congrArg (fun r => r.2.1) e
  have h1 : pcost (fw c) me t = M c me t := fw_M hok me t hm ht
  simp only at e1 e2
  rw [h1] at e2
  obtain ⟨x, y, hx, hy, e⟩ := M_at c me t
  have h1' := L_bound hok me x hm hx
  have h2' := L_bound hok x y hx hy
  have h3' := L_bound hok y t hy ht
  rw [e1, e2]
  exact ⟨t + 1, rfl, by omega, by omega, by omega, by omega⟩
theorem tri_K (K : List Int) (l : List (Int × Int × List Int)) (hl : l = routesBy (pskip (fw c) me) (pcost (fw c) me) (pfirst c (fw c) me) 4) (hK : K = costTo l l.length) (t : Nat) (ht : t < 4) :
    gt K (t + 1) = (if t < 4 ∧ pskip (fw c) me t = false then pcost (fw c) me t else 0) ∧ 0 ≤ gt K (t + 1) ∧ gt K (t + 1) ≤ 786432 := by
  subst hl hK
  have h := costTo_all (pskip (fw c) me) (pcost (fw c) me) (pfirst c (fw c) me) 4 (by omega) t
  refine ⟨h, ?_⟩
  rw [h]
  have h1 : pcost (fw c) me t = M c me t := fw_M hok me t hm ht
  obtain ⟨x, y, hx, hy, e⟩ := M_at c me t
  have h1' := L_bound hok me x hm hx
  have h2' := L_bound hok x y hx hy
  have h3' := L_bound hok y t hy ht
  split <;> omega
theorem tri_no (K : List Int) (l : List (Int × Int × List Int)) (hl : l = routesBy (pskip (fw c) me) (pcost (fw c) me) (pfirst c (fw c) me) 4) (hK : K = costTo l l.length) (a b : Nat) (ha : a < 4) (hb : b < 4) (hbm : b ≠ me) (hr : a = me ∨ 0 < gt K (a + 1)) (hg : 0 < gt c (a * 4 + b)) :
    gt K (b + 1) ≠ 0 ∧ gt K (b + 1) ≤ gt K (a + 1) + gt c (a * 4 + b) := by
  rw [(tri_K hok me hm K l hl hK a ha).1] at hr ⊢
  rw [(tri_K hok me hm K l hl hK b hb).1]
  exact tri_ok hok me a b hm ha hb hbm hr hg
end
theorem routesOf_good (c : List Int) (x : Int) (me : Nat) (hm : me < 4) (hx : x = (me : Int) + 1) (hok : costsOk c = true) : routesOf c x = (routesBy (pskip (fw c) me) (pcost (fw c) me) (pfirst c (fw c) me) 4, 0) := by
  rw [routesOf, if_pos ⟨hok, by simp [isRouter]; omega⟩, show (x - 1).toNat = me by omega]
theorem routesOf_cases (c : List Int) (x : Int) : routesOf c x = ([], 2100) ∨ ∃ me : Nat, me < 4 ∧ x = (me : Int) + 1 ∧ costsOk c = true := by
  by_cases h : costsOk c = true ∧ isRouter x = true
  · right
    have h2 : 1 ≤ x ∧ x ≤ 4 := by simpa [isRouter] using h.2
    exact ⟨(x - 1).toNat, by omega, by omega, h.1⟩
  · left; rw [routesOf, if_neg h]

set_option maxHeartbeats 1000000 in
set_option maxRecDepth 100000 in
theorem PathsTriangle_bad (c : List Int) (hc : c.length = 16) (x at' : Int) (w : World) (hbad : routesOf c x = ([], 2100)) : Calls Try.prog 6 #[.agg (AV c), .int .i64 x, .int .i64 at'] w fun e w' => e = .returned (.bool true) ∧ Below w.heap.size w w' := by
  have HC := Aside0.mk hc
  have HBAD := Aside0.mk hbad
  clear hc hbad
  have HB := Aside0.mk (Below.refl w.heap.size w)
  go_enter Try.func6, Try.ntmps6
  go_wp2_with (first | ((with_reducible refine gate_dst (N := 3) rfl ?_); refine box_event ?hg (N := 3) ?hd (cs := AV c) (t := 23) ?hr ?_; (case hd => rfl); (case hg => rfl); (case hr => first | (go_simp; done) | (go_simp; rfl)); intro gc hgc w1 hbox hb1; have HBC := Aside0.mk (show Blk w1 gc 23 c from hbox); replace HB := Aside0.mk (below_step HB.out hb1); clear hbox hb1 hgc) | (go_at_call 18; refine (awake_calls _).mono ?_; rintro e w1 ⟨rfl, hb1⟩; replace HB := Aside0.mk (below_step HB.out hb1); replace HBC := Aside0.mk (HBC.out.below hb1); clear hb1) | ((with_reducible refine gate_dst (N := 23) rfl ?_); refine wpL_load rfl rfl rfl HBC.out Try.underlying23 (by rw [HC.out]; exact size23) ?_))
  refine (Routes_calls c HC.out x _).mono ?_
  rintro e w2 ⟨v, rfl, hO, hb1⟩
  rw [HBAD.out] at hO ⊢
  obtain ⟨A, cp, hv⟩ := Kd.S_slice hO
  subst hv
  replace HB := Aside0.mk (below_step HB.out hb1)
  clear hb1 hO
  rw [show (rts []).length = 0 from rfl]
  go_wp2_with (first | (go_at_call 16; go_in))
  go_ret
  exact ⟨rfl, HB.out⟩

set_option maxHeartbeats 2000000 in
set_option maxRecDepth 100000 in
theorem PathsTriangle_good (c : List Int) (hc : c.length = 16) (x at' : Int) (w : World) (me : Nat) (hm : me < 4) (hx : x = (me : Int) + 1) (hok : costsOk c = true) : Calls Try.prog 6 #[.agg (AV c), .int .i64 x, .int .i64 at'] w fun e w' => e = .returned (.bool true) ∧ Below w.heap.size w w' := by
  obtain ⟨i, hi, hi4⟩ := and3_nat at'
  obtain ⟨j, hj, hj4⟩ := and3_nat (at' / 4)
  have jI : (j : Int) < 4 := by omega
  have iI : (i : Int) < 4 := by omega
  have HC := Aside0.mk hc
  have HK := Aside0.mk hok
  have HX := Aside0.mk hx
  have HM := Aside0.mk hm
  have x1 : decide (x < 1) = false := by simp; omega
  have x4 : decide (4 < x) = false := by simp; omega
  have x1' : ¬ x < 1 := by omega
  have x4' : ¬ 4 < x := by omega
  have HRO := Aside0.mk (routesOf_good c x me hm hx hok)
  clear hc hok hx hm
  have HB := Aside0.mk (Below.refl w.heap.size w)
  go_enter Try.func6, Try.ntmps6
  go_wp2_with (first | ((with_reducible refine gate_dst (N := 3) rfl ?_); refine box_event ?hg (N := 3) ?hd (cs := AV c) (t := 23) ?hr ?_; (case hd => rfl); (case hg => rfl); (case hr => first | (go_simp; done) | (go_simp; rfl)); intro gc hgc w1 hbox hb1; have HBC := Aside0.mk (show Blk w1 gc 23 c from hbox); replace HB := Aside0.mk (below_step HB.out hb1); clear hbox hb1 hgc) | (go_at_call 18; refine (awake_calls _).mono ?_; rintro e w1 ⟨rfl, hb1⟩; replace HB := Aside0.mk (below_step HB.out hb1); replace HBC := Aside0.mk (HBC.out.below hb1); clear hb1) | ((with_reducible refine gate_dst (N := 23) rfl ?_); refine wpL_load rfl rfl rfl HBC.out Try.underlying23 (by rw [HC.out]; exact size23) ?_))
  refine (Routes_calls c HC.out x _).mono ?_
  rintro e w2 ⟨v, rfl, hO, hb1⟩
  rw [HRO.out] at hO ⊢
  obtain ⟨l, hl⟩ : ∃ l, l = routesBy (pskip (fw c) me) (pcost (fw c) me) (pfirst c (fw c) me) 4 := ⟨_, rfl⟩
  rw [← hl] at hO
  obtain ⟨A, cp, hv⟩ := Kd.S_slice hO
  subst hv
  have HRC := Aside0.mk (SR_cells hO).2
  rw [show (rts l).length = l.length by simp [rts]]
  have HL := Aside0.mk hl
  have l4 : l.length ≤ 4 := by rw [hl]; exact routesBy_length _ _ _ 4
  replace HB := Aside0.mk (below_step HB.out hb1)
  replace HBC := Aside0.mk (HBC.out.below hb1)
  clear hb1 hO hl
  have HB2 := Aside0.mk (Below.refl w2.heap.size w2)
  have HBE := Aside0.mk (show Blk w2 gc 23 c from HBC.out)
  go_wp2_with (first | (go_at_call 16; go_in) | ((with_reducible refine gate_dst (N := 9) rfl ?_); refine box_event ?hg (N := 9) ?hd (cs := AV (costTo l 0)) (t := 44) ?hr ?_; (case hd => rfl); (case hg => rfl); (case hr => first | (go_simp; done) | (go_simp; rfl)); intro gq hgq w1 hbox hb1; have HBQ := Aside0.mk (show Blk w1 gq 44 (costTo l 0) from hbox); have HGQ := Aside0.mk (show w2.heap.size ≤ gq by rw [hgq]; exact HB2.out.size); replace HB2 := Aside0.mk (below_step HB2.out hb1); clear hbox hb1 hgq))
  go_loopw [10] (fun i wr => ∃ k : Nat, k ≤ l.length ∧ i = .int .i64 (k : Int) ∧ Aside0 (Blk wr gq 44 (costTo l k)) ∧ Aside0 (Below w2.heap.size w2 wr)) (fun i _ => l.length - (intOf i).toNat)
  case atStart => exact ⟨0, by omega, rfl, HBQ, HB2⟩
  case round =>
    clear HBQ HB2
    obtain ⟨k, hk, rfl, HBQ, HB2⟩ := hrel
    by_cases hkl : k < l.length
    · have kI : (k : Int) < (l.length : Int) := by omega
      obtain ⟨t, ht, t1, t4, q0, q1⟩ := tri_entry HK.out me HM.out l HL.out k hkl
      obtain ⟨g, hA, cA, cB⟩ := HRC.out.blw HB2.out k hkl
      rw [ht] at cA
      subst hA
      obtain ⟨q, hq⟩ : ∃ q, q = (rAt l k).2.1 := ⟨_, rfl⟩
      rw [← hq] at cB q0 q1
      have d1 : decide ((t : Int) < 1) = false := by simp; omega
      have d4 : decide (4 < (t : Int)) = false := by simp; omega
      have tI : (t : Int) < 5 := by omega
      have HE := Aside0.mk (show costTo l (k + 1) = (costTo l k).set t q by rw [costTo, ht, hq]; rfl)
      have HLN := Aside0.mk (costTo_length l k)
      clear ht hq
      go_wp2_with (fail)
      have hlt := HBQ.out.lt
      go_still_tail 11, (by kernel_rfl)
      change wpList _ _ _ _ _ wr.drew
      go_wp2_with (first | (refine wpL_set rfl rfl rfl rfl HBQ.out.drew (by rw [HLN.out]; omega) ?_; intro w3 hX3 hP3; have HBQ3 := Aside0.mk (show Blk w3 gq 44 (costTo l (k + 1)) by rw [HE.out]; exact hX3); replace HB2 := Aside0.mk (hP3.below _ _ HB2.out.drew HGQ.out); clear hX3 hP3))
      go_roundw
      case rel => exact ⟨k + 1, by omega, by go_num, HBQ3, HB2⟩
      case measure => simp [intOf]; omega
    · have kI : ¬ (k : Int) < (l.length : Int) := by omega
      obtain ⟨K, hK⟩ : ∃ K, K = costTo l l.length := ⟨_, rfl⟩
      replace HBQ := Aside0.mk (show Blk wr gq 44 K by rw [hK, show l.length = k by omega]; exact HBQ.out)
      have HKL := Aside0.mk (show K.length = 5 by rw [hK]; exact costTo_length l _)
      have HKE := Aside0.mk hK
      clear hK
      go_wp2_with (fail)
      go_loopw [11] (fun i wr => ∃ a : Nat, a ≤ 4 ∧ i = .int .i64 ((a : Int) + 1) ∧ Aside0 (Blk wr gq 44 K) ∧ Aside0 (Below w2.heap.size w2 wr)) (fun i _ => 5 - (intOf i).toNat)
      case atStart => exact ⟨0, by omega, rfl, HBQ, HB2⟩
      case round =>
        clear HBQ HB2
        obtain ⟨a0, ha, rfl, HBQ, HB2⟩ := hrel
        obtain ⟨a, haa⟩ : ∃ a, a = a0 + 1 := ⟨_, rfl⟩
        rw [show ((a0 : Int) + 1) = (a : Int) by omega]
        by_cases ha4 : a0 < 4
        · have aI : (a : Int) ≤ 4 := by omega
          go_wp2_with (fail)
          go_loopw [12] (fun i wr => ∃ b : Nat, b ≤ 4 ∧ i = .int .i64 ((b : Int) + 1) ∧ Aside0 (Blk wr gq 44 K) ∧ Aside0 (Below w2.heap.size w2 wr)) (fun i _ => 5 - (intOf i).toNat)
          case atStart => exact ⟨0, by omega, rfl, HBQ, HB2⟩
          case round =>
            clear HBQ HB2
            obtain ⟨b0, hb, rfl, HBQ, HB2⟩ := hrel
            obtain ⟨b, hbb⟩ : ∃ b, b = b0 + 1 := ⟨_, rfl⟩
            rw [show ((b0 : Int) + 1) = (b : Int) by omega]
            by_cases hb4 : b0 < 4
            · have bI : (b : Int) ≤ 4 := by omega
              have bI5 : (b : Int) < 5 := by omega
              have aI5 : (a : Int) < 5 := by omega
              have a0I : (a0 : Int) < 4 := by omega
              have b0I : (b0 : Int) < 4 := by omega
              have wa : IntKind.i64.wrap ((a : Int) - 1) = (a0 : Int) := by rw [IntWalk.i64_in _ (by omega)]; omega
              have wb : IntKind.i64.wrap ((b : Int) - 1) = (b0 : Int) := by rw [IntWalk.i64_in _ (by omega)]; omega
              have ca := HBQ.out.cell a (by rw [HKL.out]; omega)
              have cb := HBQ.out.cell b (by rw [HKL.out]; omega)
              have cc := (HBE.out.below HB2.out).cell (a0 * 4 + b0) (by rw [HC.out]; omega)
              have pa := tri_K HK.out me HM.out K l HL.out HKE.out a0 ha4
              have pb := tri_K HK.out me HM.out K l HL.out HKE.out b0 hb4
              have pc := costsOk_at HK.out a0 b0 ha4 hb4
              have no := tri_no HK.out me HM.out K l HL.out HKE.out a0 b0 ha4 hb4
              rw [← haa] at pa no
              rw [← hbb] at pb no
              obtain ⟨ka, hka⟩ : ∃ y, y = gt K a := ⟨_, rfl⟩
              obtain ⟨kb, hkb⟩ : ∃ y, y = gt K b := ⟨_, rfl⟩
              obtain ⟨lc, hlc⟩ : ∃ y, y = gt c (a0 * 4 + b0) := ⟨_, rfl⟩
              rw [← hka] at ca pa no
              rw [← hkb] at cb pb no
              rw [← hlc] at cc pc no
              have ws : IntKind.i64.wrap (ka + lc) = ka + lc := IntWalk.i64_in _ (by omega)
              have hxm := HX.out
              have h5 : (((a : Int) == x) = true ∨ ((a : Int) == x) = false ∧ decide (0 < ka) = true) ∧ (((b : Int) != x) = false ∨ ((b : Int) != x) = true ∧ decide (0 < lc) = false ∨ ((b : Int) != x) = true ∧ decide (0 < lc) = true ∧ (kb == 0) = false ∧ decide (ka + lc < kb) = false) ∨ ((a : Int) == x) = false ∧ decide (0 < ka) = false ∧ (((b : Int) != x) = false ∨ ((b : Int) != x) = true) := by
                by_cases e2 : a0 = me ∨ 0 < ka
                · left
                  refine ⟨?_, ?_⟩
                  · by_cases e4 : (a : Int) = x
                    · left; simpa using e4
                    · right; exact ⟨by simpa using e4, by simp; omega⟩
                  · by_cases e1 : (b : Int) = x
                    · left; simpa using e1
                    · by_cases e3 : 0 < lc
                      · right; right
                        have := no (by omega) e2 e3
                        exact ⟨by simpa using e1, by simpa using e3, by simp; omega, by simp; omega⟩
                      · right; left; exact ⟨by simpa using e1, by simpa using e3⟩
                · right
                  refine ⟨by simp; omega, by simp; omega, ?_⟩
                  by_cases e1 : (b : Int) = x
                  · left; simpa using e1
                  · right; simpa using e1
              have HAB := Aside0.mk (And.intro haa hbb)
              clear no pa pb pc hka hkb hlc hxm haa hbb
              rcases h5 with ⟨t2 | ⟨t2, t3⟩, t1 | ⟨t1, t4⟩ | ⟨t1, t4, t5, t6⟩⟩ | ⟨t2, t3, t1 | t1⟩
              all_goals go_wp2_with (fail)
              all_goals go_quiet (fail)
              all_goals go_wp2_with (fail)
              all_goals
                go_roundw
                case rel => exact ⟨b, by have := HAB.out; omega, by go_num, ⟨HBQ.out.drewN nq⟩, ⟨pw_below_drewN HB2.out nq⟩⟩
                case measure => have := HAB.out; simp [intOf]; omega
            · have bI : ¬ (b : Int) ≤ 4 := by omega
              go_wp2_with (fail)
              go_roundw
              case rel => exact ⟨a, by omega, by go_num, HBQ, HB2⟩
              case measure => simp [intOf]; omega
        · have aI : ¬ (a : Int) ≤ 4 := by omega
          clear haa
          have lt2 := HBC.out.lt
          have ij : i * 4 + j < 16 := by omega
          have cc := (HBE.out.below HB2.out).cell (i * 4 + j) (by rw [HC.out]; omega)
          have pc := costsOk_at HK.out i j hi4 hj4
          obtain ⟨lc, hlc⟩ : ∃ y, y = gt c (i * 4 + j) := ⟨_, rfl⟩
          rw [← hlc] at cc pc
          have HLC := Aside0.mk hlc
          clear hlc
          have ws : IntKind.i64.wrap (lc - 1) = lc - 1 := IntWalk.i64_in _ (by omega)
          obtain ⟨dd, hdd⟩ : ∃ dd, dd = if 1 < gt c (i * 4 + j) then c.set (i * 4 + j) (gt c (i * 4 + j) - 1) else c := ⟨_, rfl⟩
          have HLESS := Aside0.mk (tri_less c HK.out HC.out i j me hi4 hj4 HM.out dd hdd)
          have HRO2 := Aside0.mk (routesOf_good dd x me HM.out HX.out HLESS.out.1)
          have HDL := Aside0.mk (show dd.length = 16 by rw [hdd]; split <;> simp [HC.out])
          have HBC2 := Aside0.mk (HBE.out.below HB2.out)
          have hcase : (decide (1 < lc) = true ∧ Aside0 (c.set (i * 4 + j) (lc - 1) = dd)) ∨ (decide (1 < lc) = false ∧ Aside0 (c = dd)) := by
            by_cases h1 : 1 < lc
            · left; exact ⟨by simpa using h1, ⟨by rw [hdd, if_pos (by rw [← HLC.out]; exact h1), HLC.out]⟩⟩
            · right; exact ⟨by simpa using h1, ⟨by rw [hdd, if_neg (by rw [← HLC.out]; exact h1)]⟩⟩
          clear hdd pc
          rcases hcase with ⟨d1, HDD⟩ | ⟨d1, HDD⟩
          case' inl =>
            go_wp2_with (first | ((with_reducible refine gate_dst (N := 127) rfl ?_); refine wpL_load rfl rfl rfl HBC2.out Try.underlying23 (by rw [HC.out]; exact size23) ?_) | ((with_reducible refine gate_dst (N := 14) rfl ?_); refine box_event ?hg (N := 14) ?hd (cs := AV zs16) (t := 23) ?hr ?_; (case hd => rfl); (case hg => rfl); (case hr => first | (go_simp; done) | (go_simp; rfl)); intro gd hgd w3 hbox hb1; have HBD := Aside0.mk (show Blk w3 gd 23 zs16 from hbox); have HGD := Aside0.mk (show w2.heap.size ≤ gd by rw [hgd]; exact HB2.out.size); replace HB2 := Aside0.mk (below_step HB2.out hb1); clear hbox hb1 hgd) | ((with_reducible refine gate_store (p := 14) rfl ?_); refine wpL_store rfl rfl rfl rfl HBD.out (by rw [HC.out]; exact size23) (by rw [HC.out]; rfl) ?_; intro w4 hX4 hP4; replace HBD := Aside0.mk hX4; replace HB2 := Aside0.mk (hP4.below _ _ HB2.out HGD.out); clear hX4 hP4; have cd := HBD.out.cell (i * 4 + j) (by rw [HC.out]; exact ij); rw [← HLC.out] at cd))
            have hlt := HBD.out.lt
            go_still_tail 8, (by kernel_rfl)
            change wpList _ _ _ _ _ w4.drew
            clear cd hlt
            go_wp2_with (first | ((with_reducible refine gate_store (p := 146) rfl ?_); refine wpL_set rfl rfl rfl rfl HBD.out.drew (by rw [HC.out]; exact ij) ?_; intro w5 hX3 hP3; replace HBD := Aside0.mk (show Blk w5 gd 23 dd by rw [← HDD.out]; exact hX3); replace HB2 := Aside0.mk (hP3.below _ _ HB2.out.drew HGD.out); clear hX3 hP3) | ((with_reducible refine gate_dst (N := 148) rfl ?_); refine wpL_load rfl rfl rfl HBD.out Try.underlying23 (by rw [HDL.out]; exact size23) ?_))
          case' inr =>
            go_wp2_with (first | ((with_reducible refine gate_dst (N := 127) rfl ?_); refine wpL_load rfl rfl rfl HBC2.out Try.underlying23 (by rw [HC.out]; exact size23) ?_) | ((with_reducible refine gate_dst (N := 14) rfl ?_); refine box_event ?hg (N := 14) ?hd (cs := AV zs16) (t := 23) ?hr ?_; (case hd => rfl); (case hg => rfl); (case hr => first | (go_simp; done) | (go_simp; rfl)); intro gd hgd w3 hbox hb1; have HBD := Aside0.mk (show Blk w3 gd 23 zs16 from hbox); have HGD := Aside0.mk (show w2.heap.size ≤ gd by rw [hgd]; exact HB2.out.size); replace HB2 := Aside0.mk (below_step HB2.out hb1); clear hbox hb1 hgd) | ((with_reducible refine gate_store (p := 14) rfl ?_); refine wpL_store rfl rfl rfl rfl HBD.out (by rw [HC.out]; exact size23) (by rw [HC.out]; rfl) ?_; intro w4 hX4 hP4; replace HBD := Aside0.mk hX4; replace HB2 := Aside0.mk (hP4.below _ _ HB2.out HGD.out); clear hX4 hP4; have cd := HBD.out.cell (i * 4 + j) (by rw [HC.out]; exact ij); rw [← HLC.out] at cd; replace HBD := Aside0.mk (show Blk w4 gd 23 dd by rw [← HDD.out]; exact HBD.out)) | ((with_reducible refine gate_dst (N := 148) rfl ?_); refine wpL_load rfl rfl rfl HBD.out Try.underlying23 (by rw [HDL.out]; exact size23) ?_))
          all_goals
            refine (Routes_calls dd HDL.out x _).mono ?_
            rintro e w6 ⟨v, rfl, hO, hb1⟩
            rw [HRO2.out] at hO ⊢
            obtain ⟨ll, hll⟩ : ∃ ll, ll = routesBy (pskip (fw dd) me) (pcost (fw dd) me) (pfirst dd (fw dd) me) 4 := ⟨_, rfl⟩
            rw [← hll] at hO
            obtain ⟨A2, cp2, hv⟩ := Kd.S_slice hO
            subst hv
            have HRC2 := Aside0.mk (SR_cells hO).2
            rw [show (rts ll).length = l.length by rw [show (rts ll).length = ll.length by simp [rts], HL.out, hll]; exact HLESS.out.2.1]
            have HLS := Aside0.mk HLESS.out.2
            rw [← hll, ← HL.out] at HLS
            clear HLESS hll HRO2
            replace HB2 := Aside0.mk (below_step HB2.out hb1)
            have HRC1 := Aside0.mk (HRC.out.blw HB2.out)
            clear hO hb1
            go_wp2_with (first | (go_at_call 16; go_in))
            have HB6 := Aside0.mk (Below.refl w6.heap.size w6)
            replace HB := Aside0.mk (below_step HB.out HB2.out)
            clear HB2 HBD
            go_loopw [19] (fun i wr => ∃ n : Nat, n ≤ l.length ∧ i = .int .i64 (n : Int) ∧ Aside0 (Below w6.heap.size w6 wr)) (fun i _ => l.length - (intOf i).toNat)
            case atStart => exact ⟨0, by omega, rfl, HB6⟩
            case round =>
              clear HB6
              obtain ⟨n, hn, rfl, HB6⟩ := hrel
              by_cases hnl : n < l.length
              · have nI : (n : Int) < (l.length : Int) := by omega
                obtain ⟨t, ht, t1, t4, q0, q1⟩ := tri_entry HK.out me HM.out l HL.out n hnl
                obtain ⟨g1, hA1, cA1, cB1⟩ := HRC1.out.blw HB6.out n hnl
                obtain ⟨g2, hA2, cA2, cB2⟩ := HRC2.out.blw HB6.out n (by rw [HLS.out.1]; exact hnl)
                obtain ⟨s1, s2, s3⟩ := HLS.out.2 n hnl
                rw [s1] at cA2
                rw [ht] at cA1 cA2
                subst hA1 hA2
                obtain ⟨p1, hp1⟩ : ∃ q, q = (rAt l n).2.1 := ⟨_, rfl⟩
                obtain ⟨p2, hp2⟩ : ∃ q, q = (rAt ll n).2.1 := ⟨_, rfl⟩
                rw [← hp1] at cB1 q0 q1 s2 s3
                rw [← hp2] at cB2 s2 s3
                have wq : IntKind.i64.wrap (p1 - 1) = p1 - 1 := IntWalk.i64_in _ (by omega)
                have e1 : ((t : Int) != (t : Int)) = false := by simp
                have e2 : decide (p1 < p2) = false := by simp; omega
                have e3 : decide (p2 < p1 - 1) = false := by simp; omega
                clear ht hp1 hp2 s1 s2 s3 q0 q1 t1 t4
                go_wp2_with (fail)
                go_quiet (fail)
                go_wp2_with (fail)
                go_roundw
                case rel => exact ⟨n + 1, by omega, by go_num, ⟨pw_below_drewN HB6.out nq⟩⟩
                case measure => simp [intOf]; omega
              · have nI : ¬ (n : Int) < (l.length : Int) := by omega
                go_wp2_with (fail)
                go_ret
                exact ⟨rfl, below_step HB.out HB6.out⟩
theorem PathsTriangle_walk (c : List Int) (hc : c.length = 16) (x at' : Int) (w : World) : Calls Try.prog 6 #[.agg (AV c), .int .i64 x, .int .i64 at'] w fun e w' => e = .returned (.bool true) ∧ Below w.heap.size w w' := by
  rcases routesOf_cases c x with h | ⟨me, hm, hx, hok⟩
  · exact PathsTriangle_bad c hc x at' w h
  · exact PathsTriangle_good c hc x at' w me hm hx hok
end Go.Proofs.Ytjficnndocjodaa.H
