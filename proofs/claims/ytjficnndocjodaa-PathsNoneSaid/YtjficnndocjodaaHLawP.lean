/- The walk of the law Paths. -/
import Derived.Test.YtjficnndocjodaaHSpoil
import Derived.Test.YtjficnndocjodaaHRefRoutes
import Derived.Test.YtjficnndocjodaaHDist
namespace Go.Proofs.Ytjficnndocjodaa.H
open Go.RowKit Go.Proofs.YtjficnndocjodaaW.PrintWords Go.Proofs.YtjficnndocjodaaW.PrintLast Go.Proofs.YtjficnndocjodaaW.PrintMore
open Go.Proofs.Ytjficnndocjodaa.PPaths
set_option linter.unusedVariables false
set_option linter.unusedSimpArgs false

theorem sameInts_refl (x : List Int) (hl : x.length ≤ 9223372036854775807) (d : Nat) : ∀ (k : Nat) (i : Int), 0 ≤ i → i ≤ x.length → (x.length : Int) - i = d → d < k → watchwordlaw0_SameInts.l0 k x x i = some true := by
  induction d with
  | zero =>
    intro k i h0 h1 hd hk
    obtain ⟨k, rfl⟩ : ∃ m, k = m + 1 := ⟨k - 1, by omega⟩
    simp only [watchwordlaw0_SameInts.l0]; rw [if_neg (by omega)]
  | succ d ih =>
    intro k i h0 h1 hd hk
    obtain ⟨k, rfl⟩ : ∃ m, k = m + 1 := ⟨k - 1, by omega⟩
    have hw : wrap64 (i + 1) = i + 1 := by unfold wrap64; omega
    have := ih k (i + 1) (by omega) (by omega) (by omega) (by omega)
    simp only [watchwordlaw0_SameInts.l0]; rw [if_pos (by omega), if_pos h0, if_pos (by omega), if_pos trivial, hw]; exact this
theorem sameInts_self (x : List Int) (k : Nat) (hl : x.length ≤ 9223372036854775807) (hk : x.length < k) : watchwordlaw0_SameInts.f k x x = some true := by
  unfold watchwordlaw0_SameInts.f
  rw [if_pos rfl]
  exact sameInts_refl x hl x.length k 0 (by omega) (by omega) (by omega) hk
theorem sameRoutes_refl (x : List S41) (hl : x.length ≤ 9223372036854775807) (K : Nat) (hK : K ≤ 9223372036854775806) (hx : ∀ i : Int, (rd_T41 x i).f2.length ≤ K) (d : Nat) : ∀ (k : Nat) (i : Int), 0 ≤ i → i ≤ x.length → (x.length : Int) - i = d → d + K + 1 < k → watchwordlaw0_SameRoutes.l0 k x x i = some true := by
  induction d with
  | zero =>
    intro k i h0 h1 hd hk
    obtain ⟨k, rfl⟩ : ∃ m, k = m + 1 := ⟨k - 1, by omega⟩
    simp only [watchwordlaw0_SameRoutes.l0]; rw [if_neg (by omega)]
  | succ d ih =>
    intro k i h0 h1 hd hk
    obtain ⟨k, rfl⟩ : ∃ m, k = m + 1 := ⟨k - 1, by omega⟩
    have hw : wrap64 (i + 1) = i + 1 := by unfold wrap64; omega
    have hs := sameInts_self (rd_T41 x i).f2 k (by have := hx i; omega) (by have := hx i; omega)
    have := ih k (i + 1) (by omega) (by omega) (by omega) (by omega)
    simp only [watchwordlaw0_SameRoutes.l0]
    rw [if_pos (by omega), if_pos h0, if_pos (by omega), if_pos trivial, if_pos trivial, hs]
    simp only [Option.bind_some]
    rw [hw]; simp [this]
theorem sameRoutes_self (l : List (Int × Int × List Int)) (h4 : l.length ≤ 4) (hf : ∀ t ∈ l, t.2.2.length ≤ 4) : watchwordlaw0_SameRoutes.f 20 (rts l) (rts l) = some true := by
  unfold watchwordlaw0_SameRoutes.f
  rw [if_pos rfl]
  have hL : (rts l).length = l.length := by simp [rts]
  refine sameRoutes_refl (rts l) (by omega) 4 (by omega) ?_ (rts l).length 20 0 (by omega) (by omega) (by omega) (by omega)
  intro i
  unfold rd_T41
  rw [List.getD_eq_getElem?_getD]
  cases h : (rts l)[i.toNat]? with
  | none => simp [z41]
  | some t =>
    have hm := List.mem_of_getElem? h
    simp only [rts, List.mem_map] at hm
    obtain ⟨q, hq, rfl⟩ := hm
    exact hf q hq
theorem routesBy_mem (skip : Nat → Bool) (cost : Nat → Int) (p : Nat → Nat → Bool) (n : Nat) : ∀ t ∈ routesBy skip cost p n, t.2.2.length ≤ 4 := by
  induction n with
  | zero => intro t ht; simp [routesBy] at ht
  | succ n ih =>
    intro t ht
    unfold routesBy at ht
    split at ht
    · exact ih t ht
    · rcases List.mem_append.1 ht with h | h
      · exact ih t h
      · rw [List.mem_singleton.1 h]; exact firstBy_length (p n) 4
theorem routesOf_few (c : List Int) (x : Int) : (routesOf c x).1.length ≤ 4 ∧ ∀ t ∈ (routesOf c x).1, t.2.2.length ≤ 4 := by
  unfold routesOf
  split
  · exact ⟨routesBy_length _ _ _ 4, routesBy_mem _ _ _ 4⟩
  · exact ⟨by simp, fun t h => by simp at h⟩

set_option maxHeartbeats 1000000 in
set_option maxRecDepth 100000 in
theorem Paths_walk (c : List Int) (hc : c.length = 16) (x : Int) (w : World) : Calls Try.prog 3 #[.agg (AV c), .int .i64 x] w fun e w' => e = .returned (.bool true) ∧ Below w.heap.size w w' := by
  have HC := Aside0.mk hc
  have HSAME := Aside0.mk (routes_same c hc x)
  have HFEW := Aside0.mk (routesOf_few c x)
  clear hc
  have HB := Aside0.mk (Below.refl w.heap.size w)
  go_enter Try.func3, Try.ntmps3
  go_wp2_with (first | ((with_reducible refine gate_dst (N := 2) rfl ?_); refine box_event ?hg (N := 2) ?hd (cs := AV c) (t := 23) ?hr ?_; (case hd => rfl); (case hg => rfl); (case hr => first | (go_simp; done) | (go_simp; rfl)); intro gc hgc w1 hbox hb1; have HBC := Aside0.mk (show Blk w1 gc 23 c from hbox); replace HB := Aside0.mk (below_step HB.out hb1); clear hbox hb1 hgc) | ((with_reducible refine gate_dst (N := 10) rfl ?_); refine wpL_load rfl rfl rfl HBC.out Try.underlying23 (by rw [HC.out]; exact size23) ?_) | ((with_reducible refine gate_dst (N := 16) rfl ?_); refine wpL_load rfl rfl rfl HBC.out Try.underlying23 (by rw [HC.out]; exact size23) ?_))
  refine (Routes_calls c HC.out x _).mono ?_
  rintro e w2 ⟨v, rfl, hO, hb1⟩
  obtain ⟨A, cp, hv⟩ := Kd.S_slice hO
  subst hv
  have HO := Aside0.mk (Kd.S_lower hO HB.out.size)
  replace HB := Aside0.mk (below_step HB.out hb1)
  replace HBC := Aside0.mk (HBC.out.below hb1)
  clear hO hb1
  obtain ⟨l, hl⟩ : ∃ l, l = (routesOf c x).1 := ⟨_, rfl⟩
  obtain ⟨z, hz⟩ : ∃ z, z = (routesOf c x).2 := ⟨_, rfl⟩
  rw [← hl] at HO HFEW ⊢
  rw [← hz]
  have HL := Aside0.mk (And.intro hl hz)
  clear hl hz
  go_wp2_with (first | ((with_reducible refine gate_dst (N := 16) rfl ?_); refine wpL_load rfl rfl rfl HBC.out Try.underlying23 (by rw [HC.out]; exact size23) ?_))
  refine (RefRoutes_calls c HC.out x _).mono ?_
  rintro e w3 ⟨v3, rfl, hO, hb1⟩
  rw [← HSAME.out, ← HL.out.1] at hO
  rw [← HSAME.out, ← HL.out.2]
  obtain ⟨A3, cp3, hv⟩ := Kd.S_slice hO
  subst hv
  have HO3 := Aside0.mk hO
  replace HB := Aside0.mk (below_step HB.out hb1)
  replace HO := Aside0.mk (Kd.S_below HO.out hb1)
  clear hO hb1
  go_wp2_with (fail)
  refine (watchwordlaw0_SameRoutes.calls 20 _ _ (rts l) _ _ (rts l) true _ (Kd.S_reads' HO.out).2.2 (Kd.S_reads' HO.out).2.1 (Kd.S_reads' HO3.out).2.2 (Kd.S_reads' HO3.out).2.1 (sameRoutes_self l HFEW.out.1 HFEW.out.2)).mono ?_
  rintro e w4 ⟨rfl, hb1⟩
  replace HB := Aside0.mk (below_step HB.out hb1)
  replace HO := Aside0.mk (Kd.S_below HO.out hb1)
  clear hb1 HO3
  have hzz : (z != z) = false := by simp
  have hzz2 : (z == z) = true := by simp
  go_wp2_with (first | (go_at_call 16; go_in))
  refine (SpoilRoutes_calls w _ _ (rts l) HB.out HO.out).mono ?_
  rintro e w5 ⟨rfl, hb1⟩
  replace HB := Aside0.mk hb1
  clear hb1 HO
  go_wp2_with (first | (go_at_call 18; refine (awake_calls _).mono ?_; rintro e w6 ⟨rfl, hb1⟩; replace HB := Aside0.mk (below_step HB.out hb1); clear hb1))
  go_ret
  exact ⟨rfl, HB.out⟩
end Go.Proofs.Ytjficnndocjodaa.H
