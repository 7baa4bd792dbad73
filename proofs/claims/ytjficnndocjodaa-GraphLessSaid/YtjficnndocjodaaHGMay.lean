/- store.May answers 'storeOk' of the list. -/
import Derived.Test.YtjficnndocjodaaHGTell
namespace Go.Proofs.Ytjficnndocjodaa.H
open Go.RowKit Go.Proofs.YtjficnndocjodaaW.PrintWords Go.Proofs.YtjficnndocjodaaW.PrintLast Go.Proofs.YtjficnndocjodaaW.PrintMore
open Go.Proofs.Ytjficnndocjodaa.PGraphs
set_option linter.unusedVariables false
set_option linter.unusedSimpArgs false

def old (l : List La) (i : Nat) : Bool := decide (60 ≤ (laAt l i).f2)
/-- Where the first old one is. -/
def oldAt (l : List La) : Nat := findFrom (old l) l.length l.length 0
/-- As a number; -1: nowhere. -/
def oldIdx (l : List La) : Int := if oldAt l < l.length then (oldAt l : Int) else -1
theorem oldAt_young (l : List La) : allYoung l = !decide (oldAt l < l.length) := by
  have hl := findFrom_le (old l) l.length l.length 0 (by omega)
  by_cases e : oldAt l < l.length
  · have h1 := of_decide_eq_true (findFrom_is (old l) l.length l.length 0 (by omega) e)
    cases h : allYoung l with
    | false => simp [e]
    | true =>
      have := of_decide_eq_true ((allYoung_iff l).1 h _ e)
      exfalso
      have h1 : 60 ≤ (laAt l (oldAt l)).f2 := h1
      omega
  · have : allYoung l = true := (allYoung_iff l).2 (fun j hj => by
      have := findFrom_before (old l) l.length l.length 0 (by omega) j (by omega) (by unfold oldAt at e; omega)
      simp only [old, young] at this ⊢
      simp at this ⊢; omega)
    rw [this]; simp [e]
/-- An Lsa of a list, as a walk reads it. -/
theorem la_cells {w wr : World} {A : Option Addr} {l : List La} (h : Kd.C k57 w A l.length l) (hb : Below w.heap.size w wr) (i : Nat) (hi : i < l.length) :
    ∃ ad A3 c3, A = some ad ∧ wr.cell? (ad.add (i * 4)) = some (.int .i64 (laAt l i).f0) ∧ wr.cell? ⟨(ad.add (i * 4)).block, (ad.add (i * 4)).off + 1, none⟩ = some (.int .i64 (laAt l i).f1) ∧ wr.cell? ⟨(ad.add (i * 4)).block, (ad.add (i * 4)).off + 2, none⟩ = some (.int .i64 (laAt l i).f2) ∧ wr.cell? ⟨(ad.add (i * 4)).block, (ad.add (i * 4)).off + 3, none⟩ = some (.slice A3 (laAt l i).f3.length c3) ∧ (laAt l i).f3.length ≤ c3 ∧ Kd.C k59 w A3 (laAt l i).f3.length (laAt l i).f3 := by
  obtain ⟨ad, A3, c3, e, q0, q1, q2, q3, hl, hc⟩ := at_T57 h (i : Int) (by omega) (by omega)
  exact ⟨ad, A3, c3, e, (hb.cell (World.block_lt_of_cell? w _ q0)).trans q0, (hb.cell (World.block_lt_of_cell? w _ q1)).trans q1, (hb.cell (World.block_lt_of_cell? w _ q2)).trans q2, (hb.cell (World.block_lt_of_cell? w _ q3)).trans q3, hl, hc⟩

set_option maxHeartbeats 1000000 in
set_option maxRecDepth 100000 in
theorem old_calls (a : La) (A3 : Option Addr) (c3 : Nat) (w : World) :
    Calls Try.prog 37 #[.agg #[.int .i64 a.f0, .int .i64 a.f1, .int .i64 a.f2, .slice A3 a.f3.length c3]] w fun e w' => e = .returned (.bool (decide (60 ≤ a.f2))) ∧ Below w.heap.size w w' := by
  have HB := Aside0.mk (Below.refl w.heap.size w)
  generalize a.f0 = x0
  generalize a.f1 = x1
  generalize a.f2 = x2
  generalize a.f3.length = n3
  go_enter Try.func37, Try.ntmps37
  go_wp2_with (first | ((with_reducible refine gate_dst (N := 1) rfl ?_); refine box_event ?hg (N := 1) ?hd (cs := #[.int .i64 x0, .int .i64 x1, .int .i64 x2, .slice A3 n3 c3]) (t := 57) ?hr ?_; (case hd => rfl); (case hg => rfl); (case hr => first | (go_simp; done) | (go_simp; rfl)); intro g hg w1 hbox hb1; have q2 : w1.cell? ⟨g, 2, none⟩ = some (.int .i64 x2) := (blk_cell hbox 2).trans rfl; replace HB := Aside0.mk (below_step HB.out hb1); clear hbox hb1 hg))
  go_ret
  exact ⟨rfl, HB.out⟩

set_option maxHeartbeats 1000000 in
set_option maxRecDepth 100000 in
theorem IndexFunc_calls (l : List La) (A : Option Addr) (c : Nat) (w : World) (hr : Kd.C k57 w A l.length l) (hc : l.length ≤ c) :
    Calls Try.prog 43 #[.slice A l.length c, .func (.func 37) #[] #[]] w fun e w' => e = .returned (.int .i64 (oldIdx l)) ∧ Below w.heap.size w w' := by
  have HR := Aside0.mk hr
  have HN := Aside0.mk (hr.2.1)
  clear hr
  have HB := Aside0.mk (Below.refl w.heap.size w)
  have hn63 := HN.out
  go_enter Try.func43, Try.ntmps43
  go_wp2_with (fail)
  go_loopw [8] (fun i wr => ∃ k : Nat, k ≤ l.length ∧ i = .int .i64 (k : Int) ∧ Aside0 (∀ j, j < k → old l j = false) ∧ Aside0 (Below w.heap.size w wr)) (fun i _ => l.length - (intOf i).toNat)
  case atStart => exact ⟨0, by omega, rfl, ⟨fun j hj => by omega⟩, HB⟩
  case round =>
    clear HB
    obtain ⟨k, hk, rfl, HY, HB⟩ := hrel
    by_cases hkl : k < l.length
    · have kI : (k : Int) < (l.length : Int) := by omega
      obtain ⟨ad, A3, c3, hA, q0, q1, q2, q3, hl3, hC3⟩ := la_cells HR.out HB.out k hkl
      subst hA
      clear hC3 hl3
      cases ho : old l k with
      | true =>
        have HF := Aside0.mk (show oldAt l = k from findFrom_at _ _ k hkl ho HY.out)
        go_wp2_with (first | (go_at_call 37; refine (old_calls (laAt l k) A3 c3 _).mono ?_; rintro e w1 ⟨rfl, hb1⟩; rw [show decide (60 ≤ (laAt l k).f2) = true from ho]; replace HB := Aside0.mk (below_step HB.out hb1); clear hb1))
        go_ret
        exact ⟨by rw [oldIdx, HF.out, if_pos hkl]; rfl, HB.out⟩
      | false =>
        go_wp2_with (first | (go_at_call 37; refine (old_calls (laAt l k) A3 c3 _).mono ?_; rintro e w1 ⟨rfl, hb1⟩; rw [show decide (60 ≤ (laAt l k).f2) = false from ho]; replace HB := Aside0.mk (below_step HB.out hb1); clear hb1))
        go_roundw
        case rel => exact ⟨k + 1, by omega, by go_num, ⟨fun j hj => by
          by_cases e : j = k
          · rw [e]; exact ho
          · exact HY.out j (by omega)⟩, HB⟩
        case measure => simp [intOf]; omega
    · have kI : ¬ (k : Int) < (l.length : Int) := by omega
      have HF := Aside0.mk (show oldAt l = l.length from findFrom_no _ _ (fun j hj => HY.out j (by omega)))
      go_wp2_with (fail)
      go_ret
      exact ⟨by rw [oldIdx, HF.out, if_neg (by omega)]; rfl, HB.out⟩

set_option maxHeartbeats 1000000 in
set_option maxRecDepth 100000 in
theorem ContainsFunc_calls (l : List La) (A : Option Addr) (c : Nat) (w : World) (hr : Kd.C k57 w A l.length l) (hc : l.length ≤ c) :
    Calls Try.prog 39 #[.slice A l.length c, .func (.func 37) #[] #[]] w fun e w' => e = .returned (.bool (!allYoung l)) ∧ Below w.heap.size w w' := by
  have HR := Aside0.mk hr
  have HC := Aside0.mk hc
  clear hr hc
  have HB := Aside0.mk (Below.refl w.heap.size w)
  have hcase : (∃ k : Nat, Aside0 (oldIdx l = (k : Int)) ∧ Aside0 ((!allYoung l) = true)) ∨ Aside0 (oldIdx l = -1) ∧ Aside0 ((!allYoung l) = false) := by
    rw [oldAt_young, oldIdx]
    by_cases e : oldAt l < l.length
    · left; exact ⟨oldAt l, ⟨by rw [if_pos e]⟩, ⟨by simp [e]⟩⟩
    · right; exact ⟨⟨by rw [if_neg e]⟩, ⟨by simp; omega⟩⟩
  rcases hcase with ⟨k, HF, HY⟩ | ⟨HF, HY⟩
  · have k0 : 0 ≤ (k : Int) := by omega
    have kd : decide (0 ≤ (k : Int)) = true := by simp
    go_enter Try.func39, Try.ntmps39
    go_wp2_with (first | (go_at_call 43; refine (IndexFunc_calls l A c _ HR.out HC.out).mono ?_; rintro e w1 ⟨rfl, hb1⟩; rw [HF.out]; replace HB := Aside0.mk hb1; clear hb1))
    go_ret
    exact ⟨by rw [HY.out]; rfl, HB.out⟩
  · go_enter Try.func39, Try.ntmps39
    go_wp2_with (first | (go_at_call 43; refine (IndexFunc_calls l A c _ HR.out HC.out).mono ?_; rintro e w1 ⟨rfl, hb1⟩; rw [HF.out]; replace HB := Aside0.mk hb1; clear hb1))
    go_ret
    exact ⟨by rw [HY.out]; rfl, HB.out⟩

/-- Every list that is read is short enough for the printed tests' fuel. -/
theorem la_small {w : World} {A : Option Addr} {l : List La} (h : Kd.C k57 w A l.length l) : (l.length : Int) ≤ 9223372036854775807 ∧ ∀ i, i < l.length → (laAt l i).f3.length ≤ 9223372036854775807 := by
  refine ⟨by have := h.2.1; omega, fun i hi => ?_⟩
  obtain ⟨_, _, _, _, _, _, _, _, _, hC⟩ := la_cells h (Below.refl _ w) i hi
  exact hC.2.1
theorem update_May_calls (l : List La) (A : Option Addr) (c : Nat) (w : World) (hr : Kd.C k57 w A l.length l) (hc : l.length ≤ c) :
    Calls Try.prog 38 #[.slice A l.length c] w fun e w' => e = .returned (.bool (updOk l)) ∧ Below w.heap.size w w' := by
  have hs := la_small hr
  exact update_May.calls (l.length + 9223372036854775807 + 2) A c l (updOk l) w hr hc (update_May_f l 9223372036854775807 hs.1 (by omega) hs.2 _ (by omega))
theorem ref_StoreMay_calls (l : List La) (A : Option Addr) (c : Nat) (w : World) (hr : Kd.C k57 w A l.length l) (hc : l.length ≤ c) :
    Calls Try.prog 26 #[.slice A l.length c] w fun e w' => e = .returned (.bool (storeOk l)) ∧ Below w.heap.size w w' := by
  have hs := la_small hr
  exact watchwordref18_StoreMay.calls (l.length + l.length + 9223372036854775807 + 3) A c l (storeOk l) w hr hc (ref_StoreMay_f l 9223372036854775807 hs.1 (by omega) hs.2 _ (by omega))
theorem ref_told_calls (l : List La) (A : Option Addr) (c : Nat) (a b : Int) (w : World) (hr : Kd.C k57 w A l.length l) (hc : l.length ≤ c) :
    Calls Try.prog 33 #[.slice A l.length c, .int .i64 a, .int .i64 b] w fun e w' => e = .returned (.int .i64 (toldOf l a b)) ∧ Drawn0 w w' := by
  have hs := la_small hr
  exact watchwordref18_told.calls (l.length + 9223372036854775807 + 2) A c l a b (toldOf l a b) w hr hc (ref_told_f l a b hs.1 9223372036854775807 (by omega) hs.2 _ (by omega))

set_option maxHeartbeats 1000000 in
set_option maxRecDepth 100000 in
theorem store_May_calls (l : List La) (A : Option Addr) (c : Nat) (w : World) (hr : Kd.C k57 w A l.length l) (hc : l.length ≤ c) :
    Calls Try.prog 32 #[.slice A l.length c] w fun e w' => e = .returned (.bool (storeOk l)) ∧ Below w.heap.size w w' := by
  have HR := Aside0.mk hr
  have HC := Aside0.mk hc
  clear hr hc
  have HB := Aside0.mk (Below.refl w.heap.size w)
  obtain ⟨u, hu⟩ : ∃ u, updOk l = u := ⟨_, rfl⟩
  obtain ⟨y, hy⟩ : ∃ y, allYoung l = y := ⟨_, rfl⟩
  have HUY := Aside0.mk (And.intro hu hy)
  have HS := Aside0.mk (show storeOk l = (u && y) by rw [storeOk, hu, hy])
  clear hu hy
  cases u with
  | true =>
    go_enter Try.func32, Try.ntmps32
    go_wp2_with (first | (go_at_call 38; refine (update_May_calls l A c _ HR.out HC.out).mono ?_; rintro e w1 ⟨rfl, hb1⟩; rw [HUY.out.1]; replace HB := Aside0.mk hb1; clear hb1) | (go_at_call 39; refine (ContainsFunc_calls l A c _ (Kd.C_below HR.out HB.out) HC.out).mono ?_; rintro e w1 ⟨rfl, hb1⟩; rw [HUY.out.2]; replace HB := Aside0.mk (below_step HB.out hb1); clear hb1))
    go_ret
    exact ⟨by rw [HS.out]; simp, HB.out⟩
  | false =>
    go_enter Try.func32, Try.ntmps32
    go_wp2_with (first | (go_at_call 38; refine (update_May_calls l A c _ HR.out HC.out).mono ?_; rintro e w1 ⟨rfl, hb1⟩; rw [HUY.out.1]; replace HB := Aside0.mk hb1; clear hb1))
    go_ret
    exact ⟨by rw [HS.out]; simp, HB.out⟩
end Go.Proofs.Ytjficnndocjodaa.H
