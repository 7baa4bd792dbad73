/- A store without one of its Lsas: a store still, whose ways are those that do not meet that router. Plain Lean. -/
import Derived.Test.YtjficnndocjodaaHBoth
namespace Go.Proofs.Ytjficnndocjodaa.H
set_option linter.unusedVariables false
set_option linter.unusedSimpArgs false
set_option linter.unusedSectionVars false

/-- Without element k. -/
def lessOf (l : List La) (k : Nat) : List La := l.take k ++ l.drop (k + 1)
/-- Where element i of the lesser list was. -/
def up (k i : Nat) : Nat := if i < k then i else i + 1
theorem up_ne (k i : Nat) : up k i ≠ k := by unfold up; split <;> omega
theorem lessOf_length (l : List La) (k : Nat) (hk : k < l.length) : (lessOf l k).length = l.length - 1 := by
  simp [lessOf]; omega
theorem laAt_less (l : List La) (k i : Nat) (hk : k < l.length) : laAt (lessOf l k) i = laAt l (up k i) := by
  unfold laAt lessOf up
  rw [List.getD_eq_getElem?_getD, List.getD_eq_getElem?_getD]
  congr 1
  by_cases h : i < k
  · rw [if_pos h, List.getElem?_append_left (by simp; omega), List.getElem?_take, if_pos h]
  · rw [if_neg h, List.getElem?_append_right (by simp; omega), List.getElem?_drop]
    congr 1
    simp; omega
section
variable (l : List La) (hok : storeOk l = true) (k : Nat) (hk : k < l.length)
include hok hk
theorem storeOk_less : storeOk (lessOf l k) = true := by
  have hl := lessOf_length l k hk
  have hm := mono_of (fun i => (laAt l i).f0) l.length (fun j hj => (st_router l hok j hj).2.2.1)
  have hs := hok
  rw [storeOk, Bool.and_eq_true, updOk_iff, allYoung_iff] at hs ⊢
  refine ⟨fun j hj => ?_, fun j hj => ?_⟩
  · have hu : up k j < l.length := by unfold up; split <;> omega
    have h1 := hs.1 (up k j) hu
    simp only [updAt, Bool.and_eq_true, decide_eq_true_eq] at h1 ⊢
    rw [laAt_less l k j hk, laAt_less l k (j - 1) hk]
    refine ⟨h1.1, ?_⟩
    by_cases e : j = 0
    · exact .inl e
    · refine .inr (hm (up k (j - 1)) (up k j) ?_ hu)
      unfold up; split <;> split <;> omega
  · have hu : up k j < l.length := by unfold up; split <;> omega
    have h1 := hs.2 (up k j) hu
    unfold young at h1 ⊢
    rw [laAt_less l k j hk]; exact h1
theorem way_less (a b i j : Nat) : isWay (lessOf l k) a b i j ↔ isWay l a b (up k i) j := by
  unfold isWay; rw [laAt_less l k i hk]
theorem tell_less (r : Nat) (hr : (laAt l k).f0 = (r : Int) + 1) (a b : Nat) (ha : a < 4) (hb : b < 4) :
    gt (tellAt (lessOf l k) (lessOf l k).length) (a * 4 + b) = if a = r then 0 else gt (tellAt l l.length) (a * 4 + b) := by
  have hok' := storeOk_less l hok k hk
  have hl := lessOf_length l k hk
  obtain ⟨p0, p1⟩ := tellAt_way (lessOf l k) hok' _ (Nat.le_refl _) a b ha hb
  by_cases e : a = r
  · rw [if_pos e]
    refine p0 (fun i j hi hw => ?_)
    have hw2 := (way_less l hok k hk a b i j).1 hw
    have hu : up k i < l.length := by unfold up; split <;> omega
    exact up_ne k i (st_one l hok (up k i) k hu hk (by rw [hw2.1, hr, e]))
  · rw [if_neg e]
    obtain ⟨q0, q1⟩ := tellAt_way l hok _ (Nat.le_refl _) a b ha hb
    by_cases hw : ∃ i j, i < l.length ∧ isWay l a b i j
    · obtain ⟨i, j, hi, hw⟩ := hw
      have hik : i ≠ k := fun h => by
        have h1 := hw.1
        rw [h, hr] at h1
        omega
      have hu : up k (if i < k then i else i - 1) = i := by
        unfold up; by_cases c : i < k
        · rw [if_pos c, if_pos c]
        · rw [if_neg c, if_neg (by omega)]; omega
      have hw2 : isWay (lessOf l k) a b (if i < k then i else i - 1) j := (way_less l hok k hk a b _ j).2 (by rw [hu]; exact hw)
      have hi2 : (if i < k then i else i - 1) < (lessOf l k).length := by rw [hl]; split <;> omega
      rw [p1 _ _ hi2 hw2, q1 _ _ hi hw, laAt_less l k _ hk, hu]
    · rw [q0 (fun i j hi h => hw ⟨i, j, hi, h⟩)]
      refine p0 (fun i j hi h => hw ⟨up k i, j, by unfold up; split <;> omega, (way_less l hok k hk a b i j).1 h⟩)
theorem both_less (r : Nat) (hr : (laAt l k).f0 = (r : Int) + 1) (a b : Nat) (ha : a < 4) (hb : b < 4) :
    gt (bothTo (tellAt (lessOf l k) (lessOf l k).length) 16) (a * 4 + b) = if a = r ∨ b = r then 0 else gt (bothTo (tellAt l l.length) 16) (a * 4 + b) := by
  rw [gt_both _ a b ha hb, gt_both _ a b ha hb, tell_less l hok k hk r hr a b ha hb, tell_less l hok k hk r hr b a hb ha]
  by_cases e : a = r
  · rw [if_pos e, if_pos (show a = r ∨ b = r from .inl e)]; split <;> simp
  · rw [if_neg e]
    by_cases e2 : b = r
    · rw [if_pos e2, if_neg (by omega), if_pos (show a = r ∨ b = r from .inr e2)]
    · rw [if_neg e2, if_neg (show ¬ (a = r ∨ b = r) by omega)]
end
end Go.Proofs.Ytjficnndocjodaa.H
