/- What graphOf answers of a store: the same ways both ways, each of its own cost; costs that may be. Plain Lean. -/
import Derived.Test.YtjficnndocjodaaHOne
namespace Go.Proofs.Ytjficnndocjodaa.H
set_option linter.unusedVariables false
set_option linter.unusedSimpArgs false
set_option linter.unusedSectionVars false

theorem gt_both (t : List Int) (a b : Nat) (ha : a < 4) (hb : b < 4) : gt (bothTo t 16) (a * 4 + b) = if 0 < gt t (b * 4 + a) then gt t (a * 4 + b) else 0 := by
  rw [gt_bothTo _ _ _ (Nat.le_refl _), show (a * 4 + b) % 4 * 4 + (a * 4 + b) / 4 = b * 4 + a by omega]
  by_cases e : 0 < gt t (b * 4 + a)
  · rw [if_pos e, if_pos ⟨by omega, e⟩]
  · rw [if_neg e, if_neg (fun h => e h.2)]
theorem both_sym (t : List Int) (a b : Nat) (ha : a < 4) (hb : b < 4) : decide (0 < gt (bothTo t 16) (a * 4 + b)) = decide (0 < gt (bothTo t 16) (b * 4 + a)) := by
  rw [gt_both t a b ha hb, gt_both t b a hb ha]
  by_cases e : 0 < gt t (b * 4 + a) <;> by_cases e2 : 0 < gt t (a * 4 + b) <;> simp [e, e2]
section
variable (l : List La) (hok : storeOk l = true)
include hok
theorem tell_cases (a b : Nat) (ha : a < 4) (hb : b < 4) : gt (tellAt l l.length) (a * 4 + b) = 0 ∨ ∃ i j, i < l.length ∧ isWay l a b i j ∧ gt (tellAt l l.length) (a * 4 + b) = (lkAt (laAt l i).f3 j).f1 := by
  obtain ⟨h0, h1⟩ := tellAt_way l hok l.length (Nat.le_refl _) a b ha hb
  by_cases e : ∃ i j, i < l.length ∧ isWay l a b i j
  · obtain ⟨i, j, hi, hw⟩ := e
    exact .inr ⟨i, j, hi, hw, h1 i j hi hw⟩
  · exact .inl (h0 (fun i j hi hw => e ⟨i, j, hi, hw⟩))
theorem tell_range (a b : Nat) (ha : a < 4) (hb : b < 4) : 0 ≤ gt (tellAt l l.length) (a * 4 + b) ∧ gt (tellAt l l.length) (a * 4 + b) ≤ 65535 ∧ (a = b → gt (tellAt l l.length) (a * 4 + b) = 0) := by
  rcases tell_cases l hok a b ha hb with h | ⟨i, j, hi, hw, h⟩
  · rw [h]; exact ⟨by omega, by omega, fun _ => rfl⟩
  · have hk := st_link l hok i hi j hw.2.1
    have h1 := hw.1
    have h2 := hw.2.2
    rw [h]
    exact ⟨by omega, by omega, fun e => by omega⟩
theorem both_ok : costsOk (bothTo (tellAt l l.length) 16) = true := by
  refine (costsOk_iff _).2 (fun a b ha hb => ?_)
  have h1 := tell_range l hok a b ha hb
  have hg : 0 ≤ gt (bothTo (tellAt l l.length) 16) (a * 4 + b) ∧ gt (bothTo (tellAt l l.length) 16) (a * 4 + b) ≤ 65535 ∧ (a = b → gt (bothTo (tellAt l l.length) 16) (a * 4 + b) = 0) := by
    rw [gt_both _ a b ha hb]
    split
    · exact h1
    · exact ⟨by omega, by omega, fun _ => rfl⟩
  simp only [okAt, Bool.and_eq_true, Bool.or_eq_true, decide_eq_true_eq]
  refine ⟨⟨hg.1, hg.2.1⟩, ?_⟩
  by_cases e : a = b
  · exact .inr (hg.2.2 e)
  · exact .inl e
theorem both_way (a b : Nat) (ha : a < 4) (hb : b < 4) (i j : Nat) (hi : i < l.length) (hw : isWay l a b i j) : gt (bothTo (tellAt l l.length) 16) (a * 4 + b) = 0 ∨ gt (bothTo (tellAt l l.length) 16) (a * 4 + b) = (lkAt (laAt l i).f3 j).f1 := by
  rw [gt_both _ a b ha hb]
  split
  · exact .inr ((tellAt_way l hok l.length (Nat.le_refl _) a b ha hb).2 i j hi hw)
  · exact .inl rfl
end
end Go.Proofs.Ytjficnndocjodaa.H
