/- '==' on arrays of whole numbers: the equality of the lists. -/
import Derived.Test.YtjficnndocjodaaHArr
import Derived.ChangeKeysEq
namespace Go.Proofs.Ytjficnndocjodaa.H
open Go.RowKit Go.Proofs.YtjficnndocjodaaW.PrintWords Go.Proofs.YtjficnndocjodaaW.PrintLast Go.Proofs.YtjficnndocjodaaW.PrintMore
set_option linter.unusedVariables false
set_option linter.unusedSimpArgs false

theorem eq_int (d : Nat) (a b : Int) (w : World) : (Op.equalIn (d + 1) 3 (.int .i64 a) (.int .i64 b)).run Try.prog w = .ok (decide (a = b)) w := by
  simp [Op.equalIn, Sem.run_bind, run_underlying Try.underlying3]
  by_cases h : a = b <;> simp [h]
/-- Item by item. -/
theorem eq_items (d : Nat) (e : TypeId) (k : Nat) (xs ys : Array Value) (p : Nat → Bool) (w : World) : ∀ (is : List Nat),
    (∀ i ∈ is, ∃ a b, (part e xs (i * k)).run Try.prog w = .ok a w ∧ (part e ys (i * k)).run Try.prog w = .ok b w ∧ (Op.equalIn d e a b).run Try.prog w = .ok (p i) w) →
    (Op.eqItems d e k xs ys is).run Try.prog w = .ok (is.all p) w
  | [], _ => by simp [Op.eqItems]
  | i :: is, h => by
    obtain ⟨a, b, h1, h2, h3⟩ := h i (by simp)
    have ih := eq_items d e k xs ys p w is (fun j hj => h j (by simp [hj]))
    simp only [Op.eqItems, Sem.run_bind, h1, h2, h3, Result.andThen_ok]
    cases hp : p i with
    | false => simp [hp]
    | true => simp [hp, ih]
theorem eq_row (d : Nat) (c c' : List Int) (hc : c.length = 4) (hc' : c'.length = 4) (w : World) : (Op.equalIn (d + 2) 22 (.agg (AV c)) (.agg (AV c'))).run Try.prog w = .ok ((List.range 4).all fun i => decide (gt c i = gt c' i)) w := by
  obtain ⟨i3, hi3⟩ : ∃ i, Try.prog.info? 3 = some i := by
    cases h : Try.prog.info? 3 with
    | none => have := size3; rw [h] at this; cases this
    | some i => exact ⟨i, rfl⟩
  rw [run_equalIn_array w (d + 1) _ _ Try.underlying22 hi3]
  refine eq_items _ _ _ _ _ _ w _ (fun i hi => ?_)
  have hi4 : i < 4 := List.mem_range.1 hi
  refine ⟨.int .i64 (gt c i), .int .i64 (gt c' i), ?_, ?_, eq_int d _ _ w⟩
  · rw [show Try.prog.cellsOf 3 = 1 by kernel_rfl]
    simp only [Sem.run_bind, part, run_isAgg_int Try.underlying3, Result.andThen_ok, Nat.mul_one]
    rw [AV_get c i (by omega)]; rfl
  · rw [show Try.prog.cellsOf 3 = 1 by kernel_rfl]
    simp only [Sem.run_bind, part, run_isAgg_int Try.underlying3, Result.andThen_ok, Nat.mul_one]
    rw [AV_get c' i (by omega)]; rfl
theorem same16 (c c' : List Int) (hc : c.length = 16) (hc' : c'.length = 16) : ((List.range 4).all fun i => (List.range 4).all fun j => decide (gt (row c i) j = gt (row c' i) j)) = decide (c = c') := by
  by_cases h : c = c'
  · subst h; simp
  · rw [decide_eq_false h]
    cases e : ((List.range 4).all fun i => (List.range 4).all fun j => decide (gt (row c i) j = gt (row c' i) j)) with
    | false => rfl
    | true =>
      exfalso
      apply h
      apply List.ext_getElem (by omega)
      intro k h1 h2
      rw [List.all_eq_true] at e
      have e1 := e (k / 4) (List.mem_range.2 (by omega))
      rw [List.all_eq_true] at e1
      have e2 := of_decide_eq_true (e1 (k % 4) (List.mem_range.2 (by omega)))
      rw [gt_row c _ _ (by omega), gt_row c' _ _ (by omega), show k / 4 * 4 + k % 4 = k by omega] at e2
      simpa [gt, List.getD_eq_getElem?_getD, h1, h2] using e2
theorem eq_arr (c c' : List Int) (hc : c.length = 16) (hc' : c'.length = 16) (w : World) : (Op.equalIn 10000 23 (.agg (AV c)) (.agg (AV c'))).run Try.prog w = .ok (decide (c = c')) w := by
  obtain ⟨i3, hi3⟩ : ∃ i, Try.prog.info? 22 = some i := by
    cases h : Try.prog.info? 22 with
    | none => have := size22; rw [h] at this; cases this
    | some i => exact ⟨i, rfl⟩
  rw [run_equalIn_array w 9999 _ _ Try.underlying23 hi3, ← same16 c c' hc hc']
  refine eq_items _ _ _ _ _ _ w _ (fun i hi => ?_)
  have hi4 : i < 4 := List.mem_range.1 hi
  refine ⟨.agg (AV (row c i)), .agg (AV (row c' i)), ?_, ?_, eq_row 9997 _ _ (row_length c i (by omega)) (row_length c' i (by omega)) w⟩
  · rw [show Try.prog.cellsOf 22 = 4 by kernel_rfl]
    simp only [Sem.run_bind, run_sizeOf size22, Result.andThen_ok, part, run_isAgg_arr Try.underlying22, if_true, Sem.run_pure, AV_extract]
  · rw [show Try.prog.cellsOf 22 = 4 by kernel_rfl]
    simp only [Sem.run_bind, run_sizeOf size22, Result.andThen_ok, part, run_isAgg_arr Try.underlying22, if_true, Sem.run_pure, AV_extract]
end Go.Proofs.Ytjficnndocjodaa.H
