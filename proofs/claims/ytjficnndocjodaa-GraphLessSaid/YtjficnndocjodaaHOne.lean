/- What graphOf answers of a list of two that tell of each other; an entry of both ends' table. Plain Lean. -/
import Derived.Test.YtjficnndocjodaaHGTell
namespace Go.Proofs.Ytjficnndocjodaa.H
set_option linter.unusedVariables false
set_option linter.unusedSimpArgs false

theorem gt_bothTo (t : List Int) (n k : Nat) (hn : n ≤ 16) : gt (bothTo t n) k = if k < n ∧ 0 < gt t (k % 4 * 4 + k / 4) then gt t k else 0 := by
  induction n with
  | zero => rw [if_neg (by omega)]; exact gt_zeros 16 k
  | succ n ih =>
    have ih := ih (by omega)
    unfold bothTo
    by_cases e : 0 < gt t (n % 4 * 4 + n / 4)
    · rw [if_pos e, gt_set _ _ _ _ (by rw [bothTo_length]; omega), ih]
      by_cases e2 : n = k
      · subst e2; rw [if_pos rfl, if_pos ⟨by omega, e⟩]
      · rw [if_neg e2]
        by_cases e3 : k < n ∧ 0 < gt t (k % 4 * 4 + k / 4)
        · rw [if_pos e3, if_pos ⟨by omega, e3.2⟩]
        · rw [if_neg e3, if_neg (by omega)]
    · rw [if_neg e, ih]
      by_cases e2 : n = k
      · subst e2; rw [if_neg (by omega), if_neg (fun h => e h.2)]
      · by_cases e3 : k < n ∧ 0 < gt t (k % 4 * 4 + k / 4)
        · rw [if_pos e3, if_pos ⟨by omega, e3.2⟩]
        · rw [if_neg e3, if_neg (by omega)]
/-- The one that turns, and the other one. -/
def oneX (i j : Nat) (c : Int) : La := ⟨(i : Int) + 1, 1, 0, [⟨(j : Int) + 1, c⟩]⟩
def oneY (i j : Nat) (both : Bool) : La := ⟨(j : Int) + 1, 1, 0, if both = true then [⟨(i : Int) + 1, 9⟩] else []⟩
def oneL (i j : Nat) (c : Int) (both : Bool) : List La := if j < i then [oneY i j both, oneX i j c] else [oneX i j c, oneY i j both]
def oneW (i j : Nat) (c : Int) (both : Bool) : List Int := if both = true then (zs16.set (i * 4 + j) c).set (j * 4 + i) 9 else zs16
theorem oneW_length (i j : Nat) (c : Int) (both : Bool) : (oneW i j c both).length = 16 := by
  unfold oneW; split <;> simp [zs16]
theorem lsaOk_one (r t c : Int) (hr : 1 ≤ r ∧ r ≤ 4) (ht : 1 ≤ t ∧ t ≤ 4) (hne : t ≠ r) (hc : 1 ≤ c ∧ c ≤ 65535) : lsaOk ⟨r, 1, 0, [⟨t, c⟩]⟩ = true := by
  simp [lsaOk, linksOk, allFrom, linkOk, lkAt, hr, ht, hne, hc]
theorem lsaOk_none (r : Int) (hr : 1 ≤ r ∧ r ≤ 4) : lsaOk ⟨r, 1, 0, []⟩ = true := by
  simp [lsaOk, linksOk, allFrom, hr]
theorem storeOk_two (x y : La) (hx : lsaOk x = true) (hy : lsaOk y = true) (h : x.f0 < y.f0) (hx2 : x.f2 < 60) (hy2 : y.f2 < 60) : storeOk [x, y] = true := by
  simp [storeOk, updOk, allYoung, allFrom, updAt, young, laAt, hx, hy, h, hx2, hy2]
theorem lsaOk_X (i j : Nat) (c : Int) (hi : i < 4) (hj : j < 4) (hne : i ≠ j) (hc : 1 ≤ c ∧ c ≤ 65535) : lsaOk (oneX i j c) = true := lsaOk_one _ _ _ (by omega) (by omega) (by omega) hc
theorem lsaOk_Y (i j : Nat) (both : Bool) (hi : i < 4) (hj : j < 4) (hne : i ≠ j) : lsaOk (oneY i j both) = true := by
  cases both
  · exact lsaOk_none _ (by omega)
  · exact lsaOk_one _ _ _ (by omega) (by omega) (by omega) (by omega)
theorem storeOk_oneL (i j : Nat) (c : Int) (both : Bool) (hi : i < 4) (hj : j < 4) (hne : i ≠ j) (hc : 1 ≤ c ∧ c ≤ 65535) : storeOk (oneL i j c both) = true := by
  have h1 := lsaOk_X i j c hi hj hne hc
  have h2 := lsaOk_Y i j both hi hj hne
  unfold oneL
  split
  · exact storeOk_two _ _ h2 h1 (by show (j : Int) + 1 < (i : Int) + 1; omega) (show (0 : Int) < 60 by decide) (show (0 : Int) < 60 by decide)
  · exact storeOk_two _ _ h1 h2 (by show (i : Int) + 1 < (j : Int) + 1; omega) (show (0 : Int) < 60 by decide) (show (0 : Int) < 60 by decide)
theorem tellIn_X (i j : Nat) (c : Int) (t : List Int) : tellIn (oneX i j c).f0 (oneX i j c).f3 t (oneX i j c).f3.length = t.set (i * 4 + j) c := by
  show t.set (((i : Int) + 1 - 1).toNat * 4 + ((j : Int) + 1 - 1).toNat) c = _
  rw [show ((i : Int) + 1 - 1).toNat = i by omega, show ((j : Int) + 1 - 1).toNat = j by omega]
theorem tellIn_Y (i j : Nat) (both : Bool) (t : List Int) : tellIn (oneY i j both).f0 (oneY i j both).f3 t (oneY i j both).f3.length = if both = true then t.set (j * 4 + i) 9 else t := by
  cases both
  · rfl
  · show t.set (((j : Int) + 1 - 1).toNat * 4 + ((i : Int) + 1 - 1).toNat) 9 = _
    rw [show ((i : Int) + 1 - 1).toNat = i by omega, show ((j : Int) + 1 - 1).toNat = j by omega]; rfl
theorem one_graph (i j : Nat) (c : Int) (both : Bool) (hi : i < 4) (hj : j < 4) (hne : i ≠ j) (hc : 1 ≤ c ∧ c ≤ 65535) : graphOf (oneL i j c both) = (oneW i j c both, 0) := by
  rw [graphOf, if_pos (storeOk_oneL i j c both hi hj hne hc)]
  congr 1
  have ht : ∀ k, gt (tellAt (oneL i j c both) (oneL i j c both).length) k = if k = i * 4 + j then c else if k = j * 4 + i ∧ both = true then 9 else 0 := by
    intro k
    have hz : gt zs16 k = 0 := gt_zeros 16 k
    unfold oneL
    split
    · show gt (tellIn (oneX i j c).f0 (oneX i j c).f3 (tellIn (oneY i j both).f0 (oneY i j both).f3 zs16 (oneY i j both).f3.length) (oneX i j c).f3.length) k = _
      rw [tellIn_X, tellIn_Y]
      cases both
      · simp only [Bool.false_eq_true, if_false, and_false]
        rw [gt_set _ _ _ _ (by show _ < 16; omega), hz]; simp only [eq_comm]
      · simp only [if_true, and_true]
        rw [gt_set _ _ _ _ (by rw [List.length_set]; show _ < 16; omega), gt_set _ _ _ _ (by show _ < 16; omega), hz]; simp only [eq_comm]
    · show gt (tellIn (oneY i j both).f0 (oneY i j both).f3 (tellIn (oneX i j c).f0 (oneX i j c).f3 zs16 (oneX i j c).f3.length) (oneY i j both).f3.length) k = _
      rw [tellIn_X, tellIn_Y]
      cases both
      · simp only [Bool.false_eq_true, if_false, and_false]
        rw [gt_set _ _ _ _ (by show _ < 16; omega), hz]; simp only [eq_comm]
      · simp only [if_true, and_true]
        rw [gt_set _ _ _ _ (by rw [List.length_set]; show _ < 16; omega), gt_set _ _ _ _ (by show _ < 16; omega), hz]
        by_cases e : i * 4 + j = k
        · rw [if_neg (by omega), if_pos e, if_pos e.symm]
        · rw [if_neg e, if_neg (show ¬ k = i * 4 + j by omega)]; simp only [eq_comm]
  apply gt_ext _ _ (by rw [bothTo_length, oneW_length])
  intro k hk
  rw [bothTo_length] at hk
  rw [gt_bothTo _ _ _ (by omega), ht, ht]
  have hz : gt zs16 k = 0 := gt_zeros 16 k
  unfold oneW
  cases both
  · simp only [Bool.false_eq_true, if_false, and_false]
    rw [hz]
    by_cases e : k = i * 4 + j
    · rw [if_neg]; rw [if_neg (by omega)]; omega
    · rw [if_neg e]; split <;> simp
  · simp only [if_true, and_true]
    rw [gt_set _ _ _ _ (by rw [List.length_set]; show _ < 16; omega), gt_set _ _ _ _ (by show _ < 16; omega), hz]
    by_cases e : k = i * 4 + j
    · have q : k % 4 * 4 + k / 4 = j * 4 + i := by omega
      rw [q, if_neg (show ¬ j * 4 + i = i * 4 + j by omega), if_pos rfl, if_pos ⟨hk, by omega⟩, if_pos e, if_neg (show ¬ j * 4 + i = k by omega), if_pos e.symm]
    · by_cases e2 : k = j * 4 + i
      · have q : k % 4 * 4 + k / 4 = i * 4 + j := by omega
        rw [q, if_pos rfl, if_pos ⟨hk, by omega⟩, if_neg e, if_pos e2, if_pos e2.symm]
      · rw [if_neg (show ¬ k % 4 * 4 + k / 4 = i * 4 + j by omega), if_neg (show ¬ k % 4 * 4 + k / 4 = j * 4 + i by omega), if_neg (by omega), if_neg (fun h => e2 h.symm), if_neg (fun h => e h.symm)]
theorem list16 (l : List Int) (h : l.length = 16) : ∃ x0 x1 x2 x3 x4 x5 x6 x7 x8 x9 xa xb xc xd xe xf, l = [x0, x1, x2, x3, x4, x5, x6, x7, x8, x9, xa, xb, xc, xd, xe, xf] := by
  match l, h with
  | [x0, x1, x2, x3, x4, x5, x6, x7, x8, x9, xa, xb, xc, xd, xe, xf], _ => exact ⟨x0, x1, x2, x3, x4, x5, x6, x7, x8, x9, xa, xb, xc, xd, xe, xf, rfl⟩
end Go.Proofs.Ytjficnndocjodaa.H
