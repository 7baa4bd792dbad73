/- Routes as lists: what stands where, what a table of the costs holds; with one cost less no route costs more. Plain Lean. -/
import Derived.Test.YtjficnndocjodaaHDist
namespace Go.Proofs.Ytjficnndocjodaa.H
set_option linter.unusedVariables false
set_option linter.unusedSimpArgs false

/-- Entry k of a list of routes. -/
def rAt (l : List (Int × Int × List Int)) (k : Nat) : Int × Int × List Int := l.getD k (0, 0, [])
theorem rAt_left (l : List (Int × Int × List Int)) (t : Int × Int × List Int) (k : Nat) (h : k < l.length) : rAt (l ++ [t]) k = rAt l k := by
  simp [rAt, List.getD_eq_getElem?_getD, List.getElem?_append_left h]
theorem rAt_last (l : List (Int × Int × List Int)) (t : Int × Int × List Int) : rAt (l ++ [t]) l.length = t := by
  simp [rAt, List.getD_eq_getElem?_getD]
/-- Each entry is a router's that is not passed by. -/
theorem rAt_is (skip : Nat → Bool) (cost : Nat → Int) (p : Nat → Nat → Bool) (n k : Nat) (hk : k < (routesBy skip cost p n).length) :
    ∃ t, t < n ∧ skip t = false ∧ rAt (routesBy skip cost p n) k = ((t : Int) + 1, cost t, firstBy (p t) 4) := by
  induction n with
  | zero => simp [routesBy] at hk
  | succ n ih =>
    unfold routesBy at hk ⊢
    split
    · rename_i h; rw [if_pos h] at hk
      obtain ⟨t, ht, hs, e⟩ := ih hk
      exact ⟨t, by omega, hs, e⟩
    · rename_i h; rw [if_neg h] at hk
      rw [List.length_append, List.length_singleton] at hk
      by_cases e : k < (routesBy skip cost p n).length
      · rw [rAt_left _ _ _ e]
        obtain ⟨t, ht, hs, e⟩ := ih e
        exact ⟨t, by omega, hs, e⟩
      · rw [show k = (routesBy skip cost p n).length by omega, rAt_last]
        exact ⟨n, by omega, by simpa using h, rfl⟩
/-- Two lists over the same routers stand side by side. -/
theorem rAt_both (skip : Nat → Bool) (c1 c2 : Nat → Int) (p1 p2 : Nat → Nat → Bool) (n : Nat) :
    (routesBy skip c1 p1 n).length = (routesBy skip c2 p2 n).length ∧ ∀ k, k < (routesBy skip c1 p1 n).length → ∃ t, t < n ∧ skip t = false ∧ (rAt (routesBy skip c1 p1 n) k).1 = (t : Int) + 1 ∧ (rAt (routesBy skip c2 p2 n) k).1 = (t : Int) + 1 ∧ (rAt (routesBy skip c1 p1 n) k).2.1 = c1 t ∧ (rAt (routesBy skip c2 p2 n) k).2.1 = c2 t := by
  induction n with
  | zero => exact ⟨rfl, fun k hk => by simp [routesBy] at hk⟩
  | succ n ih =>
    unfold routesBy
    split
    · refine ⟨ih.1, fun k hk => ?_⟩
      obtain ⟨t, ht, h⟩ := ih.2 k hk
      exact ⟨t, by omega, h⟩
    · rename_i h
      refine ⟨by rw [List.length_append, List.length_append, ih.1]; rfl, fun k hk => ?_⟩
      rw [List.length_append, List.length_singleton] at hk
      by_cases e : k < (routesBy skip c1 p1 n).length
      · rw [rAt_left _ _ _ e, rAt_left _ _ _ (by rw [← ih.1]; exact e)]
        obtain ⟨t, ht, h⟩ := ih.2 k e
        exact ⟨t, by omega, h⟩
      · have e2 : k = (routesBy skip c1 p1 n).length := by omega
        subst e2
        rw [rAt_last, ih.1, rAt_last]
        exact ⟨n, by omega, by simpa using h, rfl, rfl, rfl, rfl⟩

/-! ### the table of costs -/
/-- Behind n routes. -/
def costTo (l : List (Int × Int × List Int)) : Nat → List Int
  | 0 => List.replicate 5 0
  | n + 1 => (costTo l n).set (rAt l n).1.toNat (rAt l n).2.1
theorem costTo_length (l : List (Int × Int × List Int)) (n : Nat) : (costTo l n).length = 5 := by
  induction n with
  | zero => simp [costTo]
  | succ n ih => simp [costTo, ih]
theorem costTo_append (l : List (Int × Int × List Int)) (t : Int × Int × List Int) (n : Nat) (h : n ≤ l.length) : costTo (l ++ [t]) n = costTo l n := by
  induction n with
  | zero => rfl
  | succ n ih => rw [costTo, costTo, ih (by omega), rAt_left _ _ _ (by omega)]
theorem costTo_all (skip : Nat → Bool) (cost : Nat → Int) (p : Nat → Nat → Bool) (n : Nat) (hn : n ≤ 4) (t : Nat) : gt (costTo (routesBy skip cost p n) (routesBy skip cost p n).length) (t + 1) = if t < n ∧ skip t = false then cost t else 0 := by
  induction n with
  | zero =>
    rw [if_neg (by omega)]
    show gt (List.replicate 5 0) (t + 1) = 0
    exact gt_zeros 5 (t + 1)
  | succ n ih =>
    have ih := ih (by omega)
    unfold routesBy
    split
    · rename_i h
      rw [ih]
      by_cases e : t = n
      · subst e; rw [if_neg (by omega), if_neg (by rw [h]; simp)]
      · by_cases e2 : t < n ∧ skip t = false
        · rw [if_pos e2, if_pos ⟨by omega, e2.2⟩]
        · rw [if_neg e2, if_neg (fun h => e2 ⟨by omega, h.2⟩)]
    · rename_i h
      have h : skip n = false := by simpa using h
      rw [List.length_append, List.length_singleton, costTo, rAt_last, costTo_append _ _ _ (Nat.le_refl _)]
      rw [show ((n : Int) + 1).toNat = n + 1 by omega, gt_set _ _ _ _ (by rw [costTo_length]; omega)]
      by_cases e : t = n
      · subst e; rw [if_pos rfl, if_pos ⟨by omega, h⟩]
      · rw [if_neg (by omega), ih]
        by_cases e2 : t < n ∧ skip t = false
        · rw [if_pos e2, if_pos ⟨by omega, e2.2⟩]
        · rw [if_neg e2, if_neg (fun h => e2 ⟨by omega, h.2⟩)]

section
variable {c : List Int} (hok : costsOk c = true)
include hok
theorem M_pos (a b : Nat) (ha : a < 4) (hb : b < 4) (h : a ≠ b) : 1 ≤ M c a b := by
  obtain ⟨x, y, hx, hy, e⟩ := M_at c a b
  have h1 := L_bound hok a x ha hx
  have h2 := L_bound hok x y hx hy
  have h3 := L_bound hok y b hy hb
  by_cases e1 : a = x
  · by_cases e2 : x = y
    · have := h3.2.2.2 (by omega); omega
    · have := h2.2.2.2 e2; omega
  · have := h1.2.2.2 e1; omega
/-- Who is passed by, in the least sums' words. -/
theorem pskip_M (me t : Nat) (hm : me < 4) (ht : t < 4) : pskip (fw c) me t = false ↔ t ≠ me ∧ M c me t < 262144 := by
  simp [pskip, fw_M hok me t hm ht]
/-- No route costs more than a route and a link behind it. -/
theorem tri_ok (me a b : Nat) (hm : me < 4) (ha : a < 4) (hb : b < 4) (hbm : b ≠ me) (hr : a = me ∨ 0 < (if a < 4 ∧ pskip (fw c) me a = false then pcost (fw c) me a else 0)) (hl : 0 < gt c (a * 4 + b)) :
    (if b < 4 ∧ pskip (fw c) me b = false then pcost (fw c) me b else 0) ≠ 0 ∧ (if b < 4 ∧ pskip (fw c) me b = false then pcost (fw c) me b else 0) ≤ (if a < 4 ∧ pskip (fw c) me a = false then pcost (fw c) me a else 0) + gt c (a * 4 + b) := by
  have hL := L_link hok a b ha hb hl
  have hc := costsOk_at hok a b ha hb
  have hst := M_step hok me a b hm ha hb
  have hnear : M c me a < 262144 ∧ (if a < 4 ∧ pskip (fw c) me a = false then pcost (fw c) me a else 0) = M c me a := by
    by_cases e : a = me
    · subst e
      rw [M_self hok a ha, if_neg (by rw [pskip_M hok a a ha ha]; omega)]
      omega
    · rcases hr with hr | hr
      · exact absurd hr e
      · by_cases hp : a < 4 ∧ pskip (fw c) me a = false
        · rw [if_pos hp] at hr ⊢
          exact ⟨((pskip_M hok me a hm ha).1 hp.2).2, fw_M hok me a hm ha⟩
        · rw [if_neg hp] at hr; omega
  have h5 := M_near hok me a hm ha hnear.1
  have hpos := M_pos hok me b hm hb (fun h => hbm h.symm)
  rw [hnear.2, if_pos ⟨hb, (pskip_M hok me b hm hb).2 ⟨hbm, by omega⟩⟩]
  show pcost (fw c) me b ≠ 0 ∧ pcost (fw c) me b ≤ _
  rw [show pcost (fw c) me b = M c me b from fw_M hok me b hm hb]
  omega
end

/-! ### one cost less -/
section
variable {c : List Int} (hok : costsOk c = true) (hl : c.length = 16) (i j : Nat) (hi : i < 4) (hj : j < 4) (hx : 1 < gt c (i * 4 + j))
include hok hl hi hj hx
omit hok hx in
theorem less_gt (a b : Nat) (ha : a < 4) (hb : b < 4) : gt (c.set (i * 4 + j) (gt c (i * 4 + j) - 1)) (a * 4 + b) = if a = i ∧ b = j then gt c (a * 4 + b) - 1 else gt c (a * 4 + b) := by
  rw [gt_set _ _ _ _ (by omega)]
  by_cases e : a = i ∧ b = j
  · rw [if_pos e, if_pos (by omega), e.1, e.2]
  · rw [if_neg e, if_neg (by omega)]
theorem less_ok : costsOk (c.set (i * 4 + j) (gt c (i * 4 + j) - 1)) = true := by
  rw [costsOk_iff]
  intro a b ha hb
  have h := costsOk_at hok a b ha hb
  simp only [okAt, less_gt hl i j hi hj a b ha hb]
  by_cases e : a = i ∧ b = j
  · obtain ⟨rfl, rfl⟩ := e
    simp; omega
  · simp [e]; omega
theorem less_L (a b : Nat) (ha : a < 4) (hb : b < 4) : L (c.set (i * 4 + j) (gt c (i * 4 + j) - 1)) a b = if a = i ∧ b = j then L c a b - 1 else L c a b := by
  have hij := L_link hok i j hi hj (by omega)
  by_cases e : a = i ∧ b = j
  · obtain ⟨rfl, rfl⟩ := e
    have h := less_gt hl a b hi hj a b hi hj
    rw [if_pos ⟨rfl, rfl⟩] at h ⊢
    unfold L stp
    rw [if_neg hij.1, if_neg hij.1, h, if_neg (by omega), if_neg (by omega)]
  · have h := less_gt hl i j hi hj a b ha hb
    rw [if_neg e] at h ⊢
    unfold L
    rw [h]
theorem less_M (a b : Nat) (ha : a < 4) (hb : b < 4) : M (c.set (i * 4 + j) (gt c (i * 4 + j) - 1)) a b ≤ M c a b ∧ M c a b - 1 ≤ M (c.set (i * 4 + j) (gt c (i * 4 + j) - 1)) a b := by
  have hij := L_link hok i j hi hj (by omega)
  constructor
  · obtain ⟨x, y, hx', hy, e⟩ := M_at c a b
    have h := M_le (c.set (i * 4 + j) (gt c (i * 4 + j) - 1)) a b x y hx' hy
    rw [less_L hok hl i j hi hj hx a x ha hx', less_L hok hl i j hi hj hx x y hx' hy, less_L hok hl i j hi hj hx y b hy hb] at h
    split at h <;> split at h <;> split at h <;> omega
  · obtain ⟨x, y, hx', hy, e⟩ := M_at (c.set (i * 4 + j) (gt c (i * 4 + j) - 1)) a b
    rw [less_L hok hl i j hi hj hx a x ha hx', less_L hok hl i j hi hj hx x y hx' hy, less_L hok hl i j hi hj hx y b hy hb] at e
    have h := M_le c a b x y hx' hy
    have b1 := L_bound hok a x ha hx'
    have b2 := L_bound hok x y hx' hy
    have b3 := L_bound hok y b hy hb
    by_cases e1 : a = i ∧ x = j
    · by_cases e3 : y = i ∧ b = j
      · have h1 := M_one (c := c) a b ha
        obtain ⟨rfl, rfl⟩ := e1
        obtain ⟨rfl, rfl⟩ := e3
        rw [if_pos ⟨rfl, rfl⟩, if_neg (by omega)] at e
        omega
      · rw [if_pos e1, if_neg (by omega), if_neg e3] at e
        omega
    · rw [if_neg e1] at e
      by_cases e2 : x = i ∧ y = j
      · rw [if_pos e2, if_neg (by omega)] at e; omega
      · rw [if_neg e2] at e
        split at e <;> omega
theorem less_skip (me t : Nat) (hm : me < 4) (ht : t < 4) : pskip (fw (c.set (i * 4 + j) (gt c (i * 4 + j) - 1))) me t = pskip (fw c) me t := by
  have h := less_M hok hl i j hi hj hx me t hm ht
  have h1 := pskip_M hok me t hm ht
  have h2 := pskip_M (less_ok hok hl i j hi hj hx) me t hm ht
  have h3 : M (c.set (i * 4 + j) (gt c (i * 4 + j) - 1)) me t < 262144 ↔ M c me t < 262144 := by
    constructor
    · intro hlt
      have := M_near (less_ok hok hl i j hi hj hx) me t hm ht hlt
      omega
    · omega
  rw [h3] at h2
  rw [← h1] at h2
  cases e1 : pskip (fw (c.set (i * 4 + j) (gt c (i * 4 + j) - 1))) me t <;> cases e2 : pskip (fw c) me t <;> simp_all
end
theorem routesBy_skip (s1 s2 : Nat → Bool) (cost : Nat → Int) (p : Nat → Nat → Bool) (n : Nat) (h : ∀ k, k < n → s1 k = s2 k) : routesBy s1 cost p n = routesBy s2 cost p n :=
  routesBy_congr _ _ _ _ _ _ n h (fun _ _ _ => rfl) (fun _ _ _ _ _ => rfl)
/-- With one cost less, or none: each route goes to the same router and costs the same, or one less. -/
theorem tri_less (c : List Int) (hok : costsOk c = true) (hl : c.length = 16) (i j me : Nat) (hi : i < 4) (hj : j < 4) (hm : me < 4) (d : List Int) (hd : d = if 1 < gt c (i * 4 + j) then c.set (i * 4 + j) (gt c (i * 4 + j) - 1) else c) :
    costsOk d = true ∧ (routesBy (pskip (fw d) me) (pcost (fw d) me) (pfirst d (fw d) me) 4).length = (routesBy (pskip (fw c) me) (pcost (fw c) me) (pfirst c (fw c) me) 4).length ∧
    ∀ k, k < (routesBy (pskip (fw c) me) (pcost (fw c) me) (pfirst c (fw c) me) 4).length →
      (rAt (routesBy (pskip (fw d) me) (pcost (fw d) me) (pfirst d (fw d) me) 4) k).1 = (rAt (routesBy (pskip (fw c) me) (pcost (fw c) me) (pfirst c (fw c) me) 4) k).1 ∧
      (rAt (routesBy (pskip (fw d) me) (pcost (fw d) me) (pfirst d (fw d) me) 4) k).2.1 ≤ (rAt (routesBy (pskip (fw c) me) (pcost (fw c) me) (pfirst c (fw c) me) 4) k).2.1 ∧
      (rAt (routesBy (pskip (fw c) me) (pcost (fw c) me) (pfirst c (fw c) me) 4) k).2.1 - 1 ≤ (rAt (routesBy (pskip (fw d) me) (pcost (fw d) me) (pfirst d (fw d) me) 4) k).2.1 := by
  by_cases hx : 1 < gt c (i * 4 + j)
  · rw [if_pos hx] at hd
    subst hd
    have hok' := less_ok hok hl i j hi hj hx
    rw [routesBy_skip _ (pskip (fw c) me) _ _ 4 (fun t ht => less_skip hok hl i j hi hj hx me t hm ht)]
    have hb := rAt_both (pskip (fw c) me) (pcost (fw c) me) (pcost (fw (c.set (i * 4 + j) (gt c (i * 4 + j) - 1))) me) (pfirst c (fw c) me) (pfirst (c.set (i * 4 + j) (gt c (i * 4 + j) - 1)) (fw (c.set (i * 4 + j) (gt c (i * 4 + j) - 1))) me) 4
    refine ⟨hok', hb.1.symm, fun k hk => ?_⟩
    obtain ⟨t, ht, _, e1, e2, e3, e4⟩ := hb.2 k hk
    have hM := less_M hok hl i j hi hj hx me t hm ht
    rw [e1, e2, e3, e4]
    unfold pcost
    rw [fw_M hok me t hm ht, fw_M hok' me t hm ht]
    omega
  · rw [if_neg hx] at hd
    subst hd
    exact ⟨hok, rfl, fun k hk => ⟨rfl, Int.le_refl _, by omega⟩⟩
end Go.Proofs.Ytjficnndocjodaa.H
