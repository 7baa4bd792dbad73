/- Costs with no link, and with one: what the routes are. Plain Lean. -/
import Derived.Test.YtjficnndocjodaaHTri
namespace Go.Proofs.Ytjficnndocjodaa.H
set_option linter.unusedVariables false
set_option linter.unusedSimpArgs false
set_option linter.unusedSectionVars false

theorem zs16_all (m : Nat) (hm : m < 4) : routesOf zs16 (1 + (m : Int)) = ([], 0) := by
  rcases (by omega : m = 0 ∨ m = 1 ∨ m = 2 ∨ m = 3) with rfl | rfl | rfl | rfl <;> decide +kernel
theorem routesBy_none (skip : Nat → Bool) (cost : Nat → Int) (p : Nat → Nat → Bool) (n : Nat) (h : ∀ k, k < n → skip k = true) : routesBy skip cost p n = [] := by
  induction n with
  | zero => rfl
  | succ n ih => unfold routesBy; rw [if_pos (h n (by omega))]; exact ih (fun k hk => h k (by omega))
theorem routesBy_one (skip : Nat → Bool) (cost : Nat → Int) (p : Nat → Nat → Bool) (n t : Nat) (ht : t < n) (hs : skip t = false) (h : ∀ k, k < n → k ≠ t → skip k = true) : routesBy skip cost p n = [((t : Int) + 1, cost t, firstBy (p t) 4)] := by
  induction n with
  | zero => omega
  | succ n ih =>
    unfold routesBy
    by_cases e : t = n
    · subst e
      rw [if_neg (by rw [hs]; simp), routesBy_none _ _ _ t (fun k hk => h k (by omega) (by omega))]
      rfl
    · rw [if_pos (h n (by omega) (fun h => e h.symm))]
      exact ih (by omega) (fun k hk => h k (by omega))
theorem firstBy_none (p : Nat → Bool) (n : Nat) (h : ∀ k, k < n → p k = false) : firstBy p n = [] := by
  induction n with
  | zero => rfl
  | succ n ih => unfold firstBy; rw [if_neg (by rw [h n (by omega)]; simp)]; exact ih (fun k hk => h k (by omega))
theorem firstBy_one (p : Nat → Bool) (n t : Nat) (ht : t < n) (hs : p t = true) (h : ∀ k, k < n → k ≠ t → p k = false) : firstBy p n = [(t : Int) + 1] := by
  induction n with
  | zero => omega
  | succ n ih =>
    unfold firstBy
    by_cases e : t = n
    · subst e
      rw [if_pos hs, firstBy_none _ t (fun k hk => h k (by omega) (by omega))]
      rfl
    · rw [if_neg (by rw [h n (by omega) (fun h => e h.symm)]; simp)]
      exact ih (by omega) (fun k hk => h k (by omega))

section
variable (i j : Nat) (hi : i < 4) (hj : j < 4) (hij : i ≠ j) (v : Int) (h1 : 1 ≤ v) (h2 : v ≤ 1024) (c : List Int) (hc : c = zs16.set (i * 4 + j) v)
include hi hj hij h1 h2 hc
theorem one_gt (a b : Nat) (ha : a < 4) (hb : b < 4) : gt c (a * 4 + b) = if a = i ∧ b = j then v else 0 := by
  rw [hc, gt_set _ _ _ _ (by rw [zs16, List.length_replicate]; omega)]
  have h0 : gt zs16 (a * 4 + b) = 0 := gt_zeros 16 _
  by_cases e : a = i ∧ b = j
  · rw [if_pos e, if_pos (by omega)]
  · rw [if_neg e, if_neg (by omega), h0]
theorem one_ok : costsOk c = true := by
  rw [costsOk_iff]
  intro a b ha hb
  rw [okAt, one_gt i j hi hj hij v h1 h2 c hc a b ha hb]
  by_cases e : a = i ∧ b = j
  · rw [if_pos e]; simp; omega
  · rw [if_neg e]; simp
theorem one_L (a b : Nat) (ha : a < 4) (hb : b < 4) : L c a b = if a = b then 0 else if a = i ∧ b = j then v else 262144 := by
  unfold L stp
  rw [one_gt i j hi hj hij v h1 h2 c hc a b ha hb]
  split
  · rfl
  · split
    · rw [if_neg (by omega)]
    · simp
theorem one_M (a b : Nat) (ha : a < 4) (hb : b < 4) : (M c a b < 262144 ↔ a = b ∨ a = i ∧ b = j) ∧ (a = b → M c a b = 0) ∧ (a = i ∧ b = j → M c a b = v) := by
  have hok := one_ok i j hi hj hij v h1 h2 c hc
  have hM1 := M_one (c := c) a b ha
  have hLab := one_L i j hi hj hij v h1 h2 c hc a b ha hb
  obtain ⟨x, y, hx, hy, e⟩ := M_at c a b
  have l1 := one_L i j hi hj hij v h1 h2 c hc a x ha hx
  have l2 := one_L i j hi hj hij v h1 h2 c hc x y hx hy
  have l3 := one_L i j hi hj hij v h1 h2 c hc y b hy hb
  have b1 := L_bound hok a x ha hx
  have b2 := L_bound hok x y hx hy
  have b3 := L_bound hok y b hy hb
  by_cases p1 : a = x
  · rw [if_pos p1] at l1
    by_cases p2 : x = y
    · rw [if_pos p2] at l2
      by_cases p3 : y = b
      · rw [if_pos p3] at l3
        rw [if_pos (by omega)] at hLab
        omega
      · rw [if_neg p3] at l3
        rw [if_neg (by omega)] at hLab
        split at l3 <;> split at hLab <;> omega
    · rw [if_neg p2] at l2
      split at l2
      · by_cases p3 : y = b
        · rw [if_pos p3] at l3
          rw [if_neg (by omega), if_pos (by omega)] at hLab
          omega
        · rw [if_neg p3, if_neg (by omega)] at l3
          split at hLab
          · omega
          · split at hLab <;> omega
      · split at hLab
        · omega
        · split at hLab <;> omega
  · rw [if_neg p1] at l1
    split at l1
    · by_cases p2 : x = y
      · rw [if_pos p2] at l2
        by_cases p3 : y = b
        · rw [if_pos p3] at l3
          rw [if_neg (by omega), if_pos (by omega)] at hLab
          omega
        · rw [if_neg p3, if_neg (by omega)] at l3
          split at hLab
          · omega
          · split at hLab <;> omega
      · rw [if_neg p2, if_neg (by omega)] at l2
        split at hLab
        · omega
        · split at hLab <;> omega
    · split at hLab
      · omega
      · split at hLab <;> omega
theorem one_routes (m : Nat) (hm : m < 4) : routesOf c (1 + (m : Int)) = if m = i then ([((j : Int) + 1, v, [(j : Int) + 1])], 0) else ([], 0) := by
  have hok := one_ok i j hi hj hij v h1 h2 c hc
  rw [routesOf, if_pos ⟨hok, by simp [isRouter]; omega⟩, show (1 + (m : Int) - 1).toNat = m by omega]
  have hsk : ∀ t, t < 4 → (pskip (fw c) m t = false ↔ m = i ∧ t = j) := by
    intro t ht
    rw [pskip_M hok m t hm ht, (one_M i j hi hj hij v h1 h2 c hc m t hm ht).1]
    omega
  by_cases e : m = i
  · rw [if_pos e]
    subst e
    rw [routesBy_one _ _ _ 4 j hj ((hsk j hj).2 ⟨rfl, rfl⟩) (fun k hk hkj => by
      cases h : pskip (fw c) m k with
      | true => rfl
      | false => exact absurd ((hsk k hk).1 h).2 hkj)]
    have hp : pcost (fw c) m j = v := by
      rw [pcost, fw_M hok m j hm hj]
      exact (one_M m j hi hj hij v h1 h2 c hc m j hm hj).2.2 ⟨rfl, rfl⟩
    rw [hp, firstBy_one _ 4 j hj ?_ ?_]
    · rw [pfirst, one_gt m j hi hj hij v h1 h2 c hc m j hm hj, if_pos ⟨rfl, rfl⟩, fw_M hok j j hj hj, fw_M hok m j hm hj, (one_M m j hi hj hij v h1 h2 c hc m j hm hj).2.2 ⟨rfl, rfl⟩, (one_M m j hi hj hij v h1 h2 c hc j j hj hj).2.1 rfl]
      simp; omega
    · intro k hk hkj
      rw [pfirst, one_gt m j hi hj hij v h1 h2 c hc m k hm hk, if_neg (by omega)]
      simp
  · rw [if_neg e, routesBy_none _ _ _ 4 (fun k hk => by
      cases h : pskip (fw c) m k with
      | true => rfl
      | false => exact absurd ((hsk k hk).1 h).1 e)]
end
end Go.Proofs.Ytjficnndocjodaa.H
