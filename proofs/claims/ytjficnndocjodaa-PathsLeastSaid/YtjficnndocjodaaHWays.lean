/- The law's own search over all ways of three steps, in plain Lean: what it finds are the least costs and the first routers. -/
import Derived.Test.YtjficnndocjodaaHTri
namespace Go.Proofs.Ytjficnndocjodaa.H
set_option linter.unusedVariables false
set_option linter.unusedSimpArgs false
set_option linter.unusedSectionVars false

/-- Entry k of a list of Booleans. -/
def gb (l : List Bool) (k : Nat) : Bool := l.getD k false
theorem gb_set (l : List Bool) (i j : Nat) (v : Bool) (hi : i < l.length) : gb (l.set i v) j = if j = i then v else gb l j := by
  unfold gb
  rw [List.getD_eq_getElem?_getD, List.getElem?_set]
  by_cases h : i = j
  · subst h; simp [hi]
  · rw [if_neg h, if_neg (fun e => h e.symm), ← List.getD_eq_getElem?_getD]
/-- Row d set to false. -/
def clr (l : List Bool) (d : Nat) : List Bool := (((l.set (d * 4) false).set (d * 4 + 1) false).set (d * 4 + 2) false).set (d * 4 + 3) false
theorem clr_length (l : List Bool) (d : Nat) : (clr l d).length = l.length := by simp [clr]
theorem gb_clr (l : List Bool) (d k : Nat) (hd : d < 4) (hl : l.length = 16) : gb (clr l d) k = if k / 4 = d then false else gb l k := by
  unfold clr
  rw [gb_set _ _ _ _ (by simp; omega), gb_set _ _ _ _ (by simp; omega), gb_set _ _ _ _ (by simp; omega), gb_set _ _ _ _ (by omega)]
  by_cases e : k / 4 = d
  · rw [if_pos e]
    split
    · rfl
    · split
      · rfl
      · split
        · rfl
        · rw [if_pos (by omega)]
  · rw [if_neg e, if_neg (by omega), if_neg (by omega), if_neg (by omega), if_neg (by omega)]
/-- Is the way over a and b to d one of links, the first not standing still? -/
def adm (c : List Int) (f a b d : Nat) : Bool := decide (a ≠ f) && decide (0 < gt c (f * 4 + a)) && (decide (b = a) || decide (0 < gt c (a * 4 + b))) && (decide (d = b) || decide (0 < gt c (b * 4 + d)))
def wsum (c : List Int) (f a b d : Nat) : Int := gt c (f * 4 + a) + (if b = a then 0 else gt c (a * 4 + b)) + (if d = b then 0 else gt c (b * 4 + d))
/-- One way more. -/
def wstep (c : List Int) (f a b d : Nat) (s : List Int × List Bool) : List Int × List Bool :=
  if adm c f a b d = true then
    if gt s.1 d < 0 ∨ wsum c f a b d < gt s.1 d then (s.1.set d (wsum c f a b d), (clr s.2 d).set (d * 4 + a) true)
    else if wsum c f a b d = gt s.1 d then (s.1, s.2.set (d * 4 + a) true) else s
  else s
def waysTo (c : List Int) (f : Nat) : Nat → List Int × List Bool
  | 0 => (List.replicate 4 (-1), List.replicate 16 false)
  | n + 1 => wstep c f (n % 4) (n / 4 % 4) (n / 16) (waysTo c f n)
theorem waysTo_length (c : List Int) (f n : Nat) : (waysTo c f n).1.length = 4 ∧ (waysTo c f n).2.length = 16 := by
  induction n with
  | zero => simp [waysTo]
  | succ n ih =>
    unfold waysTo wstep
    split
    · split
      · simp [ih, clr_length]
      · split <;> simp [ih]
    · exact ih

/-- What holds behind n ways. -/
structure WInv (c : List Int) (f n : Nat) (s : List Int × List Bool) (d : Nat) : Prop where
  low : gt s.1 d = -1 ∨ 0 ≤ gt s.1 d
  none : gt s.1 d < 0 → ∀ k, k < n → k / 16 = d → adm c f (k % 4) (k / 4 % 4) d = false
  least : 0 ≤ gt s.1 d → ∀ k, k < n → k / 16 = d → adm c f (k % 4) (k / 4 % 4) d = true → gt s.1 d ≤ wsum c f (k % 4) (k / 4 % 4) d
  some : 0 ≤ gt s.1 d → ∃ k, k < n ∧ k / 16 = d ∧ adm c f (k % 4) (k / 4 % 4) d = true ∧ wsum c f (k % 4) (k / 4 % 4) d = gt s.1 d
  first : 0 ≤ gt s.1 d → ∀ a, a < 4 → (gb s.2 (d * 4 + a) = true ↔ ∃ k, k < n ∧ k / 16 = d ∧ k % 4 = a ∧ adm c f (k % 4) (k / 4 % 4) d = true ∧ wsum c f (k % 4) (k / 4 % 4) d = gt s.1 d)
section
variable {c : List Int} (hok : costsOk c = true) (f : Nat) (hf : f < 4)
include hok hf
theorem wsum_L (a b d : Nat) (ha : a < 4) (hb : b < 4) (hd : d < 4) (h : adm c f a b d = true) : wsum c f a b d = L c f a + L c a b + L c b d ∧ 0 < gt c (f * 4 + a) ∧ L c f a = gt c (f * 4 + a) ∧ 0 ≤ wsum c f a b d ∧ wsum c f a b d ≤ 196605 := by
  simp only [adm, Bool.and_eq_true, Bool.or_eq_true, decide_eq_true_eq] at h
  obtain ⟨⟨⟨h1, h2⟩, h3⟩, h4⟩ := h
  have e1 := (L_link hok f a hf ha h2).2
  have c1 := costsOk_at hok f a hf ha
  have c2 := costsOk_at hok a b ha hb
  have c3 := costsOk_at hok b d hb hd
  have e2 : L c a b = if b = a then 0 else gt c (a * 4 + b) := by
    split
    · rename_i e; rw [e, L_same]
    · rename_i e; exact (L_link hok a b ha hb (h3.resolve_left e)).2
  have e3 : L c b d = if d = b then 0 else gt c (b * 4 + d) := by
    split
    · rename_i e; rw [e, L_same]
    · rename_i e; exact (L_link hok b d hb hd (h4.resolve_left e)).2
  unfold wsum
  rw [e1, e2, e3]
  refine ⟨rfl, h2, rfl, ?_, ?_⟩ <;> split <;> split <;> omega
theorem wstep_inv (n : Nat) (hn : n < 64) (s : List Int × List Bool) (h1 : s.1.length = 4) (h2 : s.2.length = 16) (h : ∀ d, d < 4 → WInv c f n s d) :
    ∀ d, d < 4 → WInv c f (n + 1) (wstep c f (n % 4) (n / 4 % 4) (n / 16) s) d := by
  intro d hd
  have I := h d hd
  by_cases hnd : n / 16 = d
  · subst hnd
    have hcl := gb_clr s.2 (n / 16)
    unfold wstep
    by_cases ha : adm c f (n % 4) (n / 4 % 4) (n / 16) = true
    · rw [if_pos ha]
      have hW := wsum_L hok f hf (n % 4) (n / 4 % 4) (n / 16) (by omega) (by omega) (by omega) ha
      by_cases hb : gt s.1 (n / 16) < 0 ∨ wsum c f (n % 4) (n / 4 % 4) (n / 16) < gt s.1 (n / 16)
      · rw [if_pos hb]
        have e : gt (s.1.set (n / 16) (wsum c f (n % 4) (n / 4 % 4) (n / 16))) (n / 16) = wsum c f (n % 4) (n / 4 % 4) (n / 16) := by rw [gt_set _ _ _ _ (by omega), if_pos rfl]
        have old : ∀ k, k < n → k / 16 = n / 16 → adm c f (k % 4) (k / 4 % 4) (n / 16) = true → wsum c f (n % 4) (n / 4 % 4) (n / 16) < wsum c f (k % 4) (k / 4 % 4) (n / 16) := by
          intro k hk hkd hka
          rcases hb with hb | hb
          · rw [I.none hb k hk hkd] at hka; cases hka
          · rcases I.low with lo | lo
            · omega
            · have := I.least lo k hk hkd hka; omega
        refine ⟨?_, ?_, ?_, ?_, ?_⟩
        · right; rw [e]; omega
        · intro hlt; rw [e] at hlt; omega
        · intro _ k hk hkd hka
          rw [e]
          by_cases hkn : k = n
          · subst hkn; omega
          · have := old k (by omega) hkd hka; omega
        · intro _; exact ⟨n, by omega, rfl, ha, e.symm⟩
        · intro _ a haa
          show gb ((clr s.2 (n / 16)).set (n / 16 * 4 + n % 4) true) (n / 16 * 4 + a) = true ↔ _
          rw [gb_set _ _ _ _ (by rw [clr_length]; omega), gb_clr _ _ _ hd h2, if_pos (show (n / 16 * 4 + a) / 4 = n / 16 by omega), e]
          constructor
          · intro hx
            by_cases ea : n / 16 * 4 + a = n / 16 * 4 + n % 4
            · exact ⟨n, by omega, rfl, by omega, ha, rfl⟩
            · rw [if_neg ea] at hx; cases hx
          · rintro ⟨k, hk, hkd, hka, hadm, hw⟩
            by_cases hkn : k = n
            · subst hkn; rw [if_pos (by omega)]
            · have := old k (by omega) hkd hadm; omega
      · rw [if_neg hb]
        have lo : 0 ≤ gt s.1 (n / 16) := by omega
        by_cases hc : wsum c f (n % 4) (n / 4 % 4) (n / 16) = gt s.1 (n / 16)
        · rw [if_pos hc]
          refine ⟨.inr lo, fun hlt => by simp only at hlt; omega, ?_, ?_, ?_⟩
          · intro _ k hk hkd hka
            by_cases hkn : k = n
            · subst hkn; simp only; omega
            · exact I.least lo k (by omega) hkd hka
          · intro _; exact ⟨n, by omega, rfl, ha, hc⟩
          · intro _ a haa
            show gb (s.2.set (n / 16 * 4 + n % 4) true) (n / 16 * 4 + a) = true ↔ _
            rw [gb_set _ _ _ _ (by omega)]
            by_cases ea : n / 16 * 4 + a = n / 16 * 4 + n % 4
            · rw [if_pos ea]
              exact ⟨fun _ => ⟨n, by omega, rfl, by omega, ha, hc⟩, fun _ => rfl⟩
            · rw [if_neg ea, I.first lo a haa]
              constructor
              · rintro ⟨k, hk, r⟩; exact ⟨k, by omega, r⟩
              · rintro ⟨k, hk, r1, r2, r⟩
                by_cases hkn : k = n
                · subst hkn; omega
                · exact ⟨k, by omega, r1, r2, r⟩
        · rw [if_neg hc]
          refine ⟨.inr lo, fun hlt => by omega, ?_, ?_, ?_⟩
          · intro _ k hk hkd hka
            by_cases hkn : k = n
            · subst hkn; omega
            · exact I.least lo k (by omega) hkd hka
          · intro _; obtain ⟨k, hk, r⟩ := I.some lo; exact ⟨k, by omega, r⟩
          · intro _ a haa
            rw [I.first lo a haa]
            constructor
            · rintro ⟨k, hk, r⟩; exact ⟨k, by omega, r⟩
            · rintro ⟨k, hk, r1, r2, r3, r4⟩
              by_cases hkn : k = n
              · subst hkn; exact absurd r4 hc
              · exact ⟨k, by omega, r1, r2, r3, r4⟩
    · rw [if_neg ha]
      have ha : adm c f (n % 4) (n / 4 % 4) (n / 16) = false := by simpa using ha
      refine ⟨I.low, ?_, ?_, ?_, ?_⟩
      · intro hlt k hk hkd
        by_cases hkn : k = n
        · subst hkn; exact ha
        · exact I.none hlt k (by omega) hkd
      · intro lo k hk hkd hka
        by_cases hkn : k = n
        · subst hkn; rw [ha] at hka; cases hka
        · exact I.least lo k (by omega) hkd hka
      · intro lo; obtain ⟨k, hk, r⟩ := I.some lo; exact ⟨k, by omega, r⟩
      · intro lo a haa
        rw [I.first lo a haa]
        constructor
        · rintro ⟨k, hk, r⟩; exact ⟨k, by omega, r⟩
        · rintro ⟨k, hk, r1, r2, r3, r4⟩
          by_cases hkn : k = n
          · subst hkn; rw [ha] at r3; cases r3
          · exact ⟨k, by omega, r1, r2, r3, r4⟩
  · have e1 : gt (wstep c f (n % 4) (n / 4 % 4) (n / 16) s).1 d = gt s.1 d := by
      unfold wstep
      split
      · split
        · show gt (s.1.set _ _) d = _
          rw [gt_set _ _ _ _ (by omega), if_neg (by omega)]
        · split <;> rfl
      · rfl
    have e2 : ∀ a, a < 4 → gb (wstep c f (n % 4) (n / 4 % 4) (n / 16) s).2 (d * 4 + a) = gb s.2 (d * 4 + a) := by
      intro a ha
      unfold wstep
      split
      · split
        · show gb ((clr s.2 _).set _ _) _ = _
          rw [gb_set _ _ _ _ (by rw [clr_length]; omega), if_neg (by omega), gb_clr _ _ _ (by omega) h2, if_neg (by omega)]
        · split
          · show gb (s.2.set _ _) _ = _
            rw [gb_set _ _ _ _ (by omega), if_neg (by omega)]
          · rfl
      · rfl
    have back : ∀ k, k < n + 1 → k / 16 = d → k < n := by
      intro k hk hkd
      by_cases hkn : k = n
      · subst hkn; exact absurd hkd hnd
      · omega
    refine ⟨by rw [e1]; exact I.low, ?_, ?_, ?_, ?_⟩
    · intro hlt k hk hkd; rw [e1] at hlt; exact I.none hlt k (back k hk hkd) hkd
    · intro lo k hk hkd hka; rw [e1] at lo ⊢; exact I.least lo k (back k hk hkd) hkd hka
    · intro lo; rw [e1] at lo ⊢; obtain ⟨k, hk, r⟩ := I.some lo; exact ⟨k, by omega, r⟩
    · intro lo a haa
      rw [e1] at lo
      rw [e2 a haa, e1, I.first lo a haa]
      constructor
      · rintro ⟨k, hk, r⟩; exact ⟨k, by omega, r⟩
      · rintro ⟨k, hk, r1, r⟩; exact ⟨k, back k hk r1, r1, r⟩
theorem ways_inv (n : Nat) (hn : n ≤ 64) : ∀ d, d < 4 → WInv c f n (waysTo c f n) d := by
  induction n with
  | zero =>
    intro d hd
    have e : gt (waysTo c f 0).1 d = -1 := by
      rcases (by omega : d = 0 ∨ d = 1 ∨ d = 2 ∨ d = 3) with rfl | rfl | rfl | rfl <;> rfl
    exact ⟨.inl e, fun _ k hk => by omega, fun lo => by omega, fun lo => by omega, fun lo => by omega⟩
  | succ n ih =>
    have hl := waysTo_length c f n
    exact wstep_inv hok f hf n (by omega) _ hl.1 hl.2 (ih (by omega))
/-- A way of two steps where three would pass by the start. -/
theorem two_steps (a d : Nat) (ha : a < 4) (hd : d < 4) (hfd : f ≠ d) (hca : 0 < gt c (f * 4 + a)) (e : gt c (f * 4 + a) + M c a d = M c f d) (hn : M c f d < 262144) :
    ∃ b, b < 4 ∧ L c a b + L c b d = M c a d ∧ L c a b ≤ 65535 ∧ L c b d ≤ 65535 := by
  obtain ⟨hfa, hLfa⟩ := L_link hok f a hf ha hca
  obtain ⟨hm, x, y, hx, hy, ex, l1, l2, l3⟩ := M_near hok a d ha hd (by omega)
  by_cases p1 : a = x
  · subst p1; rw [L_same] at ex; exact ⟨y, hy, by omega, l2, l3⟩
  by_cases p2 : x = y
  · subst p2; rw [L_same] at ex; exact ⟨x, hx, by omega, l1, l3⟩
  by_cases p3 : y = d
  · subst p3; rw [L_same] at ex; exact ⟨x, hx, by omega, l1, l2⟩
  exfalso
  have b1 := L_bound hok a x ha hx
  have b2 := L_bound hok x y hx hy
  have b3 := L_bound hok y d hy hd
  have g1 := b1.2.2.2 p1
  have g2 := b2.2.2.2 p2
  have g3 := b3.2.2.2 p3
  by_cases q1 : x = f
  · subst q1
    have := M_two (c := c) x y d hx hy
    omega
  by_cases q2 : y = f
  · subst q2
    have := M_one (c := c) y d hy
    omega
  by_cases q3 : a = y
  · subst q3
    have := M_one (c := c) a d ha
    omega
  by_cases q4 : x = d
  · subst q4
    have := M_one (c := c) a x ha
    omega
  by_cases q5 : a = d
  · subst q5
    have := M_self hok a ha
    omega
  omega
/-- A way of three steps, none of them longer than a link. -/
theorem three_steps (d : Nat) (hd : d < 4) (hfd : f ≠ d) (hn : M c f d < 262144) : ∃ a b, a < 4 ∧ b < 4 ∧ adm c f a b d = true ∧ L c f a + L c a b + L c b d = M c f d := by
  obtain ⟨hm, x, y, hx, hy, ex, l1, l2, l3⟩ := M_near hok f d hf hd hn
  have step : ∀ a b, a < 4 → b < 4 → L c a b ≤ 65535 → b = a ∨ 0 < gt c (a * 4 + b) := by
    intro a b ha hb h
    rcases L_near hok a b ha hb (by omega) with h | h
    · left; exact h.symm
    · right; exact h.1
  have mk : ∀ a b, a < 4 → b < 4 → f ≠ a → L c f a ≤ 65535 → L c a b ≤ 65535 → L c b d ≤ 65535 → adm c f a b d = true := by
    intro a b ha hb hfa h1 h2 h3
    have s1 := (step f a hf ha h1).resolve_left (fun e => hfa e.symm)
    have s2 := step a b ha hb h2
    have s3 := step b d hb hd h3
    simp only [adm, Bool.and_eq_true, Bool.or_eq_true, decide_eq_true_eq]
    exact ⟨⟨⟨fun e => hfa e.symm, s1⟩, s2⟩, s3⟩
  by_cases p1 : f = x
  · subst p1
    rw [L_same] at ex
    by_cases p2 : f = y
    · subst p2
      rw [L_same] at ex
      exact ⟨d, d, hd, hd, mk d d hd hd hfd l3 (by rw [L_same]; omega) (by rw [L_same]; omega), by rw [L_same]; omega⟩
    · exact ⟨y, y, hy, hy, mk y y hy hy p2 l2 (by rw [L_same]; omega) l3, by rw [L_same]; omega⟩
  · exact ⟨x, y, hx, hy, mk x y hx hy p1 l1 l2 l3, ex.symm⟩
/-- What the search finds, in the least costs' words. -/
theorem ways_are (d : Nat) (hd : d < 4) (hfd : f ≠ d) :
    (262144 ≤ M c f d → gt (waysTo c f 64).1 d < 0) ∧
    (M c f d < 262144 → gt (waysTo c f 64).1 d = M c f d ∧ 0 ≤ M c f d ∧ (∀ a, a < 4 → gb (waysTo c f 64).2 (d * 4 + a) = pfirst c (fw c) f d a) ∧ ∃ a, a < 4 ∧ pfirst c (fw c) f d a = true) := by
  have I := ways_inv hok f hf 64 (by omega) d hd
  have hM0 := M_nonneg hok f d hf hd
  have key : ∀ a b, a < 4 → b < 4 → adm c f a b d = true → ∃ k, k < 64 ∧ k / 16 = d ∧ k % 4 = a ∧ k / 4 % 4 = b := fun a b ha hb _ => ⟨d * 16 + b * 4 + a, by omega, by omega, by omega, by omega⟩
  have low : 0 ≤ gt (waysTo c f 64).1 d → M c f d ≤ gt (waysTo c f 64).1 d ∧ M c f d < 262144 := by
    intro lo
    obtain ⟨k, hk, hkd, hka, hw⟩ := I.some lo
    have hW := wsum_L hok f hf (k % 4) (k / 4 % 4) d (by omega) (by omega) hd hka
    have := M_le c f d (k % 4) (k / 4 % 4) (by omega) (by omega)
    omega
  refine ⟨fun h => ?_, fun h => ?_⟩
  · by_cases lo : 0 ≤ gt (waysTo c f 64).1 d
    · have := low lo; omega
    · omega
  · obtain ⟨a0, b0, ha0, hb0, hadm0, e0⟩ := three_steps hok f hf d hd hfd h
    obtain ⟨k0, hk0, r1, r2, r3⟩ := key a0 b0 ha0 hb0 hadm0
    have hW0 := wsum_L hok f hf a0 b0 d ha0 hb0 hd hadm0
    have lo : 0 ≤ gt (waysTo c f 64).1 d := by
      by_cases lo : 0 ≤ gt (waysTo c f 64).1 d
      · exact lo
      · have := I.none (by omega) k0 hk0 r1
        rw [r2, r3, hadm0] at this
        cases this
    have hle := I.least lo k0 hk0 r1 (by rw [r2, r3]; exact hadm0)
    rw [r2, r3] at hle
    have hlo := low lo
    have eb : gt (waysTo c f 64).1 d = M c f d := by omega
    have fst : ∀ a, a < 4 → (gb (waysTo c f 64).2 (d * 4 + a) = true ↔ pfirst c (fw c) f d a = true) := by
      intro a ha
      rw [I.first lo a ha, eb]
      unfold pfirst
      rw [fw_M hok a d ha hd, fw_M hok f d hf hd]
      simp only [Bool.and_eq_true, decide_eq_true_eq]
      constructor
      · rintro ⟨k, hk, s1, s2, s3, s4⟩
        rw [s2] at s3 s4
        have hW := wsum_L hok f hf a (k / 4 % 4) d ha (by omega) hd s3
        have h1 := M_two (c := c) a (k / 4 % 4) d ha (by omega)
        have h2 := M_step' hok f a d hf ha hd
        exact ⟨hW.2.1, by omega⟩
      · rintro ⟨s1, s2⟩
        obtain ⟨b, hb, eb', l1, l2⟩ := two_steps hok f hf a d ha hd hfd s1 s2 h
        obtain ⟨hfa, hLfa⟩ := L_link hok f a hf ha s1
        have hadm : adm c f a b d = true := by
          simp only [adm, Bool.and_eq_true, Bool.or_eq_true, decide_eq_true_eq]
          refine ⟨⟨⟨fun e => hfa e.symm, s1⟩, ?_⟩, ?_⟩
          · rcases L_near hok a b ha hb (by omega) with h | h
            · left; exact h.symm
            · right; exact h.1
          · rcases L_near hok b d hb hd (by omega) with h | h
            · left; exact h.symm
            · right; exact h.1
        obtain ⟨k, hk, t1, t2, t3⟩ := key a b ha hb hadm
        have hW := wsum_L hok f hf a b d ha hb hd hadm
        exact ⟨k, hk, t1, t2, by rw [t2, t3]; exact hadm, by rw [t2, t3]; omega⟩
    refine ⟨eb, hM0, fun a ha => ?_, a0, ha0, ?_⟩
    · have := fst a ha
      cases e1 : gb (waysTo c f 64).2 (d * 4 + a) <;> cases e2 : pfirst c (fw c) f d a <;> simp_all
    · rw [← fst a0 ha0, I.first lo a0 ha0]
      exact ⟨k0, hk0, r1, r2, by rw [r2, r3]; exact hadm0, by rw [r2, r3]; omega⟩
end
end Go.Proofs.Ytjficnndocjodaa.H
