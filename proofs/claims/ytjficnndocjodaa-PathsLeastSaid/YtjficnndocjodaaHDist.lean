/- The least costs of ways of at most three links, as both programs reckon them: for all costs that may be. Plain Lean, no program in sight. -/
import Derived.Test.YtjficnndocjodaaHList
namespace Go.Proofs.Ytjficnndocjodaa.H
set_option linter.unusedVariables false
set_option linter.unusedSimpArgs false

/-- What a step costs: nothing where one stands, far where no link is. -/
def L (c : List Int) (a b : Nat) : Int := if a = b then 0 else stp (gt c (a * 4 + b))
/-- The least of f 0 .. f n. -/
def leastUp (f : Nat → Int) : Nat → Int
  | 0 => f 0
  | n + 1 => lesser (leastUp f n) (f (n + 1))
theorem lesser_le (a b : Int) : lesser a b ≤ a ∧ lesser a b ≤ b ∧ (lesser a b = a ∨ lesser a b = b) := by
  unfold lesser; split <;> omega
theorem leastUp_le (f : Nat → Int) (n k : Nat) (h : k ≤ n) : leastUp f n ≤ f k := by
  induction n with
  | zero => rw [show k = 0 by omega]; exact Int.le_refl _
  | succ n ih =>
    have := lesser_le (leastUp f n) (f (n + 1))
    unfold leastUp
    by_cases e : k = n + 1
    · rw [e]; omega
    · have := ih (by omega); omega
theorem leastUp_at (f : Nat → Int) (n : Nat) : ∃ k, k ≤ n ∧ leastUp f n = f k := by
  induction n with
  | zero => exact ⟨0, by omega, rfl⟩
  | succ n ih =>
    obtain ⟨k, hk, e⟩ := ih
    have := lesser_le (leastUp f n) (f (n + 1))
    unfold leastUp
    rcases this.2.2 with h | h
    · exact ⟨k, by omega, by omega⟩
    · exact ⟨n + 1, by omega, h⟩
/-- The least sum of a way of three steps. -/
def M (c : List Int) (a b : Nat) : Int := leastUp (fun t => L c a (t / 4) + L c (t / 4) (t % 4) + L c (t % 4) b) 15
theorem M_le (c : List Int) (a b x y : Nat) (hx : x < 4) (hy : y < 4) : M c a b ≤ L c a x + L c x y + L c y b := by
  have := leastUp_le (fun t => L c a (t / 4) + L c (t / 4) (t % 4) + L c (t % 4) b) 15 (x * 4 + y) (by omega)
  simp only [show (x * 4 + y) / 4 = x by omega, show (x * 4 + y) % 4 = y by omega] at this
  exact this
theorem M_at (c : List Int) (a b : Nat) : ∃ x y, x < 4 ∧ y < 4 ∧ M c a b = L c a x + L c x y + L c y b := by
  obtain ⟨k, hk, e⟩ := leastUp_at (fun t => L c a (t / 4) + L c (t / 4) (t % 4) + L c (t % 4) b) 15
  exact ⟨k / 4, k % 4, by omega, by omega, e⟩
section
variable {c : List Int} (hok : costsOk c = true)
include hok
theorem L_bound (a b : Nat) (ha : a < 4) (hb : b < 4) : 0 ≤ L c a b ∧ L c a b ≤ 262144 ∧ (L c a b < 262144 → L c a b ≤ 65535) ∧ (a ≠ b → 1 ≤ L c a b) := by
  have := costsOk_at hok a b ha hb
  unfold L stp
  split
  · omega
  · split <;> omega
omit hok in
theorem L_same (a : Nat) : L c a a = 0 := by simp [L]
theorem L_link (a b : Nat) (ha : a < 4) (hb : b < 4) (h : 0 < gt c (a * 4 + b)) : a ≠ b ∧ L c a b = gt c (a * 4 + b) := by
  have := costsOk_at hok a b ha hb
  have hne : a ≠ b := fun e => by have := this.2.2 e; omega
  refine ⟨hne, ?_⟩
  unfold L stp
  rw [if_neg hne, if_neg (by omega)]
theorem L_near (a b : Nat) (ha : a < 4) (hb : b < 4) (h : L c a b < 262144) : a = b ∨ 0 < gt c (a * 4 + b) ∧ L c a b = gt c (a * 4 + b) := by
  have := costsOk_at hok a b ha hb
  by_cases e : a = b
  · exact .inl e
  · right
    unfold L stp at h ⊢
    rw [if_neg e] at h ⊢
    split at h
    · omega
    · rename_i h0; rw [if_neg h0]; omega
theorem M_nonneg (a b : Nat) (ha : a < 4) (hb : b < 4) : 0 ≤ M c a b := by
  obtain ⟨x, y, hx, hy, e⟩ := M_at c a b
  have h1 := L_bound hok a x ha hx
  have h2 := L_bound hok x y hx hy
  have h3 := L_bound hok y b hy hb
  omega
theorem M_self (a : Nat) (ha : a < 4) : M c a a = 0 := by
  have h1 := M_le c a a a a ha ha
  have h2 := M_nonneg hok a a ha ha
  rw [L_same] at h1
  omega
omit hok in
theorem M_one (a b : Nat) (ha : a < 4) : M c a b ≤ L c a b := by
  have h1 := M_le c a b a a ha ha
  rw [L_same] at h1
  omega
omit hok in
theorem M_two (a x b : Nat) (ha : a < 4) (hx : x < 4) : M c a b ≤ L c a x + L c x b := by
  have h1 := M_le c a b a x ha hx
  rw [L_same] at h1
  omega
/-- Four steps are no better than three: five places of four, so one comes twice. -/
theorem M_four (a x y z b : Nat) (ha : a < 4) (hx : x < 4) (hy : y < 4) (hz : z < 4) (hb : b < 4) : M c a b ≤ L c a x + L c x y + L c y z + L c z b := by
  have l1 := L_bound hok a x ha hx
  have l2 := L_bound hok x y hx hy
  have l3 := L_bound hok y z hy hz
  have l4 := L_bound hok z b hz hb
  by_cases e1 : a = x
  · subst e1; have := M_le c a b y z hy hz; have := L_same (c := c) a; omega
  by_cases e2 : x = y
  · subst e2; have := M_le c a b x z hx hz; omega
  by_cases e3 : y = z
  · subst e3; have := M_le c a b x y hx hy; omega
  by_cases e4 : z = b
  · subst e4; have := M_le c a z x y hx hy; omega
  by_cases e5 : a = y
  · subst e5; have := M_two (c := c) a z b ha hz; omega
  by_cases e6 : a = z
  · subst e6; have := M_one (c := c) a b ha; omega
  by_cases e7 : x = z
  · subst e7; have := M_two (c := c) a x b ha hx; omega
  by_cases e8 : b = a
  · subst e8; have := M_self hok b hb; omega
  by_cases e9 : b = x
  · subst e9; have := M_one (c := c) a b ha; omega
  by_cases e10 : b = y
  · subst e10; have := M_two (c := c) a x b ha hx; omega
  · omega
theorem M_step (a i b : Nat) (ha : a < 4) (hi : i < 4) (hb : b < 4) : M c a b ≤ M c a i + L c i b := by
  obtain ⟨x, y, hx, hy, e⟩ := M_at c a i
  have := M_four hok a x y i b ha hx hy hi hb
  omega
theorem M_step' (a i b : Nat) (ha : a < 4) (hi : i < 4) (hb : b < 4) : M c a b ≤ L c a i + M c i b := by
  obtain ⟨x, y, hx, hy, e⟩ := M_at c i b
  have := M_four hok a i x y b ha hi hx hy hb
  omega
theorem M_tri (a i b : Nat) (ha : a < 4) (hi : i < 4) (hb : b < 4) : M c a b ≤ M c a i + M c i b := by
  obtain ⟨x, y, hx, hy, e⟩ := M_at c i b
  have h1 := M_step hok a i x ha hi hx
  have h2 := M_step hok a x y ha hx hy
  have h3 := M_step hok a y b ha hy hb
  omega
theorem M_near (a b : Nat) (ha : a < 4) (hb : b < 4) (h : M c a b < 262144) : M c a b ≤ 196605 ∧ ∃ x y, x < 4 ∧ y < 4 ∧ M c a b = L c a x + L c x y + L c y b ∧ L c a x ≤ 65535 ∧ L c x y ≤ 65535 ∧ L c y b ≤ 65535 := by
  obtain ⟨x, y, hx, hy, e⟩ := M_at c a b
  have l1 := L_bound hok a x ha hx
  have l2 := L_bound hok x y hx hy
  have l3 := L_bound hok y b hy hb
  exact ⟨by omega, x, y, hx, hy, e, by omega, by omega, by omega⟩

/-! ### the program's sums -/
omit hok in
theorem gt_initTo (n k : Nat) (hk : k < n) (hn : n ≤ 16) : gt (initTo c n) k = if k / 4 = k % 4 then 0 else stp (gt c k) := by
  induction n with
  | zero => omega
  | succ n ih =>
    have hz : ∀ m, m ≤ n → ∀ j, m ≤ j → gt (initTo c m) j = 0 := by
      intro m
      induction m with
      | zero => intro _ j _; rw [initTo, gt_zeros]
      | succ m ihm =>
        intro hm j hj
        unfold initTo
        split
        · exact ihm (by omega) j (by omega)
        · rw [gt_set _ _ _ _ (by rw [initTo_length]; omega), if_neg (by omega)]; exact ihm (by omega) j (by omega)
    unfold initTo
    by_cases e : k = n
    · subst e
      split
      · exact hz k (by omega) k (by omega)
      · rw [gt_set _ _ _ _ (by rw [initTo_length]; omega), if_pos rfl]
    · split
      · exact ih (by omega) (by omega)
      · rw [gt_set _ _ _ _ (by rw [initTo_length]; omega), if_neg (by omega)]; exact ih (by omega) (by omega)
omit hok in
/-- Place a, b behind n steps. -/
def S (c : List Int) (n a b : Nat) : Int := gt (fwTo c n) (a * 4 + b)
omit hok in
theorem S_zero (a b : Nat) (ha : a < 4) (hb : b < 4) : S c 0 a b = L c a b := by
  unfold S fwTo
  rw [gt_initTo 16 (a * 4 + b) (by omega) (by omega), show (a * 4 + b) / 4 = a by omega, show (a * 4 + b) % 4 = b by omega]
  rfl
omit hok in
theorem S_step (o a b a' b' : Nat) (ha : a < 4) (hb : b < 4) (hb' : b' < 4) :
    S c (o * 16 + a * 4 + b + 1) a' b' = if a' = a ∧ b' = b then lesser (S c (o * 16 + a * 4 + b) a b) (S c (o * 16 + a * 4 + b) a o + S c (o * 16 + a * 4 + b) o b) else S c (o * 16 + a * 4 + b) a' b' := by
  unfold S
  rw [fwTo_step c o a b ha hb, relax, gt_set _ _ _ _ (by rw [fwTo_length]; omega)]
  by_cases e : a' = a ∧ b' = b
  · rw [if_pos (by omega), if_pos e]
  · rw [if_neg (by omega), if_neg e]
omit hok in
theorem S_down1 (n a b : Nat) (hb : b < 4) : S c (n + 1) a b ≤ S c n a b := by
  have h := S_step (c := c) (n / 16) (n / 4 % 4) (n % 4) a b (by omega) (by omega) hb
  rw [show n / 16 * 16 + n / 4 % 4 * 4 + n % 4 = n by omega] at h
  rw [h]
  split
  · rename_i e
    obtain ⟨rfl, rfl⟩ := e
    exact (lesser_le _ _).1
  · exact Int.le_refl _
omit hok in
theorem S_down (n m a b : Nat) (hb : b < 4) (h : n ≤ m) : S c m a b ≤ S c n a b := by
  induction m with
  | zero => rw [show n = 0 by omega]; exact Int.le_refl _
  | succ m ih =>
    by_cases e : n = m + 1
    · rw [e]; exact Int.le_refl _
    · have := ih (by omega); have := S_down1 (c := c) m a b hb; omega
omit hok in
theorem S_round (o a b : Nat) (ho : o < 4) (ha : a < 4) (hb : b < 4) : S c ((o + 1) * 16) a b ≤ S c (o * 16) a o + S c (o * 16) o b := by
  have h1 := S_down (c := c) (o * 16 + a * 4 + b + 1) ((o + 1) * 16) a b hb (by omega)
  have h2 := S_step (c := c) o a b a b ha hb hb
  rw [if_pos ⟨rfl, rfl⟩] at h2
  have h3 := lesser_le (S c (o * 16 + a * 4 + b) a b) (S c (o * 16 + a * 4 + b) a o + S c (o * 16 + a * 4 + b) o b)
  have h4 := S_down (c := c) (o * 16) (o * 16 + a * 4 + b) a o ho (by omega)
  have h5 := S_down (c := c) (o * 16) (o * 16 + a * 4 + b) o b hb (by omega)
  omega
theorem S_low (n a b : Nat) (ha : a < 4) (hb : b < 4) (hn : n ≤ 64) : M c a b ≤ S c n a b := by
  induction n generalizing a b with
  | zero => rw [S_zero a b ha hb]; exact M_one a b ha
  | succ n ih =>
    have h := S_step (c := c) (n / 16) (n / 4 % 4) (n % 4) a b (by omega) (by omega) hb
    rw [show n / 16 * 16 + n / 4 % 4 * 4 + n % 4 = n by omega] at h
    rw [h]
    split
    · rename_i e
      obtain ⟨rfl, rfl⟩ := e
      have h1 := ih (n / 4 % 4) (n % 4) (by omega) (by omega) (by omega)
      have h2 := ih (n / 4 % 4) (n / 16) (by omega) (by omega) (by omega)
      have h3 := ih (n / 16) (n % 4) (by omega) (by omega) (by omega)
      have h4 := M_tri hok (n / 4 % 4) (n / 16) (n % 4) (by omega) (by omega) (by omega)
      have h5 := lesser_le (S c n (n / 4 % 4) (n % 4)) (S c n (n / 4 % 4) (n / 16) + S c n (n / 16) (n % 4))
      omega
    · exact ih a b ha hb (by omega)
omit hok in
theorem S_high (o : Nat) (ho : o ≤ 4) : ∀ a b, a < 4 → b < 4 → S c (o * 16) a b ≤ L c a b ∧ (∀ x, x < o → S c (o * 16) a b ≤ L c a x + L c x b) ∧ ∀ x y, x < o → y < o → S c (o * 16) a b ≤ L c a x + L c x y + L c y b := by
  induction o with
  | zero =>
    intro a b ha hb
    rw [Nat.zero_mul, S_zero a b ha hb]
    exact ⟨Int.le_refl _, fun x h => by omega, fun x y h => by omega⟩
  | succ o ih =>
    intro a b ha hb
    have ih := ih (by omega)
    have hd := S_down (c := c) (o * 16) ((o + 1) * 16) a b hb (by omega)
    have hr := S_round (c := c) o a b (by omega) ha hb
    have i0 := ih a b ha hb
    have i1 := ih a o ha (by omega)
    have i2 := ih o b (by omega) hb
    refine ⟨by omega, fun x hx => ?_, fun x y hx hy => ?_⟩
    · by_cases e : x = o
      · subst e; omega
      · have := i0.2.1 x (by omega); omega
    · by_cases e : x = o
      · subst e
        by_cases e2 : y = x
        · subst e2
          have := L_same (c := c) y
          omega
        · have := i2.2.1 y (by omega); omega
      · by_cases e2 : y = o
        · subst e2
          have := i1.2.1 x (by omega); omega
        · have := i0.2.2 x y (by omega) (by omega); omega
/-- The program's sums are the least sums. -/
theorem fw_M (a b : Nat) (ha : a < 4) (hb : b < 4) : gt (fw c) (a * 4 + b) = M c a b := by
  have h1 := S_low hok 64 a b ha hb (by omega)
  obtain ⟨x, y, hx, hy, e⟩ := M_at c a b
  have h2 := (S_high (c := c) 4 (by omega) a b ha hb).2.2 x y hx hy
  show S c 64 a b = _
  have : S c (4 * 16) a b = S c 64 a b := rfl
  omega

/-! ### the reference's least costs -/
omit hok in
def D (c : List Int) (f n j : Nat) : Int := gt (leastTo c f n) j
omit hok in
theorem D_step (f r i j j' : Nat) (hi : i < 4) (hj : j < 4) :
    D c f (r * 16 + i * 4 + j + 1) j' = if lless c (leastTo c f (r * 16 + i * 4 + j)) i j = true ∧ j' = j then D c f (r * 16 + i * 4 + j) i + gt c (i * 4 + j) else D c f (r * 16 + i * 4 + j) j' := by
  unfold D
  rw [leastTo_step c f r i j hi hj, lstep]
  by_cases h : lless c (leastTo c f (r * 16 + i * 4 + j)) i j = true
  · rw [if_pos h, gt_set _ _ _ _ (by rw [leastTo_length]; omega)]
    by_cases e : j' = j
    · rw [if_pos e.symm, if_pos ⟨h, e⟩]
    · rw [if_neg (fun e' => e e'.symm), if_neg (fun e' => e e'.2)]
  · rw [if_neg h, if_neg (fun e' => h e'.1)]
omit hok in
theorem D_zero (f j : Nat) (hf : f < 4) (hj : j < 4) : D c f 0 j = if j = f then 0 else -1 := by
  unfold D leastTo least0
  rw [gt_set _ _ _ _ (by simpa using hf)]
  by_cases e : f = j
  · rw [if_pos e, if_pos e.symm]
  · rw [if_neg e, if_neg (fun h => e h.symm)]
    rcases (by omega : j = 0 ∨ j = 1 ∨ j = 2 ∨ j = 3) with rfl | rfl | rfl | rfl <;> rfl
theorem D_low (f : Nat) (hf : f < 4) (n j : Nat) (hj : j < 4) (h : 0 ≤ D c f n j) : M c f j ≤ D c f n j ∧ M c f j < 262144 := by
  induction n generalizing j with
  | zero =>
    rw [D_zero f j hf hj] at h ⊢
    split at h
    · rename_i e; subst e; rw [if_pos rfl, M_self hok j hj]; omega
    · omega
  | succ n ih =>
    have hs := D_step (c := c) f (n / 16) (n / 4 % 4) (n % 4) j (by omega) (by omega)
    rw [show n / 16 * 16 + n / 4 % 4 * 4 + n % 4 = n by omega] at hs
    rw [hs] at h ⊢
    split at h
    · rename_i e
      rw [if_pos e]
      obtain ⟨hl, rfl⟩ := e
      have hl2 : 0 ≤ gt (leastTo c f n) (n / 4 % 4) ∧ 0 < gt c (n / 4 % 4 * 4 + n % 4) := by
        simp [lless] at hl; omega
      have h1 := ih (n / 4 % 4) (by omega) hl2.1
      have h2 := L_link hok (n / 4 % 4) (n % 4) (by omega) (by omega) hl2.2
      have h3 := M_step hok f (n / 4 % 4) (n % 4) hf (by omega) (by omega)
      have h4 := costsOk_at hok (n / 4 % 4) (n % 4) (by omega) (by omega)
      have h5 := M_near hok f (n / 4 % 4) hf (by omega) h1.2
      omega
    · rename_i e
      rw [if_neg e]
      exact ih j hj h
omit hok in
theorem D_down1 (f n j : Nat) (hj : j < 4) (h : 0 ≤ D c f n j) (hc : ∀ k, 0 ≤ gt c k) : 0 ≤ D c f (n + 1) j ∧ D c f (n + 1) j ≤ D c f n j := by
  have hs := D_step (c := c) f (n / 16) (n / 4 % 4) (n % 4) j (by omega) (by omega)
  rw [show n / 16 * 16 + n / 4 % 4 * 4 + n % 4 = n by omega] at hs
  rw [hs]
  split
  · rename_i e
    obtain ⟨hl, rfl⟩ := e
    have hl2 : 0 ≤ gt (leastTo c f n) (n / 4 % 4) ∧ 0 < gt c (n / 4 % 4 * 4 + n % 4) ∧ (gt (leastTo c f n) (n % 4) < 0 ∨ gt (leastTo c f n) (n / 4 % 4) + gt c (n / 4 % 4 * 4 + n % 4) < gt (leastTo c f n) (n % 4)) := by
      simpa [lless, and_assoc] using hl
    unfold D at h ⊢
    omega
  · exact ⟨h, Int.le_refl _⟩
theorem nonneg_all (hl : c.length = 16) (k : Nat) : 0 ≤ gt c k := by
  by_cases h : k < 16
  · have := costsOk_at hok (k / 4) (k % 4) (by omega) (by omega)
    rw [show k / 4 * 4 + k % 4 = k by omega] at this
    exact this.1
  · rw [gt_oob c k (by omega)]; exact Int.le_refl _
theorem D_down (hl : c.length = 16) (f n m j : Nat) (hj : j < 4) (h : 0 ≤ D c f n j) (hm : n ≤ m) : 0 ≤ D c f m j ∧ D c f m j ≤ D c f n j := by
  induction m with
  | zero => rw [show n = 0 by omega] at h ⊢; exact ⟨h, Int.le_refl _⟩
  | succ m ih =>
    by_cases e : n = m + 1
    · rw [← e]; exact ⟨h, Int.le_refl _⟩
    · have h1 := ih (by omega)
      have h2 := D_down1 (c := c) f m j hj h1.1 (nonneg_all hok hl)
      omega
theorem D_round (hl : c.length = 16) (f r i j : Nat) (hi : i < 4) (hj : j < 4) (h : 0 ≤ D c f (r * 16) i) (hn : L c i j < 262144) : 0 ≤ D c f ((r + 1) * 16) j ∧ D c f ((r + 1) * 16) j ≤ D c f (r * 16) i + L c i j := by
  rcases L_near hok i j hi hj hn with rfl | ⟨hpos, hL⟩
  · have := D_down hok hl f (r * 16) ((r + 1) * 16) i hi h (by omega)
    rw [L_same]
    omega
  · have h1 := D_down hok hl f (r * 16) (r * 16 + i * 4 + j) i hi h (by omega)
    have hs := D_step (c := c) f r i j j hi hj
    have h2 : 0 ≤ D c f (r * 16 + i * 4 + j + 1) j ∧ D c f (r * 16 + i * 4 + j + 1) j ≤ D c f (r * 16 + i * 4 + j) i + gt c (i * 4 + j) := by
      rw [hs]
      split
      · exact ⟨by omega, Int.le_refl _⟩
      · rename_i e
        have e2 : ¬ lless c (leastTo c f (r * 16 + i * 4 + j)) i j = true := fun x => e ⟨x, rfl⟩
        simp [lless] at e2
        unfold D at h1 ⊢
        have := e2 h1.1 hpos
        omega
    have h3 := D_down hok hl f (r * 16 + i * 4 + j + 1) ((r + 1) * 16) j hj h2.1 (by omega)
    omega
/-- The reference's least costs are the least sums; -1 where there is no way. -/
theorem least_M (hl : c.length = 16) (f j : Nat) (hf : f < 4) (hj : j < 4) : gt (least c f) j = if M c f j < 262144 then M c f j else -1 := by
  have hlo := leastTo_small hok f 64 j
  show D c f 64 j = _
  split
  · rename_i h
    obtain ⟨_, x, y, hx, hy, e, b1, b2, b3⟩ := M_near hok f j hf hj h
    have d0 : 0 ≤ D c f (0 * 16) f := by rw [Nat.zero_mul, D_zero f f hf hf, if_pos rfl]; exact Int.le_refl _
    have e0 : D c f (0 * 16) f = 0 := by rw [Nat.zero_mul, D_zero f f hf hf, if_pos rfl]
    have d1 := D_round hok hl f 0 f x hf hx d0 (by omega)
    have d2 := D_round hok hl f 1 x y hx hy d1.1 (by omega)
    have d3 := D_round hok hl f 2 y j hy hj d2.1 (by omega)
    have d4 := D_down hok hl f ((2 + 1) * 16) 64 j hj d3.1 (by omega)
    have d5 := D_low hok f hf 64 j hj d4.1
    have s1 : D c f ((0 + 1) * 16) x = D c f (1 * 16) x := rfl
    have s2 : D c f ((1 + 1) * 16) y = D c f (2 * 16) y := rfl
    omega
  · rename_i h
    by_cases h0 : 0 ≤ D c f 64 j
    · exact absurd (D_low hok f hf 64 j hj h0).2 h
    · have : -1 ≤ D c f 64 j := hlo.1
      omega
end

/-- Both programs' routes are the same. -/
theorem routes_same (c : List Int) (hl : c.length = 16) (x : Int) : routesOf c x = rroutesOf c x := by
  unfold routesOf rroutesOf
  by_cases h : costsOk c = true ∧ isRouter x = true
  · rw [if_pos h, if_pos h]
    obtain ⟨hok, hr⟩ := h
    have hx : 1 ≤ x ∧ x ≤ 4 := by simpa [isRouter] using hr
    generalize hme : (x - 1).toNat = me
    have hm : me < 4 := by omega
    have hcost : ∀ k, k < 4 → pskip (fw c) me k = false → M c me k < 262144 ∧ k ≠ me := by
      intro k hk hs
      simp [pskip, fw_M hok me k hm hk] at hs
      omega
    refine congrArg (fun l => (l, (0 : Int))) (routesBy_congr _ _ _ _ _ _ 4 ?_ ?_ ?_)
    · intro k hk
      unfold pskip rskip
      rw [fw_M hok me k hm hk, least_M hok hl me k hm hk]
      have := M_nonneg hok me k hm hk
      congr 1
      split <;> simp <;> omega
    · intro k hk hs
      have := hcost k hk hs
      unfold pcost rcost
      rw [fw_M hok me k hm hk, least_M hok hl me k hm hk, if_pos this.1]
    · intro k j hk hj hs
      have hc := hcost k hk hs
      unfold pfirst rfirst
      rw [fw_M hok me k hm hk, fw_M hok j k hj hk, least_M hok hl me k hm hk, least_M hok hl j k hj hk, if_pos hc.1]
      have hn := M_nonneg hok j k hj hk
      have hd := costsOk_at hok me j hm hj
      by_cases h0 : 0 < gt c (me * 4 + j)
      · have hne : j ≠ me := by omega
        simp only [h0, decide_true, Bool.true_and, hne, ne_eq, not_false_iff, Bool.and_true]
        split
        · simp [hn]
        · simp; omega
      · simp [h0]
  · rw [if_neg h, if_neg h]
end Go.Proofs.Ytjficnndocjodaa.H
