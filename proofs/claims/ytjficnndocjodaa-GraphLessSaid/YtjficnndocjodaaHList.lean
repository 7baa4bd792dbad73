/- Lists that stand for arrays of whole numbers: entries, rows, and the sums that paths.sums reckons, in plain Lean. -/
namespace Go.Proofs.Ytjficnndocjodaa.H
set_option linter.unusedVariables false
set_option linter.unusedSimpArgs false

/-- Entry k. -/
def gt (c : List Int) (k : Nat) : Int := c.getD k 0
/-- Row a of four. -/
def row (c : List Int) (a : Nat) : List Int := (c.drop (a * 4)).take 4
theorem row_length (c : List Int) (a : Nat) (h : a * 4 + 4 ≤ c.length) : (row c a).length = 4 := by
  simp [row]; omega
theorem gt_row (c : List Int) (a j : Nat) (h : j < 4) : gt (row c a) j = gt c (a * 4 + j) := by
  simp [gt, row, List.getD, List.getElem?_take, h]
theorem gt_set (c : List Int) (i k : Nat) (x : Int) (h : i < c.length) : gt (c.set i x) k = if i = k then x else gt c k := by
  unfold gt
  by_cases e : i = k
  · subst e; simp [List.getD, h]
  · simp [List.getD, List.getElem?_set, e]
theorem gt_oob (c : List Int) (k : Nat) (h : c.length ≤ k) : gt c k = 0 := by
  simp [gt, List.getD, h]
theorem gt_ext (c d : List Int) (hl : c.length = d.length) (h : ∀ k, k < c.length → gt c k = gt d k) : c = d := by
  apply List.ext_getElem hl
  intro k h1 h2
  have := h k h1
  simpa [gt, List.getD, h1, h2] using this

theorem gt_zeros (n k : Nat) : gt (List.replicate n 0) k = 0 := by
  simp only [gt, List.getD_eq_getElem?_getD, List.getElem?_replicate]
  split <;> rfl

/-- May the cost from a to b be? -/
def okAt (c : List Int) (a b : Nat) : Bool := decide (0 ≤ gt c (a * 4 + b)) && decide (gt c (a * 4 + b) ≤ 65535) && (decide (a ≠ b) || decide (gt c (a * 4 + b) = 0))
/-- May the costs be? -/
def costsOk (c : List Int) : Bool := (List.range 4).all fun a => (List.range 4).all fun b => okAt c a b
theorem costsOk_iff (c : List Int) : costsOk c = true ↔ ∀ a b, a < 4 → b < 4 → okAt c a b = true := by
  simp only [costsOk, List.all_eq_true, List.mem_range]
  exact ⟨fun h a b ha hb => h a ha b hb, fun h a ha b hb => h a b ha hb⟩
theorem costsOk_false (c : List Int) (a b : Nat) (ha : a < 4) (hb : b < 4) (h : okAt c a b = false) : costsOk c = false := by
  cases e : costsOk c with
  | false => rfl
  | true => rw [(costsOk_iff c).1 e a b ha hb] at h; cases h
theorem costsOk_at {c : List Int} (h : costsOk c = true) (a b : Nat) (ha : a < 4) (hb : b < 4) : 0 ≤ gt c (a * 4 + b) ∧ gt c (a * 4 + b) ≤ 65535 ∧ (a = b → gt c (a * 4 + b) = 0) := by
  have := (costsOk_iff c).1 h a b ha hb
  simp [okAt] at this
  omega

/-- What a link costs: far, if there is none. -/
def stp (x : Int) : Int := if x = 0 then 262144 else x
/-- The first n places of the sums' start. -/
def initTo (c : List Int) : Nat → List Int
  | 0 => List.replicate 16 0
  | n + 1 => if n / 4 = n % 4 then initTo c n else (initTo c n).set n (stp (gt c n))
theorem initTo_length (c : List Int) (n : Nat) : (initTo c n).length = 16 := by
  induction n with
  | zero => simp [initTo]
  | succ n ih => unfold initTo; split <;> simp [ih]
/-- The lesser of two, as Go's min tells it. -/
def lesser (a b : Int) : Int := if b < a then b else a
/-- One place of a round over a router. -/
def relax (s : List Int) (o a b : Nat) : List Int := s.set (a * 4 + b) (lesser (gt s (a * 4 + b)) (gt s (a * 4 + o) + gt s (o * 4 + b)))
/-- Behind n places of all rounds. -/
def fwTo (c : List Int) : Nat → List Int
  | 0 => initTo c 16
  | n + 1 => relax (fwTo c n) (n / 16) (n / 4 % 4) (n % 4)
theorem fwTo_length (c : List Int) (n : Nat) : (fwTo c n).length = 16 := by
  induction n with
  | zero => simp [fwTo, initTo_length]
  | succ n ih => simp [fwTo, relax, ih]
/-- paths.sums, in plain Lean. -/
def fw (c : List Int) : List Int := fwTo c 64
theorem fw_length (c : List Int) : (fw c).length = 16 := fwTo_length c 64
theorem initTo_same (c : List Int) (a : Nat) (ha : a < 4) : initTo c (a * 4 + a + 1) = initTo c (a * 4 + a) := by
  show (if (a * 4 + a) / 4 = (a * 4 + a) % 4 then _ else _) = _
  rw [if_pos (by omega)]
theorem initTo_step (c : List Int) (a b : Nat) (ha : a < 4) (hb : b < 4) (h : a ≠ b) : initTo c (a * 4 + b + 1) = (initTo c (a * 4 + b)).set (a * 4 + b) (stp (gt c (a * 4 + b))) := by
  show (if (a * 4 + b) / 4 = (a * 4 + b) % 4 then _ else _) = _
  rw [if_neg (by omega)]
theorem fwTo_step (c : List Int) (o a b : Nat) (ha : a < 4) (hb : b < 4) : fwTo c (o * 16 + a * 4 + b + 1) = relax (fwTo c (o * 16 + a * 4 + b)) o a b := by
  show relax _ _ _ _ = _
  rw [show (o * 16 + a * 4 + b) / 16 = o by omega, show (o * 16 + a * 4 + b) / 4 % 4 = a by omega, show (o * 16 + a * 4 + b) % 4 = b by omega]
/-- The bounds that keep every sum small. -/
def Small (s : List Int) (m : Int) : Prop := ∀ k, 0 ≤ gt s k ∧ gt s k ≤ m
theorem Small.set {s : List Int} {m : Int} (h : Small s m) (hl : s.length = 16) (k : Nat) (x : Int) (h0 : 0 ≤ x) (h1 : x ≤ m) : Small (s.set k x) m := by
  intro j
  by_cases hk : k < 16
  · rw [gt_set s k j x (by omega)]
    split
    · exact ⟨h0, h1⟩
    · exact h j
  · rw [List.set_eq_of_length_le (by omega)]; exact h j
theorem initTo_small {c : List Int} (h : costsOk c = true) : ∀ n, n ≤ 16 → Small (initTo c n) 262144 := by
  intro n
  induction n with
  | zero => intro _ k; rw [initTo, gt_zeros]; omega
  | succ n ih =>
    intro hn
    have ih := ih (by omega)
    unfold initTo
    split
    · exact ih
    · have := costsOk_at h (n / 4) (n % 4) (by omega) (by omega)
      rw [show n / 4 * 4 + n % 4 = n by omega] at this
      refine ih.set (initTo_length c n) n _ ?_ ?_ <;> unfold stp <;> split <;> omega
theorem fwTo_small {c : List Int} (h : costsOk c = true) (n : Nat) : Small (fwTo c n) 262144 := by
  induction n with
  | zero => exact initTo_small h 16 (by omega)
  | succ n ih =>
    unfold fwTo relax
    have h1 := ih (n / 4 % 4 * 4 + n % 4)
    have h2 := ih (n / 4 % 4 * 4 + n / 16)
    have h3 := ih (n / 16 * 4 + n % 4)
    refine ih.set (fwTo_length c n) _ _ ?_ ?_ <;> unfold lesser <;> split <;> omega

/-! ### the reference's least costs from one router -/
/-- Does the way over i to j cost less than what is known? -/
def lless (c d : List Int) (i j : Nat) : Bool := decide (0 ≤ gt d i) && decide (0 < gt c (i * 4 + j)) && (decide (gt d j < 0) || decide (gt d i + gt c (i * 4 + j) < gt d j))
def lstep (c d : List Int) (i j : Nat) : List Int := if lless c d i j = true then d.set j (gt d i + gt c (i * 4 + j)) else d
def least0 (f : Nat) : List Int := (List.replicate 4 (-1)).set f 0
def leastTo (c : List Int) (f : Nat) : Nat → List Int
  | 0 => least0 f
  | n + 1 => lstep c (leastTo c f n) (n / 4 % 4) (n % 4)
/-- The reference's 'least', in plain Lean. -/
def least (c : List Int) (f : Nat) : List Int := leastTo c f 64
theorem leastTo_length (c : List Int) (f n : Nat) : (leastTo c f n).length = 4 := by
  induction n with
  | zero => simp [leastTo, least0]
  | succ n ih => unfold leastTo lstep; split <;> simp [ih]
theorem least_length (c : List Int) (f : Nat) : (least c f).length = 4 := leastTo_length c f 64
theorem leastTo_step (c : List Int) (f r i j : Nat) (hi : i < 4) (hj : j < 4) : leastTo c f (r * 16 + i * 4 + j + 1) = lstep c (leastTo c f (r * 16 + i * 4 + j)) i j := by
  show lstep _ _ _ _ = _
  rw [show (r * 16 + i * 4 + j) / 4 % 4 = i by omega, show (r * 16 + i * 4 + j) % 4 = j by omega]
theorem leastTo_small {c : List Int} (h : costsOk c = true) (f : Nat) (n : Nat) : ∀ k, -1 ≤ gt (leastTo c f n) k ∧ gt (leastTo c f n) k ≤ 65535 * n := by
  induction n with
  | zero =>
    intro k
    unfold leastTo least0
    by_cases hf : f < 4
    · rw [gt_set _ _ _ _ (by simpa using hf)]
      split
      · omega
      · simp only [gt, List.getD_eq_getElem?_getD, List.getElem?_replicate]
        split <;> simp
    · rw [List.set_eq_of_length_le (by simp; omega)]
      simp only [gt, List.getD_eq_getElem?_getD, List.getElem?_replicate]
      split <;> simp
  | succ n ih =>
    intro k
    have h1 := ih k
    have h2 := ih (n / 4 % 4)
    have h3 := costsOk_at h (n / 4 % 4) (n % 4) (by omega) (by omega)
    unfold leastTo lstep
    split
    · rename_i hl
      simp [lless] at hl
      rw [gt_set _ _ _ _ (by rw [leastTo_length]; omega)]
      split <;> omega
    · omega

/-! ### routes -/
/-- Of the first n routers those that p tells, counted from one. -/
def firstBy (p : Nat → Bool) : Nat → List Int
  | 0 => []
  | n + 1 => if p n = true then firstBy p n ++ [(n : Int) + 1] else firstBy p n
theorem firstBy_length (p : Nat → Bool) (n : Nat) : (firstBy p n).length ≤ n := by
  induction n with
  | zero => simp [firstBy]
  | succ n ih =>
    unfold firstBy
    split
    · rw [List.length_append]; simp only [List.length_singleton]; omega
    · omega
theorem firstBy_congr (p q : Nat → Bool) (n : Nat) (h : ∀ k, k < n → p k = q k) : firstBy p n = firstBy q n := by
  induction n with
  | zero => rfl
  | succ n ih => unfold firstBy; rw [h n (by omega), ih (fun k hk => h k (by omega))]
/-- Routes to the first n routers: who is passed by, what it costs, by whom it may go. -/
def routesBy (skip : Nat → Bool) (cost : Nat → Int) (p : Nat → Nat → Bool) : Nat → List (Int × Int × List Int)
  | 0 => []
  | n + 1 => if skip n = true then routesBy skip cost p n else routesBy skip cost p n ++ [((n : Int) + 1, cost n, firstBy (p n) 4)]
theorem routesBy_length (skip : Nat → Bool) (cost : Nat → Int) (p : Nat → Nat → Bool) (n : Nat) : (routesBy skip cost p n).length ≤ n := by
  induction n with
  | zero => simp [routesBy]
  | succ n ih =>
    unfold routesBy
    split
    · omega
    · rw [List.length_append]; simp only [List.length_singleton]; omega
theorem routesBy_congr (s1 s2 : Nat → Bool) (c1 c2 : Nat → Int) (p1 p2 : Nat → Nat → Bool) (n : Nat) (hs : ∀ k, k < n → s1 k = s2 k) (hc : ∀ k, k < n → s1 k = false → c1 k = c2 k)
    (hp : ∀ k j, k < n → j < 4 → s1 k = false → p1 k j = p2 k j) : routesBy s1 c1 p1 n = routesBy s2 c2 p2 n := by
  induction n with
  | zero => rfl
  | succ n ih =>
    unfold routesBy
    rw [← hs n (by omega), ih (fun k hk => hs k (by omega)) (fun k hk => hc k (by omega)) (fun k j hk => hp k j (by omega))]
    split
    · rfl
    · rename_i h
      have h : s1 n = false := by simpa using h
      rw [hc n (by omega) h, firstBy_congr (p1 n) (p2 n) 4 (fun j hj => hp n j (by omega) hj h)]
/-- The program's: over the sums s. -/
def pskip (s : List Int) (me to : Nat) : Bool := decide (to = me) || decide (262144 ≤ gt s (me * 4 + to))
def pfirst (c s : List Int) (me to k : Nat) : Bool := decide (0 < gt c (me * 4 + k)) && decide (gt c (me * 4 + k) + gt s (k * 4 + to) = gt s (me * 4 + to))
def pcost (s : List Int) (me to : Nat) : Int := gt s (me * 4 + to)
/-- The reference's: over its least costs. -/
def rskip (c : List Int) (me to : Nat) : Bool := decide (to = me) || decide (gt (least c me) to < 0)
def rfirst (c : List Int) (me to k : Nat) : Bool := decide (k ≠ me) && decide (0 < gt c (me * 4 + k)) && decide (0 ≤ gt (least c k) to) && decide (gt c (me * 4 + k) + gt (least c k) to = gt (least c me) to)
def rcost (c : List Int) (me to : Nat) : Int := gt (least c me) to
/-- Is it a router's number? -/
def isRouter (x : Int) : Bool := decide (1 ≤ x) && decide (x ≤ 4)
/-- paths.Routes, in plain Lean. -/
def routesOf (c : List Int) (x : Int) : List (Int × Int × List Int) × Int :=
  if costsOk c = true ∧ isRouter x = true then (routesBy (pskip (fw c) (x - 1).toNat) (pcost (fw c) (x - 1).toNat) (pfirst c (fw c) (x - 1).toNat) 4, 0) else ([], 2100)
/-- The reference's Routes, in plain Lean. -/
def rroutesOf (c : List Int) (x : Int) : List (Int × Int × List Int) × Int :=
  if costsOk c = true ∧ isRouter x = true then (routesBy (rskip c (x - 1).toNat) (rcost c (x - 1).toNat) (rfirst c (x - 1).toNat) 4, 0) else ([], 2100)
theorem routesOf_bad (c : List Int) (x : Int) (h : costsOk c = false ∨ isRouter x = false) : routesOf c x = ([], 2100) := by
  rw [routesOf, if_neg]
  rintro ⟨h1, h2⟩
  rcases h with h | h
  · rw [h] at h1; cases h1
  · rw [h] at h2; cases h2
def zs16 : List Int := List.replicate 16 0
theorem zs16_two : routesOf zs16 2 = ([], 0) := by decide +kernel
/-- One cost that may not be. -/
theorem set_bad (i j : Nat) (hi : i < 4) (hj : j < 4) (v : Int) (h : v < 0 ∨ 65535 < v) : costsOk (zs16.set (i * 4 + j) v) = false := by
  refine costsOk_false _ i j hi hj ?_
  rw [okAt, gt_set _ _ _ _ (by rw [zs16, List.length_replicate]; omega), if_pos rfl]
  simp; omega
end Go.Proofs.Ytjficnndocjodaa.H
