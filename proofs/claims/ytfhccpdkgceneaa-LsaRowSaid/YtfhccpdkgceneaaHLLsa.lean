/- One Lsa's bytes: what Put gives. Plain Lean. -/
import Derived.Test.YtfhccpdkgceneaaHLBytes
namespace Go.Proofs.Ytfhccpdkgceneaa.R
open Go.RowKit Go.Proofs.YtfhccpdkgceneaaW.PrintWords Go.Proofs.YtfhccpdkgceneaaW.PrintLast Go.Proofs.YtfhccpdkgceneaaW.PrintMore
open Go.Proofs.Ytfhccpdkgceneaa.PLsaRow
set_option linter.unusedVariables false
set_option linter.unusedSimpArgs false

/-- Link i, Lsa i. -/
def lkAt (ls : List Lk) (i : Nat) : Lk := ls.getD i z62
def laAt (l : List La) (i : Nat) : La := l.getD i z29
theorem rd_lk (ls : List Lk) (i : Nat) : rd_T62 ls (i : Int) = lkAt ls i := rfl
/-- May link i be in a router r's? -/
def linkOk (ls : List Lk) (r : Int) (i : Nat) : Bool :=
  decide (1 ≤ (lkAt ls i).f0 ∧ (lkAt ls i).f0 ≤ 4 ∧ (lkAt ls i).f0 ≠ r ∧ 1 ≤ (lkAt ls i).f1 ∧ (lkAt ls i).f1 ≤ 65535 ∧ (i = 0 ∨ (lkAt ls (i - 1)).f0 < (lkAt ls i).f0))
/-- Those from i on. -/
def allFrom (p : Nat → Bool) (n : Nat) : Nat → Nat → Bool
  | 0, _ => true
  | d + 1, i => p i && allFrom p n d (i + 1)
theorem allFrom_iff (p : Nat → Bool) (n d i : Nat) (h : i + d = n) : allFrom p n d i = true ↔ ∀ j, i ≤ j → j < n → p j = true := by
  induction d generalizing i with
  | zero => simp only [allFrom, true_iff]; intro j h1 h2; omega
  | succ d ih =>
    rw [allFrom, Bool.and_eq_true, ih (i + 1) (by omega)]
    constructor
    · rintro ⟨h1, h2⟩ j hj hn
      by_cases e : j = i
      · rw [e]; exact h1
      · exact h2 j (by omega) hn
    · intro h2; exact ⟨h2 i (by omega) (by omega), fun j h3 h4 => h2 j (by omega) h4⟩
def linksOk (ls : List Lk) (r : Int) : Bool := allFrom (linkOk ls r) ls.length ls.length 0
theorem linksOk_iff (ls : List Lk) (r : Int) : linksOk ls r = true ↔ ∀ j, j < ls.length → linkOk ls r j = true := by
  rw [linksOk, allFrom_iff _ _ _ _ (by omega)]
  exact ⟨fun h j hj => h j (by omega) hj, fun h j _ hj => h j hj⟩
/-- Rising: so there are few. -/
theorem rising (f : Nat → Int) (n : Nat) (h1 : ∀ j, j < n → 1 ≤ f j ∧ f j ≤ 4 ∧ (j = 0 ∨ f (j - 1) < f j)) (j : Nat) (hj : j < n) : (j : Int) + 1 ≤ f j := by
  induction j with
  | zero => have := (h1 0 hj).1; omega
  | succ j ih =>
    have := ih (by omega)
    have h2 := (h1 (j + 1) hj).2.2.resolve_left (by omega)
    rw [Nat.add_sub_cancel] at h2
    push_cast
    omega
theorem linksOk_few (ls : List Lk) (r : Int) (h : linksOk ls r = true) : ls.length ≤ 4 := by
  rw [linksOk_iff] at h
  by_cases e : ls.length = 0
  · omega
  · have h2 : ∀ j, j < ls.length → 1 ≤ (lkAt ls j).f0 ∧ (lkAt ls j).f0 ≤ 4 ∧ (j = 0 ∨ (lkAt ls (j - 1)).f0 < (lkAt ls j).f0) := fun j hj => by
      have := h j hj; simp only [linkOk, decide_eq_true_eq] at this; exact ⟨this.1, this.2.1, this.2.2.2.2.2⟩
    have h3 := rising (fun j => (lkAt ls j).f0) _ h2 (ls.length - 1) (by omega)
    have h4 := (h2 (ls.length - 1) (by omega)).2.1
    omega
theorem wrap_up (i : Nat) (h : (i : Int) < 9223372036854775807) : wrap64 ((i : Int) + 1) = ((i + 1 : Nat) : Int) := by unfold wrap64; omega
theorem wrap_down (i : Nat) (h : (i : Int) < 9223372036854775807) (h0 : 0 < i) : wrap64 ((i : Int) - 1) = ((i - 1 : Nat) : Int) := by unfold wrap64; omega
theorem lsa_Links_l0 (ls : List Lk) (r : Int) (hl : (ls.length : Int) ≤ 9223372036854775807) (d : Nat) : ∀ (i k : Nat), i + d = ls.length → d < k → lsa_Links.l0 k ls r ls (ls.length : Int) (i : Int) = some (allFrom (linkOk ls r) ls.length d i) := by
  induction d with
  | zero =>
    intro i k h hk
    obtain ⟨k, rfl⟩ : ∃ m, k = m + 1 := ⟨k - 1, by omega⟩
    rw [lsa_Links.l0, if_neg (by omega)]; rfl
  | succ d ih =>
    intro i k h hk
    obtain ⟨k, rfl⟩ : ∃ m, k = m + 1 := ⟨k - 1, by omega⟩
    have hrec := ih (i + 1) k (by omega) (by omega)
    rw [lsa_Links.l0, if_pos (by omega), if_pos (by omega), if_pos (by omega), rd_lk, wrap_up i (by omega), hrec, allFrom]
    have hp : 0 < i → wrap64 ((i : Int) - 1) = ((i - 1 : Nat) : Int) := wrap_down i (by omega)
    obtain ⟨t, ht⟩ : ∃ t, t = (lkAt ls i).f0 := ⟨_, rfl⟩
    obtain ⟨c, hc⟩ : ∃ c, c = (lkAt ls i).f1 := ⟨_, rfl⟩
    generalize allFrom (linkOk ls r) ls.length d (i + 1) = R
    rw [linkOk, ← ht, ← hc]
    unfold lsa_Router.f
    by_cases e1 : t ≥ 1
    · rw [if_pos e1]
      by_cases e2 : t ≤ 4
      · simp only [decide_eq_true e2, Option.bind_some, if_true]
        by_cases e3 : t = r
        · rw [if_pos e3]; simp [e3]
        · rw [if_neg e3]
          by_cases e4 : c < 1
          · rw [if_pos e4]; simp; omega
          · rw [if_neg e4]
            by_cases e5 : c > 65535
            · rw [if_pos e5]; simp; omega
            · rw [if_neg e5]
              by_cases e6 : (i : Int) > 0
              · rw [if_pos e6, hp (by omega), if_pos (by omega), if_pos (by omega), rd_lk]
                by_cases e7 : (lkAt ls (i - 1)).f0 ≥ t
                · rw [if_pos e7]; simp; omega
                · rw [if_neg e7, decide_eq_true (by omega)]; rfl
              · rw [if_neg e6, decide_eq_true (by omega)]; rfl
      · simp only [decide_eq_false e2, Option.bind_some]
        rw [if_neg (by simp)]
        simp; omega
    · rw [if_neg e1, Option.bind_some, if_neg (by simp)]
      simp; omega
theorem lsa_Links_f (ls : List Lk) (r : Int) (hl : (ls.length : Int) ≤ 9223372036854775807) (k : Nat) (hk : ls.length < k) : lsa_Links.f k ls r = some (linksOk ls r) :=
  lsa_Links_l0 ls r hl ls.length 0 k (by omega) hk
def lsaOk (a : La) : Bool := decide (1 ≤ a.f0 ∧ a.f0 ≤ 4 ∧ 1 ≤ a.f1 ∧ a.f1 ≤ 2147483647 ∧ 0 ≤ a.f2 ∧ a.f2 ≤ 60) && linksOk a.f3 a.f0
theorem lsa_May_f (a : La) (hl : (a.f3.length : Int) ≤ 9223372036854775807) (k : Nat) (hk : a.f3.length < k) : lsa_May.f k a.f0 a.f1 a.f2 a.f3 = some (lsaOk a) := by
  unfold lsa_May.f lsa_Router.f lsa_Serial.f lsa_Age.f lsaOk
  rw [lsa_Links_f a.f3 a.f0 hl k hk]
  by_cases e1 : a.f0 ≥ 1
  · by_cases e2 : a.f0 ≤ 4
    · by_cases e3 : a.f1 ≥ 1
      · by_cases e4 : a.f1 ≤ 2147483647
        · by_cases e5 : a.f2 ≥ 0
          · by_cases e6 : a.f2 ≤ 60
            · rw [if_pos e1, if_pos e3, if_pos e5]
              simp [e2, e4, e6, show 1 ≤ a.f0 from e1, show 1 ≤ a.f1 from e3, show 0 ≤ a.f2 from e5]
            · rw [if_pos e1, if_pos e3, if_pos e5]; simp [e2, e4, e6]
          · rw [if_pos e1, if_pos e3, if_neg e5]; simp [e2, e4, show ¬ 0 ≤ a.f2 from e5]
        · rw [if_pos e1, if_pos e3]; simp [e2, e4]
      · rw [if_pos e1, if_neg e3]; simp [e2, show ¬ 1 ≤ a.f1 from e3]
    · rw [if_pos e1]; simp [e2]
  · rw [if_neg e1]; simp [show ¬ 1 ≤ a.f0 from e1]

/-! ### bytes -/
def one (x : Int) : List Int := [x % 256]
def two (x : Int) : List Int := [(x / 256) % 256, x % 256]
def four (x : Int) : List Int := two (x / 65536) ++ two x
theorem by_one (x : Int) : By (one x) := By.cons (by omega) By.nil
theorem by_two (x : Int) : By (two x) := By.cons (by omega) (By.cons (by omega) By.nil)
theorem by_four (x : Int) : By (four x) := By.append (by_two _) (by_two _)
/-- The first m links' bytes. -/
def linkL (ls : List Lk) : Nat → List Int
  | 0 => []
  | m + 1 => linkL ls m ++ (one (lkAt ls m).f0 ++ two (lkAt ls m).f1)
theorem linkL_length (ls : List Lk) (m : Nat) : (linkL ls m).length = 3 * m := by
  induction m with
  | zero => rfl
  | succ m ih => rw [linkL, List.length_append, ih]; simp [one, two]; omega
theorem by_linkL (ls : List Lk) (m : Nat) : By (linkL ls m) := by
  induction m with
  | zero => exact By.nil
  | succ m ih => exact By.append ih (By.append (by_one _) (by_two _))
theorem linkL_split (ls : List Lk) (i m : Nat) (h : i < m) : ∃ rest, linkL ls m = linkL ls i ++ ((one (lkAt ls i).f0 ++ two (lkAt ls i).f1) ++ rest) := by
  induction m with
  | zero => omega
  | succ m ih =>
    by_cases e : i = m
    · subst e; exact ⟨[], by rw [linkL, List.append_nil]⟩
    · obtain ⟨rest, hr⟩ := ih (by omega)
      exact ⟨rest ++ (one (lkAt ls m).f0 ++ two (lkAt ls m).f1), by rw [linkL, hr]; simp [List.append_assoc]⟩
def headL (a : La) : List Int := (one a.f0 ++ four a.f1) ++ one (a.f3.length : Int)
theorem headL_length (a : La) : (headL a).length = 6 := rfl
theorem by_headL (a : La) : By (headL a) := By.append (By.append (by_one _) (by_four _)) (by_one _)
def bodyL (a : La) : List Int := headL a ++ linkL a.f3 a.f3.length
theorem bodyL_length (a : La) : (bodyL a).length = 6 + 3 * a.f3.length := by rw [bodyL, List.length_append, linkL_length, headL_length]
theorem by_bodyL (a : La) : By (bodyL a) := By.append (by_headL a) (by_linkL _ _)
/-- fletch.Sum of numbers. -/
def fl : List Int → Int → Int → Int
  | [], x, y => 256 * y + x
  | b :: r, x, y => fl r ((x + b) % 255) ((y + (x + b) % 255) % 255)
def encL (a : La) : List Int := (one a.f2 ++ bodyL a) ++ two (fl (bodyL a) 0 0)
theorem encL_length (a : La) : (encL a).length = 9 + 3 * a.f3.length := by
  rw [encL, List.length_append, List.length_append, bodyL_length]; simp [one, two]; omega
theorem by_encL (a : La) : By (encL a) := By.append (By.append (by_one _) (by_bodyL a)) (by_two _)

/-! ### what the program's functions answer -/
theorem One_f (x : Int) : lsa_One.f x = some (N (one x)) := rfl
theorem Two_f (x : Int) : lsa_Two.f x = some (N (two x)) := rfl
theorem Four_f (x : Int) : lsa_Four.f x = some (N (four x)) := by
  unfold lsa_Four.f
  rw [Two_f, Two_f, Option.bind_some, Option.bind_some, if_pos (by rw [N_size, N_size]; simp [two]), N_append]; rfl
theorem body_l0 (ls : List Lk) (hl : ls.length ≤ 4) (H : List Int) (hH : H.length = 6) (d : Nat) : ∀ (i k : Nat), i + d = ls.length → d < k →
    lsa_body.l0 k (N (H ++ linkL ls i)) ls (ls.length : Int) (i : Int) = some (N (H ++ linkL ls ls.length)) := by
  induction d with
  | zero =>
    intro i k h hk
    obtain ⟨k, rfl⟩ : ∃ m, k = m + 1 := ⟨k - 1, by omega⟩
    rw [lsa_body.l0, if_neg (by omega), show i = ls.length by omega]
  | succ d ih =>
    intro i k h hk
    obtain ⟨k, rfl⟩ : ∃ m, k = m + 1 := ⟨k - 1, by omega⟩
    have hrec := ih (i + 1) k (by omega) (by omega)
    have hs : (H ++ linkL ls i).length = 6 + 3 * i := by rw [List.length_append, hH, linkL_length]
    rw [lsa_body.l0, if_pos (by omega), if_pos (by omega), if_pos (by omega), rd_lk, One_f, Two_f, Option.bind_some, Option.bind_some, N_append, wrap_up i (by omega)]
    rw [if_pos (by rw [N_size, N_size]; simp [one, two]), if_pos (by rw [N_size, N_size, hs]; simp [one, two]; omega), N_append, List.append_assoc]
    exact hrec
theorem body_f (a : La) (hl : a.f3.length ≤ 4) (k : Nat) (hk : a.f3.length < k) : lsa_body.f k a.f0 a.f1 a.f2 a.f3 = some (N (bodyL a)) := by
  unfold lsa_body.f
  rw [One_f, Four_f, Option.bind_some, Option.bind_some, if_pos (by rw [N_size, N_size]; simp [one, four, two]), One_f, Option.bind_some, N_append, if_pos (by rw [N_size, N_size]; simp [one, four, two]), N_append]
  have := body_l0 a.f3 hl (headL a) rfl a.f3.length 0 k (by omega) hk
  rw [linkL, List.append_nil] at this
  exact this
theorem sum_l0 {xs : List Int} (h : By xs) (hl : xs.length ≤ 100) (d : Nat) : ∀ (i k : Nat) (x y : Int), i + d = xs.length → d < k → 0 ≤ x ∧ x < 255 → 0 ≤ y ∧ y < 255 →
    fletch_Sum.l0 k (N xs) x y (xs.length : Int) (i : Int) = some (fl (xs.drop i) x y) := by
  induction d with
  | zero =>
    intro i k x y h hk hx hy
    obtain ⟨k, rfl⟩ : ∃ m, k = m + 1 := ⟨k - 1, by omega⟩
    rw [fletch_Sum.l0, if_neg (by omega), List.drop_of_length_le (by omega), fl]
    congr 1
    unfold wrap64; omega
  | succ d ih =>
    intro i k x y hi hk hx hy
    obtain ⟨k, rfl⟩ : ∃ m, k = m + 1 := ⟨k - 1, by omega⟩
    have hb := h _ (List.getElem_mem (show i < xs.length by omega))
    rw [fletch_Sum.l0, if_pos (by omega), if_pos (by omega), if_pos (by rw [N_size]; omega), bt_N h i (by omega), wrapB i (by omega), List.drop_eq_getElem_cons (show i < xs.length by omega), fl]
    have w1 : Int.tmod (wrap64 (x + wrap64 xs[i])) 255 = (x + xs[i]) % 255 := by
      rw [show wrap64 xs[i] = xs[i] by unfold wrap64; omega, show wrap64 (x + xs[i]) = x + xs[i] by unfold wrap64; omega, Int.tmod_eq_emod_of_nonneg (by omega)]
    have w2 : Int.tmod (wrap64 (y + (x + xs[i]) % 255)) 255 = (y + (x + xs[i]) % 255) % 255 := by
      rw [show wrap64 (y + (x + xs[i]) % 255) = y + (x + xs[i]) % 255 by unfold wrap64; omega, Int.tmod_eq_emod_of_nonneg (by omega)]
    rw [w1, w2]
    exact ih (i + 1) k _ _ (by omega) (by omega) (by omega) (by omega)
theorem sum_f {xs : List Int} (h : By xs) (hl : xs.length ≤ 100) (k : Nat) (hk : xs.length < k) : fletch_Sum.f k (N xs) = some (fl xs 0 0) := by
  unfold fletch_Sum.f
  rw [N_size]
  exact sum_l0 h hl xs.length 0 k 0 0 (by omega) hk (by omega) (by omega)
theorem Put_f (a : La) (hl : (a.f3.length : Int) ≤ 9223372036854775807) (k : Nat) (hk : a.f3.length + 20 < k) : lsa_Put.f k a.f0 a.f1 a.f2 a.f3 = if lsaOk a = true then some (N (encL a), 0) else some (⟨#[]⟩, 700) := by
  unfold lsa_Put.f
  rw [lsa_May_f a hl k (by omega), Option.bind_some]
  by_cases e : lsaOk a = true
  · have h4 : a.f3.length ≤ 4 := linksOk_few a.f3 a.f0 (by rw [lsaOk, Bool.and_eq_true] at e; exact e.2)
    rw [if_pos e, if_pos e, body_f a h4 k (by omega), Option.bind_some, One_f, Option.bind_some, if_pos (by rw [N_size, N_size, bodyL_length]; simp [one]; omega), sum_f (by_bodyL a) (by rw [bodyL_length]; omega) k (by rw [bodyL_length]; omega), Option.bind_some, Two_f, Option.bind_some, N_append, if_pos (by rw [N_size, N_size, List.length_append, bodyL_length]; simp [one, two]; omega), N_append]
    rfl
  · rw [if_neg e, if_neg e]
end Go.Proofs.Ytfhccpdkgceneaa.R
