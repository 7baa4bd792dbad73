/- What may be, in plain Lean: links, Lsas, lists of them, stores; the program's and the reference's tests tell it. -/
import Derived.Test.YtjficnndocjodaaPGraphsx4
import Derived.Test.YtjficnndocjodaaPGraphsx9
import Derived.Test.YtjficnndocjodaaHList
namespace Go.Proofs.Ytjficnndocjodaa.H
open Go.RowKit Go.Proofs.YtjficnndocjodaaW.PrintWords Go.Proofs.YtjficnndocjodaaW.PrintLast Go.Proofs.YtjficnndocjodaaW.PrintMore
open Go.Proofs.Ytjficnndocjodaa.PGraphs
set_option linter.unusedVariables false
set_option linter.unusedSimpArgs false

abbrev Lk := S59
abbrev La := S57
/-- Link i, Lsa i. -/
def lkAt (ls : List Lk) (i : Nat) : Lk := ls.getD i z59
def laAt (l : List La) (i : Nat) : La := l.getD i z57
theorem rd_lk (ls : List Lk) (i : Nat) : rd_T59 ls (i : Int) = lkAt ls i := rfl
theorem rd_la (l : List La) (i : Nat) : rd_T57 l (i : Int) = laAt l i := rfl
/-- May link i be in a router r's? -/
def linkOk (ls : List Lk) (r : Int) (i : Nat) : Bool :=
  decide (1 ≤ (lkAt ls i).f0 ∧ (lkAt ls i).f0 ≤ 4 ∧ (lkAt ls i).f0 ≠ r ∧ 1 ≤ (lkAt ls i).f1 ∧ (lkAt ls i).f1 ≤ 65535 ∧ (i = 0 ∨ (lkAt ls (i - 1)).f0 < (lkAt ls i).f0))
/-- Those from i on. -/
def allFrom (p : Nat → Bool) (n : Nat) : Nat → Nat → Bool
  | 0, _ => true
  | d + 1, i => p i && allFrom p n d (i + 1)
theorem allFrom_iff (p : Nat → Bool) (n d i : Nat) (h : i + d = n) : allFrom p n d i = true ↔ ∀ j, i ≤ j → j < n → p j = true := by
  induction d generalizing i with
  | zero => simp only [allFrom, true_iff]; intro j h1 h2; omega
  | succ d ih =>
    rw [allFrom, Bool.and_eq_true, ih (i + 1) (by omega)]
    constructor
    · rintro ⟨h1, h2⟩ j hj hn
      by_cases e : j = i
      · rw [e]; exact h1
      · exact h2 j (by omega) hn
    · intro h2; exact ⟨h2 i (by omega) (by omega), fun j h3 h4 => h2 j (by omega) h4⟩
def linksOk (ls : List Lk) (r : Int) : Bool := allFrom (linkOk ls r) ls.length ls.length 0
theorem linksOk_iff (ls : List Lk) (r : Int) : linksOk ls r = true ↔ ∀ j, j < ls.length → linkOk ls r j = true := by
  rw [linksOk, allFrom_iff _ _ _ _ (by omega)]
  exact ⟨fun h j hj => h j (by omega) hj, fun h j _ hj => h j hj⟩
/-- Rising: so there are few. -/
theorem rising (f : Nat → Int) (n : Nat) (h1 : ∀ j, j < n → 1 ≤ f j ∧ f j ≤ 4 ∧ (j = 0 ∨ f (j - 1) < f j)) (j : Nat) (hj : j < n) : (j : Int) + 1 ≤ f j := by
  induction j with
  | zero => have := (h1 0 hj).1; omega
  | succ j ih =>
    have := ih (by omega)
    have h2 := (h1 (j + 1) hj).2.2.resolve_left (by omega)
    rw [Nat.add_sub_cancel] at h2
    push_cast
    omega
theorem linksOk_few (ls : List Lk) (r : Int) (h : linksOk ls r = true) : ls.length ≤ 4 := by
  rw [linksOk_iff] at h
  by_cases e : ls.length = 0
  · omega
  · have h2 : ∀ j, j < ls.length → 1 ≤ (lkAt ls j).f0 ∧ (lkAt ls j).f0 ≤ 4 ∧ (j = 0 ∨ (lkAt ls (j - 1)).f0 < (lkAt ls j).f0) := fun j hj => by
      have := h j hj; simp only [linkOk, decide_eq_true_eq] at this; exact ⟨this.1, this.2.1, this.2.2.2.2.2⟩
    have h3 := rising (fun j => (lkAt ls j).f0) _ h2 (ls.length - 1) (by omega)
    have h4 := (h2 (ls.length - 1) (by omega)).2.1
    omega
theorem wrap_up (i : Nat) (h : (i : Int) < 9223372036854775807) : wrap64 ((i : Int) + 1) = ((i + 1 : Nat) : Int) := by unfold wrap64; omega
theorem wrap_down (i : Nat) (h : (i : Int) < 9223372036854775807) (h0 : 0 < i) : wrap64 ((i : Int) - 1) = ((i - 1 : Nat) : Int) := by unfold wrap64; omega
theorem lsa_Links_l0 (ls : List Lk) (r : Int) (hl : (ls.length : Int) ≤ 9223372036854775807) (d : Nat) : ∀ (i k : Nat), i + d = ls.length → d < k → lsa_Links.l0 k ls r ls (ls.length : Int) (i : Int) = some (allFrom (linkOk ls r) ls.length d i) := by
  induction d with
  | zero =>
    intro i k h hk
    obtain ⟨k, rfl⟩ : ∃ m, k = m + 1 := ⟨k - 1, by omega⟩
    rw [lsa_Links.l0, if_neg (by omega)]; rfl
  | succ d ih =>
    intro i k h hk
    obtain ⟨k, rfl⟩ : ∃ m, k = m + 1 := ⟨k - 1, by omega⟩
    have hrec := ih (i + 1) k (by omega) (by omega)
    rw [lsa_Links.l0, if_pos (by omega), if_pos (by omega), if_pos (by omega), rd_lk, wrap_up i (by omega), hrec, allFrom]
    have hp : 0 < i → wrap64 ((i : Int) - 1) = ((i - 1 : Nat) : Int) := wrap_down i (by omega)
    obtain ⟨t, ht⟩ : ∃ t, t = (lkAt ls i).f0 := ⟨_, rfl⟩
    obtain ⟨c, hc⟩ : ∃ c, c = (lkAt ls i).f1 := ⟨_, rfl⟩
    generalize allFrom (linkOk ls r) ls.length d (i + 1) = R
    rw [linkOk, ← ht, ← hc]
    unfold lsa_Router.f
    by_cases e1 : t ≥ 1
    · rw [if_pos e1]
      by_cases e2 : t ≤ 4
      · simp only [decide_eq_true e2, Option.bind_some, if_true]
        by_cases e3 : t = r
        · rw [if_pos e3]; simp [e3]
        · rw [if_neg e3]
          by_cases e4 : c < 1
          · rw [if_pos e4]; simp; omega
          · rw [if_neg e4]
            by_cases e5 : c > 65535
            · rw [if_pos e5]; simp; omega
            · rw [if_neg e5]
              by_cases e6 : (i : Int) > 0
              · rw [if_pos e6, hp (by omega), if_pos (by omega), if_pos (by omega), rd_lk]
                by_cases e7 : (lkAt ls (i - 1)).f0 ≥ t
                · rw [if_pos e7]; simp; omega
                · rw [if_neg e7, decide_eq_true (by omega)]; rfl
              · rw [if_neg e6, decide_eq_true (by omega)]; rfl
      · simp only [decide_eq_false e2, Option.bind_some]
        rw [if_neg (by simp)]
        simp; omega
    · rw [if_neg e1, Option.bind_some, if_neg (by simp)]
      simp; omega
theorem lsa_Links_f (ls : List Lk) (r : Int) (hl : (ls.length : Int) ≤ 9223372036854775807) (k : Nat) (hk : ls.length < k) : lsa_Links.f k ls r = some (linksOk ls r) :=
  lsa_Links_l0 ls r hl ls.length 0 k (by omega) hk
theorem ref_LinksMay_l0 (ls : List Lk) (r : Int) (hl : (ls.length : Int) ≤ 9223372036854775807) (d : Nat) : ∀ (i k : Nat), i + d = ls.length → d < k → watchwordref1_LinksMay.l0 k r ls (i : Int) = some (allFrom (linkOk ls r) ls.length d i && decide ((ls.length : Int) ≤ 4)) := by
  induction d with
  | zero =>
    intro i k h hk
    obtain ⟨k, rfl⟩ : ∃ m, k = m + 1 := ⟨k - 1, by omega⟩
    rw [watchwordref1_LinksMay.l0, if_neg (by omega)]; rfl
  | succ d ih =>
    intro i k h hk
    obtain ⟨k, rfl⟩ : ∃ m, k = m + 1 := ⟨k - 1, by omega⟩
    have hrec := ih (i + 1) k (by omega) (by omega)
    rw [watchwordref1_LinksMay.l0, if_pos (by omega), if_pos (by omega), rd_lk, wrap_up i (by omega), hrec, allFrom]
    have hp : 0 < i → wrap64 ((i : Int) - 1) = ((i - 1 : Nat) : Int) := wrap_down i (by omega)
    obtain ⟨t, ht⟩ : ∃ t, t = (lkAt ls i).f0 := ⟨_, rfl⟩
    obtain ⟨c, hc⟩ : ∃ c, c = (lkAt ls i).f1 := ⟨_, rfl⟩
    generalize allFrom (linkOk ls r) ls.length d (i + 1) = R
    generalize decide ((ls.length : Int) ≤ 4) = D
    rw [linkOk, ← ht, ← hc]
    unfold watchwordref1_routerMay.f watchwordref1_upTo.f
    by_cases e1 : t ≥ 1
    · rw [if_pos e1]
      by_cases e2 : t ≤ 4
      · simp only [decide_eq_true e2, Option.bind_some, if_true]
        by_cases e3 : t = r
        · rw [if_pos e3]; simp [e3]
        · rw [if_neg e3]
          by_cases e4 : c ≥ 1
          · rw [if_pos e4]
            by_cases e5 : c ≤ 65535
            · simp only [decide_eq_true e5, Option.bind_some, if_true]
              by_cases e6 : (i : Int) > 0
              · rw [if_pos e6, hp (by omega), if_pos (by omega), if_pos (by omega), rd_lk]
                by_cases e7 : t ≤ (lkAt ls (i - 1)).f0
                · rw [if_pos e7, decide_eq_false (by omega)]; rfl
                · rw [if_neg e7, decide_eq_true (by omega)]; rfl
              · rw [if_neg e6, decide_eq_true (by omega)]; rfl
            · simp only [decide_eq_false e5, Option.bind_some]
              rw [if_neg (by simp), decide_eq_false (by omega)]; rfl
          · rw [if_neg e4, Option.bind_some, if_neg (by simp), decide_eq_false (by omega)]; rfl
      · simp only [decide_eq_false e2, Option.bind_some]
        rw [if_neg (by simp), decide_eq_false (by omega)]; rfl
    · rw [if_neg e1, Option.bind_some, Option.bind_some, if_neg (by simp), decide_eq_false (by omega)]; rfl
theorem ref_LinksMay_f (ls : List Lk) (r : Int) (hl : (ls.length : Int) ≤ 9223372036854775807) (k : Nat) (hk : ls.length < k) : watchwordref1_LinksMay.f k r ls = some (linksOk ls r) := by
  have h := ref_LinksMay_l0 ls r hl ls.length 0 k (by omega) hk
  show watchwordref1_LinksMay.l0 k r ls ((0 : Nat) : Int) = _
  rw [h]
  congr 1
  show (linksOk ls r && _) = _
  cases e : linksOk ls r with
  | false => rfl
  | true => have := linksOk_few ls r e; rw [decide_eq_true (by omega)]; rfl

/-! ### one Lsa -/
def lsaOk (a : La) : Bool := decide (1 ≤ a.f0 ∧ a.f0 ≤ 4 ∧ 1 ≤ a.f1 ∧ a.f1 ≤ 2147483647 ∧ 0 ≤ a.f2 ∧ a.f2 ≤ 60) && linksOk a.f3 a.f0
theorem lsa_May_f (a : La) (hl : (a.f3.length : Int) ≤ 9223372036854775807) (k : Nat) (hk : a.f3.length < k) : lsa_May.f k a.f0 a.f1 a.f2 a.f3 = some (lsaOk a) := by
  unfold lsa_May.f lsa_Router.f lsa_Serial.f lsa_Age.f lsaOk
  rw [lsa_Links_f a.f3 a.f0 hl k hk]
  by_cases e1 : a.f0 ≥ 1
  · by_cases e2 : a.f0 ≤ 4
    · by_cases e3 : a.f1 ≥ 1
      · by_cases e4 : a.f1 ≤ 2147483647
        · by_cases e5 : a.f2 ≥ 0
          · by_cases e6 : a.f2 ≤ 60
            · rw [if_pos e1, if_pos e3, if_pos e5]
              simp [e2, e4, e6, show 1 ≤ a.f0 from e1, show 1 ≤ a.f1 from e3, show 0 ≤ a.f2 from e5]
            · rw [if_pos e1, if_pos e3, if_pos e5]; simp [e2, e4, e6]
          · rw [if_pos e1, if_pos e3, if_neg e5]; simp [e2, e4, show ¬ 0 ≤ a.f2 from e5]
        · rw [if_pos e1, if_pos e3]; simp [e2, e4]
      · rw [if_pos e1, if_neg e3]; simp [e2, show ¬ 1 ≤ a.f1 from e3]
    · rw [if_pos e1]; simp [e2]
  · rw [if_neg e1]; simp [show ¬ 1 ≤ a.f0 from e1]
theorem ref_LsaMay_f (a : La) (hl : (a.f3.length : Int) ≤ 9223372036854775807) (k : Nat) (hk : a.f3.length < k) : watchwordref1_LsaMay.f k a.f0 a.f1 a.f2 a.f3 = some (lsaOk a) := by
  unfold watchwordref1_LsaMay.f watchwordref1_routerMay.f watchwordref1_upTo.f lsaOk
  rw [ref_LinksMay_f a.f3 a.f0 hl k hk]
  by_cases e1 : a.f0 ≥ 1
  · by_cases e2 : a.f0 ≤ 4
    · by_cases e3 : a.f1 ≥ 1
      · by_cases e4 : a.f1 ≤ 2147483647
        · by_cases e5 : a.f2 ≥ 0
          · by_cases e6 : a.f2 ≤ 60
            · rw [if_pos e1, if_pos e3, if_pos e5]
              simp [e2, e4, e6, show 1 ≤ a.f0 from e1, show 1 ≤ a.f1 from e3, show 0 ≤ a.f2 from e5]
            · rw [if_pos e1, if_pos e3, if_pos e5]; simp [e2, e4, e6]
          · rw [if_pos e1, if_pos e3, if_neg e5]; simp [e2, e4, show ¬ 0 ≤ a.f2 from e5]
        · rw [if_pos e1, if_pos e3]; simp [e2, e4]
      · rw [if_pos e1, if_neg e3]; simp [e2, show ¬ 1 ≤ a.f1 from e3]
    · rw [if_pos e1]; simp [e2]
  · rw [if_neg e1]; simp [show ¬ 1 ≤ a.f0 from e1]
end Go.Proofs.Ytjficnndocjodaa.H
