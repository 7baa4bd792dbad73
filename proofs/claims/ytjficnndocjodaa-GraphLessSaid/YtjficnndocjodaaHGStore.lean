/- Lists of Lsas and stores: what may be; the program's and the reference's tests tell it; which links a router tells. -/
import Derived.Test.YtjficnndocjodaaHGPure
namespace Go.Proofs.Ytjficnndocjodaa.H
open Go.RowKit Go.Proofs.YtjficnndocjodaaW.PrintWords Go.Proofs.YtjficnndocjodaaW.PrintLast Go.Proofs.YtjficnndocjodaaW.PrintMore
open Go.Proofs.Ytjficnndocjodaa.PGraphs
set_option linter.unusedVariables false
set_option linter.unusedSimpArgs false

def updAt (l : List La) (i : Nat) : Bool := lsaOk (laAt l i) && decide (i = 0 ∨ (laAt l (i - 1)).f0 < (laAt l i).f0)
def updOk (l : List La) : Bool := allFrom (updAt l) l.length l.length 0
def young (l : List La) (i : Nat) : Bool := decide ((laAt l i).f2 < 60)
def allYoung (l : List La) : Bool := allFrom (young l) l.length l.length 0
/-- May a store be? -/
def storeOk (l : List La) : Bool := updOk l && allYoung l
theorem updOk_iff (l : List La) : updOk l = true ↔ ∀ j, j < l.length → updAt l j = true := by
  rw [updOk, allFrom_iff _ _ _ _ (by omega)]
  exact ⟨fun h j hj => h j (by omega) hj, fun h j _ hj => h j hj⟩
theorem allYoung_iff (l : List La) : allYoung l = true ↔ ∀ j, j < l.length → young l j = true := by
  rw [allYoung, allFrom_iff _ _ _ _ (by omega)]
  exact ⟨fun h j hj => h j (by omega) hj, fun h j _ hj => h j hj⟩
theorem updOk_few (l : List La) (h : updOk l = true) : l.length ≤ 4 := by
  rw [updOk_iff] at h
  by_cases e : l.length = 0
  · omega
  · have h2 : ∀ j, j < l.length → 1 ≤ (laAt l j).f0 ∧ (laAt l j).f0 ≤ 4 ∧ (j = 0 ∨ (laAt l (j - 1)).f0 < (laAt l j).f0) := fun j hj => by
      have := h j hj
      simp only [updAt, lsaOk, Bool.and_eq_true, decide_eq_true_eq] at this
      exact ⟨this.1.1.1, this.1.1.2.1, this.2⟩
    have h3 := rising (fun j => (laAt l j).f0) _ h2 (l.length - 1) (by omega)
    have h4 := (h2 (l.length - 1) (by omega)).2.1
    omega
section
variable (l : List La) (m : Nat) (hl : (l.length : Int) ≤ 9223372036854775807) (hm : (m : Int) ≤ 9223372036854775807) (hx : ∀ i, i < l.length → (laAt l i).f3.length ≤ m)
include hl hm hx
theorem update_May_l0 (d : Nat) : ∀ (i k : Nat), i + d = l.length → d + m + 1 < k → update_May.l0 k l l (l.length : Int) (i : Int) = some (allFrom (updAt l) l.length d i) := by
  induction d with
  | zero =>
    intro i k h hk
    obtain ⟨k, rfl⟩ : ∃ m, k = m + 1 := ⟨k - 1, by omega⟩
    rw [update_May.l0, if_neg (by omega)]; rfl
  | succ d ih =>
    intro i k h hk
    obtain ⟨k, rfl⟩ : ∃ m, k = m + 1 := ⟨k - 1, by omega⟩
    have hrec := ih (i + 1) k (by omega) (by omega)
    have hxi := hx i (by omega)
    rw [update_May.l0, if_pos (by omega), if_pos (by omega), if_pos (by omega), rd_la, lsa_May_f _ (by omega) k (by omega), wrap_up i (by omega), hrec, allFrom]
    have hp : 0 < i → wrap64 ((i : Int) - 1) = ((i - 1 : Nat) : Int) := wrap_down i (by omega)
    generalize allFrom (updAt l) l.length d (i + 1) = R
    rw [updAt]
    cases h1 : lsaOk (laAt l i) with
    | false => rfl
    | true =>
      rw [Option.bind_some, if_pos rfl]
      by_cases e6 : (i : Int) > 0
      · rw [if_pos e6, hp (by omega), if_pos (by omega), if_pos (by omega), rd_la]
        by_cases e7 : (laAt l (i - 1)).f0 ≥ (laAt l i).f0
        · rw [if_pos e7, decide_eq_false (by omega)]; rfl
        · rw [if_neg e7, decide_eq_true (by omega)]; rfl
      · rw [if_neg e6, decide_eq_true (by omega)]; rfl
theorem update_May_f (k : Nat) (hk : l.length + m + 1 < k) : update_May.f k l = some (updOk l) := update_May_l0 l m hl hm hx l.length 0 k (by omega) hk
theorem ref_UpdateMay_l0 (d : Nat) : ∀ (i k : Nat), i + d = l.length → d + m + 1 < k → watchwordref9_UpdateMay.l0 k l (i : Int) = some (allFrom (updAt l) l.length d i && decide ((l.length : Int) ≤ 4)) := by
  induction d with
  | zero =>
    intro i k h hk
    obtain ⟨k, rfl⟩ : ∃ m, k = m + 1 := ⟨k - 1, by omega⟩
    rw [watchwordref9_UpdateMay.l0, if_neg (by omega)]; rfl
  | succ d ih =>
    intro i k h hk
    obtain ⟨k, rfl⟩ : ∃ m, k = m + 1 := ⟨k - 1, by omega⟩
    have hrec := ih (i + 1) k (by omega) (by omega)
    have hxi := hx i (by omega)
    rw [watchwordref9_UpdateMay.l0, if_pos (by omega), if_pos (by omega), rd_la, ref_LsaMay_f _ (by omega) k (by omega), wrap_up i (by omega), hrec, allFrom]
    have hp : 0 < i → wrap64 ((i : Int) - 1) = ((i - 1 : Nat) : Int) := wrap_down i (by omega)
    generalize allFrom (updAt l) l.length d (i + 1) = R
    generalize decide ((l.length : Int) ≤ 4) = D
    rw [updAt]
    cases h1 : lsaOk (laAt l i) with
    | false => rfl
    | true =>
      rw [Option.bind_some, if_pos rfl]
      by_cases e6 : (i : Int) > 0
      · rw [if_pos e6, hp (by omega), if_pos (by omega), if_pos (by omega), rd_la]
        by_cases e7 : (laAt l i).f0 ≤ (laAt l (i - 1)).f0
        · rw [if_pos e7, decide_eq_false (by omega)]; rfl
        · rw [if_neg e7, decide_eq_true (by omega)]; rfl
      · rw [if_neg e6, decide_eq_true (by omega)]; rfl
theorem ref_UpdateMay_f (k : Nat) (hk : l.length + m + 1 < k) : watchwordref9_UpdateMay.f k l = some (updOk l) := by
  have h := ref_UpdateMay_l0 l m hl hm hx l.length 0 k (by omega) hk
  show watchwordref9_UpdateMay.l0 k l ((0 : Nat) : Int) = _
  rw [h]
  congr 1
  show (updOk l && _) = _
  cases e : updOk l with
  | false => rfl
  | true => have := updOk_few l e; rw [decide_eq_true (by omega)]; rfl
theorem ref_StoreMay_l0 (d : Nat) : ∀ (i k : Nat), i + d = l.length → d + l.length + m + 2 < k → watchwordref18_StoreMay.l0 k l (i : Int) = some (allFrom (young l) l.length d i && updOk l) := by
  induction d with
  | zero =>
    intro i k h hk
    obtain ⟨k, rfl⟩ : ∃ m, k = m + 1 := ⟨k - 1, by omega⟩
    rw [watchwordref18_StoreMay.l0, if_neg (by omega), ref_UpdateMay_f l m hl hm hx k (by omega)]; rfl
  | succ d ih =>
    intro i k h hk
    obtain ⟨k, rfl⟩ : ∃ m, k = m + 1 := ⟨k - 1, by omega⟩
    have hrec := ih (i + 1) k (by omega) (by omega)
    rw [watchwordref18_StoreMay.l0, if_pos (by omega), if_pos (by omega), rd_la, wrap_up i (by omega), hrec, allFrom]
    generalize allFrom (young l) l.length d (i + 1) = R
    rw [young]
    by_cases e : (laAt l i).f2 ≥ 60
    · rw [if_pos e, decide_eq_false (by omega)]; rfl
    · rw [if_neg e, decide_eq_true (by omega)]; rfl
theorem ref_StoreMay_f (k : Nat) (hk : l.length + l.length + m + 2 < k) : watchwordref18_StoreMay.f k l = some (storeOk l) := by
  have h := ref_StoreMay_l0 l m hl hm hx l.length 0 k (by omega) hk
  show watchwordref18_StoreMay.l0 k l ((0 : Nat) : Int) = _
  rw [h, storeOk, Bool.and_comm]; rfl
end

/-! ### which links a router tells -/
/-- The first place from i on where p holds, or n. -/
def findFrom (p : Nat → Bool) (n : Nat) : Nat → Nat → Nat
  | 0, i => i
  | d + 1, i => if p i = true then i else findFrom p n d (i + 1)
/-- Where router r's is; the length where there is none. -/
def whereIs (l : List La) (r : Int) : Nat := findFrom (fun i => decide ((laAt l i).f0 = r)) l.length l.length 0
def whereLk (ls : List Lk) (t : Int) : Nat := findFrom (fun i => decide ((lkAt ls i).f0 = t)) ls.length ls.length 0
theorem findFrom_yes (p : Nat → Bool) (n d i : Nat) (h : p i = true) : findFrom p n (d + 1) i = i := by rw [findFrom, if_pos h]
theorem findFrom_skip (p : Nat → Bool) (n d i : Nat) (h : p i = false) : findFrom p n (d + 1) i = findFrom p n d (i + 1) := by rw [findFrom, if_neg (by rw [h]; simp)]
theorem findFrom_le (p : Nat → Bool) (n d i : Nat) (h : i + d = n) : findFrom p n d i ≤ n ∧ i ≤ findFrom p n d i := by
  induction d generalizing i with
  | zero => simp only [findFrom]; omega
  | succ d ih => have := ih (i + 1) (by omega); unfold findFrom; split <;> omega
theorem findFrom_is (p : Nat → Bool) (n d i : Nat) (h : i + d = n) (hlt : findFrom p n d i < n) : p (findFrom p n d i) = true := by
  induction d generalizing i with
  | zero => simp only [findFrom] at hlt; omega
  | succ d ih =>
    unfold findFrom at hlt ⊢
    split
    · assumption
    · rename_i e; rw [if_neg e] at hlt; exact ih (i + 1) (by omega) hlt
theorem findFrom_before (p : Nat → Bool) (n d i : Nat) (h : i + d = n) (j : Nat) (h1 : i ≤ j) (h2 : j < findFrom p n d i) : p j = false := by
  induction d generalizing i with
  | zero => simp only [findFrom] at h2; omega
  | succ d ih =>
    unfold findFrom at h2
    split at h2
    · omega
    · rename_i e
      by_cases e2 : j = i
      · rw [e2]; simpa using e
      · exact ih (i + 1) (by omega) (by omega) h2
theorem findFrom_at (p : Nat → Bool) (n : Nat) (j : Nat) (hj : j < n) (hp : p j = true) (hu : ∀ i, i < j → p i = false) : findFrom p n n 0 = j := by
  have h1 := findFrom_le p n n 0 (by omega)
  by_cases e : findFrom p n n 0 < j
  · have := findFrom_is p n n 0 (by omega) (by omega); rw [hu _ e] at this; cases this
  · by_cases e2 : j < findFrom p n n 0
    · have := findFrom_before p n n 0 (by omega) j (by omega) e2; rw [hp] at this; cases this
    · omega
theorem findFrom_no (p : Nat → Bool) (n : Nat) (h : ∀ i, i < n → p i = false) : findFrom p n n 0 = n := by
  have h1 := findFrom_le p n n 0 (by omega)
  by_cases e : findFrom p n n 0 < n
  · have := findFrom_is p n n 0 (by omega) e; rw [h _ e] at this; cases this
  · omega
/-- What router a tells of a way to b; nothing: 0. -/
def toldOf (l : List La) (a b : Int) : Int :=
  if whereIs l a < l.length then (if whereLk (laAt l (whereIs l a)).f3 b < (laAt l (whereIs l a)).f3.length then (lkAt (laAt l (whereIs l a)).f3 (whereLk (laAt l (whereIs l a)).f3 b)).f1 else 0) else 0
theorem ref_find_l0 (l : List La) (r : Int) (hl : (l.length : Int) ≤ 9223372036854775807) (d : Nat) : ∀ (i k : Nat), i + d = l.length → d < k →
    watchwordref18_find.l0 k l r (i : Int) = some (if findFrom (fun i => decide ((laAt l i).f0 = r)) l.length d i < l.length then (findFrom (fun i => decide ((laAt l i).f0 = r)) l.length d i : Int) else -1) := by
  induction d with
  | zero =>
    intro i k h hk
    obtain ⟨k, rfl⟩ : ∃ m, k = m + 1 := ⟨k - 1, by omega⟩
    rw [watchwordref18_find.l0, if_neg (by omega), findFrom, if_neg (by omega)]
  | succ d ih =>
    intro i k h hk
    obtain ⟨k, rfl⟩ : ∃ m, k = m + 1 := ⟨k - 1, by omega⟩
    have hrec := ih (i + 1) k (by omega) (by omega)
    rw [watchwordref18_find.l0, if_pos (by omega), if_pos (by omega), rd_la, wrap_up i (by omega), hrec]
    by_cases e : (laAt l i).f0 = r
    · rw [if_pos e, findFrom_yes _ _ _ _ (by simpa using e), if_pos (by omega)]
    · rw [if_neg e, findFrom_skip _ _ _ _ (by simpa using e)]
theorem ref_find_f (l : List La) (r : Int) (hl : (l.length : Int) ≤ 9223372036854775807) (k : Nat) (hk : l.length < k) : watchwordref18_find.f k l r = some (if whereIs l r < l.length then (whereIs l r : Int) else -1) :=
  ref_find_l0 l r hl l.length 0 k (by omega) hk
theorem ref_told_l0 (l : List La) (b : Int) (hl : (l.length : Int) ≤ 9223372036854775807) (x : Nat) (hxl : x < l.length) (hx : ((laAt l x).f3.length : Int) ≤ 9223372036854775807) (d : Nat) : ∀ (i k : Nat), i + d = (laAt l x).f3.length → d < k →
    watchwordref18_told.l0 k l b (x : Int) (i : Int) = some (if findFrom (fun i => decide ((lkAt (laAt l x).f3 i).f0 = b)) (laAt l x).f3.length d i < (laAt l x).f3.length then (lkAt (laAt l x).f3 (findFrom (fun i => decide ((lkAt (laAt l x).f3 i).f0 = b)) (laAt l x).f3.length d i)).f1 else 0) := by
  induction d with
  | zero =>
    intro i k h hk
    obtain ⟨k, rfl⟩ : ∃ m, k = m + 1 := ⟨k - 1, by omega⟩
    rw [watchwordref18_told.l0, if_pos (by omega), if_pos (by omega), rd_la, if_neg (by omega), findFrom, if_neg (by omega)]
  | succ d ih =>
    intro i k h hk
    obtain ⟨k, rfl⟩ : ∃ m, k = m + 1 := ⟨k - 1, by omega⟩
    have hrec := ih (i + 1) k (by omega) (by omega)
    rw [watchwordref18_told.l0, if_pos (by omega), if_pos (by omega), rd_la, if_pos (by omega), if_pos (by omega), rd_lk, wrap_up i (by omega), hrec]
    by_cases e : (lkAt (laAt l x).f3 i).f0 = b
    · rw [if_pos e, findFrom_yes _ _ _ _ (by simpa using e), if_pos (by omega)]
    · rw [if_neg e, findFrom_skip _ _ _ _ (by simpa using e)]
theorem ref_told_f (l : List La) (a b : Int) (hl : (l.length : Int) ≤ 9223372036854775807) (m : Nat) (hm : (m : Int) ≤ 9223372036854775807) (hx : ∀ i, i < l.length → (laAt l i).f3.length ≤ m) (k : Nat) (hk : l.length + m + 1 < k) : watchwordref18_told.f k l a b = some (toldOf l a b) := by
  unfold watchwordref18_told.f toldOf
  rw [ref_find_f l a hl k (by omega)]
  by_cases e : whereIs l a < l.length
  · have hxi := hx _ e
    rw [if_pos e, if_pos e, Option.bind_some, if_neg (by omega)]
    exact ref_told_l0 l b hl (whereIs l a) e (by omega) _ 0 k (by omega) (by omega)
  · rw [if_neg e, if_neg e, Option.bind_some, if_pos (by omega)]
end Go.Proofs.Ytjficnndocjodaa.H
