/- What a store tells: the program's table, link by link, is what the reference finds. Plain Lean. -/
import Derived.Test.YtjficnndocjodaaHGStore
import Derived.Test.YtjficnndocjodaaHArr
namespace Go.Proofs.Ytjficnndocjodaa.H
open Go.RowKit Go.Proofs.YtjficnndocjodaaW.PrintWords Go.Proofs.YtjficnndocjodaaW.PrintLast Go.Proofs.YtjficnndocjodaaW.PrintMore
open Go.Proofs.Ytjficnndocjodaa.PGraphs
set_option linter.unusedVariables false
set_option linter.unusedSimpArgs false
set_option linter.unusedSectionVars false

/-- The first m links of a router r's put into a table. -/
def tellIn (r : Int) (ls : List Lk) (c : List Int) : Nat → List Int
  | 0 => c
  | m + 1 => (tellIn r ls c m).set ((r - 1).toNat * 4 + ((lkAt ls m).f0 - 1).toNat) (lkAt ls m).f1
/-- The first n Lsas'. -/
def tellAt (l : List La) : Nat → List Int
  | 0 => zs16
  | n + 1 => tellIn (laAt l n).f0 (laAt l n).f3 (tellAt l n) (laAt l n).f3.length
theorem tellIn_length (r : Int) (ls : List Lk) (c : List Int) (m : Nat) : (tellIn r ls c m).length = c.length := by
  induction m with
  | zero => rfl
  | succ m ih => rw [tellIn, List.length_set, ih]
theorem tellAt_length (l : List La) (n : Nat) : (tellAt l n).length = 16 := by
  induction n with
  | zero => rfl
  | succ n ih => rw [tellAt, tellIn_length, ih]
/-- Of both ends: the first n places. -/
def bothTo (t : List Int) : Nat → List Int
  | 0 => zs16
  | n + 1 => if 0 < gt t (n % 4 * 4 + n / 4) then (bothTo t n).set n (gt t n) else bothTo t n
theorem bothTo_length (t : List Int) (n : Nat) : (bothTo t n).length = 16 := by
  induction n with
  | zero => rfl
  | succ n ih => unfold bothTo; split <;> simp [ih]
/-- graph.Of, in plain Lean. -/
def graphOf (l : List La) : List Int × Int := if storeOk l = true then (bothTo (tellAt l l.length) 16, 0) else (zs16, 2000)
/-- The reference's GraphOf: the first n places. -/
def rbothTo (l : List La) : Nat → List Int
  | 0 => zs16
  | n + 1 => if 0 < toldOf l ((n % 4 : Nat) + 1) ((n / 4 : Nat) + 1) then (rbothTo l n).set n (toldOf l ((n / 4 : Nat) + 1) ((n % 4 : Nat) + 1)) else rbothTo l n
theorem rbothTo_length (l : List La) (n : Nat) : (rbothTo l n).length = 16 := by
  induction n with
  | zero => rfl
  | succ n ih => unfold rbothTo; split <;> simp [ih]
def rgraphOf (l : List La) : List Int × Int := if storeOk l = true then (rbothTo l 16, 0) else (zs16, 2000)

section
variable (l : List La) (hok : storeOk l = true)
include hok
theorem st_router (i : Nat) (hi : i < l.length) : 1 ≤ (laAt l i).f0 ∧ (laAt l i).f0 ≤ 4 ∧ (i = 0 ∨ (laAt l (i - 1)).f0 < (laAt l i).f0) ∧ linksOk (laAt l i).f3 (laAt l i).f0 = true ∧ (laAt l i).f2 < 60 := by
  rw [storeOk, Bool.and_eq_true, updOk_iff, allYoung_iff] at hok
  have h := hok.1 i hi
  have hy := hok.2 i hi
  simp only [updAt, lsaOk, young, Bool.and_eq_true, decide_eq_true_eq] at h hy
  exact ⟨h.1.1.1, h.1.1.2.1, h.2, h.1.2, hy⟩
theorem st_link (i : Nat) (hi : i < l.length) (j : Nat) (hj : j < (laAt l i).f3.length) : 1 ≤ (lkAt (laAt l i).f3 j).f0 ∧ (lkAt (laAt l i).f3 j).f0 ≤ 4 ∧ (lkAt (laAt l i).f3 j).f0 ≠ (laAt l i).f0 ∧ 1 ≤ (lkAt (laAt l i).f3 j).f1 ∧ (lkAt (laAt l i).f3 j).f1 ≤ 65535 ∧ (j = 0 ∨ (lkAt (laAt l i).f3 (j - 1)).f0 < (lkAt (laAt l i).f3 j).f0) := by
  have h := (linksOk_iff _ _).1 (st_router l hok i hi).2.2.2.1 j hj
  simpa only [linkOk, decide_eq_true_eq] using h
omit hok in
theorem mono_of (f : Nat → Int) (n : Nat) (h : ∀ j, j < n → j = 0 ∨ f (j - 1) < f j) (i j : Nat) (hij : i < j) (hj : j < n) : f i < f j := by
  induction j with
  | zero => omega
  | succ j ih =>
    have h1 := (h (j + 1) hj).resolve_left (by omega)
    rw [Nat.add_sub_cancel] at h1
    by_cases e : i = j
    · rw [e]; exact h1
    · have := ih (by omega) (by omega); omega
theorem st_one (i j : Nat) (hi : i < l.length) (hj : j < l.length) (h : (laAt l i).f0 = (laAt l j).f0) : i = j := by
  have hm := mono_of (fun i => (laAt l i).f0) l.length (fun j hj => (st_router l hok j hj).2.2.1)
  by_cases e1 : i < j
  · have := hm i j e1 hj; omega
  · by_cases e2 : j < i
    · have := hm j i e2 hi; omega
    · omega
theorem st_oneLk (x : Nat) (hx : x < l.length) (i j : Nat) (hi : i < (laAt l x).f3.length) (hj : j < (laAt l x).f3.length) (h : (lkAt (laAt l x).f3 i).f0 = (lkAt (laAt l x).f3 j).f0) : i = j := by
  have hm := mono_of (fun i => (lkAt (laAt l x).f3 i).f0) (laAt l x).f3.length (fun j hj => (st_link l hok x hx j hj).2.2.2.2.2)
  by_cases e1 : i < j
  · have := hm i j e1 hj; omega
  · by_cases e2 : j < i
    · have := hm j i e2 hi; omega
    · omega
/-- Link j of Lsa i is the way from a to b. -/
def isWay (l : List La) (a b i j : Nat) : Prop := (laAt l i).f0 = (a : Int) + 1 ∧ j < (laAt l i).f3.length ∧ (lkAt (laAt l i).f3 j).f0 = (b : Int) + 1
theorem tellIn_way (n : Nat) (hn : n < l.length) (a b : Nat) (ha : a < 4) (hb : b < 4) (c : List Int) (hc : c.length = 16)
    (h0 : (∀ i j, i < n → ¬ isWay l a b i j) → gt c (a * 4 + b) = 0) (h1 : ∀ i j, i < n → isWay l a b i j → gt c (a * 4 + b) = (lkAt (laAt l i).f3 j).f1) (m : Nat) (hm : m ≤ (laAt l n).f3.length) :
    ((∀ i j, i < n ∨ i = n ∧ j < m → ¬ isWay l a b i j) → gt (tellIn (laAt l n).f0 (laAt l n).f3 c m) (a * 4 + b) = 0) ∧ (∀ i j, i < n ∨ i = n ∧ j < m → isWay l a b i j → gt (tellIn (laAt l n).f0 (laAt l n).f3 c m) (a * 4 + b) = (lkAt (laAt l i).f3 j).f1) := by
  induction m with
  | zero => exact ⟨fun h => h0 (fun i j hi => h i j (.inl hi)), fun i j hi => h1 i j (by omega)⟩
  | succ m ih =>
    obtain ⟨i0, i1⟩ := ih (by omega)
    have hr := st_router l hok n hn
    have hk := st_link l hok n hn m (by omega)
    have hset : gt (tellIn (laAt l n).f0 (laAt l n).f3 c (m + 1)) (a * 4 + b) = if (laAt l n).f0 = (a : Int) + 1 ∧ (lkAt (laAt l n).f3 m).f0 = (b : Int) + 1 then (lkAt (laAt l n).f3 m).f1 else gt (tellIn (laAt l n).f0 (laAt l n).f3 c m) (a * 4 + b) := by
      rw [tellIn, gt_set _ _ _ _ (by rw [tellIn_length, hc]; omega)]
      by_cases e : (laAt l n).f0 = (a : Int) + 1 ∧ (lkAt (laAt l n).f3 m).f0 = (b : Int) + 1
      · rw [if_pos e, if_pos (by omega)]
      · rw [if_neg e, if_neg (by omega)]
    rw [hset]
    refine ⟨fun h => ?_, fun i j hij hw => ?_⟩
    · rw [if_neg (fun e => h n m (.inr ⟨rfl, by omega⟩) ⟨e.1, by omega, e.2⟩)]
      exact i0 (fun i j hij => h i j (by omega))
    · by_cases e : (laAt l n).f0 = (a : Int) + 1 ∧ (lkAt (laAt l n).f3 m).f0 = (b : Int) + 1
      · rw [if_pos e]
        have e1 : i = n := st_one l hok i n (by omega) hn (by rw [hw.1, e.1])
        subst e1
        have e2 : j = m := st_oneLk l hok i hn j m hw.2.1 (by omega) (by rw [hw.2.2, e.2])
        rw [e2]
      · rw [if_neg e]
        refine i1 i j ?_ hw
        rcases hij with h | ⟨h, h2⟩
        · exact .inl h
        · right
          subst h
          refine ⟨rfl, ?_⟩
          by_cases e3 : j = m
          · subst e3; exact absurd ⟨hw.1, hw.2.2⟩ e
          · omega
theorem tellAt_way (n : Nat) (hn : n ≤ l.length) (a b : Nat) (ha : a < 4) (hb : b < 4) :
    ((∀ i j, i < n → ¬ isWay l a b i j) → gt (tellAt l n) (a * 4 + b) = 0) ∧ (∀ i j, i < n → isWay l a b i j → gt (tellAt l n) (a * 4 + b) = (lkAt (laAt l i).f3 j).f1) := by
  induction n with
  | zero => exact ⟨fun _ => gt_zeros 16 _, fun i j hi => by omega⟩
  | succ n ih =>
    obtain ⟨i0, i1⟩ := ih (by omega)
    obtain ⟨j0, j1⟩ := tellIn_way l hok n (by omega) a b ha hb (tellAt l n) (tellAt_length l n) i0 i1 (laAt l n).f3.length (Nat.le_refl _)
    refine ⟨fun h => j0 (fun i j hij => h i j (by omega)), fun i j hi hw => j1 i j ?_ hw⟩
    by_cases e : i = n
    · subst e; exact .inr ⟨rfl, hw.2.1⟩
    · left; omega
theorem tell_is (a b : Nat) (ha : a < 4) (hb : b < 4) : gt (tellAt l l.length) (a * 4 + b) = toldOf l ((a : Int) + 1) ((b : Int) + 1) := by
  obtain ⟨h0, h1⟩ := tellAt_way l hok l.length (Nat.le_refl _) a b ha hb
  unfold toldOf
  by_cases e1 : whereIs l ((a : Int) + 1) < l.length
  · rw [if_pos e1]
    have p1 := findFrom_is _ _ _ _ (by omega) e1
    have p1 : (laAt l (whereIs l ((a : Int) + 1))).f0 = (a : Int) + 1 := of_decide_eq_true p1
    by_cases e2 : whereLk (laAt l (whereIs l ((a : Int) + 1))).f3 ((b : Int) + 1) < (laAt l (whereIs l ((a : Int) + 1))).f3.length
    · rw [if_pos e2]
      have p2 := findFrom_is _ _ _ _ (by omega) e2
      have p2 : (lkAt (laAt l (whereIs l ((a : Int) + 1))).f3 (whereLk (laAt l (whereIs l ((a : Int) + 1))).f3 ((b : Int) + 1))).f0 = (b : Int) + 1 := of_decide_eq_true p2
      exact h1 _ _ e1 ⟨p1, e2, p2⟩
    · rw [if_neg e2]
      refine h0 (fun i j hi hw => ?_)
      have e3 : i = whereIs l ((a : Int) + 1) := st_one l hok i _ hi e1 (by rw [hw.1, p1])
      have hl := findFrom_le (fun i => decide ((lkAt (laAt l (whereIs l ((a : Int) + 1))).f3 i).f0 = (b : Int) + 1)) (laAt l (whereIs l ((a : Int) + 1))).f3.length (laAt l (whereIs l ((a : Int) + 1))).f3.length 0 (by omega)
      have hw2 := hw.2.1
      have hw3 := hw.2.2
      rw [e3] at hw2 hw3
      have := findFrom_before (fun i => decide ((lkAt (laAt l (whereIs l ((a : Int) + 1))).f3 i).f0 = (b : Int) + 1)) (laAt l (whereIs l ((a : Int) + 1))).f3.length (laAt l (whereIs l ((a : Int) + 1))).f3.length 0 (by omega) j (by omega) (by unfold whereLk at e2; omega)
      simp [hw3] at this
  · rw [if_neg e1]
    refine h0 (fun i j hi hw => ?_)
    have := findFrom_before (fun i => decide ((laAt l i).f0 = (a : Int) + 1)) l.length l.length 0 (by omega) i (by omega) (by unfold whereIs at e1; omega)
    simp [hw.1] at this
theorem both_same (n : Nat) (hn : n ≤ 16) : bothTo (tellAt l l.length) n = rbothTo l n := by
  induction n with
  | zero => rfl
  | succ n ih =>
    unfold bothTo rbothTo
    have e1 := tell_is l hok (n % 4) (n / 4) (by omega) (by omega)
    have e2 := tell_is l hok (n / 4) (n % 4) (by omega) (by omega)
    rw [show n / 4 * 4 + n % 4 = n by omega] at e2
    rw [ih (by omega), e1, e2]
end
theorem graph_same (l : List La) : graphOf l = rgraphOf l := by
  unfold graphOf rgraphOf
  split
  · rename_i h; rw [both_same l h 16 (by omega)]
  · rfl
end Go.Proofs.Ytjficnndocjodaa.H
