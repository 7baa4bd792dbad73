/- A row of Lsas' bytes; the like Lsas are the same. Plain Lean. -/
import Derived.Test.YtfhccpdkgceneaaHLGet
import Derived.Test.YtfhccpdkgceneaaPLsaRowx7
namespace Go.Proofs.Ytfhccpdkgceneaa.R
open Go.RowKit Go.Proofs.YtfhccpdkgceneaaW.PrintWords Go.Proofs.YtfhccpdkgceneaaW.PrintLast Go.Proofs.YtfhccpdkgceneaaW.PrintMore
open Go.Proofs.Ytfhccpdkgceneaa.PLsaRow
set_option linter.unusedVariables false
set_option linter.unusedSimpArgs false

def catL (g : List La) : Nat → List Int
  | 0 => []
  | n + 1 => catL g n ++ encL (laAt g n)
def goodTo (l : List La) : Nat → List La
  | 0 => []
  | n + 1 => if lsaOk (laAt l n) = true then goodTo l n ++ [laAt l n] else goodTo l n
theorem by_catL (g : List La) (n : Nat) : By (catL g n) := by
  induction n with
  | zero => exact By.nil
  | succ n ih => exact By.append ih (by_encL _)
theorem laAt_left (g : List La) (a : La) (i : Nat) (h : i < g.length) : laAt (g ++ [a]) i = laAt g i := by
  unfold laAt; rw [List.getD_eq_getElem?_getD, List.getD_eq_getElem?_getD, List.getElem?_append_left h]
theorem laAt_last (g : List La) (a : La) : laAt (g ++ [a]) g.length = a := by
  unfold laAt; rw [List.getD_eq_getElem?_getD, List.getElem?_append_right (Nat.le_refl _)]; simp
theorem catL_left (g : List La) (a : La) (n : Nat) (h : n ≤ g.length) : catL (g ++ [a]) n = catL g n := by
  induction n with
  | zero => rfl
  | succ n ih => rw [catL, catL, ih (by omega), laAt_left g a n (by omega)]
theorem cat_snoc (g : List La) (a : La) : catL (g ++ [a]) (g ++ [a]).length = catL g g.length ++ encL a := by
  rw [List.length_append, List.length_singleton, catL, catL_left g a _ (Nat.le_refl _), laAt_last]
theorem goodTo_ok (l : List La) (n : Nat) : ∀ i, i < (goodTo l n).length → lsaOk (laAt (goodTo l n) i) = true := by
  induction n with
  | zero => intro i h; cases h
  | succ n ih =>
    intro i h
    unfold goodTo at h ⊢
    by_cases e : lsaOk (laAt l n) = true
    · rw [if_pos e] at h ⊢
      by_cases hi : i < (goodTo l n).length
      · rw [laAt_left _ _ _ hi]; exact ih i hi
      · have : i = (goodTo l n).length := by rw [List.length_append, List.length_singleton] at h; omega
        rw [this, laAt_last]; exact e
    · rw [if_neg e] at h ⊢; exact ih i h
theorem goodTo_length (l : List La) (n : Nat) : (goodTo l n).length ≤ n := by
  induction n with
  | zero => exact Nat.le_refl _
  | succ n ih =>
    unfold goodTo; split
    · rw [List.length_append, List.length_singleton]; omega
    · omega
theorem catL_length (g : List La) (hg : ∀ i, i < g.length → lsaOk (laAt g i) = true) (n : Nat) (hn : n ≤ g.length) : (catL g n).length ≤ 21 * n := by
  induction n with
  | zero => exact Nat.le_refl _
  | succ n ih =>
    have h4 := (lsaOk_is (hg n (by omega))).2.2.2.2.2.2.1
    have := ih (by omega)
    rw [catL, List.length_append, encL_length]; omega
theorem catL_split (g : List La) (n m : Nat) (h : n < m) : ∃ post, catL g m = catL g n ++ (encL (laAt g n) ++ post) ∧ By post := by
  induction m with
  | zero => omega
  | succ m ih =>
    by_cases e : n = m
    · subst e; exact ⟨[], by rw [catL, List.append_nil], By.nil⟩
    · obtain ⟨post, hp, hb⟩ := ih (by omega)
      exact ⟨post ++ encL (laAt g m), by rw [catL, hp]; simp [List.append_assoc], By.append hb (by_encL _)⟩
theorem links_same (ls : List Lk) (hl : (ls.length : Int) ≤ 9223372036854775807) (d : Nat) : ∀ (i k : Nat), i + d = ls.length → d < k → watchwordlaw0_SameLinks.l0 k ls ls (i : Int) = some true := by
  induction d with
  | zero =>
    intro i k h hk
    obtain ⟨k, rfl⟩ : ∃ m, k = m + 1 := ⟨k - 1, by omega⟩
    rw [watchwordlaw0_SameLinks.l0, if_neg (by omega)]
  | succ d ih =>
    intro i k h hk
    obtain ⟨k, rfl⟩ : ∃ m, k = m + 1 := ⟨k - 1, by omega⟩
    have hrec := ih (i + 1) k (by omega) (by omega)
    rw [watchwordlaw0_SameLinks.l0, if_pos (by omega), if_pos (by omega), if_pos (by omega), if_neg (by simp), wrap_up i (by omega)]
    exact hrec
theorem same_lsa (a : La) (hl : (a.f3.length : Int) ≤ 9223372036854775807) (k : Nat) (hk : a.f3.length < k) : watchwordlaw0_SameLsa.f k a.f0 a.f1 a.f2 a.f3 a.f0 a.f1 a.f2 a.f3 = some true := by
  unfold watchwordlaw0_SameLsa.f watchwordlaw0_SameLinks.f
  rw [if_pos rfl, if_pos rfl, if_pos rfl, if_pos rfl, show watchwordlaw0_SameLinks.l0 k a.f3 a.f3 0 = some true from links_same a.f3 hl a.f3.length 0 k (by omega) hk]
  rfl
/-- An Lsa of a list, as a walk reads it. -/
theorem la_cells {w wr : World} {A : Option Addr} {l : List La} (h : Kd.C k29 w A l.length l) (hb : Below w.heap.size w wr) (i : Nat) (hi : i < l.length) :
    ∃ ad A3 c3, A = some ad ∧ wr.cell? (ad.add (i * 4)) = some (.int .i64 (laAt l i).f0) ∧ wr.cell? ⟨(ad.add (i * 4)).block, (ad.add (i * 4)).off + 1, none⟩ = some (.int .i64 (laAt l i).f1) ∧ wr.cell? ⟨(ad.add (i * 4)).block, (ad.add (i * 4)).off + 2, none⟩ = some (.int .i64 (laAt l i).f2) ∧ wr.cell? ⟨(ad.add (i * 4)).block, (ad.add (i * 4)).off + 3, none⟩ = some (.slice A3 (laAt l i).f3.length c3) ∧ (laAt l i).f3.length ≤ c3 ∧ Kd.C k62 w A3 (laAt l i).f3.length (laAt l i).f3 := by
  obtain ⟨ad, A3, c3, e, q0, q1, q2, q3, hl, hc⟩ := at_T29 h (i : Int) (by omega) (by omega)
  exact ⟨ad, A3, c3, e, (hb.cell (World.block_lt_of_cell? w _ q0)).trans q0, (hb.cell (World.block_lt_of_cell? w _ q1)).trans q1, (hb.cell (World.block_lt_of_cell? w _ q2)).trans q2, (hb.cell (World.block_lt_of_cell? w _ q3)).trans q3, hl, hc⟩
theorem info29x : (Try.prog.info? 29).map (fun i => (i.zero, i.size, i.bytes)) = some (some (.agg #[.int .i64 0, .int .i64 0, .int .i64 0, .slice none 0 0]), 4, 48) := by kernel_rfl
/-- Elements as they were read at one time. -/
def kC (w : World) : Kd La where
  sz := k29.sz
  E := []
  K := fun _ x cs => k29.K w x cs
  M := fun _ _ _ x cs => k29.K w x cs
  K_len := fun h => k29.K_len h
  K_one := fun h => k29.K_one h
  K_below := fun _ h => h
  K_of_M := fun h => h
  M_mono := fun _ h => h
  M_bound := fun h => h
  M_move := fun _ h => h
  M_lower := fun _ h => h
theorem row_of {w w1 : World} {A : Option Addr} {n : Nat} {xs : List La} (h : Kd.C (kC w) w1 A n xs) (hb : Below w.heap.size w w1) : Kd.C k29 w1 A n xs := ReadsRow.imp_ h (Below.refl _ _) (fun _ _ h => k29.K_below hb h)
end Go.Proofs.Ytfhccpdkgceneaa.R
