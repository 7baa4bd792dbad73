/- Bytes as lists of numbers: put one behind the other, cut, read; two and four of them as one number. Plain Lean. -/
import Derived.Test.YtfhccpdkgceneaaPLsaRowx6
namespace Go.Proofs.Ytfhccpdkgceneaa.R
open Go.RowKit Go.Proofs.YtfhccpdkgceneaaW.PrintWords Go.Proofs.YtfhccpdkgceneaaW.PrintLast Go.Proofs.YtfhccpdkgceneaaW.PrintMore
open Go.Proofs.Ytfhccpdkgceneaa.PLsaRow
set_option linter.unusedVariables false
set_option linter.unusedSimpArgs false

abbrev Lk := S62
abbrev La := S29
/-- The text whose bytes these numbers are. -/
abbrev N (xs : List Int) : ByteArray := strOfNums xs
def By (xs : List Int) : Prop := ∀ x ∈ xs, 0 ≤ x ∧ x < 256
theorem By.nil : By [] := fun x h => by cases h
theorem By.cons {x : Int} {xs : List Int} (h : 0 ≤ x ∧ x < 256) (hs : By xs) : By (x :: xs) := fun y hy => by
  rcases List.mem_cons.1 hy with rfl | hy
  · exact h
  · exact hs y hy
theorem By.append {xs ys : List Int} (h : By xs) (h' : By ys) : By (xs ++ ys) := fun y hy => by
  rcases List.mem_append.1 hy with hy | hy
  · exact h y hy
  · exact h' y hy
theorem N_size (xs : List Int) : (N xs).size = xs.length := strOfNums_size xs
theorem N_ext {a b : ByteArray} (h : a.data.toList = b.data.toList) : a = b := by
  cases a; cases b; simp only [Array.toList_inj] at h; rw [h]
theorem N_append (xs ys : List Int) : N xs ++ N ys = N (xs ++ ys) := by
  apply N_ext
  simp [N, strOfNums]
theorem N_extract (xs : List Int) (a b : Nat) : (N xs).extract a b = N ((xs.drop a).take (b - a)) := by
  apply N_ext
  simp [N, strOfNums, ByteArray.data_extract, List.map_take, List.map_drop]
theorem bt_N {xs : List Int} (h : By xs) (i : Nat) (hi : i < xs.length) : bt (N xs) (i : Int) = xs[i] := by
  have hx := h _ (List.getElem_mem hi)
  unfold bt
  rw [dif_pos (by simpa [N_size] using hi)]
  show (((N xs).data[(i : Int).toNat]'_).toNat : Int) = _
  simp [N, strOfNums]
  omega
theorem N_toList (xs ys : List Int) (h : N xs = N ys) : (N xs).toList = (N ys).toList := by rw [h]
theorem or_bytes (x b : Int) (hx : 0 ≤ x ∧ x < 8388608) (hb : 0 ≤ b ∧ b < 256) : Go.bits .or .i64 (wrap64 (x * 256)) (wrap64 b) = x * 256 + b := by
  have h1 : wrap64 (x * 256) = x * 256 := by unfold wrap64; omega
  have h2 : wrap64 b = b := by unfold wrap64; omega
  rw [h1, h2]
  obtain ⟨n, rfl⟩ : ∃ n : Nat, x = (n : Int) := ⟨x.toNat, by omega⟩
  obtain ⟨c, rfl⟩ : ∃ c : Nat, b = (c : Int) := ⟨b.toNat, by omega⟩
  have e1 : (BitVec.ofInt 64 ((n : Int) * 256)).toNat = n * 256 := by
    rw [BitVec.toNat_ofInt]; omega
  have e2 : (BitVec.ofInt 64 (c : Int)).toNat = c := by
    rw [BitVec.toNat_ofInt]; omega
  have key : (BitVec.ofInt 64 ((n : Int) * 256) ||| BitVec.ofInt 64 (c : Int)).toNat = n * 256 + c := by
    rw [BitVec.toNat_or, e1, e2, show n * 256 = n <<< 8 by rw [Nat.shiftLeft_eq], ← Nat.shiftLeft_add_eq_or_of_lt (show c < 2 ^ 8 by omega)]
  show IntKind.i64.wrap ((BitVec.ofInt 64 ((n : Int) * 256) ||| BitVec.ofInt 64 (c : Int)).toNat : Nat) = _
  rw [key, IntKind.wrap_i64]
  omega
theorem wrapB (i : Nat) (h : (i : Int) < 4611686018427387904) : wrap64 ((i : Int) + 1) = ((i + 1 : Nat) : Int) := by unfold wrap64; omega
/-- One more byte of a number. -/
theorem number_step {xs : List Int} (h : By xs) (k i : Nat) (acc : Int) (hi : i < xs.length) (hl : xs.length ≤ 100) (ha : 0 ≤ acc ∧ acc < 8388608) :
    lsa_Number.l0 (k + 1) (N xs) acc (xs.length : Int) (i : Int) = lsa_Number.l0 k (N xs) (acc * 256 + xs[i]) (xs.length : Int) ((i + 1 : Nat) : Int) := by
  rw [lsa_Number.l0, if_pos (by omega), if_pos (by omega), if_pos (by rw [N_size]; omega), bt_N h i hi, or_bytes acc xs[i] ha (h _ (List.getElem_mem hi)), wrapB i (by omega)]
theorem number_end {xs : List Int} (k : Nat) (acc : Int) : lsa_Number.l0 (k + 1) (N xs) acc (xs.length : Int) ((xs.length : Nat) : Int) = some acc := by
  rw [lsa_Number.l0, if_neg (by omega)]
theorem number_two (a b : Int) (k : Nat) (hk : 3 ≤ k) (ha : 0 ≤ a ∧ a < 256) (hb : 0 ≤ b ∧ b < 256) : lsa_Number.f k (N [a, b]) = some (a * 256 + b) := by
  obtain ⟨k, rfl⟩ : ∃ m, k = m + 3 := ⟨k - 3, by omega⟩
  have h : By [a, b] := By.cons ha (By.cons hb By.nil)
  unfold lsa_Number.f
  rw [N_size]
  show lsa_Number.l0 (k + 2 + 1) (N [a, b]) 0 (([a, b] : List Int).length : Int) ((0 : Nat) : Int) = _
  rw [number_step h _ 0 0 (by simp) (by simp) (by omega), number_step h _ 1 _ (by simp) (by simp) (by simp; omega)]
  refine (number_end _ _).trans ?_
  simp
theorem number_four (a b c d : Int) (k : Nat) (hk : 5 ≤ k) (ha : 0 ≤ a ∧ a < 128) (hb : 0 ≤ b ∧ b < 256) (hc : 0 ≤ c ∧ c < 256) (hd : 0 ≤ d ∧ d < 256) : lsa_Number.f k (N [a, b, c, d]) = some (((a * 256 + b) * 256 + c) * 256 + d) := by
  obtain ⟨k, rfl⟩ : ∃ m, k = m + 5 := ⟨k - 5, by omega⟩
  have h : By [a, b, c, d] := By.cons (by omega) (By.cons hb (By.cons hc (By.cons hd By.nil)))
  unfold lsa_Number.f
  rw [N_size]
  show lsa_Number.l0 (k + 4 + 1) (N [a, b, c, d]) 0 (([a, b, c, d] : List Int).length : Int) ((0 : Nat) : Int) = _
  rw [number_step h _ 0 0 (by simp) (by simp) (by omega), number_step h _ 1 _ (by simp) (by simp) (by simp; omega), number_step h _ 2 _ (by simp) (by simp) (by simp; omega), number_step h _ 3 _ (by simp) (by simp) (by simp; omega)]
  refine (number_end _ _).trans ?_
  simp
end Go.Proofs.Ytfhccpdkgceneaa.R
