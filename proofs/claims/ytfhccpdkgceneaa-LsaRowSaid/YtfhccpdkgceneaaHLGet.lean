/- Get takes an Lsa back out of a text that holds its bytes. Plain Lean. -/
import Derived.Test.YtfhccpdkgceneaaHLLsa
namespace Go.Proofs.Ytfhccpdkgceneaa.R
open Go.RowKit Go.Proofs.YtfhccpdkgceneaaW.PrintWords Go.Proofs.YtfhccpdkgceneaaW.PrintLast Go.Proofs.YtfhccpdkgceneaaW.PrintMore
open Go.Proofs.Ytfhccpdkgceneaa.PLsaRow
set_option linter.unusedVariables false
set_option linter.unusedSimpArgs false

/-- What an Lsa that may be is. -/
theorem lsaOk_is {a : La} (h : lsaOk a = true) : 1 ≤ a.f0 ∧ a.f0 ≤ 4 ∧ 1 ≤ a.f1 ∧ a.f1 ≤ 2147483647 ∧ 0 ≤ a.f2 ∧ a.f2 ≤ 60 ∧ a.f3.length ≤ 4 ∧ ∀ j, j < a.f3.length → 1 ≤ (lkAt a.f3 j).f0 ∧ (lkAt a.f3 j).f0 ≤ 4 ∧ 1 ≤ (lkAt a.f3 j).f1 ∧ (lkAt a.f3 j).f1 ≤ 65535 := by
  rw [lsaOk, Bool.and_eq_true, decide_eq_true_eq] at h
  refine ⟨h.1.1, h.1.2.1, h.1.2.2.1, h.1.2.2.2.1, h.1.2.2.2.2.1, h.1.2.2.2.2.2, linksOk_few _ _ h.2, fun j hj => ?_⟩
  have := (linksOk_iff _ _).1 h.2 j hj
  simp only [linkOk, decide_eq_true_eq] at this
  exact ⟨this.1, this.2.1, this.2.2.2.1, this.2.2.2.2.1⟩
theorem wrap_bt {xs : List Int} (h : By xs) (i : Nat) (hi : i < xs.length) : wrap64 (bt (N xs) (i : Int)) = xs[i] := by
  have := h _ (List.getElem_mem hi)
  rw [bt_N h i hi]; unfold wrap64; omega
theorem take_succ_lk (ls : List Lk) (i : Nat) (hi : i < ls.length) : ls.take (i + 1) = ls.take i ++ [lkAt ls i] := by
  rw [List.take_add_one, List.getElem?_eq_getElem hi]
  simp [lkAt, List.getD_eq_getElem?_getD, List.getElem?_eq_getElem hi]
theorem w_off (i : Nat) (h : i ≤ 4) : wrap64 (7 + wrap64 (3 * (i : Int))) = ((7 + 3 * i : Nat) : Int) := by
  rcases (by omega : i = 0 ∨ i = 1 ∨ i = 2 ∨ i = 3 ∨ i = 4) with rfl | rfl | rfl | rfl | rfl <;> decide +kernel
theorem w_size (m : Nat) (h : m ≤ 4) : wrap64 (wrap64 (7 + wrap64 (3 * (m : Int))) + 2) = ((9 + 3 * m : Nat) : Int) := by
  rcases (by omega : m = 0 ∨ m = 1 ∨ m = 2 ∨ m = 3 ∨ m = 4) with rfl | rfl | rfl | rfl | rfl <;> decide +kernel
theorem w_end (x n : Nat) (h : x ≤ 4611686018427387903) (h2 : n ≤ 100) : wrap64 ((x : Int) + (n : Int)) = ((x + n : Nat) : Int) := by
  unfold wrap64; omega
theorem w_sub (s x : Nat) (h : x + 9 ≤ s) (hs : s ≤ 4611686018427387903) : decide (wrap64 ((s : Int) - (x : Int)) < 7) = false := by
  apply decide_eq_false
  unfold wrap64; omega
theorem serial_bytes (x : Int) (h1 : 1 ≤ x) (h2 : x ≤ 2147483647) : (0 ≤ x / 65536 / 256 % 256 ∧ x / 65536 / 256 % 256 < 128) ∧ (0 ≤ x / 65536 % 256 ∧ x / 65536 % 256 < 256) ∧ (0 ≤ x / 256 % 256 ∧ x / 256 % 256 < 256) ∧ (0 ≤ x % 256 ∧ x % 256 < 256) ∧ ((x / 65536 / 256 % 256 * 256 + x / 65536 % 256) * 256 + x / 256 % 256) * 256 + x % 256 = x := by
  refine ⟨⟨by omega, by omega⟩, ⟨by omega, by omega⟩, ⟨by omega, by omega⟩, ⟨by omega, by omega⟩, by omega⟩
theorem n_le3 (i m p : Nat) (h : i < m) : 7 + 3 * i ≤ 9 + 3 * m + p := by omega
theorem n_big (i m : Nat) (h : i < m) (h4 : m ≤ 4) : min i m < 8796093022208 := by omega
theorem n_3 (x : Nat) : 3 ≤ x + 1 + 1 + 1 := by omega
theorem c_len (m p c : Nat) (hc : c ≤ 9) : c ≤ 9 + 3 * m + p := by omega
theorem c_lt (m p c : Nat) (hc : c < 9) : c < 9 + 3 * m + p := by omega
theorem c_size (m p : Nat) : ¬ (((9 + 3 * m : Nat) : Int) > ((9 + 3 * m + p : Nat) : Int)) := by omega
theorem hi_lo (x : Int) : x / 256 * 256 + x % 256 = x := by omega
theorem hi_in (x : Int) (h : 1 ≤ x) (h2 : x ≤ 65535) : 0 ≤ x / 256 ∧ x / 256 < 256 := ⟨by omega, by omega⟩
theorem lo_in (x : Int) : 0 ≤ x % 256 ∧ x % 256 < 256 := ⟨by omega, by omega⟩
set_option linter.unusedSectionVars false
section
variable (a : La) (hok : lsaOk a = true) (post : List Int) (hp : By post) (hpl : post.length ≤ 4611686018427387903)
include hok hp hpl
theorem X_length : (encL a ++ post).length = 9 + 3 * a.f3.length + post.length := by rw [List.length_append, encL_length]
theorem by_X : By (encL a ++ post) := By.append (by_encL a) hp
/-- From link i on. -/
theorem X_drop (i : Nat) (hi : i < a.f3.length) : ∃ rest, (encL a ++ post).drop (7 + 3 * i) = (lkAt a.f3 i).f0 :: (((lkAt a.f3 i).f1 / 256) :: ((lkAt a.f3 i).f1 % 256) :: rest) := by
  obtain ⟨rest, hr⟩ := linkL_split a.f3 i a.f3.length hi
  have hk := (lsaOk_is hok).2.2.2.2.2.2.2 i hi
  refine ⟨rest ++ (two (fl (bodyL a) 0 0) ++ post), ?_⟩
  have h1 : encL a ++ post = (one a.f2 ++ headL a ++ linkL a.f3 i) ++ (((one (lkAt a.f3 i).f0 ++ two (lkAt a.f3 i).f1) ++ rest) ++ (two (fl (bodyL a) 0 0) ++ post)) := by
    rw [encL, bodyL, hr]; simp only [List.append_assoc]
  have h2 : (one a.f2 ++ headL a ++ linkL a.f3 i).length = 7 + 3 * i := by
    rw [List.length_append, List.length_append, headL_length, linkL_length]; rfl
  rw [h1, ← h2, List.drop_left]
  simp only [one, two, List.cons_append, List.nil_append, List.append_assoc]
  rw [show (lkAt a.f3 i).f0 % 256 = (lkAt a.f3 i).f0 by omega, show (lkAt a.f3 i).f1 / 256 % 256 = (lkAt a.f3 i).f1 / 256 by omega]
set_option maxHeartbeats 1000000 in
theorem get_l0 (at0 : Nat) (hat : at0 ≤ 4611686018427387903) (d : Nat) : ∀ (i k : Nat), i + d = a.f3.length → d + 30 < k →
    lsa_Get.l0 k (at0 : Int) (N (encL a ++ post)) ((9 + 3 * a.f3.length : Nat) : Int) (a.f3.length : Int) (i : Int) a.f0 a.f1 a.f2 (a.f3.take i) = some (a.f0, a.f1, a.f2, a.f3, ((at0 + (9 + 3 * a.f3.length) : Nat) : Int), 0) := by
  have hf := lsaOk_is hok
  have hl4 := hf.2.2.2.2.2.2.1
  have hX := X_length a hok post hp hpl
  have hB := by_X a hok post hp hpl
  induction d with
  | zero =>
    intro i k h hk
    obtain ⟨k, rfl⟩ : ∃ m, k = m + 1 := ⟨k - 1, by omega⟩
    rw [lsa_Get.l0, if_neg (by omega), show i = a.f3.length by omega, List.take_length, Put_f a (by omega) k (by omega), if_pos hok, Option.bind_some, if_pos rfl, if_pos (by omega), if_pos (by rw [N_size, hX]; omega), N_extract]
    rw [if_pos (by
      congr 1
      rw [List.drop_zero, Nat.sub_zero, Int.toNat_natCast, ← encL_length a, List.take_left])]
    rw [w_end at0 (9 + 3 * a.f3.length) hat (by omega)]
  | succ d ih =>
    intro i k h hk
    obtain ⟨k, rfl⟩ : ∃ m, k = m + 1 := ⟨k - 1, (Nat.sub_add_cancel (Nat.le_trans (Nat.succ_pos _) hk)).symm⟩
    have hil : i < a.f3.length := by rw [← h]; exact Nat.lt_add_of_pos_right (Nat.succ_pos d)
    have hrec := ih (i + 1) k (by rw [← h, Nat.add_assoc, Nat.add_comm 1 d]) (by rw [Nat.add_right_comm] at hk; exact Nat.lt_of_succ_lt_succ hk)
    obtain ⟨rest, hr⟩ := X_drop a hok post hp hpl i hil
    obtain ⟨_, _, hk3, hk4⟩ := hf.2.2.2.2.2.2.2 i hil
    have hk5 : 3 ≤ k := Nat.le_trans (show 3 ≤ d + 1 + 30 - 1 by rw [Nat.add_right_comm, Nat.add_sub_cancel]; exact Nat.le_trans (by decide) (Nat.le_add_left 30 d)) (Nat.le_of_lt_succ (Nat.lt_of_le_of_lt (Nat.sub_le _ _) hk))
    clear ih hf hk h
    have w1 := w_off i (Nat.le_trans (Nat.le_of_lt hil) hl4)
    have hex : (N (encL a ++ post)).extract (((7 + 3 * i : Nat) : Int)).toNat (N (encL a ++ post)).size = N ((lkAt a.f3 i).f0 :: (((lkAt a.f3 i).f1 / 256) :: ((lkAt a.f3 i).f1 % 256) :: rest)) := by
      rw [N_extract, N_size, Int.toNat_natCast, ← hr, List.take_of_length_le (by rw [List.length_drop]; exact Nat.le_refl _)]
    have hby : By ((lkAt a.f3 i).f0 :: (((lkAt a.f3 i).f1 / 256) :: ((lkAt a.f3 i).f1 % 256) :: rest)) := by
      rw [← hr]; exact fun x hx => hB x (List.mem_of_mem_drop hx)
    have hb0 := wrap_bt hby 0 (Nat.succ_pos _)
    have hnum : lsa_Number.f k ((N ((lkAt a.f3 i).f0 :: (((lkAt a.f3 i).f1 / 256) :: ((lkAt a.f3 i).f1 % 256) :: rest))).extract 1 3) = some (lkAt a.f3 i).f1 := by
      rw [N_extract]
      show lsa_Number.f k (N [(lkAt a.f3 i).f1 / 256, (lkAt a.f3 i).f1 % 256]) = _
      rw [number_two _ _ k hk5 (hi_in _ hk3 hk4) (lo_in _), hi_lo]
    have q1 : (i : Int) < (a.f3.length : Int) := Int.ofNat_lt.2 hil
    have q3 : ((7 + 3 * i : Nat) : Int) ≤ ((N (encL a ++ post)).size : Int) := by rw [N_size, hX]; exact Int.ofNat_le.2 (n_le3 _ _ _ hil)
    have q4 : (0 : Int) < ((N ((lkAt a.f3 i).f0 :: (((lkAt a.f3 i).f1 / 256) :: ((lkAt a.f3 i).f1 % 256) :: rest))).size : Int) := by rw [N_size]; exact Int.ofNat_lt.2 (Nat.succ_pos _)
    have q6 : (3 : Int) ≤ ((N ((lkAt a.f3 i).f0 :: (((lkAt a.f3 i).f1 / 256) :: ((lkAt a.f3 i).f1 % 256) :: rest))).size : Int) := by rw [N_size]; exact Int.ofNat_le.2 (n_3 _)
    have q7 : (a.f3.take i).length < 8796093022208 := by rw [List.length_take]; exact n_big _ _ hil hl4
    have qn : wrap64 ((i : Int) + 1) = ((i + 1 : Nat) : Int) := wrap_up i (Int.lt_of_lt_of_le q1 (Int.le_trans (Int.ofNat_le.2 hl4) (by decide)))
    rw [lsa_Get.l0, if_pos q1, w1, if_pos (Int.natCast_nonneg _), if_pos q3, hex, if_pos q4, if_pos (by decide), if_pos q6, hnum, Option.bind_some, if_pos q7, qn]
    rw [show wrap64 (bt (N ((lkAt a.f3 i).f0 :: (((lkAt a.f3 i).f1 / 256) :: ((lkAt a.f3 i).f1 % 256) :: rest))) 0) = (lkAt a.f3 i).f0 from hb0]
    rw [show a.f3.take i ++ [(⟨(lkAt a.f3 i).f0, (lkAt a.f3 i).f1⟩ : Lk)] = a.f3.take (i + 1) from (take_succ_lk a.f3 i hil).symm]
    exact hrec
set_option maxHeartbeats 1000000 in
theorem Get_f (pre : List Int) (hq : By pre) (hql : pre.length ≤ 4611686018427387000) (k : Nat) (hk : 60 < k) (hs : pre.length + (9 + 3 * a.f3.length) + post.length ≤ 4611686018427387903) :
    lsa_Get.f k (N (pre ++ (encL a ++ post))) (pre.length : Int) = some (a.f0, a.f1, a.f2, a.f3, ((pre.length + (9 + 3 * a.f3.length) : Nat) : Int), 0) := by
  obtain ⟨k, rfl⟩ : ∃ m, k = m + 1 := ⟨k - 1, by omega⟩
  have hf := lsaOk_is hok
  have hl4 := hf.2.2.2.2.2.2.1
  have hX := X_length a hok post hp hpl
  have hB := by_X a hok post hp hpl
  have hS : (pre ++ (encL a ++ post)).length = pre.length + (9 + 3 * a.f3.length) + post.length := by rw [List.length_append, hX]; omega
  have hex : (N (pre ++ (encL a ++ post))).extract ((pre.length : Int)).toNat (N (pre ++ (encL a ++ post))).size = N (encL a ++ post) := by
    rw [N_extract, N_size, Int.toNat_natCast, List.drop_left, List.take_of_length_le (by rw [hS, hX]; omega)]
  have hd : decide (wrap64 (((N (pre ++ (encL a ++ post))).size : Int) - (pre.length : Int)) < 7) = false := by
    rw [N_size, hS]; exact w_sub _ _ (by omega) hs
  have hE : ∃ s3 s2 s1 s0 rest, encL a ++ post = a.f2 :: a.f0 :: s3 :: s2 :: s1 :: s0 :: (a.f3.length : Int) :: rest ∧ 0 ≤ s3 ∧ s3 < 128 ∧ 0 ≤ s2 ∧ s2 < 256 ∧ 0 ≤ s1 ∧ s1 < 256 ∧ 0 ≤ s0 ∧ s0 < 256 ∧ ((s3 * 256 + s2) * 256 + s1) * 256 + s0 = a.f1 := by
    obtain ⟨⟨x1, x2⟩, ⟨x3, x4⟩, ⟨x5, x6⟩, ⟨x7, x8⟩, x9⟩ := serial_bytes a.f1 hf.2.2.1 hf.2.2.2.1
    refine ⟨a.f1 / 65536 / 256 % 256, a.f1 / 65536 % 256, a.f1 / 256 % 256, a.f1 % 256, linkL a.f3 a.f3.length ++ (two (fl (bodyL a) 0 0) ++ post), ?_, x1, x2, x3, x4, x5, x6, x7, x8, x9⟩
    clear x1 x2 x3 x4 x5 x6 x7 x8 x9
    rw [encL, bodyL, headL]
    simp only [one, two, four, List.cons_append, List.nil_append, List.append_assoc]
    rw [show a.f2 % 256 = a.f2 by omega, show a.f0 % 256 = a.f0 by omega, show (a.f3.length : Int) % 256 = (a.f3.length : Int) by omega]
  obtain ⟨s3, s2, s1, s0, rest, hE, h3, h3', h2, h2', h1, h1', h0, h0', hser⟩ := hE
  have hB' := hB
  have hXl := hX
  have hnum : lsa_Number.f k ((N (encL a ++ post)).extract 2 6) = some a.f1 := by
    rw [hE, N_extract]
    show lsa_Number.f k (N [s3, s2, s1, s0]) = _
    rw [number_four s3 s2 s1 s0 k (by omega) ⟨h3, h3'⟩ ⟨h2, h2'⟩ ⟨h1, h1'⟩ ⟨h0, h0'⟩, hser]
  have b0 : wrap64 (bt (N (encL a ++ post)) 0) = a.f2 := by
    have := wrap_bt hB 0 (by rw [hX]; omega)
    rw [show ((0 : Nat) : Int) = 0 from rfl] at this
    rw [this]; simp only [hE]; rfl
  have b1 : wrap64 (bt (N (encL a ++ post)) 1) = a.f0 := by
    have := wrap_bt hB 1 (by rw [hX]; omega)
    rw [show ((1 : Nat) : Int) = 1 from rfl] at this
    rw [this]; simp only [hE]; rfl
  have b6 : wrap64 (bt (N (encL a ++ post)) 6) = (a.f3.length : Int) := by
    have := wrap_bt hB 6 (by rw [hX]; omega)
    rw [show ((6 : Nat) : Int) = 6 from rfl] at this
    rw [this]; simp only [hE]; rfl
  have wsz : wrap64 (wrap64 (7 + wrap64 (3 * (a.f3.length : Int))) + 2) = ((9 + 3 * a.f3.length : Nat) : Int) := w_size _ hl4
  have q0 : (0 : Int) ≤ (pre.length : Int) := Int.natCast_nonneg _
  have q1 : (pre.length : Int) ≤ ((N (pre ++ (encL a ++ post))).size : Int) := by rw [N_size, hS, Nat.add_assoc]; exact Int.ofNat_le.2 (Nat.le_add_right _ _)
  have qc : ∀ c : Nat, c ≤ 9 → (c : Int) ≤ ((N (encL a ++ post)).size : Int) := fun c hc => by rw [N_size, hX]; exact Int.ofNat_le.2 (c_len _ _ _ hc)
  have ql : ∀ c : Nat, c < 9 → (c : Int) < ((N (encL a ++ post)).size : Int) := fun c hc => by rw [N_size, hX]; exact Int.ofNat_lt.2 (c_lt _ _ _ hc)
  have qz : ¬ (((9 + 3 * a.f3.length : Nat) : Int) > ((N (encL a ++ post)).size : Int)) := by rw [N_size, hX]; exact c_size _ _
  have qf := get_l0 a hok post hp hpl pre.length (Nat.le_trans hql (by decide)) a.f3.length 0 k (Nat.zero_add _) (Nat.lt_of_le_of_lt (Nat.add_le_add_right hl4 30) (Nat.lt_of_lt_of_le (by decide) (Nat.le_of_lt_succ hk)))
  clear hf hE hB' hXl hX hS
  unfold lsa_Get.f
  rw [if_neg (Int.not_lt.2 q0), if_neg (Int.not_lt.2 q1), hd, lsa_Get.j0, if_neg (by decide), if_pos q0, if_pos q1, hex]
  have g0 : (0 : Int) < ((N (encL a ++ post)).size : Int) := ql 0 (by decide)
  have g1 : (1 : Int) < ((N (encL a ++ post)).size : Int) := ql 1 (by decide)
  have g6 : (6 : Int) ≤ ((N (encL a ++ post)).size : Int) := qc 6 (by decide)
  have g6' : (6 : Int) < ((N (encL a ++ post)).size : Int) := ql 6 (by decide)
  rw [if_pos g0, if_pos g1, if_pos (by decide), if_pos g6, hnum, Option.bind_some, if_pos g6', b6, wsz, if_neg qz, b1, b0]
  exact qf
end
theorem Get_end (s : ByteArray) (hs : (s.size : Int) ≤ 4611686018427387903) (k : Nat) (hk : 1 ≤ k) : lsa_Get.f k s (s.size : Int) = some (0, 0, 0, [], 0, 700) := by
  obtain ⟨k, rfl⟩ : ∃ m, k = m + 1 := ⟨k - 1, by omega⟩
  unfold lsa_Get.f
  rw [if_neg (by omega), if_neg (by omega), show decide (wrap64 ((s.size : Int) - (s.size : Int)) < 7) = true by simp; unfold wrap64; omega, lsa_Get.j0, if_pos rfl]
end Go.Proofs.Ytfhccpdkgceneaa.R
