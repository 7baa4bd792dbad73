/- The walk of the law LsaRow. -/
import Derived.Test.YtfhccpdkgceneaaHLRow
import Derived.Test.YtfhccpdkgceneaaHLAwake
import Derived.Deep.RegionHeld3
import Derived.IntWalk
namespace Go.Proofs.Ytfhccpdkgceneaa.R
open Go.RowKit Go.Proofs.YtfhccpdkgceneaaW.PrintWords Go.Proofs.YtfhccpdkgceneaaW.PrintLast Go.Proofs.YtfhccpdkgceneaaW.PrintMore
open Go.Proofs.Ytfhccpdkgceneaa.PLsaRow
set_option linter.unusedVariables false
set_option linter.unusedSimpArgs false

theorem keepR {w0 wO w w' : World} {a0 a1 a2 a3 a4 a5 a6 a7 : Addr} {x0 x1 x2 x3 x4 x5 x6 x7 : Value} {A A' : Option Addr} {n n' : Nat} {ls ls' : List Lk} (h : w.cell? a0 = some x0 ∧ w.cell? a1 = some x1 ∧ w.cell? a2 = some x2 ∧ w.cell? a3 = some x3 ∧ w.cell? a4 = some x4 ∧ w.cell? a5 = some x5 ∧ w.cell? a6 = some x6 ∧ w.cell? a7 = some x7 ∧ Kd.C k62 w A n ls ∧ Kd.C k62 w A' n' ls' ∧ Below w0.heap.size w0 w ∧ Below wO.heap.size wO w) (hb : Below w.heap.size w w') : w'.cell? a0 = some x0 ∧ w'.cell? a1 = some x1 ∧ w'.cell? a2 = some x2 ∧ w'.cell? a3 = some x3 ∧ w'.cell? a4 = some x4 ∧ w'.cell? a5 = some x5 ∧ w'.cell? a6 = some x6 ∧ w'.cell? a7 = some x7 ∧ Kd.C k62 w' A n ls ∧ Kd.C k62 w' A' n' ls' ∧ Below w0.heap.size w0 w' ∧ Below wO.heap.size wO w' := by
  obtain ⟨h0, h1, h2, h3, h4, h5, h6, h7, c3, c6, b, b2⟩ := h
  exact ⟨(hb.cell (World.block_lt_of_cell? _ _ h0)).trans h0, (hb.cell (World.block_lt_of_cell? _ _ h1)).trans h1, (hb.cell (World.block_lt_of_cell? _ _ h2)).trans h2, (hb.cell (World.block_lt_of_cell? _ _ h3)).trans h3, (hb.cell (World.block_lt_of_cell? _ _ h4)).trans h4, (hb.cell (World.block_lt_of_cell? _ _ h5)).trans h5, (hb.cell (World.block_lt_of_cell? _ _ h6)).trans h6, (hb.cell (World.block_lt_of_cell? _ _ h7)).trans h7, Kd.C_below c3 hb, Kd.C_below c6 hb, below_step b hb, below_step b2 hb⟩
theorem getC3 {w0 wO w : World} {a0 a1 a2 a3 a4 a5 a6 a7 : Addr} {x0 x1 x2 x3 x4 x5 x6 x7 : Value} {A A' : Option Addr} {n n' : Nat} {ls ls' : List Lk} (h : w.cell? a0 = some x0 ∧ w.cell? a1 = some x1 ∧ w.cell? a2 = some x2 ∧ w.cell? a3 = some x3 ∧ w.cell? a4 = some x4 ∧ w.cell? a5 = some x5 ∧ w.cell? a6 = some x6 ∧ w.cell? a7 = some x7 ∧ Kd.C k62 w A n ls ∧ Kd.C k62 w A' n' ls' ∧ Below w0.heap.size w0 w ∧ Below wO.heap.size wO w) : Kd.C k62 w A n ls := h.2.2.2.2.2.2.2.2.1
theorem getC6 {w0 wO w : World} {a0 a1 a2 a3 a4 a5 a6 a7 : Addr} {x0 x1 x2 x3 x4 x5 x6 x7 : Value} {A A' : Option Addr} {n n' : Nat} {ls ls' : List Lk} (h : w.cell? a0 = some x0 ∧ w.cell? a1 = some x1 ∧ w.cell? a2 = some x2 ∧ w.cell? a3 = some x3 ∧ w.cell? a4 = some x4 ∧ w.cell? a5 = some x5 ∧ w.cell? a6 = some x6 ∧ w.cell? a7 = some x7 ∧ Kd.C k62 w A n ls ∧ Kd.C k62 w A' n' ls' ∧ Below w0.heap.size w0 w ∧ Below wO.heap.size wO w) : Kd.C k62 w A' n' ls' := h.2.2.2.2.2.2.2.2.2.1
theorem getB {w0 wO w : World} {a0 a1 a2 a3 a4 a5 a6 a7 : Addr} {x0 x1 x2 x3 x4 x5 x6 x7 : Value} {A A' : Option Addr} {n n' : Nat} {ls ls' : List Lk} (h : w.cell? a0 = some x0 ∧ w.cell? a1 = some x1 ∧ w.cell? a2 = some x2 ∧ w.cell? a3 = some x3 ∧ w.cell? a4 = some x4 ∧ w.cell? a5 = some x5 ∧ w.cell? a6 = some x6 ∧ w.cell? a7 = some x7 ∧ Kd.C k62 w A n ls ∧ Kd.C k62 w A' n' ls' ∧ Below w0.heap.size w0 w ∧ Below wO.heap.size wO w) : Below w0.heap.size w0 w := h.2.2.2.2.2.2.2.2.2.2.1
theorem getB2 {w0 wO w : World} {a0 a1 a2 a3 a4 a5 a6 a7 : Addr} {x0 x1 x2 x3 x4 x5 x6 x7 : Value} {A A' : Option Addr} {n n' : Nat} {ls ls' : List Lk} (h : w.cell? a0 = some x0 ∧ w.cell? a1 = some x1 ∧ w.cell? a2 = some x2 ∧ w.cell? a3 = some x3 ∧ w.cell? a4 = some x4 ∧ w.cell? a5 = some x5 ∧ w.cell? a6 = some x6 ∧ w.cell? a7 = some x7 ∧ Kd.C k62 w A n ls ∧ Kd.C k62 w A' n' ls' ∧ Below w0.heap.size w0 w ∧ Below wO.heap.size wO w) : Below wO.heap.size wO w := h.2.2.2.2.2.2.2.2.2.2.2
set_option maxHeartbeats 4000000 in
set_option maxRecDepth 100000 in
theorem LsaRow_walk (l : List La) (A : Option Addr) (cp : Nat) (w : World) (hr : Kd.C k29 w A l.length l) (hc : l.length ≤ cp) (hN : l.length * 48 ≤ 140737488351232) :
    Calls Try.prog 3 #[.slice A l.length cp] w fun e w' => e = .returned (.bool true) ∧ Below w.heap.size w w' := by
  have HR := Aside0.mk hr
  have HN := Aside0.mk hN
  have l63 : l.length ≤ 9223372036854775807 := hr.2.1
  clear hr hc hN
  have HB := Aside0.mk (Below.refl w.heap.size w)
  go_enter Try.func3, Try.ntmps3
  go_wp2_with (first | (go_at_call 7; refine (awake7_calls _).mono ?_; rintro e w1 ⟨rfl, hb1⟩; replace HB := Aside0.mk (below_step HB.out hb1); clear hb1))
  go_loopw [5, 3, 4] (fun i s v wr => ∃ (n : Nat) (v4 : Value), n ≤ l.length ∧ i = .int .i64 (n : Int) ∧ s = .string (N (catL (goodTo l n) (goodTo l n).length)) ∧ v = v4 ∧ Aside0 (Kd.R (kC w) 29 wr w.heap.size (fun _ => True) v4 (goodTo l n)) ∧ Aside0 (Below w.heap.size w wr)) (fun i _ _ _ => l.length - (intOf i).toNat)
  case atStart => exact ⟨0, .slice none 0 0, by omega, rfl, rfl, rfl, ⟨Kd.R_nil _ _ _ _ _⟩, HB⟩
  case round =>
    clear HB
    obtain ⟨n, v4, hn, rfl, rfl, hv, HO, HB⟩ := hrel
    replace hv := hv.symm
    subst hv
    by_cases hnl : n < l.length
    · have nI : (n : Int) < (l.length : Int) := by omega
      obtain ⟨ad, A3, c3, hA, p0, p1, p2, p3, hl3, hC3⟩ := la_cells HR.out (Below.refl w.heap.size w) n hnl
      have HRK := Aside0.mk HR.out
      subst hA
      have HC3 := Aside0.mk hC3
      have HL3 := Aside0.mk hl3
      have n63 : (laAt l n).f3.length ≤ 9223372036854775807 := hC3.2.1
      have HGT := Aside0.mk (show goodTo l (n + 1) = if lsaOk (laAt l n) = true then goodTo l n ++ [laAt l n] else goodTo l n from rfl)
      have hgl := goodTo_length l n
      have hgs := catL_length _ (goodTo_ok l n) (goodTo l n).length (Nat.le_refl _)
      have HP0 := Aside0.mk (Put_f (laAt l n) (by omega) ((laAt l n).f3.length + 21) (by omega))
      have h4 : lsaOk (laAt l n) = true → (encL (laAt l n)).length ≤ 21 := fun h => by have := (lsaOk_is h).2.2.2.2.2.2.1; rw [encL_length]; omega
      have H4 := Aside0.mk h4
      have HMK0 := Aside0.mk (k29_mk w (laAt l n) hl3 hC3)
      clear hl3 hC3 h4
      generalize goodTo l n = g at *
      generalize laAt l n = a at *
      obtain ⟨f0, f1, f2, ls⟩ := a
      simp only at p0 p1 p2 p3 n63
      have HQ0 := Aside0.mk p0
      have HQ1 := Aside0.mk p1
      have HQ2 := Aside0.mk p2
      have HQ3 := Aside0.mk p3
      clear p0 p1 p2 p3
      have q0 := (HB.out.cell (World.block_lt_of_cell? w _ HQ0.out)).trans HQ0.out
      have q1 := (HB.out.cell (World.block_lt_of_cell? w _ HQ1.out)).trans HQ1.out
      have q2 := (HB.out.cell (World.block_lt_of_cell? w _ HQ2.out)).trans HQ2.out
      have q3 := (HB.out.cell (World.block_lt_of_cell? w _ HQ3.out)).trans HQ3.out
      have HSN := HN.out
      have HLE := Aside0.mk (show (g.length + 1) * 48 ≤ 140737488355328 by omega)
      cases e : lsaOk ⟨f0, f1, f2, ls⟩ with
      | true =>
        have HP := Aside0.mk (show lsa_Put.f (ls.length + 21) f0 f1 f2 ls = some (N (encL ⟨f0, f1, f2, ls⟩), 0) from HP0.out.trans (by rw [if_pos e]))
        have HMK := Aside0.mk (show k29.K w ⟨f0, f1, f2, ls⟩ [.int .i64 f0, .int .i64 f1, .int .i64 f2, .slice A3 ls.length c3] from HMK0.out)
        have h21 := H4.out e
        have hz : (9223372036854775807 < (N (catL g g.length)).size + (N (encL ⟨f0, f1, f2, ls⟩)).size) = False := by
          rw [N_size, N_size]; apply eq_false; omega
        have HS2 := Aside0.mk (show N (catL g g.length) ++ N (encL ⟨f0, f1, f2, ls⟩) = N (catL (goodTo l (n + 1)) (goodTo l (n + 1)).length) by rw [HGT.out, if_pos e, cat_snoc, N_append])
        have HG2 := Aside0.mk (show goodTo l (n + 1) = g ++ [⟨f0, f1, f2, ls⟩] by rw [HGT.out, if_pos e])
        clear h21 hgs hgl e HSN HP0 HGT H4
        generalize N (catL g g.length) = s0 at *
        generalize N (encL ⟨f0, f1, f2, ls⟩) = t0 at *
        go_wp2_with (first | (go_at_call 8; refine (lsa_Put.calls (ls.length + 21) f0 f1 f2 A3 c3 ls t0 0 _ (Kd.C_below HC3.out HB.out) HL3.out HP.out).mono ?_; rintro e w1 ⟨rfl, hb1⟩; have hbP := Aside0.mk hb1; replace HB := Aside0.mk (below_step HB.out hb1); clear hb1; clear q0 q1 q2 q3; have q0 := (HB.out.cell (World.block_lt_of_cell? w _ HQ0.out)).trans HQ0.out; have q1 := (HB.out.cell (World.block_lt_of_cell? w _ HQ1.out)).trans HQ1.out; have q2 := (HB.out.cell (World.block_lt_of_cell? w _ HQ2.out)).trans HQ2.out; have q3 := (HB.out.cell (World.block_lt_of_cell? w _ HQ3.out)).trans HQ3.out) | (go_at_call 9; go_in) | ((with_reducible refine gate_builtin (b := .append) (xs := #[.tmp 38, .tmp 43]) rfl ?_); at_builtin; refine Kd.R_append (kC w) (w0 := w) w.heap.size rfl (.tmp 38) (.tmp 43) 22 29 (.agg #[.int .i64 0, .int .i64 0, .int .i64 0, .slice none 0 0]) 48 rfl Try.underlying22 info29x rfl (show (0 : Nat) < 4 by decide) (show (0 : Nat) < 48 by decide) v4 g ⟨f0, f1, f2, ls⟩ [.int .i64 f0, .int .i64 f1, .int .i64 f2, .slice A3 ls.length c3] (fun _ => True) (fun _ => False) rfl rfl HMK.out (fun _ h => h.elim) (fun _ _ => trivial) (Kd.R_below HO.out hbP.out) HB.out HB.out.size HLE.out ?_; intro v1 w2 ho1 hb1 hg1 hat1; have HO2 := Aside0.mk ho1; replace HB := Aside0.mk hb1; clear ho1 hb1 hg1 hat1 q0 q1 q2 q3))
        go_roundw
        case rel => exact ⟨n + 1, v1, by omega, by go_num, by rw [HS2.out], rfl, ⟨by rw [HG2.out]; exact HO2.out⟩, HB⟩
        case measure => simp [intOf]; omega
      | false =>
        have HP := Aside0.mk (show lsa_Put.f (ls.length + 21) f0 f1 f2 ls = some (⟨#[]⟩, 700) from HP0.out.trans (by rw [if_neg (by rw [e]; simp)]))
        have HG2 := Aside0.mk (show goodTo l (n + 1) = g by rw [HGT.out, if_neg (by rw [e]; simp)])
        clear hgs hgl e HSN HP0 HGT H4 HMK0 HLE
        go_wp2_with (first | (go_at_call 8; refine (lsa_Put.calls (ls.length + 21) f0 f1 f2 A3 c3 ls ⟨#[]⟩ 700 _ (Kd.C_below HC3.out HB.out) HL3.out HP.out).mono ?_; rintro e w1 ⟨rfl, hb1⟩; have hbP := Aside0.mk hb1; replace HB := Aside0.mk (below_step HB.out hb1); clear hb1 q0 q1 q2 q3) | (go_at_call 9; go_in))
        go_roundw
        case rel => exact ⟨n + 1, v4, by omega, by go_num, by rw [HG2.out], rfl, ⟨by rw [HG2.out]; exact Kd.R_below HO.out hbP.out⟩, HB⟩
        case measure => simp [intOf]; omega
    · have nI : ¬ (n : Int) < (l.length : Int) := by omega
      have HGO := Aside0.mk (goodTo_ok l n)
      have HGS := Aside0.mk (show (catL (goodTo l n) (goodTo l n).length).length ≤ 61572651155456 by
        have := catL_length _ (goodTo_ok l n) (goodTo l n).length (Nat.le_refl _)
        have := goodTo_length l n
        have := HN.out
        omega)
      generalize goodTo l n = g at *
      obtain ⟨A4, c4, hv4, hc4, hC4⟩ := Kd.R_reads HO.out
      subst hv4
      have HW4 := Aside0.mk (row_of hC4 HB.out)
      have g63 : g.length ≤ 9223372036854775807 := hC4.2.1
      have HB2 := Aside0.mk (Below.refl wr.heap.size wr)
      clear hC4 hc4 HO
      obtain ⟨wO, hwO⟩ : ∃ wO, wO = wr := ⟨_, rfl⟩
      subst hwO
      obtain ⟨s0, hs0⟩ : ∃ s0, s0 = N (catL g g.length) := ⟨_, rfl⟩
      have hsz := N_size (catL g g.length)
      have HSZ := Aside0.mk (show s0.size = (catL g g.length).length by rw [hs0]; exact hsz)
      have HS0 := Aside0.mk hs0
      rw [← hs0]
      clear hs0 hsz
      go_wp2_with (fail)
      go_loopw [9, 8] (fun i p wq => ∃ m : Nat, m ≤ g.length ∧ i = .int .i64 (m : Int) ∧ p = .int .i64 ((catL g m).length : Int) ∧ Aside0 (Below wO.heap.size wO wq) ∧ Aside0 (Below w.heap.size w wq)) (fun i _ _ => g.length - (intOf i).toNat)
      case atStart => exact ⟨0, by omega, rfl, rfl, HB2, HB⟩
      case round =>
        clear HB HB2
        obtain ⟨m, hm, rfl, rfl, HB2, HB⟩ := hrel
        by_cases hml : m < g.length
        · have mI : (m : Int) < (g.length : Int) := by omega
          have hmok := HGO.out m hml
          obtain ⟨post, hsp, hpost⟩ := catL_split g m g.length hml
          have hlen : (catL g g.length).length = (catL g m).length + ((9 + 3 * (laAt g m).f3.length) + post.length) := by rw [hsp, List.length_append, List.length_append, encL_length]
          have hgs := HGS.out
          have hget := Get_f (laAt g m) hmok post hpost (by omega) (catL g m) (by_catL g m) (by omega) 100 (by omega) (by omega)
          rw [← hsp, ← HS0.out] at hget
          have HGET := Aside0.mk hget
          have h4 := (lsaOk_is hmok).2.2.2.2.2.2.1
          have HSAME := Aside0.mk (same_lsa (laAt g m) (by omega) 100 (by omega))
          have HCAT := Aside0.mk (show (catL g (m + 1)).length = (catL g m).length + (9 + 3 * (laAt g m).f3.length) by rw [catL, List.length_append, encL_length])
          obtain ⟨ad, A3, c3, hA, p0, p1, p2, p3, hl3, hC3⟩ := la_cells HW4.out (Below.refl _ _) m hml
          have HWK := Aside0.mk HW4.out
          subst hA
          have HC3 := Aside0.mk hC3
          have HL3 := Aside0.mk hl3
          have n63 : (laAt g m).f3.length ≤ 9223372036854775807 := hC3.2.1
          obtain ⟨P, hP⟩ : ∃ P : Int, P = ((catL g m).length : Int) := ⟨_, rfl⟩
          obtain ⟨P', hP'⟩ : ∃ P' : Int, P' = (((catL g m).length + (9 + 3 * (laAt g m).f3.length) : Nat) : Int) := ⟨_, rfl⟩
          have u1 : decide (P' ≤ P) = false := decide_eq_false (by omega)
          have u2 : decide ((s0.size : Int) < P') = false := decide_eq_false (by rw [HSZ.out]; omega)
          have HPN := Aside0.mk (show P' = ((catL g (m + 1)).length : Int) by rw [HCAT.out]; exact hP')
          rw [← hP, ← hP'] at HGET
          rw [← hP]
          clear hl3 hC3 h4 hget hsp hlen hgs hpost hmok hP hP' HCAT
          generalize laAt g m = a at *
          obtain ⟨f0, f1, f2, ls⟩ := a
          simp only at p0 p1 p2 p3 n63
          have HQ0 := Aside0.mk p0
          have HQ1 := Aside0.mk p1
          have HQ2 := Aside0.mk p2
          have HQ3 := Aside0.mk p3
          clear p0 p1 p2 p3
          go_wp2_with (first | (go_at_call 10; refine (lsa_Get.calls 100 s0 P f0 f1 f2 ls P' 0 _ HGET.out).mono ?_; rintro e w3 ⟨v3, rfl, h3, hb1⟩; obtain ⟨A6, c6, hv6, hc6, hC6⟩ := Kd.R_reads h3; subst hv6; have HC6 := Aside0.mk hC6; have HL6 := Aside0.mk hc6; replace HB := Aside0.mk (below_step HB.out hb1); replace HB2 := Aside0.mk (below_step HB2.out hb1); clear hb1 h3 hc6 hC6))
          have bX := blk_new w3 (.cells #[.int .i64 f0, .int .i64 f1, .int .i64 f2, .slice A6 ls.length c6] 29)
          replace HB := Aside0.mk (below_alloc HB.out (.cells #[.int .i64 f0, .int .i64 f1, .int .i64 f2, .slice A6 ls.length c6] 29))
          replace HB2 := Aside0.mk (below_alloc HB2.out (.cells #[.int .i64 f0, .int .i64 f1, .int .i64 f2, .slice A6 ls.length c6] 29))
          replace HC6 := Aside0.mk (Kd.C_alloc HC6.out (.cells #[.int .i64 f0, .int .i64 f1, .int .i64 f2, .slice A6 ls.length c6] 29))
          have HC3' := Aside0.mk (Kd.C_below HC3.out HB2.out)
          generalize w3.alloc (.cells #[.int .i64 f0, .int .i64 f1, .int .i64 f2, .slice A6 ls.length c6] 29) = W at *
          generalize w3.heap.size = gX at *
          have e0 : W.cell? ⟨gX, 0, none⟩ = some (.int .i64 f0) := (blk_cell bX 0).trans rfl
          have e1 : W.cell? ⟨gX, 1, none⟩ = some (.int .i64 f1) := (blk_cell bX 1).trans rfl
          have e2 : W.cell? ⟨gX, 2, none⟩ = some (.int .i64 f2) := (blk_cell bX 2).trans rfl
          have e3 : W.cell? ⟨gX, 3, none⟩ = some (.slice A6 ls.length c6) := (blk_cell bX 3).trans rfl
          have q0 := (HB2.out.cell (World.block_lt_of_cell? _ _ HQ0.out)).trans HQ0.out
          have q1 := (HB2.out.cell (World.block_lt_of_cell? _ _ HQ1.out)).trans HQ1.out
          have q2 := (HB2.out.cell (World.block_lt_of_cell? _ _ HQ2.out)).trans HQ2.out
          have q3 := (HB2.out.cell (World.block_lt_of_cell? _ _ HQ3.out)).trans HQ3.out
          have hS0 := Aside0.mk (show (fun w' => w'.cell? ⟨gX, 0, none⟩ = some (.int .i64 f0) ∧ w'.cell? ⟨gX, 1, none⟩ = some (.int .i64 f1) ∧ w'.cell? ⟨gX, 2, none⟩ = some (.int .i64 f2) ∧ w'.cell? ⟨gX, 3, none⟩ = some (.slice A6 ls.length c6) ∧ w'.cell? (ad.add (m * 4)) = some (.int .i64 f0) ∧ w'.cell? ⟨(ad.add (m * 4)).block, (ad.add (m * 4)).off + 1, none⟩ = some (.int .i64 f1) ∧ w'.cell? ⟨(ad.add (m * 4)).block, (ad.add (m * 4)).off + 2, none⟩ = some (.int .i64 f2) ∧ w'.cell? ⟨(ad.add (m * 4)).block, (ad.add (m * 4)).off + 3, none⟩ = some (.slice A3 ls.length c3) ∧ Kd.C k62 w' A3 ls.length ls ∧ Kd.C k62 w' A6 ls.length ls ∧ Below w.heap.size w w' ∧ Below wO.heap.size wO w') W.drew from ⟨e0, e1, e2, e3, q0, q1, q2, q3, Kd.C_drew HC3'.out, Kd.C_drew HC6.out, HB.out.drew, HB2.out.drew⟩)
          clear bX e0 e1 e2 e3 q0 q1 q2 q3
          go_region_held3 (fun w' => w'.cell? ⟨gX, 0, none⟩ = some (.int .i64 f0) ∧ w'.cell? ⟨gX, 1, none⟩ = some (.int .i64 f1) ∧ w'.cell? ⟨gX, 2, none⟩ = some (.int .i64 f2) ∧ w'.cell? ⟨gX, 3, none⟩ = some (.slice A6 ls.length c6) ∧ w'.cell? (ad.add (m * 4)) = some (.int .i64 f0) ∧ w'.cell? ⟨(ad.add (m * 4)).block, (ad.add (m * 4)).off + 1, none⟩ = some (.int .i64 f1) ∧ w'.cell? ⟨(ad.add (m * 4)).block, (ad.add (m * 4)).off + 2, none⟩ = some (.int .i64 f2) ∧ w'.cell? ⟨(ad.add (m * 4)).block, (ad.add (m * 4)).off + 3, none⟩ = some (.slice A3 ls.length c3) ∧ Kd.C k62 w' A3 ls.length ls ∧ Kd.C k62 w' A6 ls.length ls ∧ Below w.heap.size w w' ∧ Below wO.heap.size wO w') (first | assumption | exact hS0.out | exact keepR (by assumption) (by assumption)) (first | (go_at_call 11; refine (watchwordlaw0_SameLsa.calls 100 f0 f1 f2 A6 c6 ls f0 f1 f2 A3 c3 ls true _ (getC6 (by assumption)) HL6.out (getC3 (by assumption)) HL3.out HSAME.out).mono ?_; rintro e w4 ⟨rfl, hb1⟩) | (go_at_call 9; go_in))
          have hS : Below w.heap.size w w4 := getB (by assumption)
          have hS2 : Below wO.heap.size wO w4 := getB2 (by assumption)
          go_wp2_with (fail)
          go_roundw
          case rel => exact ⟨m + 1, by omega, by go_num, by rw [HPN.out], ⟨hS2⟩, ⟨hS⟩⟩
          case measure => simp [intOf]; omega
        · have mI : ¬ (m : Int) < (g.length : Int) := by omega
          have HPE := Aside0.mk (show ((catL g m).length : Int) = (s0.size : Int) by rw [HSZ.out, show g.length = m by omega])
          rw [HPE.out]
          have HGE := Aside0.mk (Get_end s0 (by have := HGS.out; have := HSZ.out; omega) 100 (by omega))
          go_wp2_with (first | (go_at_call 10; refine (lsa_Get.calls 100 s0 (s0.size : Int) 0 0 0 [] 0 700 _ HGE.out).mono ?_; rintro e w3 ⟨v3, rfl, h3, hb1⟩; obtain ⟨A6, c6, hv6⟩ := Kd.R_slice h3; subst hv6; replace HB := Aside0.mk (below_step HB.out hb1); clear hb1 h3) | (go_at_call 9; go_in))
          go_ret
          exact ⟨rfl, by repeat (first | exact HB.out | refine below_alloc ?_ _)⟩
end Go.Proofs.Ytfhccpdkgceneaa.R
