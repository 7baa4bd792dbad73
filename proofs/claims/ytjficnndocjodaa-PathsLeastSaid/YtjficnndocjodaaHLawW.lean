/- The law's own search: 'ways' answers 'waysTo' of the costs. -/
import Derived.Test.YtjficnndocjodaaHLeast
import Derived.Test.YtjficnndocjodaaHBool
import Derived.Test.YtjficnndocjodaaHBits
import Derived.Deep.RegionHeld3
namespace Go.Proofs.Ytjficnndocjodaa.H
open Go.RowKit Go.Proofs.YtjficnndocjodaaW.PrintWords Go.Proofs.YtjficnndocjodaaW.PrintLast Go.Proofs.YtjficnndocjodaaW.PrintMore
set_option linter.unusedVariables false
set_option linter.unusedSimpArgs false

def zb16 : List Bool := List.replicate 16 false
theorem results_two {fn : Func} {p q : Tmp} {ty ty2 : TypeId} (h : fn.results = #[.cell p ty, .cell q ty2]) (tmps : Array Value) (w : World) (g g2 : Nat) (t t2 : TypeId) (cs cs2 : Array Value) (d d2 : Nat) (d' d2' : TypeId)
    (hp : tmps.getD p undef = .pointer (some ⟨g, 0, none⟩)) (hq : tmps.getD q undef = .pointer (some ⟨g2, 0, none⟩)) (hg : w.heap[g]? = some (.cells cs t (0, 0))) (hg2 : w.heap[g2]? = some (.cells cs2 t2 (0, 0)))
    (hu : Try.prog.underlying ty = some (.array d d')) (hi : (Try.prog.info? ty).map (·.size) = some cs.size)
    (hu2 : Try.prog.underlying ty2 = some (.array d2 d2')) (hi2 : (Try.prog.info? ty2).map (·.size) = some cs2.size) :
    (results fn tmps).run Try.prog w = .ok (.tuple #[.agg cs, .agg cs2]) w := by
  have hp' : tmps[p]?.getD undef = .pointer (some ⟨g, 0, none⟩) := by simpa using hp
  have hq' : tmps[q]?.getD undef = .pointer (some ⟨g2, 0, none⟩) := by simpa using hq
  simp [results, h, hp', hq', asAddr, run_loadVar_row w g t ty cs (0, 0) _ hg hu rfl hi, run_loadVar_row w g2 t2 ty2 cs2 (0, 0) _ hg2 hu2 rfl hi2]
/-- A whole array's load may be taken first where the condition holds its block. -/
theorem yields_row {ops : Array Oper} {S : World → Prop} {op : Oper} {a : Act} (hw : Region.wanted op (yielded ops a.tmps) = true) (ty : TypeId) (x : Operand) (ho : op.op = .load ty x)
    (g : Nat) (hx : a.eval x = .pointer (some ⟨g, 0, none⟩)) (cs : Array Value) (t : TypeId) {n : Nat} {e : TypeId} (hS : ∀ w, S w → w.heap[g]? = some (.cells cs t (0, 0)))
    (hu : Try.prog.underlying ty = some (.array n e)) (hi : (Try.prog.info? ty).map (·.size) = some cs.size) : YieldsIf Try.prog ops S op (.agg cs) a :=
  .inl ⟨hw, fun w hw' => by
    unfold execOp
    simp only [ho, hx, Instr.loadAt, Instr.sureAddr, Sem.run_bind, Sem.run_pure, Result.andThen_ok, run_loadVar_row w g t ty cs (0, 0) _ (hS w hw') hu rfl hi]⟩
theorem adm_true (c : List Int) (f a b d : Nat) (h1 : a ≠ f) (h2 : 0 < gt c (f * 4 + a)) (h3 : b = a ∨ 0 < gt c (a * 4 + b)) (h4 : d = b ∨ 0 < gt c (b * 4 + d)) : adm c f a b d = true := by
  simp only [adm, Bool.and_eq_true, Bool.or_eq_true, decide_eq_true_eq]; exact ⟨⟨⟨h1, h2⟩, h3⟩, h4⟩
theorem adm_false (c : List Int) (f a b d : Nat) (h : a = f ∨ gt c (f * 4 + a) ≤ 0 ∨ (b ≠ a ∧ gt c (a * 4 + b) ≤ 0) ∨ (d ≠ b ∧ gt c (b * 4 + d) ≤ 0)) : adm c f a b d = false := by
  cases e : adm c f a b d with
  | false => rfl
  | true =>
    simp only [adm, Bool.and_eq_true, Bool.or_eq_true, decide_eq_true_eq] at e
    omega

set_option maxHeartbeats 4000000 in
set_option maxRecDepth 100000 in
theorem ways_calls (c : List Int) (hc : c.length = 16) (hok : costsOk c = true) (f : Nat) (hf : f < 4) (w : World) :
    Calls Try.prog 19 #[.agg (AV c), .int .i64 (f : Int)] w fun e w' => e = .returned (.tuple #[.agg (AV (waysTo c f 64).1), .agg (BV (waysTo c f 64).2)]) ∧ Below w.heap.size w w' := by
  have HC := Aside0.mk hc
  have HK := Aside0.mk hok
  have HF := Aside0.mk hf
  clear hc hok
  have hfI : (f : Int) < 4 := by omega
  have HB := Aside0.mk (Below.refl w.heap.size w)
  go_enter Try.func19, Try.ntmps19
  go_wp2_with (first | ((with_reducible refine gate_dst (N := 2) rfl ?_); refine box_event ?hg (N := 2) ?hd (cs := AV c) (t := 23) ?hr ?_; (case hd => rfl); (case hg => rfl); (case hr => first | (go_simp; done) | (go_simp; rfl)); intro gc hgc w1 hbox hb1; have HBC := Aside0.mk (show Blk w1 gc 23 c from hbox); replace HB := Aside0.mk (below_step HB.out hb1); clear hbox hb1 hgc) | ((with_reducible refine gate_dst (N := 4) rfl ?_); refine box_event ?hg (N := 4) ?hd (cs := AV zs4) (t := 22) ?hr ?_; (case hd => rfl); (case hg => rfl); (case hr => first | (go_simp; done) | (go_simp; rfl)); intro g4 hg4 w1 hbox hb1; have HB4 := Aside0.mk (show Blk w1 g4 22 zs4 from hbox); have HG4 := Aside0.mk (show w.heap.size ≤ g4 by rw [hg4]; exact HB.out.size); replace HBC := Aside0.mk (HBC.out.below hb1); replace HB := Aside0.mk (below_step HB.out hb1); clear hbox hb1 hg4) | ((with_reducible refine gate_dst (N := 5) rfl ?_); refine box_event ?hg (N := 5) ?hd (cs := BV zb16) (t := 36) ?hr ?_; (case hd => rfl); (case hg => rfl); (case hr => first | (go_simp; done) | (go_simp; rfl)); intro g5 hg5 w3 hbox hb1; have HB5 := Aside0.mk (show BBlk w3 g5 36 zb16 from hbox); have HG5 := Aside0.mk (show w.heap.size ≤ g5 by rw [hg5]; exact HB.out.size); replace HBC := Aside0.mk (HBC.out.below hb1); replace HB4 := Aside0.mk (HB4.out.below hb1); replace HB := Aside0.mk (below_step HB.out hb1); clear hbox hb1 hg5; have HB3 := Aside0.mk (Below.refl w3.heap.size w3); have HB4L := Aside0.mk HB4.out.lt; have HB5L := Aside0.mk HB5.out.lt) | ((with_reducible refine gate_dst (N := 6) rfl ?_); refine box_event ?hg (N := 6) ?hd (cs := AV zs4) (t := 22) ?hr ?_; (case hd => rfl); (case hg => rfl); (case hr => first | (go_simp; done) | (go_simp; rfl)); intro g6 hg6 w1 hbox hb1; have HX6 := Aside0.mk (show Blk w1 g6 22 (negTo 0) from hbox); have HG6 := Aside0.mk (show w3.heap.size ≤ g6 by rw [hg6]; exact HB3.out.size); replace HB3 := Aside0.mk (below_step HB3.out hb1); clear hbox hb1 hg6) | ((with_reducible refine gate_dst (N := 7) rfl ?_); refine box_event ?hg (N := 7) ?hd (cs := BV zb16) (t := 36) ?hr ?_; (case hd => rfl); (case hg => rfl); (case hr => first | (go_simp; done) | (go_simp; rfl)); intro g7 hg7 w1 hbox hb1; have HX7 := Aside0.mk (show BBlk w1 g7 36 zb16 from hbox); have HG7 := Aside0.mk (show w3.heap.size ≤ g7 by rw [hg7]; exact HB3.out.size); have HN := Aside0.mk (show g6 ≠ g7 by rw [hg7]; exact Nat.ne_of_lt HX6.out.lt); replace HX6 := Aside0.mk (HX6.out.below hb1); replace HB3 := Aside0.mk (below_step HB3.out hb1); clear hbox hb1 hg7))
  go_loopw [8] (fun i wr => ∃ k : Nat, k ≤ 4 ∧ i = .int .i64 (k : Int) ∧ Aside0 (Blk wr g6 22 (negTo k)) ∧ Aside0 (BBlk wr g7 36 zb16) ∧ Aside0 (Below w3.heap.size w3 wr)) (fun i _ => 4 - (intOf i).toNat)
  case atStart => exact ⟨0, by omega, rfl, HX6, HX7, HB3⟩
  case round =>
    clear HB3 HX6 HX7
    obtain ⟨k, hk, rfl, HX6, HX7, HB3⟩ := hrel
    by_cases hk4 : k < 4
    · have kI : (k : Int) < 4 := by omega
      go_wp2_with (first | (refine wpL_set rfl rfl rfl rfl HX6.out (by rw [negTo_length k (by omega)]; omega) ?_; intro w2 hX2 hP2; replace HX6 := Aside0.mk (show Blk w2 g6 22 (negTo (k + 1)) by rw [← negTo_step k hk4]; exact hX2); replace HX7 := Aside0.mk (HX7.out.put hP2 (Ne.symm HN.out)); replace HB3 := Aside0.mk (hP2.below _ _ HB3.out HG6.out); clear hX2 hP2))
      go_roundw
      case rel => exact ⟨k + 1, by omega, by go_num, HX6, HX7, HB3⟩
      case measure => simp [intOf]; omega
    · have kI : ¬ (k : Int) < 4 := by omega
      replace HX6 := Aside0.mk (show Blk wr g6 22 (waysTo c f 0).1 by have := HX6.out; rw [show k = 4 by omega] at this; exact this)
      replace HX7 := Aside0.mk (show BBlk wr g7 36 (waysTo c f 0).2 from HX7.out)
      go_wp2_with (fail)
      go_loopw [9, 10, 11, 12, 13] (fun i _ _ _ _ wr => ∃ n : Nat, n ≤ 64 ∧ i = .int .i64 (n : Int) ∧ Aside0 (Blk wr g6 22 (waysTo c f n).1) ∧ Aside0 (BBlk wr g7 36 (waysTo c f n).2) ∧ Aside0 (Below w3.heap.size w3 wr)) (fun i _ _ _ _ _ => 64 - (intOf i).toNat)
      case atStart => exact ⟨0, by omega, rfl, HX6, HX7, HB3⟩
      case round =>
        clear HB3 HX6 HX7
        obtain ⟨n, hn, rfl, HX6, HX7, HB3⟩ := hrel
        by_cases hn4 : n < 64
        · have nI : (n : Int) < 64 := by omega
          obtain ⟨a, haN⟩ : ∃ a, a = n % 4 := ⟨_, rfl⟩
          obtain ⟨b, hbN⟩ : ∃ b, b = n / 4 % 4 := ⟨_, rfl⟩
          obtain ⟨d, hdN⟩ : ∃ d, d = n / 16 := ⟨_, rfl⟩
          have ha : bits .and .i64 (n : Int) 3 = (a : Int) := by rw [and3]; omega
          have hb : bits .and .i64 ((n : Int) / 4) 3 = (b : Int) := by rw [and3]; omega
          have hd : (n : Int) / 16 = (d : Int) := by omega
          have aI : (a : Int) < 4 := by omega
          have bI : (b : Int) < 4 := by omega
          have dI : (d : Int) < 4 := by omega
          have HST := Aside0.mk (show waysTo c f (n + 1) = wstep c f a b d (waysTo c f n) by rw [haN, hbN, hdN]; rfl)
          have hl6 := (waysTo_length c f n).1
          have hl7 := (waysTo_length c f n).2
          have HBC2 := HBC.out.below HB3.out
          have c1 := HBC2.cell (f * 4 + a) (by rw [HC.out]; omega)
          have c2 := HBC2.cell (a * 4 + b) (by rw [HC.out]; omega)
          have c3 := HBC2.cell (b * 4 + d) (by rw [HC.out]; omega)
          have c6 := HX6.out.cell d (by rw [hl6]; omega)
          have p1 := costsOk_at HK.out f a HF.out (by omega)
          have p2 := costsOk_at HK.out a b (by omega) (by omega)
          have p3 := costsOk_at HK.out b d (by omega) (by omega)
          have hT := adm_true c f a b d
          have hF := adm_false c f a b d
          have hW : wsum c f a b d = gt c (f * 4 + a) + (if b = a then 0 else gt c (a * 4 + b)) + (if d = b then 0 else gt c (b * 4 + d)) := rfl
          obtain ⟨s, hs⟩ : ∃ s, s = waysTo c f n := ⟨_, rfl⟩
          rw [← hs] at HX6 HX7 HST hl6 hl7 c6
          clear hs
          have HS6 := Aside0.mk hl6
          have HS7 := Aside0.mk hl7
          obtain ⟨x1, hx1⟩ : ∃ x, x = gt c (f * 4 + a) := ⟨_, rfl⟩
          obtain ⟨x2, hx2⟩ : ∃ x, x = gt c (a * 4 + b) := ⟨_, rfl⟩
          obtain ⟨x3, hx3⟩ : ∃ x, x = gt c (b * 4 + d) := ⟨_, rfl⟩
          obtain ⟨y, hy⟩ : ∃ x, x = gt s.1 d := ⟨_, rfl⟩
          rw [← hx1] at c1 p1 hT hF hW
          rw [← hx2] at c2 p2 hT hF hW
          rw [← hx3] at c3 p3 hT hF hW
          rw [← hy] at c6
          have HWS := Aside0.mk (show waysTo c f (n + 1) = if adm c f a b d = true then (if y < 0 ∨ wsum c f a b d < y then (s.1.set d (wsum c f a b d), (clr s.2 d).set (d * 4 + a) true) else if wsum c f a b d = y then (s.1, s.2.set (d * 4 + a) true) else s) else s by rw [HST.out, hy]; rfl)
          have da : d * 4 + a < 16 := by omega
          have d4 : d < 4 := by omega
          have HABD := Aside0.mk (And.intro haN (And.intro hbN hdN))
          clear haN hbN hdN HST hl6 hl7 HBC2 hx1 hx2 hx3 hy
          have hno : adm c f a b d = false → waysTo c f (n + 1) = s := fun h => by rw [HWS.out, if_neg (by rw [h]; simp)]
          have hyes : adm c f a b d = true → waysTo c f (n + 1) = if y < 0 ∨ wsum c f a b d < y then (s.1.set d (wsum c f a b d), (clr s.2 d).set (d * 4 + a) true) else if wsum c f a b d = y then (s.1, s.2.set (d * 4 + a) true) else s := fun h => by rw [HWS.out, if_pos h]
          have hcase : (((a : Int) == (f : Int)) = true) ∧ Aside0 (waysTo c f (n + 1) = s) ∨
            (((a : Int) == (f : Int)) = false) ∧ (decide (x1 ≤ 0) = true) ∧ Aside0 (waysTo c f (n + 1) = s) ∨
            (((a : Int) == (f : Int)) = false) ∧ (decide (x1 ≤ 0) = false) ∧ (((b : Int) != (a : Int)) = true) ∧ (decide (x2 ≤ 0) = true) ∧ Aside0 (waysTo c f (n + 1) = s) ∨
            (((a : Int) == (f : Int)) = false) ∧ (decide (x1 ≤ 0) = false) ∧ (((b : Int) != (a : Int)) = false) ∧ (((d : Int) != (b : Int)) = true) ∧ (decide (x3 ≤ 0) = true) ∧ Aside0 (waysTo c f (n + 1) = s) ∨
            (((a : Int) == (f : Int)) = false) ∧ (decide (x1 ≤ 0) = false) ∧ (((b : Int) != (a : Int)) = true) ∧ (decide (x2 ≤ 0) = false) ∧ (((d : Int) != (b : Int)) = true) ∧ (decide (x3 ≤ 0) = true) ∧ Aside0 (waysTo c f (n + 1) = s) ∨
            (((a : Int) == (f : Int)) = false) ∧ (decide (x1 ≤ 0) = false) ∧ (((b : Int) != (a : Int)) = false) ∧ (((d : Int) != (b : Int)) = false) ∧ decide (y < 0) = true ∧ Aside0 (waysTo c f (n + 1) = (s.1.set d (x1), (clr s.2 d).set (d * 4 + a) true)) ∨
            (((a : Int) == (f : Int)) = false) ∧ (decide (x1 ≤ 0) = false) ∧ (((b : Int) != (a : Int)) = false) ∧ (((d : Int) != (b : Int)) = false) ∧ decide (y < 0) = false ∧ decide (x1 < y) = true ∧ Aside0 (waysTo c f (n + 1) = (s.1.set d (x1), (clr s.2 d).set (d * 4 + a) true)) ∨
            (((a : Int) == (f : Int)) = false) ∧ (decide (x1 ≤ 0) = false) ∧ (((b : Int) != (a : Int)) = false) ∧ (((d : Int) != (b : Int)) = false) ∧ decide (y < 0) = false ∧ decide (x1 < y) = false ∧ (x1 == y) = true ∧ Aside0 (waysTo c f (n + 1) = (s.1, s.2.set (d * 4 + a) true)) ∨
            (((a : Int) == (f : Int)) = false) ∧ (decide (x1 ≤ 0) = false) ∧ (((b : Int) != (a : Int)) = false) ∧ (((d : Int) != (b : Int)) = false) ∧ decide (y < 0) = false ∧ decide (x1 < y) = false ∧ (x1 == y) = false ∧ Aside0 (waysTo c f (n + 1) = s) ∨
            (((a : Int) == (f : Int)) = false) ∧ (decide (x1 ≤ 0) = false) ∧ (((b : Int) != (a : Int)) = false) ∧ (((d : Int) != (b : Int)) = true) ∧ (decide (x3 ≤ 0) = false) ∧ decide (y < 0) = true ∧ Aside0 (waysTo c f (n + 1) = (s.1.set d (x1 + x3), (clr s.2 d).set (d * 4 + a) true)) ∨
            (((a : Int) == (f : Int)) = false) ∧ (decide (x1 ≤ 0) = false) ∧ (((b : Int) != (a : Int)) = false) ∧ (((d : Int) != (b : Int)) = true) ∧ (decide (x3 ≤ 0) = false) ∧ decide (y < 0) = false ∧ decide (x1 + x3 < y) = true ∧ Aside0 (waysTo c f (n + 1) = (s.1.set d (x1 + x3), (clr s.2 d).set (d * 4 + a) true)) ∨
            (((a : Int) == (f : Int)) = false) ∧ (decide (x1 ≤ 0) = false) ∧ (((b : Int) != (a : Int)) = false) ∧ (((d : Int) != (b : Int)) = true) ∧ (decide (x3 ≤ 0) = false) ∧ decide (y < 0) = false ∧ decide (x1 + x3 < y) = false ∧ (x1 + x3 == y) = true ∧ Aside0 (waysTo c f (n + 1) = (s.1, s.2.set (d * 4 + a) true)) ∨
            (((a : Int) == (f : Int)) = false) ∧ (decide (x1 ≤ 0) = false) ∧ (((b : Int) != (a : Int)) = false) ∧ (((d : Int) != (b : Int)) = true) ∧ (decide (x3 ≤ 0) = false) ∧ decide (y < 0) = false ∧ decide (x1 + x3 < y) = false ∧ (x1 + x3 == y) = false ∧ Aside0 (waysTo c f (n + 1) = s) ∨
            (((a : Int) == (f : Int)) = false) ∧ (decide (x1 ≤ 0) = false) ∧ (((b : Int) != (a : Int)) = true) ∧ (decide (x2 ≤ 0) = false) ∧ (((d : Int) != (b : Int)) = false) ∧ decide (y < 0) = true ∧ Aside0 (waysTo c f (n + 1) = (s.1.set d (x1 + x2), (clr s.2 d).set (d * 4 + a) true)) ∨
            (((a : Int) == (f : Int)) = false) ∧ (decide (x1 ≤ 0) = false) ∧ (((b : Int) != (a : Int)) = true) ∧ (decide (x2 ≤ 0) = false) ∧ (((d : Int) != (b : Int)) = false) ∧ decide (y < 0) = false ∧ decide (x1 + x2 < y) = true ∧ Aside0 (waysTo c f (n + 1) = (s.1.set d (x1 + x2), (clr s.2 d).set (d * 4 + a) true)) ∨
            (((a : Int) == (f : Int)) = false) ∧ (decide (x1 ≤ 0) = false) ∧ (((b : Int) != (a : Int)) = true) ∧ (decide (x2 ≤ 0) = false) ∧ (((d : Int) != (b : Int)) = false) ∧ decide (y < 0) = false ∧ decide (x1 + x2 < y) = false ∧ (x1 + x2 == y) = true ∧ Aside0 (waysTo c f (n + 1) = (s.1, s.2.set (d * 4 + a) true)) ∨
            (((a : Int) == (f : Int)) = false) ∧ (decide (x1 ≤ 0) = false) ∧ (((b : Int) != (a : Int)) = true) ∧ (decide (x2 ≤ 0) = false) ∧ (((d : Int) != (b : Int)) = false) ∧ decide (y < 0) = false ∧ decide (x1 + x2 < y) = false ∧ (x1 + x2 == y) = false ∧ Aside0 (waysTo c f (n + 1) = s) ∨
            (((a : Int) == (f : Int)) = false) ∧ (decide (x1 ≤ 0) = false) ∧ (((b : Int) != (a : Int)) = true) ∧ (decide (x2 ≤ 0) = false) ∧ (((d : Int) != (b : Int)) = true) ∧ (decide (x3 ≤ 0) = false) ∧ decide (y < 0) = true ∧ Aside0 (waysTo c f (n + 1) = (s.1.set d (x1 + x2 + x3), (clr s.2 d).set (d * 4 + a) true)) ∨
            (((a : Int) == (f : Int)) = false) ∧ (decide (x1 ≤ 0) = false) ∧ (((b : Int) != (a : Int)) = true) ∧ (decide (x2 ≤ 0) = false) ∧ (((d : Int) != (b : Int)) = true) ∧ (decide (x3 ≤ 0) = false) ∧ decide (y < 0) = false ∧ decide (x1 + x2 + x3 < y) = true ∧ Aside0 (waysTo c f (n + 1) = (s.1.set d (x1 + x2 + x3), (clr s.2 d).set (d * 4 + a) true)) ∨
            (((a : Int) == (f : Int)) = false) ∧ (decide (x1 ≤ 0) = false) ∧ (((b : Int) != (a : Int)) = true) ∧ (decide (x2 ≤ 0) = false) ∧ (((d : Int) != (b : Int)) = true) ∧ (decide (x3 ≤ 0) = false) ∧ decide (y < 0) = false ∧ decide (x1 + x2 + x3 < y) = false ∧ (x1 + x2 + x3 == y) = true ∧ Aside0 (waysTo c f (n + 1) = (s.1, s.2.set (d * 4 + a) true)) ∨
            (((a : Int) == (f : Int)) = false) ∧ (decide (x1 ≤ 0) = false) ∧ (((b : Int) != (a : Int)) = true) ∧ (decide (x2 ≤ 0) = false) ∧ (((d : Int) != (b : Int)) = true) ∧ (decide (x3 ≤ 0) = false) ∧ decide (y < 0) = false ∧ decide (x1 + x2 + x3 < y) = false ∧ (x1 + x2 + x3 == y) = false ∧ Aside0 (waysTo c f (n + 1) = s) := by
            by_cases ea : a = f
            · left; exact ⟨by simp; omega, ⟨hno (hF (by omega))⟩⟩
            by_cases e1 : x1 ≤ 0
            · right; left; exact ⟨by simp; omega, by simp; omega, ⟨hno (hF (by omega))⟩⟩
            by_cases eb : b = a
            · by_cases ed : d = b
              · have hw : wsum c f a b d = x1 := by rw [hW, if_pos eb, if_pos ed] <;> omega
                have hyy := hyes (hT (by omega) (by omega) (by omega) (by omega))
                rw [hw] at hyy
                by_cases y0 : y < 0
                · right; right; right; right; right; left; exact ⟨by simp; omega, by simp; omega, by simp; omega, by simp; omega, by simpa using y0, ⟨by rw [hyy, if_pos (.inl y0)]⟩⟩
                by_cases y1 : x1 < y
                · right; right; right; right; right; right; left; exact ⟨by simp; omega, by simp; omega, by simp; omega, by simp; omega, by simp; omega, by simp; omega, ⟨by rw [hyy, if_pos (.inr y1)]⟩⟩
                by_cases y2 : x1 = y
                · right; right; right; right; right; right; right; left; exact ⟨by simp; omega, by simp; omega, by simp; omega, by simp; omega, by simp; omega, by simp; omega, by simp; omega, ⟨by rw [hyy, if_neg (by omega), if_pos y2]⟩⟩
                · right; right; right; right; right; right; right; right; left; exact ⟨by simp; omega, by simp; omega, by simp; omega, by simp; omega, by simp; omega, by simp; omega, by simp; omega, ⟨by rw [hyy, if_neg (by omega), if_neg y2]⟩⟩
              · by_cases e3 : x3 ≤ 0
                · right; right; right; left; exact ⟨by simp; omega, by simp; omega, by simp; omega, by simp; omega, by simp; omega, ⟨hno (hF (by omega))⟩⟩
                · have hw : wsum c f a b d = x1 + x3 := by rw [hW, if_pos eb, if_neg ed] <;> omega
                  have hyy := hyes (hT (by omega) (by omega) (by omega) (by omega))
                  rw [hw] at hyy
                  by_cases y0 : y < 0
                  · right; right; right; right; right; right; right; right; right; left; exact ⟨by simp; omega, by simp; omega, by simp; omega, by simp; omega, by simp; omega, by simpa using y0, ⟨by rw [hyy, if_pos (.inl y0)]⟩⟩
                  by_cases y1 : x1 + x3 < y
                  · right; right; right; right; right; right; right; right; right; right; left; exact ⟨by simp; omega, by simp; omega, by simp; omega, by simp; omega, by simp; omega, by simp; omega, by simp; omega, ⟨by rw [hyy, if_pos (.inr y1)]⟩⟩
                  by_cases y2 : x1 + x3 = y
                  · right; right; right; right; right; right; right; right; right; right; right; left; exact ⟨by simp; omega, by simp; omega, by simp; omega, by simp; omega, by simp; omega, by simp; omega, by simp; omega, by simp; omega, ⟨by rw [hyy, if_neg (by omega), if_pos y2]⟩⟩
                  · right; right; right; right; right; right; right; right; right; right; right; right; left; exact ⟨by simp; omega, by simp; omega, by simp; omega, by simp; omega, by simp; omega, by simp; omega, by simp; omega, by simp; omega, ⟨by rw [hyy, if_neg (by omega), if_neg y2]⟩⟩
            · by_cases e2 : x2 ≤ 0
              · right; right; left; exact ⟨by simp; omega, by simp; omega, by simp; omega, by simp; omega, ⟨hno (hF (by omega))⟩⟩
              · by_cases ed : d = b
                · have hw : wsum c f a b d = x1 + x2 := by rw [hW, if_neg eb, if_pos ed] <;> omega
                  have hyy := hyes (hT (by omega) (by omega) (by omega) (by omega))
                  rw [hw] at hyy
                  by_cases y0 : y < 0
                  · right; right; right; right; right; right; right; right; right; right; right; right; right; left; exact ⟨by simp; omega, by simp; omega, by simp; omega, by simp; omega, by simp; omega, by simpa using y0, ⟨by rw [hyy, if_pos (.inl y0)]⟩⟩
                  by_cases y1 : x1 + x2 < y
                  · right; right; right; right; right; right; right; right; right; right; right; right; right; right; left; exact ⟨by simp; omega, by simp; omega, by simp; omega, by simp; omega, by simp; omega, by simp; omega, by simp; omega, ⟨by rw [hyy, if_pos (.inr y1)]⟩⟩
                  by_cases y2 : x1 + x2 = y
                  · right; right; right; right; right; right; right; right; right; right; right; right; right; right; right; left; exact ⟨by simp; omega, by simp; omega, by simp; omega, by simp; omega, by simp; omega, by simp; omega, by simp; omega, by simp; omega, ⟨by rw [hyy, if_neg (by omega), if_pos y2]⟩⟩
                  · right; right; right; right; right; right; right; right; right; right; right; right; right; right; right; right; left; exact ⟨by simp; omega, by simp; omega, by simp; omega, by simp; omega, by simp; omega, by simp; omega, by simp; omega, by simp; omega, ⟨by rw [hyy, if_neg (by omega), if_neg y2]⟩⟩
                · by_cases e3 : x3 ≤ 0
                  · right; right; right; right; left; exact ⟨by simp; omega, by simp; omega, by simp; omega, by simp; omega, by simp; omega, by simp; omega, ⟨hno (hF (by omega))⟩⟩
                  · have hw : wsum c f a b d = x1 + x2 + x3 := by rw [hW, if_neg eb, if_neg ed] <;> omega
                    have hyy := hyes (hT (by omega) (by omega) (by omega) (by omega))
                    rw [hw] at hyy
                    by_cases y0 : y < 0
                    · right; right; right; right; right; right; right; right; right; right; right; right; right; right; right; right; right; left; exact ⟨by simp; omega, by simp; omega, by simp; omega, by simp; omega, by simp; omega, by simp; omega, by simpa using y0, ⟨by rw [hyy, if_pos (.inl y0)]⟩⟩
                    by_cases y1 : x1 + x2 + x3 < y
                    · right; right; right; right; right; right; right; right; right; right; right; right; right; right; right; right; right; right; left; exact ⟨by simp; omega, by simp; omega, by simp; omega, by simp; omega, by simp; omega, by simp; omega, by simp; omega, by simp; omega, ⟨by rw [hyy, if_pos (.inr y1)]⟩⟩
                    by_cases y2 : x1 + x2 + x3 = y
                    · right; right; right; right; right; right; right; right; right; right; right; right; right; right; right; right; right; right; right; left; exact ⟨by simp; omega, by simp; omega, by simp; omega, by simp; omega, by simp; omega, by simp; omega, by simp; omega, by simp; omega, by simp; omega, ⟨by rw [hyy, if_neg (by omega), if_pos y2]⟩⟩
                    · right; right; right; right; right; right; right; right; right; right; right; right; right; right; right; right; right; right; right; right; exact ⟨by simp; omega, by simp; omega, by simp; omega, by simp; omega, by simp; omega, by simp; omega, by simp; omega, by simp; omega, by simp; omega, ⟨by rw [hyy, if_neg (by omega), if_neg y2]⟩⟩
          obtain ⟨p10, p11, _⟩ := p1
          obtain ⟨p20, p21, _⟩ := p2
          obtain ⟨p30, p31, _⟩ := p3
          have w12 : IntKind.i64.wrap (x1 + x2) = x1 + x2 := IntWalk.i64_in _ (by omega)
          have w13 : IntKind.i64.wrap (x1 + x3) = x1 + x3 := IntWalk.i64_in _ (by omega)
          have w123 : IntKind.i64.wrap (x1 + x2 + x3) = x1 + x2 + x3 := IntWalk.i64_in _ (by omega)
          clear hno hyes hT hF hW HWS
          rcases hcase with ⟨t0, HE⟩ | ⟨t0, t1, HE⟩ | ⟨t0, t1, t2, t3, HE⟩ | ⟨t0, t1, t2, t3, t4, HE⟩ | ⟨t0, t1, t2, t3, t4, t5, HE⟩ | ⟨t0, t1, t2, t3, t4, HE⟩ | ⟨t0, t1, t2, t3, t4, t5, HE⟩ | ⟨t0, t1, t2, t3, t4, t5, t6, HE⟩ | ⟨t0, t1, t2, t3, t4, t5, t6, HE⟩ | ⟨t0, t1, t2, t3, t4, t5, HE⟩ | ⟨t0, t1, t2, t3, t4, t5, t6, HE⟩ | ⟨t0, t1, t2, t3, t4, t5, t6, t7, HE⟩ | ⟨t0, t1, t2, t3, t4, t5, t6, t7, HE⟩ | ⟨t0, t1, t2, t3, t4, t5, HE⟩ | ⟨t0, t1, t2, t3, t4, t5, t6, HE⟩ | ⟨t0, t1, t2, t3, t4, t5, t6, t7, HE⟩ | ⟨t0, t1, t2, t3, t4, t5, t6, t7, HE⟩ | ⟨t0, t1, t2, t3, t4, t5, t6, HE⟩ | ⟨t0, t1, t2, t3, t4, t5, t6, t7, HE⟩ | ⟨t0, t1, t2, t3, t4, t5, t6, t7, t8, HE⟩ | ⟨t0, t1, t2, t3, t4, t5, t6, t7, t8, HE⟩
          · go_wp2_with (fail)
            go_roundw
            case rel => exact ⟨n + 1, by omega, by go_num, ⟨by rw [HE.out]; exact HX6.out⟩, ⟨by rw [HE.out]; exact HX7.out⟩, HB3⟩
            case measure => simp [intOf]; omega
          · go_wp2_with (fail)
            go_roundw
            case rel => exact ⟨n + 1, by omega, by go_num, ⟨by rw [HE.out]; exact HX6.out⟩, ⟨by rw [HE.out]; exact HX7.out⟩, HB3⟩
            case measure => simp [intOf]; omega
          · go_wp2_with (fail)
            go_roundw
            case rel => exact ⟨n + 1, by omega, by go_num, ⟨by rw [HE.out]; exact HX6.out⟩, ⟨by rw [HE.out]; exact HX7.out⟩, HB3⟩
            case measure => simp [intOf]; omega
          · go_wp2_with (fail)
            go_roundw
            case rel => exact ⟨n + 1, by omega, by go_num, ⟨by rw [HE.out]; exact HX6.out⟩, ⟨by rw [HE.out]; exact HX7.out⟩, HB3⟩
            case measure => simp [intOf]; omega
          · go_wp2_with (fail)
            go_roundw
            case rel => exact ⟨n + 1, by omega, by go_num, ⟨by rw [HE.out]; exact HX6.out⟩, ⟨by rw [HE.out]; exact HX7.out⟩, HB3⟩
            case measure => simp [intOf]; omega
          · have te : (x1 == x1) = true := by simp
            go_wp2_with (first | ((with_reducible refine gate_store (p := 106) rfl ?_); refine wpL_set rfl rfl rfl rfl HX6.out (by rw [HS6.out]; exact d4) ?_; intro w4 hX4 hP4; replace HX6 := Aside0.mk hX4; replace HX7 := Aside0.mk (HX7.out.put hP4 (Ne.symm HN.out)); replace HB3 := Aside0.mk (hP4.below _ _ HB3.out HG6.out); have c7 := HX6.out.cell d (by rw [List.length_set, HS6.out]; exact d4); rw [gt_set _ _ _ _ (by rw [HS6.out]; exact d4), if_pos rfl] at c7; clear hX4 hP4) | ((with_reducible refine gate_store (p := 109) rfl ?_); refine wpL_clr rfl rfl rfl rfl HX7.out d rfl HS7.out d4 ?_; intro w5 hX4 hP4; replace HX7 := Aside0.mk hX4; replace HX6 := Aside0.mk (HX6.out.put hP4 HN.out); replace HB3 := Aside0.mk (hP4.below _ _ HB3.out HG7.out); have c8 := HX6.out.cell d (by rw [List.length_set, HS6.out]; exact d4); rw [gt_set _ _ _ _ (by rw [HS6.out]; exact d4), if_pos rfl] at c8; clear hX4 hP4) | ((with_reducible refine gate_store (p := 118) rfl ?_); refine wpL_setB rfl rfl rfl rfl HX7.out (by rw [clr_length, HS7.out]; exact da) ?_; intro w6 hX4 hP4; replace HX7 := Aside0.mk hX4; replace HX6 := Aside0.mk (HX6.out.put hP4 HN.out); replace HB3 := Aside0.mk (hP4.below _ _ HB3.out HG7.out); clear hX4 hP4))
            go_roundw
            case rel => exact ⟨n + 1, by omega, by go_num, ⟨by rw [HE.out]; exact HX6.out⟩, ⟨by rw [HE.out]; exact HX7.out⟩, HB3⟩
            case measure => simp [intOf]; omega
          · have te : (x1 == x1) = true := by simp
            go_wp2_with (first | ((with_reducible refine gate_store (p := 106) rfl ?_); refine wpL_set rfl rfl rfl rfl HX6.out (by rw [HS6.out]; exact d4) ?_; intro w4 hX4 hP4; replace HX6 := Aside0.mk hX4; replace HX7 := Aside0.mk (HX7.out.put hP4 (Ne.symm HN.out)); replace HB3 := Aside0.mk (hP4.below _ _ HB3.out HG6.out); have c7 := HX6.out.cell d (by rw [List.length_set, HS6.out]; exact d4); rw [gt_set _ _ _ _ (by rw [HS6.out]; exact d4), if_pos rfl] at c7; clear hX4 hP4) | ((with_reducible refine gate_store (p := 109) rfl ?_); refine wpL_clr rfl rfl rfl rfl HX7.out d rfl HS7.out d4 ?_; intro w5 hX4 hP4; replace HX7 := Aside0.mk hX4; replace HX6 := Aside0.mk (HX6.out.put hP4 HN.out); replace HB3 := Aside0.mk (hP4.below _ _ HB3.out HG7.out); have c8 := HX6.out.cell d (by rw [List.length_set, HS6.out]; exact d4); rw [gt_set _ _ _ _ (by rw [HS6.out]; exact d4), if_pos rfl] at c8; clear hX4 hP4) | ((with_reducible refine gate_store (p := 118) rfl ?_); refine wpL_setB rfl rfl rfl rfl HX7.out (by rw [clr_length, HS7.out]; exact da) ?_; intro w6 hX4 hP4; replace HX7 := Aside0.mk hX4; replace HX6 := Aside0.mk (HX6.out.put hP4 HN.out); replace HB3 := Aside0.mk (hP4.below _ _ HB3.out HG7.out); clear hX4 hP4))
            go_roundw
            case rel => exact ⟨n + 1, by omega, by go_num, ⟨by rw [HE.out]; exact HX6.out⟩, ⟨by rw [HE.out]; exact HX7.out⟩, HB3⟩
            case measure => simp [intOf]; omega
          · go_wp2_with (first | ((with_reducible refine gate_store (p := 118) rfl ?_); refine wpL_setB rfl rfl rfl rfl HX7.out (by rw [HS7.out]; exact da) ?_; intro w6 hX4 hP4; replace HX7 := Aside0.mk hX4; replace HX6 := Aside0.mk (HX6.out.put hP4 HN.out); replace HB3 := Aside0.mk (hP4.below _ _ HB3.out HG7.out); clear hX4 hP4))
            go_roundw
            case rel => exact ⟨n + 1, by omega, by go_num, ⟨by rw [HE.out]; exact HX6.out⟩, ⟨by rw [HE.out]; exact HX7.out⟩, HB3⟩
            case measure => simp [intOf]; omega
          · go_wp2_with (fail)
            go_roundw
            case rel => exact ⟨n + 1, by omega, by go_num, ⟨by rw [HE.out]; exact HX6.out⟩, ⟨by rw [HE.out]; exact HX7.out⟩, HB3⟩
            case measure => simp [intOf]; omega
          · have te : (x1 + x3 == x1 + x3) = true := by simp
            go_wp2_with (first | ((with_reducible refine gate_store (p := 106) rfl ?_); refine wpL_set rfl rfl rfl rfl HX6.out (by rw [HS6.out]; exact d4) ?_; intro w4 hX4 hP4; replace HX6 := Aside0.mk hX4; replace HX7 := Aside0.mk (HX7.out.put hP4 (Ne.symm HN.out)); replace HB3 := Aside0.mk (hP4.below _ _ HB3.out HG6.out); have c7 := HX6.out.cell d (by rw [List.length_set, HS6.out]; exact d4); rw [gt_set _ _ _ _ (by rw [HS6.out]; exact d4), if_pos rfl] at c7; clear hX4 hP4) | ((with_reducible refine gate_store (p := 109) rfl ?_); refine wpL_clr rfl rfl rfl rfl HX7.out d rfl HS7.out d4 ?_; intro w5 hX4 hP4; replace HX7 := Aside0.mk hX4; replace HX6 := Aside0.mk (HX6.out.put hP4 HN.out); replace HB3 := Aside0.mk (hP4.below _ _ HB3.out HG7.out); have c8 := HX6.out.cell d (by rw [List.length_set, HS6.out]; exact d4); rw [gt_set _ _ _ _ (by rw [HS6.out]; exact d4), if_pos rfl] at c8; clear hX4 hP4) | ((with_reducible refine gate_store (p := 118) rfl ?_); refine wpL_setB rfl rfl rfl rfl HX7.out (by rw [clr_length, HS7.out]; exact da) ?_; intro w6 hX4 hP4; replace HX7 := Aside0.mk hX4; replace HX6 := Aside0.mk (HX6.out.put hP4 HN.out); replace HB3 := Aside0.mk (hP4.below _ _ HB3.out HG7.out); clear hX4 hP4))
            go_roundw
            case rel => exact ⟨n + 1, by omega, by go_num, ⟨by rw [HE.out]; exact HX6.out⟩, ⟨by rw [HE.out]; exact HX7.out⟩, HB3⟩
            case measure => simp [intOf]; omega
          · have te : (x1 + x3 == x1 + x3) = true := by simp
            go_wp2_with (first | ((with_reducible refine gate_store (p := 106) rfl ?_); refine wpL_set rfl rfl rfl rfl HX6.out (by rw [HS6.out]; exact d4) ?_; intro w4 hX4 hP4; replace HX6 := Aside0.mk hX4; replace HX7 := Aside0.mk (HX7.out.put hP4 (Ne.symm HN.out)); replace HB3 := Aside0.mk (hP4.below _ _ HB3.out HG6.out); have c7 := HX6.out.cell d (by rw [List.length_set, HS6.out]; exact d4); rw [gt_set _ _ _ _ (by rw [HS6.out]; exact d4), if_pos rfl] at c7; clear hX4 hP4) | ((with_reducible refine gate_store (p := 109) rfl ?_); refine wpL_clr rfl rfl rfl rfl HX7.out d rfl HS7.out d4 ?_; intro w5 hX4 hP4; replace HX7 := Aside0.mk hX4; replace HX6 := Aside0.mk (HX6.out.put hP4 HN.out); replace HB3 := Aside0.mk (hP4.below _ _ HB3.out HG7.out); have c8 := HX6.out.cell d (by rw [List.length_set, HS6.out]; exact d4); rw [gt_set _ _ _ _ (by rw [HS6.out]; exact d4), if_pos rfl] at c8; clear hX4 hP4) | ((with_reducible refine gate_store (p := 118) rfl ?_); refine wpL_setB rfl rfl rfl rfl HX7.out (by rw [clr_length, HS7.out]; exact da) ?_; intro w6 hX4 hP4; replace HX7 := Aside0.mk hX4; replace HX6 := Aside0.mk (HX6.out.put hP4 HN.out); replace HB3 := Aside0.mk (hP4.below _ _ HB3.out HG7.out); clear hX4 hP4))
            go_roundw
            case rel => exact ⟨n + 1, by omega, by go_num, ⟨by rw [HE.out]; exact HX6.out⟩, ⟨by rw [HE.out]; exact HX7.out⟩, HB3⟩
            case measure => simp [intOf]; omega
          · go_wp2_with (first | ((with_reducible refine gate_store (p := 118) rfl ?_); refine wpL_setB rfl rfl rfl rfl HX7.out (by rw [HS7.out]; exact da) ?_; intro w6 hX4 hP4; replace HX7 := Aside0.mk hX4; replace HX6 := Aside0.mk (HX6.out.put hP4 HN.out); replace HB3 := Aside0.mk (hP4.below _ _ HB3.out HG7.out); clear hX4 hP4))
            go_roundw
            case rel => exact ⟨n + 1, by omega, by go_num, ⟨by rw [HE.out]; exact HX6.out⟩, ⟨by rw [HE.out]; exact HX7.out⟩, HB3⟩
            case measure => simp [intOf]; omega
          · go_wp2_with (fail)
            go_roundw
            case rel => exact ⟨n + 1, by omega, by go_num, ⟨by rw [HE.out]; exact HX6.out⟩, ⟨by rw [HE.out]; exact HX7.out⟩, HB3⟩
            case measure => simp [intOf]; omega
          · have te : (x1 + x2 == x1 + x2) = true := by simp
            go_wp2_with (first | ((with_reducible refine gate_store (p := 106) rfl ?_); refine wpL_set rfl rfl rfl rfl HX6.out (by rw [HS6.out]; exact d4) ?_; intro w4 hX4 hP4; replace HX6 := Aside0.mk hX4; replace HX7 := Aside0.mk (HX7.out.put hP4 (Ne.symm HN.out)); replace HB3 := Aside0.mk (hP4.below _ _ HB3.out HG6.out); have c7 := HX6.out.cell d (by rw [List.length_set, HS6.out]; exact d4); rw [gt_set _ _ _ _ (by rw [HS6.out]; exact d4), if_pos rfl] at c7; clear hX4 hP4) | ((with_reducible refine gate_store (p := 109) rfl ?_); refine wpL_clr rfl rfl rfl rfl HX7.out d rfl HS7.out d4 ?_; intro w5 hX4 hP4; replace HX7 := Aside0.mk hX4; replace HX6 := Aside0.mk (HX6.out.put hP4 HN.out); replace HB3 := Aside0.mk (hP4.below _ _ HB3.out HG7.out); have c8 := HX6.out.cell d (by rw [List.length_set, HS6.out]; exact d4); rw [gt_set _ _ _ _ (by rw [HS6.out]; exact d4), if_pos rfl] at c8; clear hX4 hP4) | ((with_reducible refine gate_store (p := 118) rfl ?_); refine wpL_setB rfl rfl rfl rfl HX7.out (by rw [clr_length, HS7.out]; exact da) ?_; intro w6 hX4 hP4; replace HX7 := Aside0.mk hX4; replace HX6 := Aside0.mk (HX6.out.put hP4 HN.out); replace HB3 := Aside0.mk (hP4.below _ _ HB3.out HG7.out); clear hX4 hP4))
            go_roundw
            case rel => exact ⟨n + 1, by omega, by go_num, ⟨by rw [HE.out]; exact HX6.out⟩, ⟨by rw [HE.out]; exact HX7.out⟩, HB3⟩
            case measure => simp [intOf]; omega
          · have te : (x1 + x2 == x1 + x2) = true := by simp
            go_wp2_with (first | ((with_reducible refine gate_store (p := 106) rfl ?_); refine wpL_set rfl rfl rfl rfl HX6.out (by rw [HS6.out]; exact d4) ?_; intro w4 hX4 hP4; replace HX6 := Aside0.mk hX4; replace HX7 := Aside0.mk (HX7.out.put hP4 (Ne.symm HN.out)); replace HB3 := Aside0.mk (hP4.below _ _ HB3.out HG6.out); have c7 := HX6.out.cell d (by rw [List.length_set, HS6.out]; exact d4); rw [gt_set _ _ _ _ (by rw [HS6.out]; exact d4), if_pos rfl] at c7; clear hX4 hP4) | ((with_reducible refine gate_store (p := 109) rfl ?_); refine wpL_clr rfl rfl rfl rfl HX7.out d rfl HS7.out d4 ?_; intro w5 hX4 hP4; replace HX7 := Aside0.mk hX4; replace HX6 := Aside0.mk (HX6.out.put hP4 HN.out); replace HB3 := Aside0.mk (hP4.below _ _ HB3.out HG7.out); have c8 := HX6.out.cell d (by rw [List.length_set, HS6.out]; exact d4); rw [gt_set _ _ _ _ (by rw [HS6.out]; exact d4), if_pos rfl] at c8; clear hX4 hP4) | ((with_reducible refine gate_store (p := 118) rfl ?_); refine wpL_setB rfl rfl rfl rfl HX7.out (by rw [clr_length, HS7.out]; exact da) ?_; intro w6 hX4 hP4; replace HX7 := Aside0.mk hX4; replace HX6 := Aside0.mk (HX6.out.put hP4 HN.out); replace HB3 := Aside0.mk (hP4.below _ _ HB3.out HG7.out); clear hX4 hP4))
            go_roundw
            case rel => exact ⟨n + 1, by omega, by go_num, ⟨by rw [HE.out]; exact HX6.out⟩, ⟨by rw [HE.out]; exact HX7.out⟩, HB3⟩
            case measure => simp [intOf]; omega
          · go_wp2_with (first | ((with_reducible refine gate_store (p := 118) rfl ?_); refine wpL_setB rfl rfl rfl rfl HX7.out (by rw [HS7.out]; exact da) ?_; intro w6 hX4 hP4; replace HX7 := Aside0.mk hX4; replace HX6 := Aside0.mk (HX6.out.put hP4 HN.out); replace HB3 := Aside0.mk (hP4.below _ _ HB3.out HG7.out); clear hX4 hP4))
            go_roundw
            case rel => exact ⟨n + 1, by omega, by go_num, ⟨by rw [HE.out]; exact HX6.out⟩, ⟨by rw [HE.out]; exact HX7.out⟩, HB3⟩
            case measure => simp [intOf]; omega
          · go_wp2_with (fail)
            go_roundw
            case rel => exact ⟨n + 1, by omega, by go_num, ⟨by rw [HE.out]; exact HX6.out⟩, ⟨by rw [HE.out]; exact HX7.out⟩, HB3⟩
            case measure => simp [intOf]; omega
          · have te : (x1 + x2 + x3 == x1 + x2 + x3) = true := by simp
            go_wp2_with (first | ((with_reducible refine gate_store (p := 106) rfl ?_); refine wpL_set rfl rfl rfl rfl HX6.out (by rw [HS6.out]; exact d4) ?_; intro w4 hX4 hP4; replace HX6 := Aside0.mk hX4; replace HX7 := Aside0.mk (HX7.out.put hP4 (Ne.symm HN.out)); replace HB3 := Aside0.mk (hP4.below _ _ HB3.out HG6.out); have c7 := HX6.out.cell d (by rw [List.length_set, HS6.out]; exact d4); rw [gt_set _ _ _ _ (by rw [HS6.out]; exact d4), if_pos rfl] at c7; clear hX4 hP4) | ((with_reducible refine gate_store (p := 109) rfl ?_); refine wpL_clr rfl rfl rfl rfl HX7.out d rfl HS7.out d4 ?_; intro w5 hX4 hP4; replace HX7 := Aside0.mk hX4; replace HX6 := Aside0.mk (HX6.out.put hP4 HN.out); replace HB3 := Aside0.mk (hP4.below _ _ HB3.out HG7.out); have c8 := HX6.out.cell d (by rw [List.length_set, HS6.out]; exact d4); rw [gt_set _ _ _ _ (by rw [HS6.out]; exact d4), if_pos rfl] at c8; clear hX4 hP4) | ((with_reducible refine gate_store (p := 118) rfl ?_); refine wpL_setB rfl rfl rfl rfl HX7.out (by rw [clr_length, HS7.out]; exact da) ?_; intro w6 hX4 hP4; replace HX7 := Aside0.mk hX4; replace HX6 := Aside0.mk (HX6.out.put hP4 HN.out); replace HB3 := Aside0.mk (hP4.below _ _ HB3.out HG7.out); clear hX4 hP4))
            go_roundw
            case rel => exact ⟨n + 1, by omega, by go_num, ⟨by rw [HE.out]; exact HX6.out⟩, ⟨by rw [HE.out]; exact HX7.out⟩, HB3⟩
            case measure => simp [intOf]; omega
          · have te : (x1 + x2 + x3 == x1 + x2 + x3) = true := by simp
            go_wp2_with (first | ((with_reducible refine gate_store (p := 106) rfl ?_); refine wpL_set rfl rfl rfl rfl HX6.out (by rw [HS6.out]; exact d4) ?_; intro w4 hX4 hP4; replace HX6 := Aside0.mk hX4; replace HX7 := Aside0.mk (HX7.out.put hP4 (Ne.symm HN.out)); replace HB3 := Aside0.mk (hP4.below _ _ HB3.out HG6.out); have c7 := HX6.out.cell d (by rw [List.length_set, HS6.out]; exact d4); rw [gt_set _ _ _ _ (by rw [HS6.out]; exact d4), if_pos rfl] at c7; clear hX4 hP4) | ((with_reducible refine gate_store (p := 109) rfl ?_); refine wpL_clr rfl rfl rfl rfl HX7.out d rfl HS7.out d4 ?_; intro w5 hX4 hP4; replace HX7 := Aside0.mk hX4; replace HX6 := Aside0.mk (HX6.out.put hP4 HN.out); replace HB3 := Aside0.mk (hP4.below _ _ HB3.out HG7.out); have c8 := HX6.out.cell d (by rw [List.length_set, HS6.out]; exact d4); rw [gt_set _ _ _ _ (by rw [HS6.out]; exact d4), if_pos rfl] at c8; clear hX4 hP4) | ((with_reducible refine gate_store (p := 118) rfl ?_); refine wpL_setB rfl rfl rfl rfl HX7.out (by rw [clr_length, HS7.out]; exact da) ?_; intro w6 hX4 hP4; replace HX7 := Aside0.mk hX4; replace HX6 := Aside0.mk (HX6.out.put hP4 HN.out); replace HB3 := Aside0.mk (hP4.below _ _ HB3.out HG7.out); clear hX4 hP4))
            go_roundw
            case rel => exact ⟨n + 1, by omega, by go_num, ⟨by rw [HE.out]; exact HX6.out⟩, ⟨by rw [HE.out]; exact HX7.out⟩, HB3⟩
            case measure => simp [intOf]; omega
          · go_wp2_with (first | ((with_reducible refine gate_store (p := 118) rfl ?_); refine wpL_setB rfl rfl rfl rfl HX7.out (by rw [HS7.out]; exact da) ?_; intro w6 hX4 hP4; replace HX7 := Aside0.mk hX4; replace HX6 := Aside0.mk (HX6.out.put hP4 HN.out); replace HB3 := Aside0.mk (hP4.below _ _ HB3.out HG7.out); clear hX4 hP4))
            go_roundw
            case rel => exact ⟨n + 1, by omega, by go_num, ⟨by rw [HE.out]; exact HX6.out⟩, ⟨by rw [HE.out]; exact HX7.out⟩, HB3⟩
            case measure => simp [intOf]; omega
          · go_wp2_with (fail)
            go_roundw
            case rel => exact ⟨n + 1, by omega, by go_num, ⟨by rw [HE.out]; exact HX6.out⟩, ⟨by rw [HE.out]; exact HX7.out⟩, HB3⟩
            case measure => simp [intOf]; omega
        · have nI : ¬ (n : Int) < 64 := by omega
          replace HX6 := Aside0.mk (show Blk wr g6 22 (waysTo c f 64).1 by have := HX6.out; rw [show n = 64 by omega] at this; exact this)
          replace HX7 := Aside0.mk (show BBlk wr g7 36 (waysTo c f 64).2 by have := HX7.out; rw [show n = 64 by omega] at this; exact this)
          have hl := waysTo_length c f 64
          obtain ⟨s, hs⟩ : ∃ s, s = waysTo c f 64 := ⟨_, rfl⟩
          rw [← hs] at HX6 HX7 hl
          have HSE := Aside0.mk hs
          have HL := Aside0.mk hl
          replace HB := Aside0.mk (below_step HB.out HB3.out)
          replace HB4 := Aside0.mk (HB4.out.below HB3.out)
          replace HB5 := Aside0.mk (HB5.out.below HB3.out)
          have HN64 := Aside0.mk (show g6 ≠ g4 from fun e => by have := HB4L.out; have := HG6.out; omega)
          have HN65 := Aside0.mk (show g6 ≠ g5 from fun e => by have := HB5L.out; have := HG6.out; omega)
          have HN74 := Aside0.mk (show g7 ≠ g4 from fun e => by have := HB4L.out; have := HG7.out; omega)
          have HN75 := Aside0.mk (show g7 ≠ g5 from fun e => by have := HB5L.out; have := HG7.out; omega)
          have HN5 := Aside0.mk (show g5 ≠ g4 from fun e => by
            have h4 := HB4.out.lt; have := HB5.out; subst e
            have h5 : wr.heap[g5]? = some (.cells (AV zs4) 22 (0, 0)) := HB4.out
            exact absurd rfl (blk_ne this h5 (by decide)))
          clear hs hl HBC HB3
          go_wp2_with (fail)
          refine wp_region_held_drew (S := fun w' => Blk w' g6 22 s.1 ∧ BBlk w' g7 36 s.2) (by kernel_rfl) ⟨HX6.out.drew, HX7.out.drew⟩ (fun hHeld => ?_)
          refine wpAnyH_take (i := 0) (oi := { dst := some 119, op := Op.load 22 (Operand.tmp 6), type := 22, pos := "law.go:58", after := #[], guard := none }) (v := .agg (AV s.1)) rfl (by kernel_rfl) (by kernel_rfl) (by kernel_rfl) (fun _ _ _ h => h) (yields_row (by rfl) _ _ rfl g6 rfl (AV s.1) 22 (fun w' h => h.1) Try.underlying22 (by rw [AV_size, HL.out.1]; exact size22)) hHeld ?_
          simp only [Act.put, List.setIfInBounds_toArray, List.set_cons_zero, List.set_cons_succ]
          refine wpAnyH_take (i := 1) (oi := { dst := some 120, op := Op.load 36 (Operand.tmp 7), type := 36, pos := "law.go:58", after := #[{ on := 2, ground := Ground.gcOnly Departure.lateStores }], guard := none }) (v := .agg (BV s.2)) rfl (by kernel_rfl) (by kernel_rfl) (by kernel_rfl) (fun _ _ _ h => h) (yields_row (by rfl) _ _ rfl g7 rfl (BV s.2) 36 (fun w' h => h.2) Try.underlying36 (by rw [BV_size, HL.out.2]; exact size36)) hHeld ?_
          simp only [Act.put, List.setIfInBounds_toArray, List.set_cons_zero, List.set_cons_succ]
          refine wpAnyH_ready (rs := [2]) (by kernel_rfl) (by simp) (AllReadyH.cons rfl (fun K hK => ?_) AllReadyH.nil)
          · have HQ4 := Aside0.mk HB4.out.drew
            have HQ5 := Aside0.mk HB5.out.drew
            have HQ6 := Aside0.mk HX6.out.drew
            have HQ7 := Aside0.mk HX7.out.drew
            replace HB := Aside0.mk HB.out.drew
            rw [if_pos (by rfl)]
            have hP := Put.setRow (w := wr.drew) (g := g4) (t := 22) (old := AV zs4) HQ4.out (AV s.1)
            refine wp_store_row _ _ _ rfl g4 (AV s.1) rfl rfl 22 (AV zs4) HQ4.out (by rw [AV_size, HL.out.1]; exact size22) (by rw [AV_size, AV_size, HL.out.1]; rfl) (AV_one _) ?_
            replace HQ4 := Aside0.mk (show Blk (wr.drew.setRow g4 (AV s.1)) g4 22 s.1 from setRow_heap _ _ _ _ _ _ HQ4.out)
            replace HQ5 := Aside0.mk (HQ5.out.put hP HN5.out)
            replace HQ6 := Aside0.mk (HQ6.out.put hP HN64.out)
            replace HQ7 := Aside0.mk (HQ7.out.put hP HN74.out)
            replace HB := Aside0.mk (hP.below _ _ HB.out HG4.out)
            refine hK.out _ _ ⟨HQ6.out, HQ7.out⟩ (fun hHeld2 => ?_)
            simp only [Act.put, List.setIfInBounds_toArray, List.set_cons_zero, List.set_cons_succ]
            clear hK hP
            refine wpAnyH_ready (rs := [3]) (by kernel_rfl) (by simp) (AllReadyH.cons rfl (fun K hK => ?_) AllReadyH.nil)
            rw [if_pos (by rfl)]
            have hP := Put.setRow (w := (wr.drew.setRow g4 (AV s.1))) (g := g5) (t := 36) (old := BV zb16) HQ5.out (BV s.2)
            refine wp_store_row _ _ _ rfl g5 (BV s.2) rfl rfl 36 (BV zb16) HQ5.out (by rw [BV_size, HL.out.2]; exact size36) (by rw [BV_size, BV_size, HL.out.2]; rfl) (BV_one _) ?_
            replace HQ5 := Aside0.mk (show BBlk ((wr.drew.setRow g4 (AV s.1)).setRow g5 (BV s.2)) g5 36 s.2 from setRow_heap _ _ _ _ _ _ HQ5.out)
            replace HQ4 := Aside0.mk (HQ4.out.put hP (Ne.symm HN5.out))
            replace HQ6 := Aside0.mk (HQ6.out.put hP HN65.out)
            replace HQ7 := Aside0.mk (HQ7.out.put hP HN75.out)
            replace HB := Aside0.mk (hP.below _ _ HB.out HG5.out)
            refine hK.out _ _ ⟨HQ6.out, HQ7.out⟩ (fun hHeld3 => ?_)
            simp only [Act.put, List.setIfInBounds_toArray, List.set_cons_zero, List.set_cons_succ]
            refine wpAnyH_done (by kernel_rfl) ?_ _
            clear hK hP
            go_wp2_with (fail)
            rw [← HSE.out]
            refine bodyPost_ret (results_two rfl _ _ g4 g5 22 36 (AV s.1) (BV s.2) _ _ _ _ rfl rfl HQ4.out HQ5.out Try.underlying22 (by rw [AV_size, HL.out.1]; exact size22) Try.underlying36 (by rw [BV_size, HL.out.2]; exact size36)) rfl ⟨rfl, HB.out⟩
end Go.Proofs.Ytjficnndocjodaa.H
