/- What is handed out may be written over: SpoilRoutes returns and writes nothing but rows of the call's own. -/
import Derived.Test.YtjficnndocjodaaHAwakeP
import Derived.Deep.DeepMust
namespace Go.Proofs.Ytjficnndocjodaa.H
open Go.RowKit Go.Proofs.YtjficnndocjodaaW.PrintWords Go.Proofs.YtjficnndocjodaaW.PrintLast Go.Proofs.YtjficnndocjodaaW.PrintMore
open Go.Proofs.Ytjficnndocjodaa.PPaths
set_option linter.unusedVariables false
set_option linter.unusedSimpArgs false

theorem spoilInts_some (d : Nat) : ∀ (k : Nat) (l : List Int) (i : Int), 0 ≤ i → i ≤ l.length → (l.length : Int) - i = d → d < k → l.length ≤ 9223372036854775807 → ∃ r, watchwordlaw0_SpoilInts.l0 k l i = some r := by
  induction d with
  | zero =>
    intro k l i h0 h1 hd hk hl
    obtain ⟨k, rfl⟩ : ∃ m, k = m + 1 := ⟨k - 1, by omega⟩
    exact ⟨l, by simp only [watchwordlaw0_SpoilInts.l0]; rw [if_neg (by omega)]⟩
  | succ d ih =>
    intro k l i h0 h1 hd hk hl
    obtain ⟨k, rfl⟩ : ∃ m, k = m + 1 := ⟨k - 1, by omega⟩
    have hw : wrap64 (i + 1) = i + 1 := by unfold wrap64; omega
    obtain ⟨r, hr⟩ := ih k (l.set i.toNat (wrap64 ((-9) - (rd l i)))) (i + 1) (by omega) (by rw [List.length_set]; omega) (by rw [List.length_set]; omega) (by omega) (by rw [List.length_set]; omega)
    exact ⟨r, by simp only [watchwordlaw0_SpoilInts.l0]; rw [if_pos (by omega), if_pos h0, hw]; exact hr⟩
theorem cell_kept {w w1 : World} {S : Nat → Prop} (h : Kept w w1 S) {p : Addr} (hS : ¬ S p.block) {v : Value} (hc : w.cell? p = some v) : w1.cell? p = some v := by
  have hlt := World.block_lt_of_cell? w p hc
  have : w1.cell? p = w.cell? p := by simp only [World.cell?]; rw [h.2 _ hlt hS]
  rw [this]; exact hc
theorem size3' : (Try.prog.info? 3).map (·.size) = some 1 := size3

set_option maxHeartbeats 1000000 in
set_option maxRecDepth 100000 in
theorem SpoilRoutes_calls (w0 w : World) (v : Value) (xs : List S41) (hB : Below w0.heap.size w0 w) (hO : Kd.S k41 41 w w0.heap.size (fun _ => True) v xs) :
    Calls Try.prog 17 #[v] w fun e w' => e = .returned (.tuple #[]) ∧ Below w0.heap.size w0 w' := by
  have HB := Aside0.mk hB
  have HO := Aside0.mk hO
  have HLN := Aside0.mk (show xs.length ≤ 9223372036854775807 by obtain ⟨A, c, _, _, hC⟩ := Kd.S_reads hO; exact hC.2.1)
  clear hB hO
  by_cases hn : 0 < xs.length
  · obtain ⟨g, cap, hv, _⟩ := Kd.S_form HO.out hn
    subst hv
    have hl63 := HLN.out
    go_enter Try.func17, Try.ntmps17
    go_wp2_with (fail)
    go_loopw [2] (fun i wr => ∃ (k : Nat) (ys : List S41), k ≤ xs.length ∧ i = .int .i64 (k : Int) ∧ Aside0 (ys.length = xs.length) ∧ Aside0 (Kd.S k41 41 wr w0.heap.size (fun _ => True) (.slice (some ⟨g, 0, none⟩) xs.length cap) ys) ∧ Aside0 (Below w0.heap.size w0 wr)) (fun i _ => xs.length - (intOf i).toNat)
    case atStart => exact ⟨0, xs, by omega, rfl, ⟨rfl⟩, HO, HB⟩
    case round =>
      clear HO HB
      obtain ⟨k, ys, hk, rfl, HL, HO, HB⟩ := hrel
      by_cases hlt : k < xs.length
      · have hltI : (k : Int) < (xs.length : Int) := by omega
        obtain ⟨oki, cs, hcl, hM, hcc, hfr, hoki, hH⟩ := Kd.S_elem HO.out z41 (k : Int) (by omega) (by omega)
        obtain ⟨v2, hcs, hR2⟩ := k41_openM hM
        subst hcs
        have q0 : wr.cell? ⟨g, k * 3, none⟩ = some (.int .i64 (ys.getD k z41).f0) := hcc 0 _ rfl
        have q2 : wr.cell? ⟨g, k * 3 + 2, none⟩ = some v2 := hcc 2 _ rfl
        obtain ⟨A2, c2, hv2⟩ := Kd.R_slice hR2
        obtain ⟨r, hr⟩ := spoilInts_some (ys.getD ((k : Int)).toNat z41).f2.length (((ys.getD ((k : Int)).toNat z41).f2.length) + 1) (ys.getD ((k : Int)).toNat z41).f2 0 (by omega) (by omega) (by omega) (by omega) (by obtain ⟨A, c, _, _, hC⟩ := Kd.R_reads hR2; exact hC.2.1)
        have HR2 := Aside0.mk hR2
        have HR := Aside0.mk hr
        have HH := Aside0.mk hH
        have HOK := Aside0.mk hoki
        have HQ0 := Aside0.mk q0
        have HX := Aside0.mk hr
        clear hM hcc hfr hoki hH hcl hr hR2 q0
        generalize hfl : (ys.getD ((k : Int)).toNat z41).f2 = fl at *
        generalize hf0 : (ys.getD k z41).f0 = f0 at *
        have hf0' : (ys.getD ((k : Int)).toNat z41).f0 = f0 := hf0
        generalize hf1 : (ys.getD ((k : Int)).toNat z41).f1 = f1 at *
        have HF := Aside0.mk hf0'
        clear hf0 hf0' hfl hf1
        subst hv2
        go_wp2_with (fail)
        refine (watchwordlaw0_SpoilInts.calls (fl.length + 1) oki (.slice A2 fl.length c2) fl r w0 _ HB.out HR2.out HR.out).mono ?_
        rintro e w1 ⟨rfl, hR3, hb1, hk1⟩
        have hl2 : r.length = fl.length := by
          obtain ⟨A, c, he, _⟩ := Kd.R_reads hR3
          injection he with _ h2 _
          exact h2.symm
        have HRR := Aside0.mk (Kd.R_mono (Kd.R_tight rfl hR3) (fun q hq => HR2.out.1 q hq.symm))
        have HH1 := Aside0.mk (Kd.H_step HH.out (fun q _ hno hlt => hk1.2 q hlt hno))
        have hng : ¬ oki g := fun h => (HOK.out g h).2 rfl
        have q0 : w1.cell? ⟨g, k * 3, none⟩ = some (.int .i64 f0) := cell_kept hk1 hng HQ0.out
        replace HB := Aside0.mk hb1
        clear hR3 hb1 hk1 q2 hng hl2
        go_wp2_with (first | ((with_reducible refine gate_store (p := 24) rfl ?_); go_must (refine Kd.H_store k41 (w0 := w0) w0.heap.size rfl rfl 3 (.tmp 24) (.tmp 22) rfl 41 (g := g) (n := xs.length) (cap := cap) (o' := k * 3) (k : Int) 0 ys (⟨bits .xor .i64 f0 90, f1, r⟩ : S41) (.int .i64 (bits .xor .i64 f0 90)) [.int .i64 (bits .xor .i64 f0 90)] [.int .i64 f0, .int .i64 f1, .slice A2 fl.length c2] (fun _ => True) oki oki rfl ?hoff rfl rfl size3' ?hone ?hH ?h0 ?hi ?hj ?hM (fun _ h => h) HB.out ?_); (case hoff => rfl); (case h0 => omega); (case hi => omega); (case hone => intro q hq; rw [List.mem_singleton.1 hq]; rfl); (case hj => show 0 + 1 ≤ 3; omega); (case hM => exact k41_mkM _ _ _ (⟨bits .xor .i64 f0 90, f1, r⟩ : S41) HRR.out); (case hH => have := HH1.out; rw [HF.out] at this; exact this); intro w2 hO2 hb2 _; have HO2 := Aside0.mk hO2; replace HB := Aside0.mk hb2; clear hO2 hb2))
        exact ⟨⟨k + 1, _, by omega, by go_num, ⟨by rw [List.length_set]; exact HL.out⟩, HO2, HB⟩, by simp [intOf]; omega⟩
      · have hltI : ¬ (k : Int) < (xs.length : Int) := by omega
        go_wp2_with (fail)
        go_end0
        exact ⟨rfl, HB.out⟩
  · have h0 : xs.length = 0 := by omega
    obtain ⟨A, c, hv⟩ := Kd.S_slice HO.out
    rw [h0] at hv
    subst hv
    go_enter Try.func17, Try.ntmps17
    go_wp2_with (fail)
    go_loop [2] (fun i => i = .int .i64 0) (fun _ => 0)
    case atStart => rfl
    case round =>
      subst hrel
      go_wp2_with (fail)
      go_end0
      exact ⟨rfl, HB.out⟩
end Go.Proofs.Ytjficnndocjodaa.H
