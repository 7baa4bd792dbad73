/- The walk of the law Graphs. -/
import Derived.Test.YtjficnndocjodaaHGAwake
import Derived.Test.YtjficnndocjodaaHEq
namespace Go.Proofs.Ytjficnndocjodaa.H
open Go.RowKit Go.Proofs.YtjficnndocjodaaW.PrintWords Go.Proofs.YtjficnndocjodaaW.PrintLast Go.Proofs.YtjficnndocjodaaW.PrintMore
open Go.Proofs.Ytjficnndocjodaa.PGraphs
set_option linter.unusedVariables false
set_option linter.unusedSimpArgs false

theorem graphOf_length (l : List La) : (graphOf l).1.length = 16 := by
  unfold graphOf; split
  · exact bothTo_length _ _
  · rfl
/-- A load of a whole array yields it wherever its block is known. -/
theorem yields_arr {ops : Array Oper} {S : World → Prop} {op : Oper} {a : Act} (hw : Region.wanted op (yielded ops a.tmps) = true) (ty : TypeId) (x : Operand) (ho : op.op = .load ty x)
    (g : Nat) (hx : a.eval x = .pointer (some ⟨g, 0, none⟩)) (cs : Array Value) (t : TypeId) {n : Nat} {e : TypeId} (hS : ∀ w, S w → w.heap[g]? = some (.cells cs t (0, 0)))
    (hu : Try.prog.underlying ty = some (.array n e)) (hi : (Try.prog.info? ty).map (·.size) = some cs.size) : YieldsIf Try.prog ops S op (.agg cs) a :=
  .inl ⟨hw, fun w hw' => by
    unfold execOp
    simp only [ho, hx, Instr.loadAt, Instr.sureAddr, Sem.run_bind, Sem.run_pure, Result.andThen_ok, run_loadVar_row w g t ty cs (0, 0) _ (hS w hw') hu rfl hi]⟩

set_option maxHeartbeats 4000000 in
set_option maxRecDepth 100000 in
theorem Graphs_walk (l : List La) (A : Option Addr) (cp : Nat) (c : List Int) (hcl : c.length = 16) (w : World) (hr : Kd.C k57 w A l.length l) (hc : l.length ≤ cp) :
    Calls Try.prog 8 #[.slice A l.length cp, .agg (AV c)] w fun e w' => e = .returned (.bool true) ∧ Below w.heap.size w w' := by
  have HR := Aside0.mk hr
  have HC := Aside0.mk hc
  have HCL := Aside0.mk hcl
  obtain ⟨x, hx⟩ : ∃ x, x = (graphOf l).1 := ⟨_, rfl⟩
  obtain ⟨n, hn⟩ : ∃ n, n = (graphOf l).2 := ⟨_, rfl⟩
  have HL := Aside0.mk (show x.length = 16 by rw [hx]; exact graphOf_length l)
  have HGR := Aside0.mk (show (x, n) = graphOf l by rw [hx, hn])
  clear hr hc hcl hx hn
  have HB := Aside0.mk (Below.refl w.heap.size w)
  go_enter Try.func8, Try.ntmps8
  go_wp2_with (first | ((with_reducible refine gate_dst (N := 3) rfl ?_); refine box_event ?hg (N := 3) ?hd (cs := AV c) (t := 23) ?hr ?_; (case hd => rfl); (case hg => rfl); (case hr => first | (go_simp; done) | (go_simp; rfl)); intro g3 hg w1 hbox hb1; have HXg3 := Aside0.mk (show Blk w1 g3 23 c from hbox); have HGg3 := Aside0.mk (show w.heap.size ≤ g3 by rw [hg]; exact HB.out.size); replace HB := Aside0.mk (below_step HB.out hb1); clear hbox hb1 hg) | ((with_reducible refine gate_dst (N := 5) rfl ?_); refine box_event ?hg (N := 5) ?hd (cs := AV zs16) (t := 23) ?hr ?_; (case hd => rfl); (case hg => rfl); (case hr => first | (go_simp; done) | (go_simp; rfl)); intro g5 hg w1 hbox hb1; have HXg5 := Aside0.mk (show Blk w1 g5 23 zs16 from hbox); have HGg5 := Aside0.mk (show w.heap.size ≤ g5 by rw [hg]; exact HB.out.size); have HNg3g5 := Aside0.mk (show g3 ≠ g5 by rw [hg]; exact Nat.ne_of_lt HXg3.out.lt); replace HXg3 := Aside0.mk (HXg3.out.below hb1); replace HB := Aside0.mk (below_step HB.out hb1); clear hbox hb1 hg) | ((with_reducible refine gate_dst (N := 7) rfl ?_); refine box_event ?hg (N := 7) ?hd (cs := AV zs16) (t := 23) ?hr ?_; (case hd => rfl); (case hg => rfl); (case hr => first | (go_simp; done) | (go_simp; rfl)); intro g7 hg w1 hbox hb1; have HXg7 := Aside0.mk (show Blk w1 g7 23 zs16 from hbox); have HGg7 := Aside0.mk (show w.heap.size ≤ g7 by rw [hg]; exact HB.out.size); have HNg3g7 := Aside0.mk (show g3 ≠ g7 by rw [hg]; exact Nat.ne_of_lt HXg3.out.lt); replace HXg3 := Aside0.mk (HXg3.out.below hb1); have HNg5g7 := Aside0.mk (show g5 ≠ g7 by rw [hg]; exact Nat.ne_of_lt HXg5.out.lt); replace HXg5 := Aside0.mk (HXg5.out.below hb1); replace HB := Aside0.mk (below_step HB.out hb1); clear hbox hb1 hg) | ((with_reducible refine gate_store (p := 5) rfl ?_); refine wpL_store rfl rfl rfl (c := x) rfl HXg5.out (by rw [HL.out]; exact size23) (by rw [HL.out]; rfl) ?_; intro w4 hX2 hP2; replace HXg5 := Aside0.mk hX2; replace HXg3 := Aside0.mk (HXg3.out.put hP2 HNg3g5.out); replace HB := Aside0.mk (hP2.below _ _ HB.out HGg5.out); clear hX2 hP2) | ((with_reducible refine gate_store (p := 7) rfl ?_); refine wpL_store rfl rfl rfl (c := x) rfl HXg7.out (by rw [HL.out]; exact size23) (by rw [HL.out]; rfl) ?_; intro w4 hX2 hP2; replace HXg7 := Aside0.mk hX2; replace HXg3 := Aside0.mk (HXg3.out.put hP2 HNg3g7.out); replace HXg5 := Aside0.mk (HXg5.out.put hP2 HNg5g7.out); replace HB := Aside0.mk (hP2.below _ _ HB.out HGg7.out); clear hX2 hP2) | (go_at_call 21; refine (Of_calls l A cp _ (Kd.C_below HR.out HB.out) HC.out).mono ?_; rintro e w1 ⟨rfl, hb1⟩; rw [← HGR.out]; replace HB := Aside0.mk (below_step HB.out hb1); replace HXg3 := Aside0.mk (HXg3.out.below hb1); clear hb1) | (go_at_call 22; refine (GraphOf_calls l A cp _ (Kd.C_below HR.out HB.out) HC.out).mono ?_; rintro e w1 ⟨rfl, hb1⟩; rw [← HGR.out]; replace HB := Aside0.mk (below_step HB.out hb1); replace HXg3 := Aside0.mk (HXg3.out.below hb1); replace HXg5 := Aside0.mk (HXg5.out.below hb1); clear hb1))
  have heq : ∀ W : World, (Op.equalIn 10000 23 (.agg (AV x)) (.agg (AV x))).run Try.prog W = .ok true W := fun W => (eq_arr x x HL.out HL.out W).trans (by rw [decide_eq_true rfl])
  obtain ⟨b, hb⟩ : ∃ b, b = costsOk c := ⟨_, rfl⟩
  have HOK := Aside0.mk hb
  clear hb
  refine wp_region_held_drew (S := fun w' => Blk w' g3 23 c ∧ Blk w' g5 23 x ∧ Blk w' g7 23 x ∧ Below w.heap.size w w') (by kernel_rfl) ⟨HXg3.out.drew, HXg5.out.drew, HXg7.out.drew, HB.out.drew⟩ (fun hHeld => ?_)
  clear HXg3 HXg5 HXg7 HB
  refine wpAnyH_take (i := 0) (oi := { dst := some 19, op := Op.load 23 (Operand.tmp 5), type := 23, pos := "law.go:26", after := #[], guard := none }) (v := .agg (AV x)) rfl (by kernel_rfl) (by kernel_rfl) (by kernel_rfl) (fun _ _ _ h => h) (yields_arr (by rfl) _ _ rfl g5 rfl (AV x) 23 (fun w' h => h.2.1) Try.underlying23 (by rw [AV_size, HL.out]; exact size23)) hHeld ?_
  simp only [Act.put, List.setIfInBounds_toArray, List.set_cons_zero, List.set_cons_succ]
  refine wpAnyH_take (i := 1) (oi := { dst := some 20, op := Op.load 23 (Operand.tmp 7), type := 23, pos := "law.go:26", after := #[], guard := none }) (v := .agg (AV x)) rfl (by kernel_rfl) (by kernel_rfl) (by kernel_rfl) (fun _ _ _ h => h) (yields_arr (by rfl) _ _ rfl g7 rfl (AV x) 23 (fun w' h => h.2.2.1) Try.underlying23 (by rw [AV_size, HL.out]; exact size23)) hHeld ?_
  simp only [Act.put, List.setIfInBounds_toArray, List.set_cons_zero, List.set_cons_succ]
  refine wpAnyH_take (i := 2) (oi := { dst := some 21, op := Op.binOp BinOp.eql 23 (Operand.tmp 19) (Operand.tmp 20) 23, type := 4, pos := "law.go:26", after := #[{ on := 0, ground := Ground.data }, { on := 1, ground := Ground.data }], guard := none }) (v := .bool true) rfl (by kernel_rfl) (by kernel_rfl) (by kernel_rfl) (fun _ _ _ h => h) (Or.inl ⟨by rfl, fun w hSw => (by clear hSw hHeld; go_simp)⟩) hHeld ?_
  simp only [Act.put, List.setIfInBounds_toArray, List.set_cons_zero, List.set_cons_succ]
  refine wpAnyH_take (i := 3) (oi := { dst := some 22, op := Op.move (Operand.tmp 21), type := 4, pos := "law.go:26", after := #[{ on := 2, ground := Ground.data }], guard := none }) (v := .bool true) rfl (by kernel_rfl) (by kernel_rfl) (by kernel_rfl) (fun _ _ _ h => h) (Or.inl ⟨by rfl, fun w hSw => (by clear hSw hHeld; go_simp)⟩) hHeld ?_
  simp only [Act.put, List.setIfInBounds_toArray, List.set_cons_zero, List.set_cons_succ]
  refine wpAnyH_take (i := 4) (oi := { dst := some 23, op := Op.move (Operand.tmp 6), type := 25, pos := "law.go:26", after := #[{ on := 3, ground := Ground.guard }], guard := some (3, true) }) (v := .int .i64 n) rfl (by kernel_rfl) (by kernel_rfl) (by kernel_rfl) (fun _ _ _ h => h) (Or.inl ⟨by rfl, fun w hSw => (by clear hSw hHeld; go_simp)⟩) hHeld ?_
  simp only [Act.put, List.setIfInBounds_toArray, List.set_cons_zero, List.set_cons_succ]
  refine wpAnyH_take (i := 6) (oi := { dst := some 25, op := Op.move (Operand.tmp 8), type := 3, pos := "law.go:26", after := #[{ on := 3, ground := Ground.guard }], guard := some (3, true) }) (v := .int .i64 n) rfl (by kernel_rfl) (by kernel_rfl) (by kernel_rfl) (fun _ _ _ h => h) (Or.inl ⟨by rfl, fun w hSw => (by clear hSw hHeld; go_simp)⟩) hHeld ?_
  simp only [Act.put, List.setIfInBounds_toArray, List.set_cons_zero, List.set_cons_succ]
  refine wpAnyH_ready (rs := [5]) (by kernel_rfl) (by simp) (AllReadyH.cons (o := { dst := some 24, op := Op.call { callee := Callee.value (Operand.func 16), args := #[Operand.tmp 23], argTypes := #[25] }, type := 3, pos := "law.go:26", after := #[{ on := 4, ground := Ground.data }, { on := 3, ground := Ground.chain }, { on := 3, ground := Ground.guard }], guard := some (3, true) }) rfl (fun K hK => ?_) AllReadyH.nil)
  go_simp
  go_at_call 16
  go_in
  go_wp2_with (fail)
  refine hK.out _ _ hHeld (fun hHeld => ?_)
  clear hK K
  try simp only [Act.put, List.setIfInBounds_toArray, List.set_cons_zero, List.set_cons_succ]
  refine wpAnyH_take (i := 7) (oi := { dst := some 26, op := Op.binOp BinOp.eql 3 (Operand.tmp 24) (Operand.tmp 25) 3, type := 4, pos := "law.go:26", after := #[{ on := 5, ground := Ground.data }, { on := 6, ground := Ground.data }, { on := 3, ground := Ground.guard }], guard := some (3, true) }) (v := .bool true) rfl (by kernel_rfl) (by kernel_rfl) (by kernel_rfl) (fun _ _ _ h => h) (Or.inl ⟨by rfl, fun w hSw => (by clear hSw hHeld; go_simp)⟩) hHeld ?_
  simp only [Act.put, List.setIfInBounds_toArray, List.set_cons_zero, List.set_cons_succ]
  refine wpAnyH_take (i := 8) (oi := { dst := some 27, op := Op.pick (Operand.tmp 22) (Operand.tmp 26) (Operand.const (Value.bool false)), type := 4, pos := "law.go:26", after := #[{ on := 3, ground := Ground.data }, { on := 7, ground := Ground.data }], guard := none }) (v := .bool true) rfl (by kernel_rfl) (by kernel_rfl) (by kernel_rfl) (fun _ _ _ h => h) (Or.inl ⟨by rfl, fun w hSw => (by clear hSw hHeld; go_simp)⟩) hHeld ?_
  simp only [Act.put, List.setIfInBounds_toArray, List.set_cons_zero, List.set_cons_succ]
  refine wpAnyH_take (i := 9) (oi := { dst := some 28, op := Op.move (Operand.tmp 27), type := 4, pos := "law.go:26", after := #[{ on := 8, ground := Ground.data }, { on := 5, ground := Ground.chain }], guard := none }) (v := .bool true) rfl (by kernel_rfl) (by kernel_rfl) (by kernel_rfl) (fun _ _ _ h => h) (Or.inl ⟨by rfl, fun w hSw => (by clear hSw hHeld; go_simp)⟩) hHeld ?_
  simp only [Act.put, List.setIfInBounds_toArray, List.set_cons_zero, List.set_cons_succ]
  refine wpAnyH_take (i := 10) (oi := { dst := some 29, op := Op.load 23 (Operand.tmp 3), type := 23, pos := "law.go:26", after := #[{ on := 9, ground := Ground.guard }], guard := some (9, true) }) (v := .agg (AV c)) rfl (by kernel_rfl) (by kernel_rfl) (by kernel_rfl) (fun _ _ _ h => h) (yields_arr (by rfl) _ _ rfl g3 rfl (AV c) 23 (fun w' h => h.1) Try.underlying23 (by rw [AV_size, HCL.out]; exact size23)) hHeld ?_
  simp only [Act.put, List.setIfInBounds_toArray, List.set_cons_zero, List.set_cons_succ]
  refine wpAnyH_take (i := 12) (oi := { dst := some 31, op := Op.load 23 (Operand.tmp 3), type := 23, pos := "law.go:26", after := #[{ on := 9, ground := Ground.guard }], guard := some (9, true) }) (v := .agg (AV c)) rfl (by kernel_rfl) (by kernel_rfl) (by kernel_rfl) (fun _ _ _ h => h) (yields_arr (by rfl) _ _ rfl g3 rfl (AV c) 23 (fun w' h => h.1) Try.underlying23 (by rw [AV_size, HCL.out]; exact size23)) hHeld ?_
  simp only [Act.put, List.setIfInBounds_toArray, List.set_cons_zero, List.set_cons_succ]
  refine wpAnyH_ready (rs := [11]) (by kernel_rfl) (by simp) (AllReadyH.cons (o := { dst := some 30, op := Op.call { callee := Callee.value (Operand.func 23), args := #[Operand.tmp 29], argTypes := #[23] }, type := 4, pos := "law.go:26", after := #[{ on := 10, ground := Ground.data }, { on := 9, ground := Ground.chain }, { on := 9, ground := Ground.guard }], guard := some (9, true) }) rfl (fun K hK => ?_) AllReadyH.nil)
  go_simp
  go_at_call 23
  refine (May_calls c HCL.out _).mono ?_
  rintro e w5 ⟨rfl, hb1⟩
  rw [← HOK.out]
  go_wp2_with (fail)
  refine hK.out _ _ ⟨hHeld.1.below hb1, hHeld.2.1.below hb1, hHeld.2.2.1.below hb1, below_step hHeld.2.2.2 hb1⟩ (fun hHeld => ?_)
  clear hb1
  clear hK K
  try simp only [Act.put, List.setIfInBounds_toArray, List.set_cons_zero, List.set_cons_succ]
  refine wpAnyH_ready (rs := [13]) (by kernel_rfl) (by simp) (AllReadyH.cons (o := { dst := some 32, op := Op.call { callee := Callee.value (Operand.func 24), args := #[Operand.tmp 31], argTypes := #[23] }, type := 4, pos := "law.go:26", after := #[{ on := 12, ground := Ground.data }, { on := 11, ground := Ground.chain }, { on := 9, ground := Ground.guard }], guard := some (9, true) }) rfl (fun K hK => ?_) AllReadyH.nil)
  go_simp
  go_at_call 24
  refine (CostsMay_calls c HCL.out _).mono ?_
  rintro e w5 ⟨rfl, hb1⟩
  rw [← HOK.out]
  go_wp2_with (fail)
  refine hK.out _ _ ⟨hHeld.1.below hb1, hHeld.2.1.below hb1, hHeld.2.2.1.below hb1, below_step hHeld.2.2.2 hb1⟩ (fun hHeld => ?_)
  clear hb1
  clear hK K
  try simp only [Act.put, List.setIfInBounds_toArray, List.set_cons_zero, List.set_cons_succ]
  refine wpAnyH_take (i := 14) (oi := { dst := some 33, op := Op.binOp BinOp.eql 4 (Operand.tmp 30) (Operand.tmp 32) 4, type := 4, pos := "law.go:26", after := #[{ on := 11, ground := Ground.data }, { on := 13, ground := Ground.data }, { on := 9, ground := Ground.guard }], guard := some (9, true) }) (v := .bool true) rfl (by kernel_rfl) (by kernel_rfl) (by kernel_rfl) (fun _ _ _ h => h) (Or.inl ⟨by rfl, fun w hSw => (by clear hSw hHeld; go_simp)⟩) hHeld ?_
  simp only [Act.put, List.setIfInBounds_toArray, List.set_cons_zero, List.set_cons_succ]
  refine wpAnyH_take (i := 15) (oi := { dst := some 34, op := Op.pick (Operand.tmp 28) (Operand.tmp 33) (Operand.const (Value.bool false)), type := 4, pos := "law.go:26", after := #[{ on := 9, ground := Ground.data }, { on := 14, ground := Ground.data }], guard := none }) (v := .bool true) rfl (by kernel_rfl) (by kernel_rfl) (by kernel_rfl) (fun _ _ _ h => h) (Or.inl ⟨by rfl, fun w hSw => (by clear hSw hHeld; go_simp)⟩) hHeld ?_
  simp only [Act.put, List.setIfInBounds_toArray, List.set_cons_zero, List.set_cons_succ]
  refine wpAnyH_take (i := 16) (oi := { dst := some 35, op := Op.move (Operand.tmp 34), type := 4, pos := "law.go:26", after := #[{ on := 15, ground := Ground.data }, { on := 13, ground := Ground.chain }], guard := none }) (v := .bool true) rfl (by kernel_rfl) (by kernel_rfl) (by kernel_rfl) (fun _ _ _ h => h) (Or.inl ⟨by rfl, fun w hSw => (by clear hSw hHeld; go_simp)⟩) hHeld ?_
  simp only [Act.put, List.setIfInBounds_toArray, List.set_cons_zero, List.set_cons_succ]
  refine wpAnyH_ready (rs := [17]) (by kernel_rfl) (by simp) (AllReadyH.cons (o := { dst := some 36, op := Op.call { callee := Callee.value (Operand.func 25), args := #[], argTypes := #[] }, type := 4, pos := "law.go:26", after := #[{ on := 16, ground := Ground.chain }, { on := 16, ground := Ground.guard }], guard := some (16, true) }) rfl (fun K hK => ?_) AllReadyH.nil)
  go_simp
  go_at_call 25
  refine (awake20_calls _).mono ?_
  rintro e w5 ⟨rfl, hb1⟩
  go_wp2_with (fail)
  refine hK.out _ _ ⟨hHeld.1.below hb1, hHeld.2.1.below hb1, hHeld.2.2.1.below hb1, below_step hHeld.2.2.2 hb1⟩ (fun hHeld => ?_)
  clear hb1
  clear hK K
  try simp only [Act.put, List.setIfInBounds_toArray, List.set_cons_zero, List.set_cons_succ]
  refine wpAnyH_take (i := 18) (oi := { dst := some 37, op := Op.pick (Operand.tmp 35) (Operand.tmp 36) (Operand.const (Value.bool false)), type := 4, pos := "law.go:26", after := #[{ on := 16, ground := Ground.data }, { on := 17, ground := Ground.data }], guard := none }) (v := .bool true) rfl (by kernel_rfl) (by kernel_rfl) (by kernel_rfl) (fun _ _ _ h => h) (Or.inl ⟨by rfl, fun w hSw => (by clear hSw hHeld; go_simp)⟩) hHeld ?_
  simp only [Act.put, List.setIfInBounds_toArray, List.set_cons_zero, List.set_cons_succ]
  refine wpAnyH_take (i := 19) (oi := { dst := some 4, op := Op.assign (Operand.tmp 37), type := 4, pos := "law.go:26", after := #[{ on := 18, ground := Ground.data }, { on := 17, ground := Ground.chain }, { on := 0, ground := Ground.phase }, { on := 1, ground := Ground.phase }, { on := 2, ground := Ground.phase }, { on := 3, ground := Ground.phase }, { on := 4, ground := Ground.phase }, { on := 5, ground := Ground.phase }, { on := 6, ground := Ground.phase }, { on := 7, ground := Ground.phase }, { on := 8, ground := Ground.phase }, { on := 9, ground := Ground.phase }, { on := 10, ground := Ground.phase }, { on := 11, ground := Ground.phase }, { on := 12, ground := Ground.phase }, { on := 13, ground := Ground.phase }, { on := 14, ground := Ground.phase }, { on := 15, ground := Ground.phase }, { on := 16, ground := Ground.phase }, { on := 17, ground := Ground.phase }, { on := 18, ground := Ground.phase }], guard := none }) (v := .bool true) rfl (by kernel_rfl) (by kernel_rfl) (by kernel_rfl) (fun _ _ _ h => h) (Or.inl ⟨by rfl, fun w hSw => (by clear hSw hHeld; go_simp)⟩) hHeld ?_
  simp only [Act.put, List.setIfInBounds_toArray, List.set_cons_zero, List.set_cons_succ]
  refine wpAnyH_done (by kernel_rfl) ?_ _
  have HB := Aside0.mk hHeld.2.2.2
  clear hHeld
  go_wp2_with (fail)
  go_ret
  exact ⟨rfl, HB.out⟩
end Go.Proofs.Ytjficnndocjodaa.H
