/- Arrays of Booleans as lists: the block, its cells, loading and storing it; and the tests of the law's search over ways. -/
import Derived.Test.YtjficnndocjodaaHArr
import Derived.Test.YtjficnndocjodaaHWays
import Derived.Deep.MidRow
namespace Go.Proofs.Ytjficnndocjodaa.H
open Go.RowKit Go.Proofs.YtjficnndocjodaaW.PrintWords Go.Proofs.YtjficnndocjodaaW.PrintLast Go.Proofs.YtjficnndocjodaaW.PrintMore
set_option linter.unusedVariables false
set_option linter.unusedSimpArgs false

def BV (l : List Bool) : Array Value := (l.map Value.bool).toArray
theorem BV_size (l : List Bool) : (BV l).size = l.length := by simp [BV]
theorem BV_get (l : List Bool) (k : Nat) (h : k < l.length) : (BV l)[k]? = some (.bool (gb l k)) := by simp [BV, gb, h]
theorem BV_set (l : List Bool) (k : Nat) (x : Bool) : (BV l).setIfInBounds k (.bool x) = BV (l.set k x) := by simp [BV, List.map_set]
theorem BV_one (l : List Bool) : (BV l).all (·.oneCell') = true := by
  rw [Array.all_eq_true_iff_forall_mem]
  intro v hv
  simp [BV] at hv
  rcases hv with ⟨_, rfl⟩ | ⟨_, rfl⟩ <;> rfl
/-- A block that is an array of Booleans. -/
def BBlk (w : World) (g : Nat) (t : TypeId) (l : List Bool) : Prop := w.heap[g]? = some (.cells (BV l) t (0, 0))
section
variable {w w1 : World} {g : Nat} {t : TypeId} {l : List Bool}
theorem BBlk.lt (h : BBlk w g t l) : g < w.heap.size := blk_lt h
theorem BBlk.cell (h : BBlk w g t l) (k : Nat) (hk : k < l.length) : w.cell? ⟨g, k, none⟩ = some (.bool (gb l k)) := by rw [blk_cell h k, BV_get l k hk]
theorem BBlk.frozen (h : BBlk w g t l) (k : Nat) : w.frozen? ⟨g, k, none⟩ = false := blk_frozen h k
theorem BBlk.set (h : BBlk w g t l) (k : Nat) (x : Bool) : BBlk (w.setCell ⟨g, k, none⟩ (.bool x)) g t (l.set k x) := by unfold BBlk; rw [← BV_set]; exact blk_set h k _
theorem BBlk.below (h : BBlk w g t l) (hb : Below w.heap.size w w1) : BBlk w1 g t l := blk_below h hb
theorem BBlk.drew (h : BBlk w g t l) : BBlk w.drew g t l := h
theorem BBlk.put {g' : Nat} (h : BBlk w g' t l) (hp : Put w w1 g) (hne : g' ≠ g) : BBlk w1 g' t l := (hp.keep.2 g' h.lt hne (by simp)).trans h
end
theorem size36 : (Try.prog.info? 36).map (·.size) = some 16 := by kernel_rfl
theorem size35 : (Try.prog.info? 35).map (·.size) = some 4 := by kernel_rfl
theorem size4 : (Try.prog.info? 4).map (·.size) = some 1 := by kernel_rfl
theorem Put.trans {w w1 w2 : World} {g : Nat} (h1 : Put w w1 g) (h2 : Put w1 w2 g) : Put w w2 g where
  keep := ⟨Nat.le_trans h1.keep.1 h2.keep.1, fun i hi hne hn => (h2.keep.2 i (Nat.lt_of_lt_of_le hi h1.keep.1) hne hn).trans (h1.keep.2 i hi hne hn)⟩
  below := fun B w0 hb hB => h2.below B w0 (h1.below B w0 hb hB) hB
section
variable {ops : Array Oper} {Q : Exit → Act → World → Prop} {a : Act} {w : World} {rest : List Oper} {o : Oper}
theorem wpL_loadB (hgd : o.guard = none) {ty : TypeId} {x : Operand} (ho : o.op = .load ty x) {g : Nat} (hx : a.eval x = .pointer (some ⟨g, 0, none⟩)) {t e : TypeId} {n : Nat} {l : List Bool}
    (hb : BBlk w g t l) (hu : Try.prog.underlying ty = some (.array n e)) (hs : (Try.prog.info? ty).map (·.size) = some l.length)
    (h : wpList Try.prog ops Q rest (a.put o.dst (.agg (BV l))) w) : wpList Try.prog ops Q (o :: rest) a w :=
  wpList_load_row hgd ty x ho g hx t (BV l) (0, 0) _ hb hu rfl (by rw [BV_size]; exact hs) h
theorem wpL_storeB (hgd : o.guard = none) {ty : TypeId} {x y : Operand} (ho : o.op = .store ty x y) {g : Nat} (hx : a.eval x = .pointer (some ⟨g, 0, none⟩)) {l : List Bool} (hy : a.eval y = .agg (BV l)) {t : TypeId} {old : List Bool}
    (hb : BBlk w g t old) (hs : (Try.prog.info? ty).map (·.size) = some l.length) (hl : old.length = l.length)
    (h : ∀ w1, BBlk w1 g t l → Put w w1 g → wpList Try.prog ops Q rest (a.put o.dst undef) w1) : wpList Try.prog ops Q (o :: rest) a w :=
  wpList_store_row hgd ty x y ho g (BV l) hx hy t (BV old) hb (by rw [BV_size]; exact hs) (by rw [BV_size, BV_size, hl]) (BV_one l) (h _ (setRow_heap w g (BV old) (BV l) t (0, 0) hb) (Put.setRow hb _))
/-- A Boolean into an element. -/
theorem wpL_setB (hgd : o.guard = none) {x y : Operand} (ho : o.op = .store 4 x y) {g k : Nat} (hx : a.eval x = .pointer (some ⟨g, k, none⟩)) {v : Bool} (hy : a.eval y = .bool v) {t : TypeId} {l : List Bool}
    (hb : BBlk w g t l) (hk : k < l.length)
    (h : ∀ w1, BBlk w1 g t (l.set k v) → Put w w1 g → wpList Try.prog ops Q rest (a.put o.dst undef) w1) : wpList Try.prog ops Q (o :: rest) a w := by
  refine wpList_plain hgd fun K hK => ?_
  have hc := hb.cell k hk
  have hf := hb.frozen k
  have hz := run_sizeOf size4 w
  unfold Oper.wp execOp
  simp only [ho, hx, hy]
  have hrun : (Instr.storeAt 4 (.pointer (some ⟨g, k, none⟩)) (.bool v)).run Try.prog w = .ok () (w.setCell ⟨g, k, none⟩ (.bool v)) := by
    simp [go_sem, hc, hf, Instr.storeAt, Instr.sureAddr, hz, Value.cells]
  simp only [Sem.run_bind, hrun, Result.andThen_ok, Sem.run_pure]
  exact hK _ _ (h _ (hb.set k v) (Put.setCell w g k _))
/-- A row of falses into the middle. -/
theorem wpL_clr (hgd : o.guard = none) {x y : Operand} (ho : o.op = .store 35 x y) {g off : Nat} (hx : a.eval x = .pointer (some ⟨g, off, none⟩)) (hy : a.eval y = .agg #[.bool false, .bool false, .bool false, .bool false]) {t : TypeId} {l : List Bool}
    (hb : BBlk w g t l) (d : Nat) (hoff : off = d * 4) (hl : l.length = 16) (hd : d < 4)
    (h : ∀ w1, BBlk w1 g t (clr l d) → Put w w1 g → wpList Try.prog ops Q rest (a.put o.dst undef) w1) : wpList Try.prog ops Q (o :: rest) a w := by
  subst hoff
  refine wpList_store_mid hgd 35 x y ho g (d * 4) #[.bool false, .bool false, .bool false, .bool false] hx hy ?_ size35 (by simp [Value.oneCell']) ?_
  · intro j hj
    have hj : j < 4 := hj
    exact ⟨by rw [hb.cell _ (by omega)]; simp, hb.frozen _⟩
  · refine h _ ?_ ?_
    · exact (((hb.set (d * 4) false).set (d * 4 + 1) false).set (d * 4 + 2) false).set (d * 4 + 3) false
    · exact (((Put.setCell _ _ _ _).trans (Put.setCell _ _ _ _)).trans (Put.setCell _ _ _ _)).trans (Put.setCell _ _ _ _)
end
end Go.Proofs.Ytjficnndocjodaa.H
