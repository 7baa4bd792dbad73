/- Arrays of whole numbers as lists: the array's value, its rows, its cells in a block; indexing, loading and storing them in the machine. Holds for every list of the array's length. -/
import Derived.Test.YtjficnndocjodaaWMore
import Derived.Test.YtjficnndocjodaaProg
import Derived.Outline
import Derived.Test.YtjficnndocjodaaHList
namespace Go.Proofs.Ytjficnndocjodaa.H
open Go.RowKit Go.Proofs.YtjficnndocjodaaW.PrintWords Go.Proofs.YtjficnndocjodaaW.PrintLast Go.Proofs.YtjficnndocjodaaW.PrintMore
set_option linter.unusedVariables false
set_option linter.unusedSimpArgs false

/-- The cells of an array of ints. -/
def AV (c : List Int) : Array Value := (c.map (Value.int .i64)).toArray
theorem AV_size (c : List Int) : (AV c).size = c.length := by simp [AV]
theorem AV_get (c : List Int) (k : Nat) (h : k < c.length) : (AV c)[k]? = some (.int .i64 (gt c k)) := by
  simp [AV, gt, h]
theorem AV_set (c : List Int) (k : Nat) (x : Int) : (AV c).setIfInBounds k (.int .i64 x) = AV (c.set k x) := by
  simp [AV, List.map_set]
theorem AV_inj {c d : List Int} (h : AV c = AV d) : c = d := by
  have h' : c.map (Value.int .i64) = d.map (Value.int .i64) := by
    have := congrArg Array.toList h
    simpa [AV] using this
  exact (List.map_inj_right (fun a b hab => by injection hab)).1 h'
theorem AV_extract (c : List Int) (a : Nat) : (AV c).extract (a * 4) (a * 4 + 4) = AV (row c a) := by
  apply Array.ext'
  simp [AV, row, List.map_drop, List.map_take]
/-- A block that is an array of ints of type t. -/
def Blk (w : World) (g : Nat) (t : TypeId) (c : List Int) : Prop := w.heap[g]? = some (.cells (AV c) t (0, 0))
theorem Blk.lt {w : World} {g : Nat} {t : TypeId} {c : List Int} (h : Blk w g t c) : g < w.heap.size := blk_lt h
theorem Blk.cell {w : World} {g : Nat} {t : TypeId} {c : List Int} (h : Blk w g t c) (k : Nat) (hk : k < c.length) : w.cell? ⟨g, k, none⟩ = some (.int .i64 (gt c k)) := by
  rw [blk_cell h k, AV_get c k hk]
theorem Blk.frozen {w : World} {g : Nat} {t : TypeId} {c : List Int} (h : Blk w g t c) (k : Nat) : w.frozen? ⟨g, k, none⟩ = false := blk_frozen h k
theorem Blk.set {w : World} {g : Nat} {t : TypeId} {c : List Int} (h : Blk w g t c) (k : Nat) (x : Int) : Blk (w.setCell ⟨g, k, none⟩ (.int .i64 x)) g t (c.set k x) := by
  unfold Blk; rw [← AV_set]; exact blk_set h k _
theorem Blk.below {w w1 : World} {g : Nat} {t : TypeId} {c : List Int} (h : Blk w g t c) (hb : Below w.heap.size w w1) : Blk w1 g t c := blk_below h hb
theorem Blk.alloc {w : World} {g : Nat} {t : TypeId} {c : List Int} (h : Blk w g t c) (o : Obj) : Blk (w.alloc o) g t c := blk_alloc h o
theorem Blk.drew {w : World} {g : Nat} {t : TypeId} {c : List Int} (h : Blk w g t c) : Blk w.drew g t c := h
theorem Blk.drewN {w : World} {g : Nat} {t : TypeId} {c : List Int} (h : Blk w g t c) (n : Nat) : Blk (w.drewN n) g t c := h
theorem Blk.far {w : World} {g : Nat} {t : TypeId} {c : List Int} (h : Blk w g t c) {p : Addr} (hp : g ≠ p.block) (u : Value) : Blk (w.setCell p u) g t c := blk_far h hp u
theorem Blk.new (w : World) (t : TypeId) (c : List Int) : Blk (w.alloc (.cells (AV c) t)) w.heap.size t c := blk_new w _
theorem Blk.neC {w : World} {g g' : Nat} {t t' : TypeId} {c : List Int} {cs : Array Value} (h : Blk w g t c) (h' : w.heap[g']? = some (.cells cs t' (0, 0))) (hne : t ≠ t') : g ≠ g' := blk_ne h h' hne
theorem Blk.ne {w : World} {g g' : Nat} {t t' : TypeId} {c c' : List Int} (h : Blk w g t c) (h' : Blk w g' t' c') (hne : t ≠ t') : g ≠ g' := blk_ne h h' hne

/-! ### indexing a value -/
theorem run_index_arr (t e : TypeId) (n : Nat) (cs : Array Value) (i : Nat) (w : World) (h : Try.prog.underlying t = some (.array n e)) (hi : i < n)
    {v : Value} (hs : (do part e cs (i * (← sizeOf e)) : Sem Value).run Try.prog w = .ok v w) :
    (Instr.index t (.agg cs) (.int .i64 (i : Int))).run Try.prog w = .ok v w := by
  have hi' : (0 : Int) ≤ (i : Int) ∧ (i : Int) < (n : Int) := ⟨by omega, by omega⟩
  simp only [Instr.index, Sem.run_bind, asIntOf, Sem.run_pure, Result.andThen_ok, run_underlying h, hi', and_self, if_true, Int.toNat_natCast]
  simpa [Sem.run_bind] using hs
theorem size22 : (Try.prog.info? 22).map (·.size) = some 4 := by kernel_rfl
theorem size23 : (Try.prog.info? 23).map (·.size) = some 16 := by kernel_rfl
theorem size3 : (Try.prog.info? 3).map (·.size) = some 1 := by kernel_rfl
theorem run_sizeOf {t : TypeId} {n : Nat} (h : (Try.prog.info? t).map (·.size) = some n) (w : World) : (sizeOf t).run Try.prog w = .ok n w := by
  cases hq : Try.prog.info? t with
  | none => simp [hq] at h
  | some i =>
    have hs : i.size = n := by simpa [hq] using h
    simp [sizeOf, typeInfo, hq, hs]
theorem run_isAgg_arr {t e : TypeId} {n : Nat} (h : Try.prog.underlying t = some (.array n e)) (w : World) : (isAgg t).run Try.prog w = .ok true w := by
  unfold isAgg; rw [Sem.run_bind, run_underlying h w]; rfl
theorem run_isAgg_int {t : TypeId} {k : IntKind} (h : Try.prog.underlying t = some (.int k)) (w : World) : (isAgg t).run Try.prog w = .ok false w := by
  unfold isAgg; rw [Sem.run_bind, run_underlying h w]; rfl
theorem index16 (c : List Int) (hc : c.length = 16) (a : Nat) (ha : a < 4) (w : World) :
    (Instr.index 23 (.agg (AV c)) (.int .i64 (a : Int))).run Try.prog w = .ok (.agg (AV (row c a))) w := by
  refine run_index_arr _ 22 4 _ a w Try.underlying23 ha ?_
  simp only [Sem.run_bind, run_sizeOf size22, Result.andThen_ok, part, run_isAgg_arr Try.underlying22, if_true, Sem.run_pure, AV_extract]
theorem index4 (c : List Int) (hc : c.length = 4) (a : Nat) (ha : a < 4) (w : World) :
    (Instr.index 22 (.agg (AV c)) (.int .i64 (a : Int))).run Try.prog w = .ok (.int .i64 (gt c a)) w := by
  refine run_index_arr _ 3 4 _ a w Try.underlying22 ha ?_
  simp only [Sem.run_bind, run_sizeOf size3, Result.andThen_ok, part, run_isAgg_int Try.underlying3, Nat.mul_one]
  rw [AV_get c a (by omega)]
  rfl
theorem index4row (c : List Int) (hc : c.length = 16) (a j : Nat) (ha : a < 4) (hj : j < 4) (w : World) :
    (Instr.index 22 (.agg (AV (row c a))) (.int .i64 (j : Int))).run Try.prog w = .ok (.int .i64 (gt c (a * 4 + j))) w := by
  rw [index4 (row c a) (row_length c a (by omega)) j hj w, gt_row c a j hj]

/-! ### what a store does to the world: one block, and nothing else -/
/-- Block g alone has been written. -/
structure Put (w w1 : World) (g : Nat) : Prop where
  keep : KeepBut w w1 g none
  below : ∀ (B : Nat) (w0 : World), Below B w0 w → B ≤ g → Below B w0 w1
theorem Put.setCell (w : World) (g k : Nat) (v : Value) : Put w (w.setCell ⟨g, k, none⟩ v) g where
  keep := ⟨by simp, fun i _ hne _ => Below.heap_setCell w ⟨g, k, none⟩ v i hne⟩
  below := fun _ _ h hB => h.setCell hB _
theorem Put.setRow {w : World} {g : Nat} {t : TypeId} {old : Array Value} (hg : w.heap[g]? = some (.cells old t (0, 0))) (cs : Array Value) : Put w (w.setRow g cs) g where
  keep := ⟨by simp, fun i _ hne _ => setRow_other w g i cs hne⟩
  below := fun _ _ h hB => ⟨h.os, h.tape, h.output, by simp; exact h.size, fun i hi => (setRow_other w g i cs (by omega)).trans (h.block i hi)⟩
theorem Put.drew {w w1 : World} {g : Nat} (h : Put w w1 g) : Put w w1.drew g where
  keep := h.keep
  below := fun B w0 hb hB => (h.below B w0 hb hB).drew
theorem Blk.put {w w1 : World} {g g' : Nat} {t : TypeId} {c : List Int} (h : Blk w g' t c) (hp : Put w w1 g) (hne : g' ≠ g) : Blk w1 g' t c := (hp.keep.2 g' h.lt hne (by simp)).trans h
theorem Blk.blw {B : Nat} {w0 w : World} {g : Nat} {t : TypeId} {c : List Int} (h : Blk w0 g t c) (hg : g < B) (hb : Below B w0 w) : Blk w g t c := (hb.block g hg).trans h

section
variable {ops : Array Oper} {Q : Exit → Act → World → Prop} {a : Act} {w : World} {rest : List Oper} {o : Oper}
/-- A whole array out of a variable. -/
theorem wpL_load (hgd : o.guard = none) {ty : TypeId} {x : Operand} (ho : o.op = .load ty x) {g : Nat} (hx : a.eval x = .pointer (some ⟨g, 0, none⟩)) {t e : TypeId} {n : Nat} {c : List Int}
    (hb : Blk w g t c) (hu : Try.prog.underlying ty = some (.array n e)) (hs : (Try.prog.info? ty).map (·.size) = some c.length)
    (h : wpList Try.prog ops Q rest (a.put o.dst (.agg (AV c))) w) : wpList Try.prog ops Q (o :: rest) a w :=
  wpList_load_row hgd ty x ho g hx t (AV c) (0, 0) _ hb hu rfl (by rw [AV_size]; exact hs) h
theorem AV_one (c : List Int) : (AV c).all (·.oneCell') = true := by
  rw [Array.all_eq_true_iff_forall_mem]
  intro v hv
  simp [AV] at hv
  obtain ⟨x, _, rfl⟩ := hv
  rfl
/-- A whole array into a variable. -/
theorem wpL_store (hgd : o.guard = none) {ty : TypeId} {x y : Operand} (ho : o.op = .store ty x y) {g : Nat} (hx : a.eval x = .pointer (some ⟨g, 0, none⟩)) {c : List Int} (hy : a.eval y = .agg (AV c)) {t : TypeId} {old : List Int}
    (hb : Blk w g t old) (hs : (Try.prog.info? ty).map (·.size) = some c.length) (hl : old.length = c.length)
    (h : ∀ w1, Blk w1 g t c → Put w w1 g → wpList Try.prog ops Q rest (a.put o.dst undef) w1) : wpList Try.prog ops Q (o :: rest) a w :=
  wpList_store_row hgd ty x y ho g (AV c) hx hy t (AV old) hb (by rw [AV_size]; exact hs) (by rw [AV_size, AV_size, hl]) (AV_one c) (h _ (setRow_heap w g (AV old) (AV c) t (0, 0) hb) (Put.setRow hb _))
/-- A number into an element. -/
theorem wpL_set (hgd : o.guard = none) {x y : Operand} (ho : o.op = .store 3 x y) {g k : Nat} (hx : a.eval x = .pointer (some ⟨g, k, none⟩)) {v : Int} (hy : a.eval y = .int .i64 v) {t : TypeId} {c : List Int}
    (hb : Blk w g t c) (hk : k < c.length)
    (h : ∀ w1, Blk w1 g t (c.set k v) → Put w w1 g → wpList Try.prog ops Q rest (a.put o.dst undef) w1) : wpList Try.prog ops Q (o :: rest) a w := by
  refine wpList_plain hgd fun K hK => ?_
  have hc := hb.cell k hk
  have hf := hb.frozen k
  have hz := run_sizeOf size3 w
  unfold Oper.wp execOp
  simp only [ho, hx, hy]
  have hrun : (Instr.storeAt 3 (.pointer (some ⟨g, k, none⟩)) (.int .i64 v)).run Try.prog w = .ok () (w.setCell ⟨g, k, none⟩ (.int .i64 v)) := by
    simp [go_sem, hc, hf, Instr.storeAt, Instr.sureAddr, hz, Value.cells]
  simp only [Sem.run_bind, hrun, Result.andThen_ok, Sem.run_pure]
  exact hK _ _ (h _ (hb.set k v) (Put.setCell w g k _))
/-- A slice into a struct's field. -/
theorem wpL_setS (hgd : o.guard = none) {ty : TypeId} {x y : Operand} (ho : o.op = .store ty x y) (hz0 : (Try.prog.info? ty).map (·.size) = some 1) {g k : Nat} (hx : a.eval x = .pointer (some ⟨g, k, none⟩)) {A : Option Addr} {n c : Nat} (hy : a.eval y = .slice A n c) {t : TypeId} {cs : Array Value}
    (hb : w.heap[g]? = some (.cells cs t (0, 0))) (hk : k < cs.size)
    (h : ∀ w1, w1.heap[g]? = some (.cells (cs.setIfInBounds k (.slice A n c)) t (0, 0)) → Put w w1 g → wpList Try.prog ops Q rest (a.put o.dst undef) w1) : wpList Try.prog ops Q (o :: rest) a w := by
  refine wpList_plain hgd fun K hK => ?_
  have hc : w.cell? ⟨g, k, none⟩ = some (cs[k]) := by rw [blk_cell hb k]; simp [hk]
  have hf := blk_frozen hb k
  have hz := run_sizeOf hz0 w
  unfold Oper.wp execOp
  simp only [ho, hx, hy]
  have hrun : (Instr.storeAt ty (.pointer (some ⟨g, k, none⟩)) (.slice A n c)).run Try.prog w = .ok () (w.setCell ⟨g, k, none⟩ (.slice A n c)) := by
    simp [go_sem, hc, hf, Instr.storeAt, Instr.sureAddr, hz, Value.cells]
  simp only [Sem.run_bind, hrun, Result.andThen_ok, Sem.run_pure]
  exact hK _ _ (h _ (blk_set hb k _) (Put.setCell w g k _))
/-- A whole struct into a variable. -/
theorem wpL_storeC (hgd : o.guard = none) {ty : TypeId} {x y : Operand} (ho : o.op = .store ty x y) {g : Nat} (hx : a.eval x = .pointer (some ⟨g, 0, none⟩)) {cs : Array Value} (hy : a.eval y = .agg cs) {t : TypeId} {old : Array Value}
    (hb : w.heap[g]? = some (.cells old t (0, 0))) (hs : (Try.prog.info? ty).map (·.size) = some cs.size) (hl : old.size = cs.size) (h1 : cs.all (·.oneCell') = true)
    (h : ∀ w1, w1.heap[g]? = some (.cells cs t (0, 0)) → Put w w1 g → wpList Try.prog ops Q rest (a.put o.dst undef) w1) : wpList Try.prog ops Q (o :: rest) a w :=
  wpList_store_row hgd ty x y ho g cs hx hy t old hb hs hl h1 (h _ (setRow_heap w g old cs t (0, 0) hb) (Put.setRow hb _))
/-- A row out of the middle of an array of arrays. -/
theorem wpL_mid (hgd : o.guard = none) {x : Operand} (ho : o.op = .load 22 x) {g off : Nat} (hx : a.eval x = .pointer (some ⟨g, off, none⟩)) {t : TypeId} {c : List Int}
    (hb : Blk w g t c) (k : Nat) (hk : off = k * 4) (hc : c.length = 16) (hk4 : k < 4)
    (h : wpList Try.prog ops Q rest (a.put o.dst (.agg (AV (row c k)))) w) : wpList Try.prog ops Q (o :: rest) a w := by
  subst hk
  have hr := World.rangeAt_of_block hb (k * 4) 4
  rw [AV_extract] at hr
  refine wpList_load_mid hgd 22 x ho g (k * 4) hx (AV (row c k)).toList _ hr Try.underlying22 rfl ?_ ?_
  · rw [Array.length_toList, AV_size, row_length c k (by omega)]; exact size22
  · simpa using h
end

/-! ### a row that lies at the head of a block is read -/
theorem C_block {α : Type} (d : Kd α) {w : World} {g : Nat} {t : TypeId} {fr : Nat × Nat} {cs : List Value} {ps : List α} (hb : w.heap[g]? = some (.cells cs.toArray t fr)) (hR : Reps (d.K w) d.sz ps cs) (hn : ps.length ≤ 9223372036854775807) :
    d.C w (some ⟨g, 0, none⟩) ps.length ps := by
  refine ⟨rfl, hn, fun _ => ⟨_, rfl, fun j p hj => ⟨(cs.drop (j * d.sz)).take d.sz, ?_, hR.2 j p hj, fun i u hu => ?_⟩⟩⟩
  · have hjl := (List.getElem?_eq_some_iff.1 hj).1
    have h1 : j * d.sz + d.sz ≤ cs.length := by rw [hR.1, ← Nat.succ_mul]; exact Nat.mul_le_mul_right _ hjl
    rw [List.length_take, List.length_drop]; omega
  · rw [add_plain, cell_of_row w g _ _ _ _ hb]
    rw [List.getElem?_take] at hu
    split at hu
    · rw [List.getElem?_drop] at hu
      simpa using hu
    · cases hu
/-- The cells of whole numbers. -/
theorem reps_ints (w : World) (xs : List Int) : Reps ((Kd.int .i64).K w) 1 xs (xs.map (Value.int .i64)) := by
  refine ⟨by simp, fun j p hj => ?_⟩
  have hl := (List.getElem?_eq_some_iff.1 hj).1
  show _ = [Value.int .i64 p]
  rw [Nat.mul_one, List.drop_eq_getElem_cons (by simpa using hl)]
  have : xs[j] = p := by simpa [hl] using hj
  simp [this]
theorem C_ints {w : World} {g : Nat} {t : TypeId} {fr : Nat × Nat} (xs : List Int) (hb : w.heap[g]? = some (.cells (AV xs) t fr)) (hn : xs.length ≤ 9223372036854775807) : (Kd.int .i64).C w (some ⟨g, 0, none⟩) xs.length xs :=
  C_block (Kd.int .i64) hb (reps_ints w xs) hn
end Go.Proofs.Ytjficnndocjodaa.H
