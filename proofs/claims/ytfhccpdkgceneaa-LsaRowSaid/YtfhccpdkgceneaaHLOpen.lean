/- An argument []api.Lsa is a list of Lsas; an argument api.Lsa is one. -/
import Derived.Test.YtfhccpdkgceneaaPLsaRowx0
import Derived.ProofKit
import Derived.OpenShut
import Derived.Deep.Slices
import Derived.SizedLaws
namespace Go.Proofs.Ytfhccpdkgceneaa.H
open Go.RowKit Go.ChangeShapes Go.WideShapes Go.Proofs.YtfhccpdkgceneaaW.PrintWords Go.Proofs.YtfhccpdkgceneaaW.PrintLast Go.Proofs.YtfhccpdkgceneaaW.PrintMore
open Go.Proofs.Ytfhccpdkgceneaa.PLsaRow
set_option linter.unusedVariables false
set_option maxRecDepth 100000
theorem cells59 : Try.prog.cellsOf 62 = 2 := by kernel_rfl
theorem cells57 : Try.prog.cellsOf 29 = 4 := by kernel_rfl
theorem cellsI : Try.prog.cellsOf 3 = 1 := by kernel_rfl
theorem cells55 : Try.prog.cellsOf 27 = 1 := by kernel_rfl
instance : Inhabited S62 := ⟨z62⟩
instance : Inhabited S29 := ⟨z29⟩
section
variable {H : Type} {enc : TypeId × Value → H} {w : World} {base : Nat} {spare : Nat → Bool} {held : Bool}
theorem trod_links {fuel : Nat} {v : Value} {x : DataW H × List MemPlace} (h : DataW.trod enc Try.prog w base spare held fuel 27 [v] = some x) :
    ∃ (A : Option Addr) (c : Nat) (ls : List S62), v = .slice A ls.length c ∧ ls.length ≤ c ∧ Kd.C k62 w A ls.length ls := by
  rcases Go.Deep.open_slice Try.underlying27 h with ⟨e, _⟩ | ⟨a, len, cap, m, n, D, Pl, e, hb, hl, hm, hmm, rfl, hx⟩
  · have e : v = .slice none 0 0 := by simpa using e
    exact ⟨none, 0, [], e, Nat.le_refl _, Kd.C_nil k62 w⟩
  · have e : v = .slice (some a) len cap := by simpa using e
    have hlm : len ≤ m := by rw [hmm]; split <;> omega
    obtain ⟨f, hf⟩ := Go.Deep.choose_lt (α := S62) (n := len) (p := fun i q => w.cell? (a.add (i * 2)) = some (.int .i64 q.f0) ∧ w.cell? (a.add (i * 2 + 1)) = some (.int .i64 q.f1)) (fun i hi => by
      obtain ⟨cs', h1, h2⟩ := hx i (by omega)
      rw [cells59] at h1
      obtain ⟨_, hlen, hcell⟩ := World.cells?_some h1
      obtain ⟨xs, k, hk, hxy, _, hxl, hfld⟩ := DataW.trod_struct Try.underlying62 h2
      match xs, hxl, cs', hlen with
      | [y0, y1], _, [v0, v1], _ =>
        have g0 := hfld 0 _ rfl
        have g1 := hfld 1 _ rfl
        simp [cellsI] at g0 g1
        obtain ⟨n0, e0, _, _⟩ := DataW.trod_int Try.underlying3 g0
        obtain ⟨n1, e1, _, _⟩ := DataW.trod_int Try.underlying3 g1
        have e0 : v0 = .int .i64 n0 := by simpa using e0
        have e1 : v1 = .int .i64 n1 := by simpa using e1
        have c0 := hcell 0 (by omega)
        have c1 := hcell 1 (by omega)
        rw [Go.Deep.add_add] at c0 c1
        subst e0 e1
        exact ⟨⟨n0, n1⟩, by simpa using c0, by simpa using c1⟩)
    refine ⟨some a, cap, (List.range len).map f, by rw [e]; simp, by simpa using hl, ?_⟩
    refine ⟨rfl, by simp; unfold maxLen at hm; omega, fun _ => ⟨a, rfl, fun j p hp => ?_⟩⟩
    have hj : j < len := by
      have := (List.getElem?_eq_some_iff.1 hp).1
      simpa using this
    have hpj : f j = p := by simpa [hj] using hp
    subst hpj
    refine ⟨[.int .i64 (f j).f0, .int .i64 (f j).f1], rfl, k62_mk w (f j), fun i u hu => ?_⟩
    match i, hu with
    | 0, hu => have hu : Value.int .i64 (f j).f0 = u := by simpa using hu
               rw [← hu]; exact (hf j hj).1
    | 1, hu => have hu : Value.int .i64 (f j).f1 = u := by simpa using hu
               rw [← hu]; exact (hf j hj).2
    | i + 2, hu => exact absurd hu (by simp)
/-- One Lsa's cells. -/
theorem trod_lsa {fuel : Nat} {cs : List Value} {x : DataW H × List MemPlace} (h : DataW.trod enc Try.prog w base spare held fuel 29 cs = some x) :
    ∃ (q : S29) (A : Option Addr) (c : Nat), cs = [.int .i64 q.f0, .int .i64 q.f1, .int .i64 q.f2, .slice A q.f3.length c] ∧ q.f3.length ≤ c ∧ Kd.C k62 w A q.f3.length q.f3 := by
  obtain ⟨xs, k, hk, hxy, hcl, hxl, hfld⟩ := DataW.trod_struct Try.underlying29 h
  rw [cells57] at hcl
  match xs, hxl, cs, hcl with
  | [y0, y1, y2, y3], _, [v0, v1, v2, v3], _ =>
    have g0 := hfld 0 _ rfl
    have g1 := hfld 1 _ rfl
    have g2 := hfld 2 _ rfl
    have g3 := hfld 3 _ rfl
    simp [cellsI, cells55] at g0 g1 g2 g3
    obtain ⟨n0, e0, _, _⟩ := DataW.trod_int Try.underlying3 g0
    obtain ⟨n1, e1, _, _⟩ := DataW.trod_int Try.underlying3 g1
    obtain ⟨n2, e2, _, _⟩ := DataW.trod_int Try.underlying3 g2
    have e0 : v0 = .int .i64 n0 := by simpa using e0
    have e1 : v1 = .int .i64 n1 := by simpa using e1
    have e2 : v2 = .int .i64 n2 := by simpa using e2
    obtain ⟨A, c, ls, e3, hl, hC⟩ := trod_links g3
    subst e0 e1 e2 e3
    exact ⟨⟨n0, n1, n2, ls⟩, A, c, rfl, hl, hC⟩
theorem open_lsas {r : Reach} {b0 : Nat} {v : Value} {d : DataW H} {p : List MemPlace}
    (hv : Value.okWide Try.prog w r b0 22 v) (h : DataW.Trod enc Try.prog w base spare held 22 v d p) :
    ∃ (l : List S29) (A : Option Addr) (c : Nat), v = .slice A l.length c ∧ l.length ≤ c ∧ Kd.C k29 w A l.length l := by
  obtain ⟨a0, len0, cap0, rfl⟩ := okWide_slice Try.underlying22 hv
  obtain ⟨fuel, hf⟩ := h
  rcases Go.Deep.open_slice Try.underlying22 hf with ⟨e, _⟩ | ⟨a, len, cap, m, n, D, Pl, e, hb, hl, hm, hmm, _, hx⟩
  · simp [Value.cells] at e
    obtain ⟨rfl, rfl, rfl⟩ := e
    exact ⟨[], none, 0, rfl, Nat.le_refl _, Kd.C_nil k29 w⟩
  · simp [Value.cells] at e
    obtain ⟨rfl, rfl, rfl⟩ := e
    have hlm : len0 ≤ m := by rw [hmm]; split <;> omega
    obtain ⟨f, hf⟩ := Go.Deep.choose_lt (α := S29) (n := len0) (p := fun i q => ∃ c : List Value, c.length = 4 ∧ k29.K w q c ∧ ∀ z u, c[z]? = some u → w.cell? (a.add (i * 4 + z)) = some u) (fun i hi => by
      obtain ⟨cs', h1, h2⟩ := hx i (by omega)
      rw [cells57] at h1
      obtain ⟨_, hlen, hcell⟩ := World.cells?_some h1
      obtain ⟨q, A, c, rfl, hlc, hC⟩ := trod_lsa h2
      refine ⟨q, _, rfl, k29_mk w q hlc hC, fun z u hz => ?_⟩
      have hzl : z < 4 := by have := (List.getElem?_eq_some_iff.1 hz).1; simpa using this
      have := hcell z hzl
      rw [Go.Deep.add_add] at this
      rw [this, ← hz]
      )
    refine ⟨(List.range len0).map f, some a, cap0, by simp, by simpa using hl, ?_⟩
    refine ⟨rfl, by simp; unfold maxLen at hm; omega, fun _ => ⟨a, rfl, fun j p hp => ?_⟩⟩
    have hj : j < len0 := by
      have := (List.getElem?_eq_some_iff.1 hp).1
      simpa using this
    have hpj : f j = p := by simpa [hj] using hp
    subst hpj
    exact hf j hj
theorem bytes29 : Try.prog.bytesOf 29 = 48 := by kernel_rfl
theorem sized_lsas {a : Option Addr} {len cap : Nat} {d : DataW H} {ps : List MemPlace} {ts : List TypeId} {ds : List (DataW H)} {j : Nat}
    (hsz : (DataW.weightsEach Try.prog ts ds).all (· ≤ reachBytes) = true) (ht : ts[j]? = some 22) (hd : ds[j]? = some d) (h : DataW.Trod enc Try.prog w base spare held 22 (.slice a len cap) d ps) : len * 48 ≤ 140737488351232 := by
  obtain ⟨fuel, hf⟩ := h
  rcases Go.Deep.open_slice Try.underlying22 hf with ⟨e, _⟩ | ⟨x, l, c, m, n, D, Pl, e, hb, hl, hm, hmm, hx, _⟩
  · simp [Value.cells] at e
    obtain ⟨rfl, rfl, rfl⟩ := e
    simp
  · simp [Value.cells] at e
    obtain ⟨rfl, rfl, rfl⟩ := e
    obtain ⟨hx, _⟩ := Prod.mk.inj hx
    subst hx
    have z := sized_slice hsz ht hd Try.underlying22
    rw [bytes29] at z
    simp only [List.length_map, List.length_range] at z
    have z2 : len * 48 ≤ (len + (m - len)) * 48 := Nat.mul_le_mul_right _ (Nat.le_add_right _ _)
    have z3 : reachBytes = 140737488351232 := by decide
    omega
end
end Go.Proofs.Ytfhccpdkgceneaa.H
