/- An argument [4][4]int is sixteen whole numbers. -/
import Derived.Test.YtjficnndocjodaaHArr
import Derived.ProofKit
import Derived.OpenShut
namespace Go.Proofs.Ytjficnndocjodaa.H
set_option linter.unusedVariables false
theorem cells22 : Try.prog.cellsOf 22 = 4 := by kernel_rfl
theorem cells23 : Try.prog.cellsOf 23 = 16 := by kernel_rfl
theorem cells3 : Try.prog.cellsOf 3 = 1 := by kernel_rfl
/-- A cell's number. -/
def numAt (v : Value) : Int := match v with | .int _ n => n | _ => 0
theorem open_arr {H : Type} {enc : TypeId × Value → H} {w : World} {base : Nat} {spare : Nat → Bool} {held : Bool} {r : Reach} {b0 : Nat} {v : Value} {d : DataW H} {p : List MemPlace}
    (hv : Value.okWide Try.prog w r b0 23 v) (h : DataW.Trod enc Try.prog w base spare held 23 v d p) : ∃ c : List Int, c.length = 16 ∧ v = .agg (AV c) := by
  unfold Value.okWide at hv
  rw [Try.underlying23] at hv
  obtain ⟨cs, rfl, hsz, _⟩ := hv
  rw [cells23] at hsz
  obtain ⟨fuel, hf⟩ := h
  obtain ⟨ys, m, _, _, _, hly, hrow⟩ := DataW.trod_array Try.underlying23 hf
  have key : ∀ k, k < 16 → ∃ a : Int, cs[k]? = some (.int .i64 a) := by
    intro k hk
    have h1 := hrow (k / 4) (by omega)
    obtain ⟨y, hy⟩ : ∃ y, ys[k / 4]? = some y := ⟨_, List.getElem?_eq_getElem (by omega)⟩
    rw [hy] at h1
    obtain ⟨zs, m2, _, _, _, hlz, hcell⟩ := DataW.trod_array Try.underlying22 h1
    have h2 := hcell (k % 4) (by omega)
    obtain ⟨z, hz⟩ : ∃ z, zs[k % 4]? = some z := ⟨_, List.getElem?_eq_getElem (by omega)⟩
    rw [hz] at h2
    obtain ⟨a, e0, _, _⟩ := DataW.trod_int Try.underlying3 h2
    refine ⟨a, ?_⟩
    rw [cells22, cells3] at e0
    have e1 := congrArg List.head? e0
    simp only [List.head?_take, List.head?_drop, Nat.one_ne_zero, if_false, List.head?_cons] at e1
    rw [List.getElem?_take, if_pos (by omega), List.getElem?_drop] at e1
    rw [show k / 4 * 4 + k % 4 * 1 = k by omega] at e1
    simpa [Value.cells] using e1
  refine ⟨cs.toList.map numAt, by simpa using hsz, ?_⟩
  congr 1
  apply Array.ext_getElem?
  intro k
  by_cases hk : k < 16
  · obtain ⟨a, ha⟩ := key k hk
    rw [ha, AV_get _ _ (by simpa [hsz] using hk)]
    simp [gt, List.getD, ha, numAt]
  · rw [Array.getElem?_eq_none (by omega), Array.getElem?_eq_none (by rw [AV_size]; simp [hsz]; omega)]
end Go.Proofs.Ytjficnndocjodaa.H
