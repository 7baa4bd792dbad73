/- What update's functions answer at the inputs of the law UpdateForms: reckoned. -/
import Derived.Test.YtfhccpdkgceneaaPUpdateFormsx8
namespace Go.Proofs.Ytfhccpdkgceneaa.U
open Go.RowKit Go.Proofs.YtfhccpdkgceneaaW.PrintWords Go.Proofs.YtfhccpdkgceneaaW.PrintLast Go.Proofs.YtfhccpdkgceneaaW.PrintMore
open Go.Proofs.Ytfhccpdkgceneaa.PUpdateForms
set_option linter.unusedVariables false

abbrev Lk := S62
abbrev La := S29
def uA : La := ⟨1, 5, 0, []⟩
def uB : La := ⟨3, 6, 0, []⟩
def bad : Nat → List La
  | 0 => [⟨0, 0, 0, []⟩]
  | 1 => [uB, uA]
  | 2 => [uA, uA]
  | 3 => [uA, ⟨2, 0, 0, []⟩, uB]
  | _ => [uA, ⟨2, 1, 0, []⟩, uB, ⟨4, 1, 0, []⟩, ⟨4, 2, 0, []⟩]
def tt : ByteArray := ⟨#[2, 0, 1, 0, 0, 0, 5, 0, 16, 6, 0, 3, 0, 0, 0, 6, 0, 30, 9]⟩
def ta : ByteArray := ⟨#[2, 0, 1, 0, 0, 0, 5, 0, 16, 6, 0, 3, 0, 0, 0, 6, 1, 1, 0, 9, 73, 20]⟩
def uS : La := ⟨3, 6, 0, [⟨1, 9⟩]⟩
theorem put_bad : ∀ q, q < 5 → update_Put.f 60 (bad q) = some (⟨#[]⟩, 1000) := by decide +kernel
theorem may_bad : ∀ q, q < 5 → update_May.f 60 (bad q) = some false := by decide +kernel
theorem put_tt : update_Put.f 60 [uA, uB] = some (tt, 0) := by decide +kernel
theorem got (s : ByteArray) (n : Int) (h : (update_Get.f 60 s).map (fun r => (r.1.length, r.2)) = some (0, n)) : update_Get.f 60 s = some ([], n) := by
  cases e : update_Get.f 60 s with
  | none => rw [e] at h; cases h
  | some r =>
    rw [e] at h
    obtain ⟨l, m⟩ := r
    simp only [Option.map_some, Option.some.injEq, Prod.mk.injEq] at h
    rw [List.length_eq_zero_iff.1 h.1, h.2]
theorem get_cut (m : Nat) (hm : m < 19) : update_Get.f 60 (tt.extract 0 m) = some ([], 1000) := got _ _ ((by decide +kernel : ∀ m, m < 19 → (update_Get.f 60 (tt.extract 0 m)).map (fun r => (r.1.length, r.2)) = some (0, 1000)) m hm)
theorem get_more : update_Get.f 60 (tt ++ ⟨#[0]⟩) = some ([], 1000) := got _ _ (by decide +kernel)
theorem get_one : update_Get.f 60 (⟨#[1]⟩ ++ tt.extract 1 19) = some ([], 1000) := got _ _ (by decide +kernel)
theorem get_three : update_Get.f 60 (⟨#[3]⟩ ++ tt.extract 1 19) = some ([], 1000) := got _ _ (by decide +kernel)
theorem get_turned : update_Get.f 60 ((⟨#[2]⟩ ++ tt.extract 10 19) ++ tt.extract 1 10) = some ([], 1000) := got _ _ (by decide +kernel)
theorem put_ta : update_Put.f 60 [uA, uS] = some (ta, 0) := by decide +kernel
theorem get_ta : update_Get.f 60 ta = some ([uA, uS], 0) := by kernel_rfl
theorem put_zero : update_Put.f 60 [⟨0, 0, 0, []⟩] = some (⟨#[]⟩, 1000) := by decide +kernel
theorem get_nil : update_Get.f 60 ⟨#[]⟩ = some ([], 1000) := got _ _ (by decide +kernel)
theorem get_none : update_Get.f 60 ⟨#[0]⟩ = some ([], 0) := got _ _ (by decide +kernel)
theorem same_ta : watchwordlaw0_SameLsas.f 60 [uA, uS] [uA, uS] = some true := by decide +kernel
theorem may_ta : update_May.f 60 [uA, uS] = some true := by decide +kernel
end Go.Proofs.Ytfhccpdkgceneaa.U
