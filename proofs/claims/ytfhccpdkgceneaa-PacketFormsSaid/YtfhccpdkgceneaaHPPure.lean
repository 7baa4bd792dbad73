/- What packet's functions answer at the inputs of the law PacketForms: reckoned. -/
import Derived.Test.YtfhccpdkgceneaaPPacketFormsx13
import Derived.Test.YtfhccpdkgceneaaPPacketFormsx15
namespace Go.Proofs.Ytfhccpdkgceneaa.K
open Go.RowKit Go.Proofs.YtfhccpdkgceneaaW.PrintWords Go.Proofs.YtfhccpdkgceneaaW.PrintLast Go.Proofs.YtfhccpdkgceneaaW.PrintMore
open Go.Proofs.Ytfhccpdkgceneaa.PPacketForms
set_option linter.unusedVariables false

abbrev Lk := S62
abbrev La := S29
abbrev Hd := S58
structure Pk where
  t : Int
  r : Int
  he : List Int
  ls : List La
  hs : List Hd
def aA : La := ⟨1, 1, 0, []⟩
def aZ : La := ⟨0, 0, 0, []⟩
def hA : Hd := ⟨1, 1, 0, 0⟩
def hZ : Hd := ⟨0, 0, 0, 0⟩
def bad (d : Nat) : Nat → Pk
  | 0 => ⟨0, 0, [], [], []⟩
  | 1 => ⟨2, 1, [], [], []⟩
  | 2 => ⟨1, 0, [], [], []⟩
  | 3 => ⟨1, 4 + (1 + (d : Int)), [], [], []⟩
  | 4 => ⟨1, 1, [0], [], []⟩
  | 5 => ⟨1, 1, [], [aA], []⟩
  | 6 => ⟨1, 1, [], [], [hA]⟩
  | 7 => ⟨4, 1, [1], [], []⟩
  | 8 => ⟨4, 1, [], [aZ], []⟩
  | 9 => ⟨4, 1, [], [], [hA]⟩
  | 10 => ⟨5, 1, [], [aA], []⟩
  | 11 => ⟨5, 1, [2], [], []⟩
  | _ => ⟨5, 1, [], [], [hZ]⟩
def put (p : Pk) := packet_Put.f 60 p.t p.r p.he p.ls p.hs
def may (p : Pk) := packet_May.f 60 p.t p.r p.he p.ls p.hs
theorem put_bad0 : ∀ q, q < 13 → put (bad 0 q) = some (⟨#[]⟩, 1200) := by decide +kernel
theorem may_bad0 : ∀ q, q < 13 → may (bad 0 q) = some false := by decide +kernel
theorem put_bad3 : ∀ d, d < 1024 → put (bad d 3) = some (⟨#[]⟩, 1200) := by decide +kernel
theorem may_bad3 : ∀ d, d < 1024 → may (bad d 3) = some false := by decide +kernel
theorem bad_same (d q : Nat) (h : q ≠ 3) : bad d q = bad 0 q := by
  match q, h with
  | 0, _ | 1, _ | 2, _ | 4, _ | 5, _ | 6, _ | 7, _ | 8, _ | 9, _ | 10, _ | 11, _ | 12, _ => rfl
  | 3, h => exact absurd rfl h
  | n + 13, _ => rfl
theorem put_bad (d q : Nat) (hd : d < 1024) (hq : q < 13) : put (bad d q) = some (⟨#[]⟩, 1200) := by
  by_cases h : q = 3
  · rw [h]; exact put_bad3 d hd
  · rw [bad_same d q h]; exact put_bad0 q hq
theorem may_bad (d q : Nat) (hd : d < 1024) (hq : q < 13) : may (bad d q) = some false := by
  by_cases h : q = 3
  · rw [h]; exact may_bad3 d hd
  · rw [bad_same d q h]; exact may_bad0 q hq
def tp : ByteArray := ⟨#[2, 1, 0, 15, 0, 0, 0, 2, 0, 0, 0, 0, 2, 1, 3]⟩
theorem put_tp : packet_Put.f 60 1 2 [1, 3] [] [] = some (tp, 0) := by decide +kernel
def isNone (s : ByteArray) : Bool := match packet_Get.f 60 s with
  | some (a, b, c, l, m, n) => a == 0 && b == 0 && c.length == 0 && l.length == 0 && m.length == 0 && n == 1200
  | none => false
theorem got (s : ByteArray) (h : isNone s = true) : packet_Get.f 60 s = some (0, 0, [], [], [], 1200) := by
  unfold isNone at h
  cases e : packet_Get.f 60 s with
  | none => rw [e] at h; cases h
  | some r =>
    rw [e] at h
    obtain ⟨a, b, c, l, m, n⟩ := r
    simp only [Bool.and_eq_true, beq_iff_eq] at h
    obtain ⟨⟨⟨⟨⟨rfl, rfl⟩, hc⟩, hl⟩, hm⟩, rfl⟩ := h
    rw [List.length_eq_zero_iff.1 hc, List.length_eq_zero_iff.1 hl, List.length_eq_zero_iff.1 hm]
def texts : List ByteArray := [⟨#[]⟩, tp.extract 0 12, tp.extract 0 14, tp ++ ⟨#[120]⟩, (tp.extract 0 1 ++ ⟨#[4]⟩) ++ tp.extract 2 15, (tp.extract 0 1 ++ ⟨#[2]⟩) ++ tp.extract 2 15, (tp.extract 0 3 ++ ⟨#[14]⟩) ++ tp.extract 4 15, (tp.extract 0 12 ++ ⟨#[1]⟩) ++ tp.extract 13 15, tp.extract 0 14 ++ ⟨#[5]⟩]
theorem get_bad (m : Nat) (hm : m < 9) : packet_Get.f 60 (texts.getD m ⟨#[]⟩) = some (0, 0, [], [], [], 1200) := got _ ((by decide +kernel : ∀ m, m < 9 → isNone (texts.getD m ⟨#[]⟩) = true) m hm)
theorem get_tp : packet_Get.f 60 tp = some (1, 2, [1, 3], [], [], 0) := by kernel_rfl
theorem put_zero : packet_Put.f 60 0 0 [] [] [] = some (⟨#[]⟩, 1200) := by decide +kernel
theorem get_nil : packet_Get.f 60 ⟨#[]⟩ = some (0, 0, [], [], [], 1200) := got _ (by decide +kernel)
theorem same_tp : watchwordlaw0_SamePacket.f 60 1 2 [1, 3] [] [] 1 2 [1, 3] [] [] = some true := by decide +kernel
theorem may_tp : packet_May.f 60 1 2 [1, 3] [] [] = some true := by decide +kernel
end Go.Proofs.Ytfhccpdkgceneaa.K
