/-
  No cell of these rows narrows 'for every input' (looked for: loops, veiled, ifaces, maps, wideKeys, modest, calm, conditions, laid).
  DERIVED. THE GIVEN ROWS OF THIS SEAT. 4 by the template 'for every input the law returns true; each argument reads behind the call as it read before'; 0 by the template 'total and deterministic' (their statements: YtfhccpdkgceneaaTotals.lean).
  GIVEN WITH THE SEED: the statements are not yours to turn. If you find one false, say at which input.
  Laid BY PROGRAM, IN A SANDBOX (cutbox-rows.mjs): the forced cells as the released guide's own fill.sh prints them over the translation a28378d7d159e8dc… (all of the seat's roots in one cut). By AI agents, Wed Nov 11 2026. No macro, syntax, notation, axiom, sorry.
-/
import Derived.Test.YtfhccpdkgceneaaChecked
import GoSem.Claim
import GoSem.ClaimJoined
import GoSem.ClaimMapViews
import Derived.JoinedTies
import Derived.KernelRfl
namespace Go.Proofs.Ytfhccpdkgceneaa
/- THE CELL 'sum', in the pinned program and in every row, IS THE sha256 OF THE DUMP (.gsa) THAT YtfhccpdkgceneaaProg.lean LOADS. Nothing in Lean hashes anything: it is a label: what it is worth is what the hold of that sum in a sandbox is worth. -/
noncomputable def Try.pinned : Pinned := { name := "ytfhccpdkgceneaa", sum := "a28378d7d159e8dce5e572d6054948824a2a92a9759a1da34f7a5029b8dc0e32", checked := Try.checked }
namespace Rows
def none {H : Type} : Left H := { results := [], args := [] }

/-- 'watchwordlaw7.LsaRow': WHATEVER THE INPUT: true; the input reads as it did. -/
def lsaRowSpec : ChangeSpec := { name := "lsaRow", fn := fun _ => fun
  | [d] => { results := [.lit (.bool true)], args := [d] }
  | _ => none }
def lsaRowRow : OpenClaim := { program := "ytfhccpdkgceneaa", sum := "a28378d7d159e8dce5e572d6054948824a2a92a9759a1da34f7a5029b8dc0e32", func := "watchword/watchwordlaw7.LsaRow", spec := "lsaRow", apart := false }
def LsaRowSaid : Prop := lsaRowRow.holds Try.pinned (OpenSpec.ofChange lsaRowSpec)

/-- ITS FALSE NEIGHBOUR: 'it returns false'. Refute it at one input. -/
def lsaRowWrong : ChangeSpec := { name := "lsaRow", fn := fun _ => fun
  | [d] => { results := [.lit (.bool false)], args := [d] }
  | _ => none }
def LsaRowWrongFalsely : Prop := lsaRowRow.holds Try.pinned (OpenSpec.ofChange lsaRowWrong)

/-- 'watchwordlaw10.UpdateForms': WHATEVER THE INPUT: true; the input reads as it did. -/
def updateFormsSpec : ChangeSpec := { name := "updateForms", fn := fun _ => fun
  | [d1, d2] => { results := [.lit (.bool true)], args := [d1, d2] }
  | _ => none }
def updateFormsRow : OpenClaim := { program := "ytfhccpdkgceneaa", sum := "a28378d7d159e8dce5e572d6054948824a2a92a9759a1da34f7a5029b8dc0e32", func := "watchword/watchwordlaw10.UpdateForms", spec := "updateForms", apart := false }
def UpdateFormsSaid : Prop := updateFormsRow.holds Try.pinned (OpenSpec.ofChange updateFormsSpec)

/-- ITS FALSE NEIGHBOUR: 'it returns false'. Refute it at one input. -/
def updateFormsWrong : ChangeSpec := { name := "updateForms", fn := fun _ => fun
  | [d1, d2] => { results := [.lit (.bool false)], args := [d1, d2] }
  | _ => none }
def UpdateFormsWrongFalsely : Prop := updateFormsRow.holds Try.pinned (OpenSpec.ofChange updateFormsWrong)

/-- 'watchwordlaw12.Packets': WHATEVER THE INPUT: true; the input reads as it did. -/
def packetsSpec : ChangeSpec := { name := "packets", fn := fun _ => fun
  | [d1, d2] => { results := [.lit (.bool true)], args := [d1, d2] }
  | _ => none }
def packetsRow : OpenClaim := { program := "ytfhccpdkgceneaa", sum := "a28378d7d159e8dce5e572d6054948824a2a92a9759a1da34f7a5029b8dc0e32", func := "watchword/watchwordlaw12.Packets", spec := "packets", apart := false }
def PacketsSaid : Prop := packetsRow.holds Try.pinned (OpenSpec.ofChange packetsSpec)

/-- ITS FALSE NEIGHBOUR: 'it returns false'. Refute it at one input. -/
def packetsWrong : ChangeSpec := { name := "packets", fn := fun _ => fun
  | [d1, d2] => { results := [.lit (.bool false)], args := [d1, d2] }
  | _ => none }
def PacketsWrongFalsely : Prop := packetsRow.holds Try.pinned (OpenSpec.ofChange packetsWrong)

/-- 'watchwordlaw12.PacketForms': WHATEVER THE INPUT: true; the input reads as it did. -/
def packetFormsSpec : ChangeSpec := { name := "packetForms", fn := fun _ => fun
  | [d1, d2] => { results := [.lit (.bool true)], args := [d1, d2] }
  | _ => none }
def packetFormsRow : OpenClaim := { program := "ytfhccpdkgceneaa", sum := "a28378d7d159e8dce5e572d6054948824a2a92a9759a1da34f7a5029b8dc0e32", func := "watchword/watchwordlaw12.PacketForms", spec := "packetForms", apart := false }
def PacketFormsSaid : Prop := packetFormsRow.holds Try.pinned (OpenSpec.ofChange packetFormsSpec)

/-- ITS FALSE NEIGHBOUR: 'it returns false'. Refute it at one input. -/
def packetFormsWrong : ChangeSpec := { name := "packetForms", fn := fun _ => fun
  | [d1, d2] => { results := [.lit (.bool false)], args := [d1, d2] }
  | _ => none }
def PacketFormsWrongFalsely : Prop := packetFormsRow.holds Try.pinned (OpenSpec.ofChange packetFormsWrong)

/- THE SECOND FORM. 'bulk': how many values and letters a reading holds, each counted each time it is reached (what is shared counts as often as it is met; a slice's spare places count too). A statement '..UptoSaid' is the law's where the arguments, and the package variables that the reading takes, are together of bulk at most 1048576: NARROWER than '..Said'. Prove '..Said' where nothing that the law and all that it calls make is longer than what came in: it says more and counts as full. Else prove '..UptoSaid'. A law counts once. -/
mutual
def uptoBulk {H : Type} : DataW H → Nat
  | .lit (.string bytes) => bytes.length + 1
  | .lit _ => 1
  | .nil => 1
  | .ptr d => uptoBulk d + 1
  | .slice elems spare => uptoBulkAll elems + uptoBulkAll spare + 1
  | .agg parts => uptoBulkAll parts + 1
  | .iface _ d => uptoBulk d + 1
  | .map entries => uptoBulkEntries entries + 1
  | .held _ => 1
def uptoBulkAll {H : Type} : List (DataW H) → Nat
  | [] => 0
  | d :: r => uptoBulk d + uptoBulkAll r
def uptoBulkEntries {H : Type} : List (Lit × DataW H) → Nat
  | [] => 0
  | x :: r => uptoBulkEntry x + uptoBulkEntries r
def uptoBulkEntry {H : Type} : Lit × DataW H → Nat
  | (.string bytes, d) => bytes.length + uptoBulk d + 1
  | (_, d) => uptoBulk d + 1
 end
def uptoSmall : (H : Type) → List (DataW H) → Bool := fun _ ds => decide (uptoBulkAll ds ≤ 1048576)
def OpenSpec.upto (s : _root_.Go.ChangeSpec) : _root_.Go.OpenSpec := { _root_.Go.OpenSpec.ofChange s with cond := some uptoSmall }

/-- 'watchwordlaw7.LsaRow', WHERE WHAT IT READS IS OF BULK AT MOST 1048576: true; the input reads as it did. -/
def lsaRowUptoRow : OpenClaim := { program := "ytfhccpdkgceneaa", sum := "a28378d7d159e8dce5e572d6054948824a2a92a9759a1da34f7a5029b8dc0e32", func := "watchword/watchwordlaw7.LsaRow", spec := "lsaRow", apart := false, narrowed := true }
def LsaRowUptoSaid : Prop := lsaRowUptoRow.holds Try.pinned (OpenSpec.upto lsaRowSpec)

/-- 'watchwordlaw10.UpdateForms', WHERE WHAT IT READS IS OF BULK AT MOST 1048576: true; the input reads as it did. -/
def updateFormsUptoRow : OpenClaim := { program := "ytfhccpdkgceneaa", sum := "a28378d7d159e8dce5e572d6054948824a2a92a9759a1da34f7a5029b8dc0e32", func := "watchword/watchwordlaw10.UpdateForms", spec := "updateForms", apart := false, narrowed := true }
def UpdateFormsUptoSaid : Prop := updateFormsUptoRow.holds Try.pinned (OpenSpec.upto updateFormsSpec)

/-- 'watchwordlaw12.Packets', WHERE WHAT IT READS IS OF BULK AT MOST 1048576: true; the input reads as it did. -/
def packetsUptoRow : OpenClaim := { program := "ytfhccpdkgceneaa", sum := "a28378d7d159e8dce5e572d6054948824a2a92a9759a1da34f7a5029b8dc0e32", func := "watchword/watchwordlaw12.Packets", spec := "packets", apart := false, narrowed := true }
def PacketsUptoSaid : Prop := packetsUptoRow.holds Try.pinned (OpenSpec.upto packetsSpec)

/-- 'watchwordlaw12.PacketForms', WHERE WHAT IT READS IS OF BULK AT MOST 1048576: true; the input reads as it did. -/
def packetFormsUptoRow : OpenClaim := { program := "ytfhccpdkgceneaa", sum := "a28378d7d159e8dce5e572d6054948824a2a92a9759a1da34f7a5029b8dc0e32", func := "watchword/watchwordlaw12.PacketForms", spec := "packetForms", apart := false, narrowed := true }
def PacketFormsUptoSaid : Prop := packetFormsUptoRow.holds Try.pinned (OpenSpec.upto packetFormsSpec)

end Rows
end Go.Proofs.Ytfhccpdkgceneaa
