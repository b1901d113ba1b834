/-
  No cell of these rows narrows 'for every input' (looked for: loops, veiled, ifaces, maps, wideKeys, modest, calm, conditions, laid).
  DERIVED. THE GIVEN ROWS OF THIS SEAT. 6 by the template 'for every input the law returns true; each argument reads behind the call as it read before'; 0 by the template 'total and deterministic' (their statements: YtnbfgcoggjghbaaTotals.lean).
  GIVEN WITH THE SEED: the statements are not yours to turn. If you find one false, say at which input.
  Laid BY PROGRAM, IN A SANDBOX (cutbox-rows.mjs): the forced cells as the released guide's own fill.sh prints them over the translation 8974a9fd731f4e89… (all of the seat's roots in one cut). By AI agents, Wed Nov 11 2026. No macro, syntax, notation, axiom, sorry.
-/
import Derived.Test.YtnbfgcoggjghbaaChecked
import GoSem.Claim
import GoSem.ClaimJoined
import GoSem.ClaimMapViews
import Derived.JoinedTies
import Derived.KernelRfl
namespace Go.Proofs.Ytnbfgcoggjghbaa
/- THE CELL 'sum', in the pinned program and in every row, IS THE sha256 OF THE DUMP (.gsa) THAT YtnbfgcoggjghbaaProg.lean LOADS. Nothing in Lean hashes anything: it is a label: what it is worth is what the hold of that sum in a sandbox is worth. -/
noncomputable def Try.pinned : Pinned := { name := "ytnbfgcoggjghbaa", sum := "8974a9fd731f4e8946e4f12456d061e354439c0f79a68c728130a2f3cc1e1caf", checked := Try.checked }
namespace Rows
def none {H : Type} : Left H := { results := [], args := [] }

/-- 'trammellaw01.LebReads': WHATEVER THE INPUT: true; the input reads as it did. -/
def lebReadsSpec : ChangeSpec := { name := "lebReads", fn := fun _ => fun
  | [d1, d2] => { results := [.lit (.bool true)], args := [d1, d2] }
  | _ => none }
def lebReadsRow : OpenClaim := { program := "ytnbfgcoggjghbaa", sum := "8974a9fd731f4e8946e4f12456d061e354439c0f79a68c728130a2f3cc1e1caf", func := "trammel/trammellaw01.LebReads", spec := "lebReads", apart := false }
def LebReadsSaid : Prop := lebReadsRow.holds Try.pinned (OpenSpec.ofChange lebReadsSpec)

/-- ITS FALSE NEIGHBOUR: 'it returns false'. Refute it at one input. -/
def lebReadsWrong : ChangeSpec := { name := "lebReads", fn := fun _ => fun
  | [d1, d2] => { results := [.lit (.bool false)], args := [d1, d2] }
  | _ => none }
def LebReadsWrongFalsely : Prop := lebReadsRow.holds Try.pinned (OpenSpec.ofChange lebReadsWrong)

/-- 'trammellaw01.LebWider': WHATEVER THE INPUT: true; the input reads as it did. -/
def lebWiderSpec : ChangeSpec := { name := "lebWider", fn := fun _ => fun
  | [d1, d2, d3] => { results := [.lit (.bool true)], args := [d1, d2, d3] }
  | _ => none }
def lebWiderRow : OpenClaim := { program := "ytnbfgcoggjghbaa", sum := "8974a9fd731f4e8946e4f12456d061e354439c0f79a68c728130a2f3cc1e1caf", func := "trammel/trammellaw01.LebWider", spec := "lebWider", apart := false }
def LebWiderSaid : Prop := lebWiderRow.holds Try.pinned (OpenSpec.ofChange lebWiderSpec)

/-- ITS FALSE NEIGHBOUR: 'it returns false'. Refute it at one input. -/
def lebWiderWrong : ChangeSpec := { name := "lebWider", fn := fun _ => fun
  | [d1, d2, d3] => { results := [.lit (.bool false)], args := [d1, d2, d3] }
  | _ => none }
def LebWiderWrongFalsely : Prop := lebWiderRow.holds Try.pinned (OpenSpec.ofChange lebWiderWrong)

/-- 'trammellaw01.LebPuts': WHATEVER THE INPUT: true; the input reads as it did. -/
def lebPutsSpec : ChangeSpec := { name := "lebPuts", fn := fun _ => fun
  | [d1, d2, d3] => { results := [.lit (.bool true)], args := [d1, d2, d3] }
  | _ => none }
def lebPutsRow : OpenClaim := { program := "ytnbfgcoggjghbaa", sum := "8974a9fd731f4e8946e4f12456d061e354439c0f79a68c728130a2f3cc1e1caf", func := "trammel/trammellaw01.LebPuts", spec := "lebPuts", apart := false }
def LebPutsSaid : Prop := lebPutsRow.holds Try.pinned (OpenSpec.ofChange lebPutsSpec)

/-- ITS FALSE NEIGHBOUR: 'it returns false'. Refute it at one input. -/
def lebPutsWrong : ChangeSpec := { name := "lebPuts", fn := fun _ => fun
  | [d1, d2, d3] => { results := [.lit (.bool false)], args := [d1, d2, d3] }
  | _ => none }
def LebPutsWrongFalsely : Prop := lebPutsRow.holds Try.pinned (OpenSpec.ofChange lebPutsWrong)

/-- 'trammellaw01.LebBack': WHATEVER THE INPUT: true; the input reads as it did. -/
def lebBackSpec : ChangeSpec := { name := "lebBack", fn := fun _ => fun
  | [d1, d2, d3, d4] => { results := [.lit (.bool true)], args := [d1, d2, d3, d4] }
  | _ => none }
def lebBackRow : OpenClaim := { program := "ytnbfgcoggjghbaa", sum := "8974a9fd731f4e8946e4f12456d061e354439c0f79a68c728130a2f3cc1e1caf", func := "trammel/trammellaw01.LebBack", spec := "lebBack", apart := false }
def LebBackSaid : Prop := lebBackRow.holds Try.pinned (OpenSpec.ofChange lebBackSpec)

/-- ITS FALSE NEIGHBOUR: 'it returns false'. Refute it at one input. -/
def lebBackWrong : ChangeSpec := { name := "lebBack", fn := fun _ => fun
  | [d1, d2, d3, d4] => { results := [.lit (.bool false)], args := [d1, d2, d3, d4] }
  | _ => none }
def LebBackWrongFalsely : Prop := lebBackRow.holds Try.pinned (OpenSpec.ofChange lebBackWrong)

/-- 'trammellaw01.LebLeast': WHATEVER THE INPUT: true; the input reads as it did. -/
def lebLeastSpec : ChangeSpec := { name := "lebLeast", fn := fun _ => fun
  | [d] => { results := [.lit (.bool true)], args := [d] }
  | _ => none }
def lebLeastRow : OpenClaim := { program := "ytnbfgcoggjghbaa", sum := "8974a9fd731f4e8946e4f12456d061e354439c0f79a68c728130a2f3cc1e1caf", func := "trammel/trammellaw01.LebLeast", spec := "lebLeast", apart := false }
def LebLeastSaid : Prop := lebLeastRow.holds Try.pinned (OpenSpec.ofChange lebLeastSpec)

/-- ITS FALSE NEIGHBOUR: 'it returns false'. Refute it at one input. -/
def lebLeastWrong : ChangeSpec := { name := "lebLeast", fn := fun _ => fun
  | [d] => { results := [.lit (.bool false)], args := [d] }
  | _ => none }
def LebLeastWrongFalsely : Prop := lebLeastRow.holds Try.pinned (OpenSpec.ofChange lebLeastWrong)

/-- 'trammellaw01.LebLength': WHATEVER THE INPUT: true; the input reads as it did. -/
def lebLengthSpec : ChangeSpec := { name := "lebLength", fn := fun _ => fun
  | [d1, d2, d3] => { results := [.lit (.bool true)], args := [d1, d2, d3] }
  | _ => none }
def lebLengthRow : OpenClaim := { program := "ytnbfgcoggjghbaa", sum := "8974a9fd731f4e8946e4f12456d061e354439c0f79a68c728130a2f3cc1e1caf", func := "trammel/trammellaw01.LebLength", spec := "lebLength", apart := false }
def LebLengthSaid : Prop := lebLengthRow.holds Try.pinned (OpenSpec.ofChange lebLengthSpec)

/-- ITS FALSE NEIGHBOUR: 'it returns false'. Refute it at one input. -/
def lebLengthWrong : ChangeSpec := { name := "lebLength", fn := fun _ => fun
  | [d1, d2, d3] => { results := [.lit (.bool false)], args := [d1, d2, d3] }
  | _ => none }
def LebLengthWrongFalsely : Prop := lebLengthRow.holds Try.pinned (OpenSpec.ofChange lebLengthWrong)

/- THE SECOND FORM. 'bulk': how many values and letters a reading holds, each counted each time it is reached (what is shared counts as often as it is met; a slice's spare places count too). A statement '..UptoSaid' is the law's where the arguments, and the package variables that the reading takes, are together of bulk at most 1048576: NARROWER than '..Said'. Prove '..Said' where nothing that the law and all that it calls make is longer than what came in: it says more and counts as full. Else prove '..UptoSaid'. A law counts once. -/
mutual
def uptoBulk {H : Type} : DataW H → Nat
  | .lit (.string bytes) => bytes.length + 1
  | .lit _ => 1
  | .nil => 1
  | .ptr d => uptoBulk d + 1
  | .slice elems spare => uptoBulkAll elems + uptoBulkAll spare + 1
  | .agg parts => uptoBulkAll parts + 1
  | .iface _ d => uptoBulk d + 1
  | .map entries => uptoBulkEntries entries + 1
  | .held _ => 1
def uptoBulkAll {H : Type} : List (DataW H) → Nat
  | [] => 0
  | d :: r => uptoBulk d + uptoBulkAll r
def uptoBulkEntries {H : Type} : List (Lit × DataW H) → Nat
  | [] => 0
  | x :: r => uptoBulkEntry x + uptoBulkEntries r
def uptoBulkEntry {H : Type} : Lit × DataW H → Nat
  | (.string bytes, d) => bytes.length + uptoBulk d + 1
  | (_, d) => uptoBulk d + 1
 end
def uptoSmall : (H : Type) → List (DataW H) → Bool := fun _ ds => decide (uptoBulkAll ds ≤ 1048576)
def OpenSpec.upto (s : _root_.Go.ChangeSpec) : _root_.Go.OpenSpec := { _root_.Go.OpenSpec.ofChange s with cond := some uptoSmall }

/-- 'trammellaw01.LebReads', WHERE WHAT IT READS IS OF BULK AT MOST 1048576: true; the input reads as it did. -/
def lebReadsUptoRow : OpenClaim := { program := "ytnbfgcoggjghbaa", sum := "8974a9fd731f4e8946e4f12456d061e354439c0f79a68c728130a2f3cc1e1caf", func := "trammel/trammellaw01.LebReads", spec := "lebReads", apart := false, narrowed := true }
def LebReadsUptoSaid : Prop := lebReadsUptoRow.holds Try.pinned (OpenSpec.upto lebReadsSpec)

/-- 'trammellaw01.LebWider', WHERE WHAT IT READS IS OF BULK AT MOST 1048576: true; the input reads as it did. -/
def lebWiderUptoRow : OpenClaim := { program := "ytnbfgcoggjghbaa", sum := "8974a9fd731f4e8946e4f12456d061e354439c0f79a68c728130a2f3cc1e1caf", func := "trammel/trammellaw01.LebWider", spec := "lebWider", apart := false, narrowed := true }
def LebWiderUptoSaid : Prop := lebWiderUptoRow.holds Try.pinned (OpenSpec.upto lebWiderSpec)

/-- 'trammellaw01.LebPuts', WHERE WHAT IT READS IS OF BULK AT MOST 1048576: true; the input reads as it did. -/
def lebPutsUptoRow : OpenClaim := { program := "ytnbfgcoggjghbaa", sum := "8974a9fd731f4e8946e4f12456d061e354439c0f79a68c728130a2f3cc1e1caf", func := "trammel/trammellaw01.LebPuts", spec := "lebPuts", apart := false, narrowed := true }
def LebPutsUptoSaid : Prop := lebPutsUptoRow.holds Try.pinned (OpenSpec.upto lebPutsSpec)

/-- 'trammellaw01.LebBack', WHERE WHAT IT READS IS OF BULK AT MOST 1048576: true; the input reads as it did. -/
def lebBackUptoRow : OpenClaim := { program := "ytnbfgcoggjghbaa", sum := "8974a9fd731f4e8946e4f12456d061e354439c0f79a68c728130a2f3cc1e1caf", func := "trammel/trammellaw01.LebBack", spec := "lebBack", apart := false, narrowed := true }
def LebBackUptoSaid : Prop := lebBackUptoRow.holds Try.pinned (OpenSpec.upto lebBackSpec)

/-- 'trammellaw01.LebLeast', WHERE WHAT IT READS IS OF BULK AT MOST 1048576: true; the input reads as it did. -/
def lebLeastUptoRow : OpenClaim := { program := "ytnbfgcoggjghbaa", sum := "8974a9fd731f4e8946e4f12456d061e354439c0f79a68c728130a2f3cc1e1caf", func := "trammel/trammellaw01.LebLeast", spec := "lebLeast", apart := false, narrowed := true }
def LebLeastUptoSaid : Prop := lebLeastUptoRow.holds Try.pinned (OpenSpec.upto lebLeastSpec)

/-- 'trammellaw01.LebLength', WHERE WHAT IT READS IS OF BULK AT MOST 1048576: true; the input reads as it did. -/
def lebLengthUptoRow : OpenClaim := { program := "ytnbfgcoggjghbaa", sum := "8974a9fd731f4e8946e4f12456d061e354439c0f79a68c728130a2f3cc1e1caf", func := "trammel/trammellaw01.LebLength", spec := "lebLength", apart := false, narrowed := true }
def LebLengthUptoSaid : Prop := lebLengthUptoRow.holds Try.pinned (OpenSpec.upto lebLengthSpec)

end Rows
end Go.Proofs.Ytnbfgcoggjghbaa
