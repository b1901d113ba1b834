/-
  No cell of these rows narrows 'for every input' (looked for: loops, veiled, ifaces, maps, wideKeys, modest, calm, conditions, laid).
  DERIVED. THE GIVEN ROWS OF THIS SEAT. 4 by the template 'for every input the law returns true; each argument reads behind the call as it read before'; 0 by the template 'total and deterministic' (their statements: YthmiladfdndciaaTotals.lean).
  GIVEN WITH THE SEED: the statements are not yours to turn. If you find one false, say at which input.
  Laid BY PROGRAM, IN A SANDBOX (cutbox-rows.mjs): the forced cells as the released guide's own fill.sh prints them over the translation 64f701ae99c8d75f… (all of the seat's roots in one cut). By AI agents, Wed Nov 11 2026. No macro, syntax, notation, axiom, sorry.
-/
import Derived.Test.YthmiladfdndciaaChecked
import GoSem.Claim
import GoSem.ClaimJoined
import GoSem.ClaimMapViews
import Derived.JoinedTies
import Derived.KernelRfl
namespace Go.Proofs.Ythmiladfdndciaa
/- THE CELL 'sum', in the pinned program and in every row, IS THE sha256 OF THE DUMP (.gsa) THAT YthmiladfdndciaaProg.lean LOADS. Nothing in Lean hashes anything: it is a label: what it is worth is what the hold of that sum in a sandbox is worth. -/
noncomputable def Try.pinned : Pinned := { name := "ythmiladfdndciaa", sum := "64f701ae99c8d75fce81e9e87c4fc558c90e93fb2f479157859822538701c11f", checked := Try.checked }
namespace Rows
def none {H : Type} : Left H := { results := [], args := [] }

/-- 'trammellaw05.TypCut': WHATEVER THE INPUT: true; the input reads as it did. -/
def typCutSpec : ChangeSpec := { name := "typCut", fn := fun _ => fun
  | [d1, d2, d3] => { results := [.lit (.bool true)], args := [d1, d2, d3] }
  | _ => none }
def typCutRow : OpenClaim := { program := "ythmiladfdndciaa", sum := "64f701ae99c8d75fce81e9e87c4fc558c90e93fb2f479157859822538701c11f", func := "trammel/trammellaw05.TypCut", spec := "typCut", apart := false }
def TypCutSaid : Prop := typCutRow.holds Try.pinned (OpenSpec.ofChange typCutSpec)

/-- ITS FALSE NEIGHBOUR: 'it returns false'. Refute it at one input. -/
def typCutWrong : ChangeSpec := { name := "typCut", fn := fun _ => fun
  | [d1, d2, d3] => { results := [.lit (.bool false)], args := [d1, d2, d3] }
  | _ => none }
def TypCutWrongFalsely : Prop := typCutRow.holds Try.pinned (OpenSpec.ofChange typCutWrong)

/-- 'trammellaw05.TypReads': WHATEVER THE INPUT: true; the input reads as it did. -/
def typReadsSpec : ChangeSpec := { name := "typReads", fn := fun _ => fun
  | [d] => { results := [.lit (.bool true)], args := [d] }
  | _ => none }
def typReadsRow : OpenClaim := { program := "ythmiladfdndciaa", sum := "64f701ae99c8d75fce81e9e87c4fc558c90e93fb2f479157859822538701c11f", func := "trammel/trammellaw05.TypReads", spec := "typReads", apart := false }
def TypReadsSaid : Prop := typReadsRow.holds Try.pinned (OpenSpec.ofChange typReadsSpec)

/-- ITS FALSE NEIGHBOUR: 'it returns false'. Refute it at one input. -/
def typReadsWrong : ChangeSpec := { name := "typReads", fn := fun _ => fun
  | [d] => { results := [.lit (.bool false)], args := [d] }
  | _ => none }
def TypReadsWrongFalsely : Prop := typReadsRow.holds Try.pinned (OpenSpec.ofChange typReadsWrong)

/-- 'trammellaw05.TypPuts': WHATEVER THE INPUT: true; the input reads as it did. -/
def typPutsSpec : ChangeSpec := { name := "typPuts", fn := fun _ => fun
  | [d1, d2, d3, d4] => { results := [.lit (.bool true)], args := [d1, d2, d3, d4] }
  | _ => none }
def typPutsRow : OpenClaim := { program := "ythmiladfdndciaa", sum := "64f701ae99c8d75fce81e9e87c4fc558c90e93fb2f479157859822538701c11f", func := "trammel/trammellaw05.TypPuts", spec := "typPuts", apart := false }
def TypPutsSaid : Prop := typPutsRow.holds Try.pinned (OpenSpec.ofChange typPutsSpec)

/-- ITS FALSE NEIGHBOUR: 'it returns false'. Refute it at one input. -/
def typPutsWrong : ChangeSpec := { name := "typPuts", fn := fun _ => fun
  | [d1, d2, d3, d4] => { results := [.lit (.bool false)], args := [d1, d2, d3, d4] }
  | _ => none }
def TypPutsWrongFalsely : Prop := typPutsRow.holds Try.pinned (OpenSpec.ofChange typPutsWrong)

/-- 'trammellaw05.TypBack': WHATEVER THE INPUT: true; the input reads as it did. -/
def typBackSpec : ChangeSpec := { name := "typBack", fn := fun _ => fun
  | [d1, d2, d3, d4] => { results := [.lit (.bool true)], args := [d1, d2, d3, d4] }
  | _ => none }
def typBackRow : OpenClaim := { program := "ythmiladfdndciaa", sum := "64f701ae99c8d75fce81e9e87c4fc558c90e93fb2f479157859822538701c11f", func := "trammel/trammellaw05.TypBack", spec := "typBack", apart := false }
def TypBackSaid : Prop := typBackRow.holds Try.pinned (OpenSpec.ofChange typBackSpec)

/-- ITS FALSE NEIGHBOUR: 'it returns false'. Refute it at one input. -/
def typBackWrong : ChangeSpec := { name := "typBack", fn := fun _ => fun
  | [d1, d2, d3, d4] => { results := [.lit (.bool false)], args := [d1, d2, d3, d4] }
  | _ => none }
def TypBackWrongFalsely : Prop := typBackRow.holds Try.pinned (OpenSpec.ofChange typBackWrong)

/- THE SECOND FORM. 'bulk': how many values and letters a reading holds, each counted each time it is reached (what is shared counts as often as it is met; a slice's spare places count too). A statement '..UptoSaid' is the law's where the arguments, and the package variables that the reading takes, are together of bulk at most 1048576: NARROWER than '..Said'. Prove '..Said' where nothing that the law and all that it calls make is longer than what came in: it says more and counts as full. Else prove '..UptoSaid'. A law counts once. -/
mutual
def uptoBulk {H : Type} : DataW H → Nat
  | .lit (.string bytes) => bytes.length + 1
  | .lit _ => 1
  | .nil => 1
  | .ptr d => uptoBulk d + 1
  | .slice elems spare => uptoBulkAll elems + uptoBulkAll spare + 1
  | .agg parts => uptoBulkAll parts + 1
  | .iface _ d => uptoBulk d + 1
  | .map entries => uptoBulkEntries entries + 1
  | .held _ => 1
def uptoBulkAll {H : Type} : List (DataW H) → Nat
  | [] => 0
  | d :: r => uptoBulk d + uptoBulkAll r
def uptoBulkEntries {H : Type} : List (Lit × DataW H) → Nat
  | [] => 0
  | x :: r => uptoBulkEntry x + uptoBulkEntries r
def uptoBulkEntry {H : Type} : Lit × DataW H → Nat
  | (.string bytes, d) => bytes.length + uptoBulk d + 1
  | (_, d) => uptoBulk d + 1
 end
def uptoSmall : (H : Type) → List (DataW H) → Bool := fun _ ds => decide (uptoBulkAll ds ≤ 1048576)
def OpenSpec.upto (s : _root_.Go.ChangeSpec) : _root_.Go.OpenSpec := { _root_.Go.OpenSpec.ofChange s with cond := some uptoSmall }

/-- 'trammellaw05.TypCut', WHERE WHAT IT READS IS OF BULK AT MOST 1048576: true; the input reads as it did. -/
def typCutUptoRow : OpenClaim := { program := "ythmiladfdndciaa", sum := "64f701ae99c8d75fce81e9e87c4fc558c90e93fb2f479157859822538701c11f", func := "trammel/trammellaw05.TypCut", spec := "typCut", apart := false, narrowed := true }
def TypCutUptoSaid : Prop := typCutUptoRow.holds Try.pinned (OpenSpec.upto typCutSpec)

/-- 'trammellaw05.TypReads', WHERE WHAT IT READS IS OF BULK AT MOST 1048576: true; the input reads as it did. -/
def typReadsUptoRow : OpenClaim := { program := "ythmiladfdndciaa", sum := "64f701ae99c8d75fce81e9e87c4fc558c90e93fb2f479157859822538701c11f", func := "trammel/trammellaw05.TypReads", spec := "typReads", apart := false, narrowed := true }
def TypReadsUptoSaid : Prop := typReadsUptoRow.holds Try.pinned (OpenSpec.upto typReadsSpec)

/-- 'trammellaw05.TypPuts', WHERE WHAT IT READS IS OF BULK AT MOST 1048576: true; the input reads as it did. -/
def typPutsUptoRow : OpenClaim := { program := "ythmiladfdndciaa", sum := "64f701ae99c8d75fce81e9e87c4fc558c90e93fb2f479157859822538701c11f", func := "trammel/trammellaw05.TypPuts", spec := "typPuts", apart := false, narrowed := true }
def TypPutsUptoSaid : Prop := typPutsUptoRow.holds Try.pinned (OpenSpec.upto typPutsSpec)

/-- 'trammellaw05.TypBack', WHERE WHAT IT READS IS OF BULK AT MOST 1048576: true; the input reads as it did. -/
def typBackUptoRow : OpenClaim := { program := "ythmiladfdndciaa", sum := "64f701ae99c8d75fce81e9e87c4fc558c90e93fb2f479157859822538701c11f", func := "trammel/trammellaw05.TypBack", spec := "typBack", apart := false, narrowed := true }
def TypBackUptoSaid : Prop := typBackUptoRow.holds Try.pinned (OpenSpec.upto typBackSpec)

end Rows
end Go.Proofs.Ythmiladfdndciaa
