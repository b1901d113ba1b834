/-
  No cell of these rows narrows 'for every input' (looked for: loops, veiled, ifaces, maps, wideKeys, modest, calm, conditions, laid).
  DERIVED. THE GIVEN ROWS OF THIS SEAT. 2 by the template 'for every input the law returns true; each argument reads behind the call as it read before'; 0 by the template 'total and deterministic' (their statements: YticpdchlknbodaaTotals.lean).
  GIVEN WITH THE SEED: the statements are not yours to turn. If you find one false, say at which input.
  Laid BY PROGRAM, IN A SANDBOX (cutbox-rows.mjs): the forced cells as the released guide's own fill.sh prints them over the translation c9bf7121e3b43dcb… (all of the seat's roots in one cut). By AI agents, Wed Nov 11 2026. No macro, syntax, notation, axiom, sorry.
-/
import Derived.Test.YticpdchlknbodaaChecked
import GoSem.Claim
import GoSem.ClaimJoined
import GoSem.ClaimMapViews
import Derived.JoinedTies
import Derived.KernelRfl
namespace Go.Proofs.Yticpdchlknbodaa
/- THE CELL 'sum', in the pinned program and in every row, IS THE sha256 OF THE DUMP (.gsa) THAT YticpdchlknbodaaProg.lean LOADS. Nothing in Lean hashes anything: it is a label: what it is worth is what the hold of that sum in a sandbox is worth. -/
noncomputable def Try.pinned : Pinned := { name := "yticpdchlknbodaa", sum := "c9bf7121e3b43dcb71dabfdecf62ef3e9c592bfcd4faf7957b5469a9cb03e410", checked := Try.checked }
namespace Rows
def none {H : Type} : Left H := { results := [], args := [] }

/-- 'trammellaw18.AbsTight': WHATEVER THE INPUT: true; the input reads as it did. -/
def absTightSpec : ChangeSpec := { name := "absTight", fn := fun _ => fun
  | [d1, d2] => { results := [.lit (.bool true)], args := [d1, d2] }
  | _ => none }
def absTightRow : OpenClaim := { program := "yticpdchlknbodaa", sum := "c9bf7121e3b43dcb71dabfdecf62ef3e9c592bfcd4faf7957b5469a9cb03e410", func := "trammel/trammellaw18.AbsTight", spec := "absTight", apart := false }
def AbsTightSaid : Prop := absTightRow.holds Try.pinned (OpenSpec.ofChange absTightSpec)

/-- ITS FALSE NEIGHBOUR: 'it returns false'. Refute it at one input. -/
def absTightWrong : ChangeSpec := { name := "absTight", fn := fun _ => fun
  | [d1, d2] => { results := [.lit (.bool false)], args := [d1, d2] }
  | _ => none }
def AbsTightWrongFalsely : Prop := absTightRow.holds Try.pinned (OpenSpec.ofChange absTightWrong)

/-- 'trammellaw18.AbsHas': WHATEVER THE INPUT: true; the input reads as it did. -/
def absHasSpec : ChangeSpec := { name := "absHas", fn := fun _ => fun
  | [d1, d2, d3] => { results := [.lit (.bool true)], args := [d1, d2, d3] }
  | _ => none }
def absHasRow : OpenClaim := { program := "yticpdchlknbodaa", sum := "c9bf7121e3b43dcb71dabfdecf62ef3e9c592bfcd4faf7957b5469a9cb03e410", func := "trammel/trammellaw18.AbsHas", spec := "absHas", apart := false }
def AbsHasSaid : Prop := absHasRow.holds Try.pinned (OpenSpec.ofChange absHasSpec)

/-- ITS FALSE NEIGHBOUR: 'it returns false'. Refute it at one input. -/
def absHasWrong : ChangeSpec := { name := "absHas", fn := fun _ => fun
  | [d1, d2, d3] => { results := [.lit (.bool false)], args := [d1, d2, d3] }
  | _ => none }
def AbsHasWrongFalsely : Prop := absHasRow.holds Try.pinned (OpenSpec.ofChange absHasWrong)

/- THE SECOND FORM. 'bulk': how many values and letters a reading holds, each counted each time it is reached (what is shared counts as often as it is met; a slice's spare places count too). A statement '..UptoSaid' is the law's where the arguments, and the package variables that the reading takes, are together of bulk at most 1048576: NARROWER than '..Said'. Prove '..Said' where nothing that the law and all that it calls make is longer than what came in: it says more and counts as full. Else prove '..UptoSaid'. A law counts once. -/
mutual
def uptoBulk {H : Type} : DataW H → Nat
  | .lit (.string bytes) => bytes.length + 1
  | .lit _ => 1
  | .nil => 1
  | .ptr d => uptoBulk d + 1
  | .slice elems spare => uptoBulkAll elems + uptoBulkAll spare + 1
  | .agg parts => uptoBulkAll parts + 1
  | .iface _ d => uptoBulk d + 1
  | .map entries => uptoBulkEntries entries + 1
  | .held _ => 1
def uptoBulkAll {H : Type} : List (DataW H) → Nat
  | [] => 0
  | d :: r => uptoBulk d + uptoBulkAll r
def uptoBulkEntries {H : Type} : List (Lit × DataW H) → Nat
  | [] => 0
  | x :: r => uptoBulkEntry x + uptoBulkEntries r
def uptoBulkEntry {H : Type} : Lit × DataW H → Nat
  | (.string bytes, d) => bytes.length + uptoBulk d + 1
  | (_, d) => uptoBulk d + 1
 end
def uptoSmall : (H : Type) → List (DataW H) → Bool := fun _ ds => decide (uptoBulkAll ds ≤ 1048576)
def OpenSpec.upto (s : _root_.Go.ChangeSpec) : _root_.Go.OpenSpec := { _root_.Go.OpenSpec.ofChange s with cond := some uptoSmall }

/-- 'trammellaw18.AbsTight', WHERE WHAT IT READS IS OF BULK AT MOST 1048576: true; the input reads as it did. -/
def absTightUptoRow : OpenClaim := { program := "yticpdchlknbodaa", sum := "c9bf7121e3b43dcb71dabfdecf62ef3e9c592bfcd4faf7957b5469a9cb03e410", func := "trammel/trammellaw18.AbsTight", spec := "absTight", apart := false, narrowed := true }
def AbsTightUptoSaid : Prop := absTightUptoRow.holds Try.pinned (OpenSpec.upto absTightSpec)

/-- 'trammellaw18.AbsHas', WHERE WHAT IT READS IS OF BULK AT MOST 1048576: true; the input reads as it did. -/
def absHasUptoRow : OpenClaim := { program := "yticpdchlknbodaa", sum := "c9bf7121e3b43dcb71dabfdecf62ef3e9c592bfcd4faf7957b5469a9cb03e410", func := "trammel/trammellaw18.AbsHas", spec := "absHas", apart := false, narrowed := true }
def AbsHasUptoSaid : Prop := absHasUptoRow.holds Try.pinned (OpenSpec.upto absHasSpec)

end Rows
end Go.Proofs.Yticpdchlknbodaa
