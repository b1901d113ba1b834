/-
  No cell of these rows narrows 'for every input' (looked for: loops, veiled, ifaces, maps, wideKeys, modest, calm, conditions, laid).
  DERIVED. THE GIVEN ROWS OF THIS SEAT. 6 by the template 'for every input the law returns true; each argument reads behind the call as it read before'; 0 by the template 'total and deterministic' (their statements: YtaajijommogaoaaTotals.lean).
  GIVEN WITH THE SEED: the statements are not yours to turn. If you find one false, say at which input.
  Laid BY PROGRAM, IN A SANDBOX (cutbox-rows.mjs): the forced cells as the released guide's own fill.sh prints them over the translation 127f9422f9e2c732… (all of the seat's roots in one cut). By AI agents, Wed Nov 11 2026. No macro, syntax, notation, axiom, sorry.
-/
import Derived.Test.YtaajijommogaoaaChecked
import GoSem.Claim
import GoSem.ClaimJoined
import GoSem.ClaimMapViews
import Derived.JoinedTies
import Derived.KernelRfl
namespace Go.Proofs.Ytaajijommogaoaa
/- THE CELL 'sum', in the pinned program and in every row, IS THE sha256 OF THE DUMP (.gsa) THAT YtaajijommogaoaaProg.lean LOADS. Nothing in Lean hashes anything: it is a label: what it is worth is what the hold of that sum in a sandbox is worth. -/
noncomputable def Try.pinned : Pinned := { name := "ytaajijommogaoaa", sum := "127f9422f9e2c7328dd4c7ee44bc8a82ab9d7f8108d53dc0be17f9eafec2020b", checked := Try.checked }
namespace Rows
def none {H : Type} : Left H := { results := [], args := [] }

/-- 'trammellaw16.IvlJoin': WHATEVER THE INPUT: true; the input reads as it did. -/
def ivlJoinSpec : ChangeSpec := { name := "ivlJoin", fn := fun _ => fun
  | [d1, d2, d3, d4, d5, d6] => { results := [.lit (.bool true)], args := [d1, d2, d3, d4, d5, d6] }
  | _ => none }
def ivlJoinRow : OpenClaim := { program := "ytaajijommogaoaa", sum := "127f9422f9e2c7328dd4c7ee44bc8a82ab9d7f8108d53dc0be17f9eafec2020b", func := "trammel/trammellaw16.IvlJoin", spec := "ivlJoin", inPlace := ["math/bits.Add64"], apart := false }
def IvlJoinSaid : Prop := ivlJoinRow.holds Try.pinned (OpenSpec.ofChange ivlJoinSpec)

/-- ITS FALSE NEIGHBOUR: 'it returns false'. Refute it at one input. -/
def ivlJoinWrong : ChangeSpec := { name := "ivlJoin", fn := fun _ => fun
  | [d1, d2, d3, d4, d5, d6] => { results := [.lit (.bool false)], args := [d1, d2, d3, d4, d5, d6] }
  | _ => none }
def IvlJoinWrongFalsely : Prop := ivlJoinRow.holds Try.pinned (OpenSpec.ofChange ivlJoinWrong)

/-- 'trammellaw16.IvlWidens': WHATEVER THE INPUT: true; the input reads as it did. -/
def ivlWidensSpec : ChangeSpec := { name := "ivlWidens", fn := fun _ => fun
  | [d1, d2, d3, d4] => { results := [.lit (.bool true)], args := [d1, d2, d3, d4] }
  | _ => none }
def ivlWidensRow : OpenClaim := { program := "ytaajijommogaoaa", sum := "127f9422f9e2c7328dd4c7ee44bc8a82ab9d7f8108d53dc0be17f9eafec2020b", func := "trammel/trammellaw16.IvlWidens", spec := "ivlWidens", inPlace := ["math/bits.Add64"], apart := false }
def IvlWidensSaid : Prop := ivlWidensRow.holds Try.pinned (OpenSpec.ofChange ivlWidensSpec)

/-- ITS FALSE NEIGHBOUR: 'it returns false'. Refute it at one input. -/
def ivlWidensWrong : ChangeSpec := { name := "ivlWidens", fn := fun _ => fun
  | [d1, d2, d3, d4] => { results := [.lit (.bool false)], args := [d1, d2, d3, d4] }
  | _ => none }
def IvlWidensWrongFalsely : Prop := ivlWidensRow.holds Try.pinned (OpenSpec.ofChange ivlWidensWrong)

/-- 'trammellaw16.IvlLattice': WHATEVER THE INPUT: true; the input reads as it did. -/
def ivlLatticeSpec : ChangeSpec := { name := "ivlLattice", fn := fun _ => fun
  | [d1, d2, d3, d4, d5] => { results := [.lit (.bool true)], args := [d1, d2, d3, d4, d5] }
  | _ => none }
def ivlLatticeRow : OpenClaim := { program := "ytaajijommogaoaa", sum := "127f9422f9e2c7328dd4c7ee44bc8a82ab9d7f8108d53dc0be17f9eafec2020b", func := "trammel/trammellaw16.IvlLattice", spec := "ivlLattice", inPlace := ["math/bits.Add64"], apart := false }
def IvlLatticeSaid : Prop := ivlLatticeRow.holds Try.pinned (OpenSpec.ofChange ivlLatticeSpec)

/-- ITS FALSE NEIGHBOUR: 'it returns false'. Refute it at one input. -/
def ivlLatticeWrong : ChangeSpec := { name := "ivlLattice", fn := fun _ => fun
  | [d1, d2, d3, d4, d5] => { results := [.lit (.bool false)], args := [d1, d2, d3, d4, d5] }
  | _ => none }
def IvlLatticeWrongFalsely : Prop := ivlLatticeRow.holds Try.pinned (OpenSpec.ofChange ivlLatticeWrong)

/-- 'trammellaw16.IvlTight': WHATEVER THE INPUT: true; the input reads as it did. -/
def ivlTightSpec : ChangeSpec := { name := "ivlTight", fn := fun _ => fun
  | [d1, d2, d3, d4, d5] => { results := [.lit (.bool true)], args := [d1, d2, d3, d4, d5] }
  | _ => none }
def ivlTightRow : OpenClaim := { program := "ytaajijommogaoaa", sum := "127f9422f9e2c7328dd4c7ee44bc8a82ab9d7f8108d53dc0be17f9eafec2020b", func := "trammel/trammellaw16.IvlTight", spec := "ivlTight", inPlace := ["math/bits.Add64"], apart := false }
def IvlTightSaid : Prop := ivlTightRow.holds Try.pinned (OpenSpec.ofChange ivlTightSpec)

/-- ITS FALSE NEIGHBOUR: 'it returns false'. Refute it at one input. -/
def ivlTightWrong : ChangeSpec := { name := "ivlTight", fn := fun _ => fun
  | [d1, d2, d3, d4, d5] => { results := [.lit (.bool false)], args := [d1, d2, d3, d4, d5] }
  | _ => none }
def IvlTightWrongFalsely : Prop := ivlTightRow.holds Try.pinned (OpenSpec.ofChange ivlTightWrong)

/-- 'trammellaw16.IvlGrows': WHATEVER THE INPUT: true; the input reads as it did. -/
def ivlGrowsSpec : ChangeSpec := { name := "ivlGrows", fn := fun _ => fun
  | [d1, d2, d3, d4, d5, d6, d7] => { results := [.lit (.bool true)], args := [d1, d2, d3, d4, d5, d6, d7] }
  | _ => none }
def ivlGrowsRow : OpenClaim := { program := "ytaajijommogaoaa", sum := "127f9422f9e2c7328dd4c7ee44bc8a82ab9d7f8108d53dc0be17f9eafec2020b", func := "trammel/trammellaw16.IvlGrows", spec := "ivlGrows", inPlace := ["math/bits.Add64"], apart := false }
def IvlGrowsSaid : Prop := ivlGrowsRow.holds Try.pinned (OpenSpec.ofChange ivlGrowsSpec)

/-- ITS FALSE NEIGHBOUR: 'it returns false'. Refute it at one input. -/
def ivlGrowsWrong : ChangeSpec := { name := "ivlGrows", fn := fun _ => fun
  | [d1, d2, d3, d4, d5, d6, d7] => { results := [.lit (.bool false)], args := [d1, d2, d3, d4, d5, d6, d7] }
  | _ => none }
def IvlGrowsWrongFalsely : Prop := ivlGrowsRow.holds Try.pinned (OpenSpec.ofChange ivlGrowsWrong)

/-- 'trammellaw16.IvlSound': WHATEVER THE INPUT: true; the input reads as it did. -/
def ivlSoundSpec : ChangeSpec := { name := "ivlSound", fn := fun _ => fun
  | [d1, d2, d3, d4, d5, d6, d7] => { results := [.lit (.bool true)], args := [d1, d2, d3, d4, d5, d6, d7] }
  | _ => none }
def ivlSoundRow : OpenClaim := { program := "ytaajijommogaoaa", sum := "127f9422f9e2c7328dd4c7ee44bc8a82ab9d7f8108d53dc0be17f9eafec2020b", func := "trammel/trammellaw16.IvlSound", spec := "ivlSound", inPlace := ["math/bits.Add64"], apart := false }
def IvlSoundSaid : Prop := ivlSoundRow.holds Try.pinned (OpenSpec.ofChange ivlSoundSpec)

/-- ITS FALSE NEIGHBOUR: 'it returns false'. Refute it at one input. -/
def ivlSoundWrong : ChangeSpec := { name := "ivlSound", fn := fun _ => fun
  | [d1, d2, d3, d4, d5, d6, d7] => { results := [.lit (.bool false)], args := [d1, d2, d3, d4, d5, d6, d7] }
  | _ => none }
def IvlSoundWrongFalsely : Prop := ivlSoundRow.holds Try.pinned (OpenSpec.ofChange ivlSoundWrong)

/- THE SECOND FORM. 'bulk': how many values and letters a reading holds, each counted each time it is reached (what is shared counts as often as it is met; a slice's spare places count too). A statement '..UptoSaid' is the law's where the arguments, and the package variables that the reading takes, are together of bulk at most 1048576: NARROWER than '..Said'. Prove '..Said' where nothing that the law and all that it calls make is longer than what came in: it says more and counts as full. Else prove '..UptoSaid'. A law counts once. -/
mutual
def uptoBulk {H : Type} : DataW H → Nat
  | .lit (.string bytes) => bytes.length + 1
  | .lit _ => 1
  | .nil => 1
  | .ptr d => uptoBulk d + 1
  | .slice elems spare => uptoBulkAll elems + uptoBulkAll spare + 1
  | .agg parts => uptoBulkAll parts + 1
  | .iface _ d => uptoBulk d + 1
  | .map entries => uptoBulkEntries entries + 1
  | .held _ => 1
def uptoBulkAll {H : Type} : List (DataW H) → Nat
  | [] => 0
  | d :: r => uptoBulk d + uptoBulkAll r
def uptoBulkEntries {H : Type} : List (Lit × DataW H) → Nat
  | [] => 0
  | x :: r => uptoBulkEntry x + uptoBulkEntries r
def uptoBulkEntry {H : Type} : Lit × DataW H → Nat
  | (.string bytes, d) => bytes.length + uptoBulk d + 1
  | (_, d) => uptoBulk d + 1
 end
def uptoSmall : (H : Type) → List (DataW H) → Bool := fun _ ds => decide (uptoBulkAll ds ≤ 1048576)
def OpenSpec.upto (s : _root_.Go.ChangeSpec) : _root_.Go.OpenSpec := { _root_.Go.OpenSpec.ofChange s with cond := some uptoSmall }

/-- 'trammellaw16.IvlJoin', WHERE WHAT IT READS IS OF BULK AT MOST 1048576: true; the input reads as it did. -/
def ivlJoinUptoRow : OpenClaim := { program := "ytaajijommogaoaa", sum := "127f9422f9e2c7328dd4c7ee44bc8a82ab9d7f8108d53dc0be17f9eafec2020b", func := "trammel/trammellaw16.IvlJoin", spec := "ivlJoin", inPlace := ["math/bits.Add64"], apart := false, narrowed := true }
def IvlJoinUptoSaid : Prop := ivlJoinUptoRow.holds Try.pinned (OpenSpec.upto ivlJoinSpec)

/-- 'trammellaw16.IvlWidens', WHERE WHAT IT READS IS OF BULK AT MOST 1048576: true; the input reads as it did. -/
def ivlWidensUptoRow : OpenClaim := { program := "ytaajijommogaoaa", sum := "127f9422f9e2c7328dd4c7ee44bc8a82ab9d7f8108d53dc0be17f9eafec2020b", func := "trammel/trammellaw16.IvlWidens", spec := "ivlWidens", inPlace := ["math/bits.Add64"], apart := false, narrowed := true }
def IvlWidensUptoSaid : Prop := ivlWidensUptoRow.holds Try.pinned (OpenSpec.upto ivlWidensSpec)

/-- 'trammellaw16.IvlLattice', WHERE WHAT IT READS IS OF BULK AT MOST 1048576: true; the input reads as it did. -/
def ivlLatticeUptoRow : OpenClaim := { program := "ytaajijommogaoaa", sum := "127f9422f9e2c7328dd4c7ee44bc8a82ab9d7f8108d53dc0be17f9eafec2020b", func := "trammel/trammellaw16.IvlLattice", spec := "ivlLattice", inPlace := ["math/bits.Add64"], apart := false, narrowed := true }
def IvlLatticeUptoSaid : Prop := ivlLatticeUptoRow.holds Try.pinned (OpenSpec.upto ivlLatticeSpec)

/-- 'trammellaw16.IvlTight', WHERE WHAT IT READS IS OF BULK AT MOST 1048576: true; the input reads as it did. -/
def ivlTightUptoRow : OpenClaim := { program := "ytaajijommogaoaa", sum := "127f9422f9e2c7328dd4c7ee44bc8a82ab9d7f8108d53dc0be17f9eafec2020b", func := "trammel/trammellaw16.IvlTight", spec := "ivlTight", inPlace := ["math/bits.Add64"], apart := false, narrowed := true }
def IvlTightUptoSaid : Prop := ivlTightUptoRow.holds Try.pinned (OpenSpec.upto ivlTightSpec)

/-- 'trammellaw16.IvlGrows', WHERE WHAT IT READS IS OF BULK AT MOST 1048576: true; the input reads as it did. -/
def ivlGrowsUptoRow : OpenClaim := { program := "ytaajijommogaoaa", sum := "127f9422f9e2c7328dd4c7ee44bc8a82ab9d7f8108d53dc0be17f9eafec2020b", func := "trammel/trammellaw16.IvlGrows", spec := "ivlGrows", inPlace := ["math/bits.Add64"], apart := false, narrowed := true }
def IvlGrowsUptoSaid : Prop := ivlGrowsUptoRow.holds Try.pinned (OpenSpec.upto ivlGrowsSpec)

/-- 'trammellaw16.IvlSound', WHERE WHAT IT READS IS OF BULK AT MOST 1048576: true; the input reads as it did. -/
def ivlSoundUptoRow : OpenClaim := { program := "ytaajijommogaoaa", sum := "127f9422f9e2c7328dd4c7ee44bc8a82ab9d7f8108d53dc0be17f9eafec2020b", func := "trammel/trammellaw16.IvlSound", spec := "ivlSound", inPlace := ["math/bits.Add64"], apart := false, narrowed := true }
def IvlSoundUptoSaid : Prop := ivlSoundUptoRow.holds Try.pinned (OpenSpec.upto ivlSoundSpec)

end Rows
end Go.Proofs.Ytaajijommogaoaa
