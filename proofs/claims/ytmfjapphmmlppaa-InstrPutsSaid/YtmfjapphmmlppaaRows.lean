/-
  No cell of these rows narrows 'for every input' (looked for: loops, veiled, ifaces, maps, wideKeys, modest, calm, conditions, laid).
  DERIVED. THE GIVEN ROWS OF THIS SEAT. 5 by the template 'for every input the law returns true; each argument reads behind the call as it read before'; 0 by the template 'total and deterministic' (their statements: YtmfjapphmmlppaaTotals.lean).
  GIVEN WITH THE SEED: the statements are not yours to turn. If you find one false, say at which input.
  Laid BY PROGRAM, IN A SANDBOX (cutbox-rows.mjs): the forced cells as the released guide's own fill.sh prints them over the translation 38acee749677482f… (all of the seat's roots in one cut). By AI agents, Wed Nov 11 2026. No macro, syntax, notation, axiom, sorry.
-/
import Derived.Test.YtmfjapphmmlppaaChecked
import GoSem.Claim
import GoSem.ClaimJoined
import GoSem.ClaimMapViews
import Derived.JoinedTies
import Derived.KernelRfl
namespace Go.Proofs.Ytmfjapphmmlppaa
/- THE CELL 'sum', in the pinned program and in every row, IS THE sha256 OF THE DUMP (.gsa) THAT YtmfjapphmmlppaaProg.lean LOADS. Nothing in Lean hashes anything: it is a label: what it is worth is what the hold of that sum in a sandbox is worth. -/
noncomputable def Try.pinned : Pinned := { name := "ytmfjapphmmlppaa", sum := "38acee749677482f5849b15472f670a07ecd61f0299eba61f973fc1a4f9bf00c", checked := Try.checked }
namespace Rows
def none {H : Type} : Left H := { results := [], args := [] }

/-- 'trammellaw06.InstrCut': WHATEVER THE INPUT: true; the input reads as it did. -/
def instrCutSpec : ChangeSpec := { name := "instrCut", fn := fun _ => fun
  | [d1, d2] => { results := [.lit (.bool true)], args := [d1, d2] }
  | _ => none }
def instrCutRow : OpenClaim := { program := "ytmfjapphmmlppaa", sum := "38acee749677482f5849b15472f670a07ecd61f0299eba61f973fc1a4f9bf00c", func := "trammel/trammellaw06.InstrCut", spec := "instrCut", apart := false }
def InstrCutSaid : Prop := instrCutRow.holds Try.pinned (OpenSpec.ofChange instrCutSpec)

/-- ITS FALSE NEIGHBOUR: 'it returns false'. Refute it at one input. -/
def instrCutWrong : ChangeSpec := { name := "instrCut", fn := fun _ => fun
  | [d1, d2] => { results := [.lit (.bool false)], args := [d1, d2] }
  | _ => none }
def InstrCutWrongFalsely : Prop := instrCutRow.holds Try.pinned (OpenSpec.ofChange instrCutWrong)

/-- 'trammellaw06.InstrNops': WHATEVER THE INPUT: true; the input reads as it did. -/
def instrNopsSpec : ChangeSpec := { name := "instrNops", fn := fun _ => fun
  | [d1, d2] => { results := [.lit (.bool true)], args := [d1, d2] }
  | _ => none }
def instrNopsRow : OpenClaim := { program := "ytmfjapphmmlppaa", sum := "38acee749677482f5849b15472f670a07ecd61f0299eba61f973fc1a4f9bf00c", func := "trammel/trammellaw06.InstrNops", spec := "instrNops", unfollowed := true, recurses := true, apart := false }
def InstrNopsSaid : Prop := instrNopsRow.holds Try.pinned (OpenSpec.ofChange instrNopsSpec)

/-- ITS FALSE NEIGHBOUR: 'it returns false'. Refute it at one input. -/
def instrNopsWrong : ChangeSpec := { name := "instrNops", fn := fun _ => fun
  | [d1, d2] => { results := [.lit (.bool false)], args := [d1, d2] }
  | _ => none }
def InstrNopsWrongFalsely : Prop := instrNopsRow.holds Try.pinned (OpenSpec.ofChange instrNopsWrong)

/-- 'trammellaw06.InstrPuts': WHATEVER THE INPUT: true; the input reads as it did. -/
def instrPutsSpec : ChangeSpec := { name := "instrPuts", fn := fun _ => fun
  | [d1, d2, d3] => { results := [.lit (.bool true)], args := [d1, d2, d3] }
  | _ => none }
def instrPutsRow : OpenClaim := { program := "ytmfjapphmmlppaa", sum := "38acee749677482f5849b15472f670a07ecd61f0299eba61f973fc1a4f9bf00c", func := "trammel/trammellaw06.InstrPuts", spec := "instrPuts", unfollowed := true, recurses := true, apart := false }
def InstrPutsSaid : Prop := instrPutsRow.holds Try.pinned (OpenSpec.ofChange instrPutsSpec)

/-- ITS FALSE NEIGHBOUR: 'it returns false'. Refute it at one input. -/
def instrPutsWrong : ChangeSpec := { name := "instrPuts", fn := fun _ => fun
  | [d1, d2, d3] => { results := [.lit (.bool false)], args := [d1, d2, d3] }
  | _ => none }
def InstrPutsWrongFalsely : Prop := instrPutsRow.holds Try.pinned (OpenSpec.ofChange instrPutsWrong)

/-- 'trammellaw06.InstrBack': WHATEVER THE INPUT: true; the input reads as it did. -/
def instrBackSpec : ChangeSpec := { name := "instrBack", fn := fun _ => fun
  | [d1, d2, d3] => { results := [.lit (.bool true)], args := [d1, d2, d3] }
  | _ => none }
def instrBackRow : OpenClaim := { program := "ytmfjapphmmlppaa", sum := "38acee749677482f5849b15472f670a07ecd61f0299eba61f973fc1a4f9bf00c", func := "trammel/trammellaw06.InstrBack", spec := "instrBack", unfollowed := true, recurses := true, apart := false }
def InstrBackSaid : Prop := instrBackRow.holds Try.pinned (OpenSpec.ofChange instrBackSpec)

/-- ITS FALSE NEIGHBOUR: 'it returns false'. Refute it at one input. -/
def instrBackWrong : ChangeSpec := { name := "instrBack", fn := fun _ => fun
  | [d1, d2, d3] => { results := [.lit (.bool false)], args := [d1, d2, d3] }
  | _ => none }
def InstrBackWrongFalsely : Prop := instrBackRow.holds Try.pinned (OpenSpec.ofChange instrBackWrong)

/-- 'trammellaw06.InstrTaken': WHATEVER THE INPUT: true; the input reads as it did. -/
def instrTakenSpec : ChangeSpec := { name := "instrTaken", fn := fun _ => fun
  | [d] => { results := [.lit (.bool true)], args := [d] }
  | _ => none }
def instrTakenRow : OpenClaim := { program := "ytmfjapphmmlppaa", sum := "38acee749677482f5849b15472f670a07ecd61f0299eba61f973fc1a4f9bf00c", func := "trammel/trammellaw06.InstrTaken", spec := "instrTaken", unfollowed := true, recurses := true, apart := false }
def InstrTakenSaid : Prop := instrTakenRow.holds Try.pinned (OpenSpec.ofChange instrTakenSpec)

/-- ITS FALSE NEIGHBOUR: 'it returns false'. Refute it at one input. -/
def instrTakenWrong : ChangeSpec := { name := "instrTaken", fn := fun _ => fun
  | [d] => { results := [.lit (.bool false)], args := [d] }
  | _ => none }
def InstrTakenWrongFalsely : Prop := instrTakenRow.holds Try.pinned (OpenSpec.ofChange instrTakenWrong)

/- THE SECOND FORM. 'bulk': how many values and letters a reading holds, each counted each time it is reached (what is shared counts as often as it is met; a slice's spare places count too). A statement '..UptoSaid' is the law's where the arguments, and the package variables that the reading takes, are together of bulk at most 1048576: NARROWER than '..Said'. Prove '..Said' where nothing that the law and all that it calls make is longer than what came in: it says more and counts as full. Else prove '..UptoSaid'. A law counts once. -/
mutual
def uptoBulk {H : Type} : DataW H → Nat
  | .lit (.string bytes) => bytes.length + 1
  | .lit _ => 1
  | .nil => 1
  | .ptr d => uptoBulk d + 1
  | .slice elems spare => uptoBulkAll elems + uptoBulkAll spare + 1
  | .agg parts => uptoBulkAll parts + 1
  | .iface _ d => uptoBulk d + 1
  | .map entries => uptoBulkEntries entries + 1
  | .held _ => 1
def uptoBulkAll {H : Type} : List (DataW H) → Nat
  | [] => 0
  | d :: r => uptoBulk d + uptoBulkAll r
def uptoBulkEntries {H : Type} : List (Lit × DataW H) → Nat
  | [] => 0
  | x :: r => uptoBulkEntry x + uptoBulkEntries r
def uptoBulkEntry {H : Type} : Lit × DataW H → Nat
  | (.string bytes, d) => bytes.length + uptoBulk d + 1
  | (_, d) => uptoBulk d + 1
 end
def uptoSmall : (H : Type) → List (DataW H) → Bool := fun _ ds => decide (uptoBulkAll ds ≤ 1048576)
def OpenSpec.upto (s : _root_.Go.ChangeSpec) : _root_.Go.OpenSpec := { _root_.Go.OpenSpec.ofChange s with cond := some uptoSmall }

/-- 'trammellaw06.InstrCut', WHERE WHAT IT READS IS OF BULK AT MOST 1048576: true; the input reads as it did. -/
def instrCutUptoRow : OpenClaim := { program := "ytmfjapphmmlppaa", sum := "38acee749677482f5849b15472f670a07ecd61f0299eba61f973fc1a4f9bf00c", func := "trammel/trammellaw06.InstrCut", spec := "instrCut", apart := false, narrowed := true }
def InstrCutUptoSaid : Prop := instrCutUptoRow.holds Try.pinned (OpenSpec.upto instrCutSpec)

/-- 'trammellaw06.InstrNops', WHERE WHAT IT READS IS OF BULK AT MOST 1048576: true; the input reads as it did. -/
def instrNopsUptoRow : OpenClaim := { program := "ytmfjapphmmlppaa", sum := "38acee749677482f5849b15472f670a07ecd61f0299eba61f973fc1a4f9bf00c", func := "trammel/trammellaw06.InstrNops", spec := "instrNops", unfollowed := true, recurses := true, apart := false, narrowed := true }
def InstrNopsUptoSaid : Prop := instrNopsUptoRow.holds Try.pinned (OpenSpec.upto instrNopsSpec)

/-- 'trammellaw06.InstrPuts', WHERE WHAT IT READS IS OF BULK AT MOST 1048576: true; the input reads as it did. -/
def instrPutsUptoRow : OpenClaim := { program := "ytmfjapphmmlppaa", sum := "38acee749677482f5849b15472f670a07ecd61f0299eba61f973fc1a4f9bf00c", func := "trammel/trammellaw06.InstrPuts", spec := "instrPuts", unfollowed := true, recurses := true, apart := false, narrowed := true }
def InstrPutsUptoSaid : Prop := instrPutsUptoRow.holds Try.pinned (OpenSpec.upto instrPutsSpec)

/-- 'trammellaw06.InstrBack', WHERE WHAT IT READS IS OF BULK AT MOST 1048576: true; the input reads as it did. -/
def instrBackUptoRow : OpenClaim := { program := "ytmfjapphmmlppaa", sum := "38acee749677482f5849b15472f670a07ecd61f0299eba61f973fc1a4f9bf00c", func := "trammel/trammellaw06.InstrBack", spec := "instrBack", unfollowed := true, recurses := true, apart := false, narrowed := true }
def InstrBackUptoSaid : Prop := instrBackUptoRow.holds Try.pinned (OpenSpec.upto instrBackSpec)

/-- 'trammellaw06.InstrTaken', WHERE WHAT IT READS IS OF BULK AT MOST 1048576: true; the input reads as it did. -/
def instrTakenUptoRow : OpenClaim := { program := "ytmfjapphmmlppaa", sum := "38acee749677482f5849b15472f670a07ecd61f0299eba61f973fc1a4f9bf00c", func := "trammel/trammellaw06.InstrTaken", spec := "instrTaken", unfollowed := true, recurses := true, apart := false, narrowed := true }
def InstrTakenUptoSaid : Prop := instrTakenUptoRow.holds Try.pinned (OpenSpec.upto instrTakenSpec)

end Rows
end Go.Proofs.Ytmfjapphmmlppaa
