/-
  NARROWER THAN 'FOR EVERY INPUT', by the rows' own cells (each row's printed sentence says how): TransLimit: laid · TransTruth: laid · TransTraps: laid · TransLoads: laid · TransConst: laid · TransSound: laid · TransTight: laid.
  DERIVED. THE GIVEN ROWS OF THIS SEAT. 7 by the template 'for every input the law returns true; each argument reads behind the call as it read before'; 0 by the template 'total and deterministic' (their statements: YtlnikilodakjmaaDoorTotals.lean).
  GIVEN WITH THE SEED: the statements are not yours to turn. If you find one false, say at which input.
  Laid BY PROGRAM, IN A SANDBOX (cutbox-rows.mjs): the forced cells as the released guide's own fill.sh prints them over the translation 660eb500aefde7cc… (all of the seat's roots in one cut). By AI agents, Wed Nov 11 2026. No macro, syntax, notation, axiom, sorry.
-/
import Derived.Test.YtlnikilodakjmaaDoorChecked
import GoSem.Claim
import GoSem.ClaimJoined
import GoSem.ClaimMapViews
import Derived.JoinedTies
import Derived.KernelRfl
namespace Go.Proofs.YtlnikilodakjmaaDoor
/- THE CELL 'sum', in the pinned program and in every row, IS THE sha256 OF THE DUMP (.gsa) THAT YtlnikilodakjmaaDoorProg.lean LOADS. Nothing in Lean hashes anything: it is a label: what it is worth is what the hold of that sum in a sandbox is worth. -/
noncomputable def Tryd.pinned : Pinned := { name := "ytlnikilodakjmaadoor", sum := "660eb500aefde7ccdf9f0345f006403e75150313becdf79830fb357ee7b03880", checked := Tryd.checked }
namespace Rows
def none {H : Type} : Left H := { results := [], args := [] }

/- WHAT THE LISTED PACKAGE-LEVEL VARIABLES READ AS WHEN THE CALL BEGINS. Each datum BY PROGRAM (the guide's laid-datum.mjs) off the statement by which the dump's own 'gosem.cut.vars' lays the variable. In a bare row this is a premise. The card (YtlnikilodakjmaaDoorCards.lean) ties it to the program's text. -/
def laid_math_bits_deBruijn64tab {H : Type} : DataW H := .agg [.lit (.int .u8 0), .lit (.int .u8 1), .lit (.int .u8 56), .lit (.int .u8 2), .lit (.int .u8 57), .lit (.int .u8 49), .lit (.int .u8 28), .lit (.int .u8 3), .lit (.int .u8 61), .lit (.int .u8 58), .lit (.int .u8 42), .lit (.int .u8 50), .lit (.int .u8 38), .lit (.int .u8 29), .lit (.int .u8 17), .lit (.int .u8 4), .lit (.int .u8 62), .lit (.int .u8 47), .lit (.int .u8 59), .lit (.int .u8 36), .lit (.int .u8 45), .lit (.int .u8 43), .lit (.int .u8 51), .lit (.int .u8 22), .lit (.int .u8 53), .lit (.int .u8 39), .lit (.int .u8 33), .lit (.int .u8 30), .lit (.int .u8 24), .lit (.int .u8 18), .lit (.int .u8 12), .lit (.int .u8 5), .lit (.int .u8 63), .lit (.int .u8 55), .lit (.int .u8 48), .lit (.int .u8 27), .lit (.int .u8 60), .lit (.int .u8 41), .lit (.int .u8 37), .lit (.int .u8 16), .lit (.int .u8 46), .lit (.int .u8 35), .lit (.int .u8 44), .lit (.int .u8 21), .lit (.int .u8 52), .lit (.int .u8 32), .lit (.int .u8 23), .lit (.int .u8 11), .lit (.int .u8 54), .lit (.int .u8 26), .lit (.int .u8 40), .lit (.int .u8 15), .lit (.int .u8 34), .lit (.int .u8 20), .lit (.int .u8 31), .lit (.int .u8 10), .lit (.int .u8 25), .lit (.int .u8 14), .lit (.int .u8 19), .lit (.int .u8 9), .lit (.int .u8 13), .lit (.int .u8 8), .lit (.int .u8 7), .lit (.int .u8 6)]
def laid_math_bits_deBruijn32tab {H : Type} : DataW H := .agg [.lit (.int .u8 0), .lit (.int .u8 1), .lit (.int .u8 28), .lit (.int .u8 2), .lit (.int .u8 29), .lit (.int .u8 14), .lit (.int .u8 24), .lit (.int .u8 3), .lit (.int .u8 30), .lit (.int .u8 22), .lit (.int .u8 20), .lit (.int .u8 15), .lit (.int .u8 25), .lit (.int .u8 17), .lit (.int .u8 4), .lit (.int .u8 8), .lit (.int .u8 31), .lit (.int .u8 27), .lit (.int .u8 13), .lit (.int .u8 23), .lit (.int .u8 21), .lit (.int .u8 19), .lit (.int .u8 16), .lit (.int .u8 7), .lit (.int .u8 26), .lit (.int .u8 12), .lit (.int .u8 18), .lit (.int .u8 6), .lit (.int .u8 11), .lit (.int .u8 5), .lit (.int .u8 10), .lit (.int .u8 9)]

/-- 'trammellaw19.TransLimit': WHATEVER THE INPUT: true; the input reads as it did. -/
def transLimitSpec : ChangeSpec := { name := "transLimit", fn := fun _ => fun
  | [d1, d2, d3, d4, d5] => { results := [.lit (.bool true)], args := [d1, d2, d3, d4, d5] }
  | _ => none }
def transLimitRow : OpenClaim := { program := "ytlnikilodakjmaadoor", sum := "660eb500aefde7ccdf9f0345f006403e75150313becdf79830fb357ee7b03880", func := "trammel/trammellaw19.TransLimit", spec := "transLimit", inPlace := ["math/bits.Add64"], named := ["math/bits.deBruijn64tab"], apart := false, laid := [("math/bits.deBruijn64tab", laid_math_bits_deBruijn64tab)] }
def TransLimitSaid : Prop := transLimitRow.holds Tryd.pinned (OpenSpec.ofChange transLimitSpec)

/-- ITS FALSE NEIGHBOUR: 'it returns false'. Refute it at one input. -/
def transLimitWrong : ChangeSpec := { name := "transLimit", fn := fun _ => fun
  | [d1, d2, d3, d4, d5] => { results := [.lit (.bool false)], args := [d1, d2, d3, d4, d5] }
  | _ => none }
def TransLimitWrongFalsely : Prop := transLimitRow.holds Tryd.pinned (OpenSpec.ofChange transLimitWrong)

/-- 'trammellaw19.TransTruth': WHATEVER THE INPUT: true; the input reads as it did. -/
def transTruthSpec : ChangeSpec := { name := "transTruth", fn := fun _ => fun
  | [d1, d2] => { results := [.lit (.bool true)], args := [d1, d2] }
  | _ => none }
def transTruthRow : OpenClaim := { program := "ytlnikilodakjmaadoor", sum := "660eb500aefde7ccdf9f0345f006403e75150313becdf79830fb357ee7b03880", func := "trammel/trammellaw19.TransTruth", spec := "transTruth", inPlace := ["math/bits.Add64"], named := ["math/bits.deBruijn64tab"], apart := false, laid := [("math/bits.deBruijn64tab", laid_math_bits_deBruijn64tab)] }
def TransTruthSaid : Prop := transTruthRow.holds Tryd.pinned (OpenSpec.ofChange transTruthSpec)

/-- ITS FALSE NEIGHBOUR: 'it returns false'. Refute it at one input. -/
def transTruthWrong : ChangeSpec := { name := "transTruth", fn := fun _ => fun
  | [d1, d2] => { results := [.lit (.bool false)], args := [d1, d2] }
  | _ => none }
def TransTruthWrongFalsely : Prop := transTruthRow.holds Tryd.pinned (OpenSpec.ofChange transTruthWrong)

/-- 'trammellaw19.TransTraps': WHATEVER THE INPUT: true; the input reads as it did. -/
def transTrapsSpec : ChangeSpec := { name := "transTraps", fn := fun _ => fun
  | [d1, d2, d3, d4, d5] => { results := [.lit (.bool true)], args := [d1, d2, d3, d4, d5] }
  | _ => none }
def transTrapsRow : OpenClaim := { program := "ytlnikilodakjmaadoor", sum := "660eb500aefde7ccdf9f0345f006403e75150313becdf79830fb357ee7b03880", func := "trammel/trammellaw19.TransTraps", spec := "transTraps", inPlace := ["math/bits.Add64"], named := ["math/bits.deBruijn64tab"], apart := false, laid := [("math/bits.deBruijn64tab", laid_math_bits_deBruijn64tab)] }
def TransTrapsSaid : Prop := transTrapsRow.holds Tryd.pinned (OpenSpec.ofChange transTrapsSpec)

/-- ITS FALSE NEIGHBOUR: 'it returns false'. Refute it at one input. -/
def transTrapsWrong : ChangeSpec := { name := "transTraps", fn := fun _ => fun
  | [d1, d2, d3, d4, d5] => { results := [.lit (.bool false)], args := [d1, d2, d3, d4, d5] }
  | _ => none }
def TransTrapsWrongFalsely : Prop := transTrapsRow.holds Tryd.pinned (OpenSpec.ofChange transTrapsWrong)

/-- 'trammellaw19.TransLoads': WHATEVER THE INPUT: true; the input reads as it did. -/
def transLoadsSpec : ChangeSpec := { name := "transLoads", fn := fun _ => fun
  | [d1, d2] => { results := [.lit (.bool true)], args := [d1, d2] }
  | _ => none }
def transLoadsRow : OpenClaim := { program := "ytlnikilodakjmaadoor", sum := "660eb500aefde7ccdf9f0345f006403e75150313becdf79830fb357ee7b03880", func := "trammel/trammellaw19.TransLoads", spec := "transLoads", inPlace := ["math/bits.Add64"], named := ["math/bits.deBruijn64tab"], apart := false, laid := [("math/bits.deBruijn64tab", laid_math_bits_deBruijn64tab)] }
def TransLoadsSaid : Prop := transLoadsRow.holds Tryd.pinned (OpenSpec.ofChange transLoadsSpec)

/-- ITS FALSE NEIGHBOUR: 'it returns false'. Refute it at one input. -/
def transLoadsWrong : ChangeSpec := { name := "transLoads", fn := fun _ => fun
  | [d1, d2] => { results := [.lit (.bool false)], args := [d1, d2] }
  | _ => none }
def TransLoadsWrongFalsely : Prop := transLoadsRow.holds Tryd.pinned (OpenSpec.ofChange transLoadsWrong)

/-- 'trammellaw19.TransConst': WHATEVER THE INPUT: true; the input reads as it did. -/
def transConstSpec : ChangeSpec := { name := "transConst", fn := fun _ => fun
  | [d1, d2, d3] => { results := [.lit (.bool true)], args := [d1, d2, d3] }
  | _ => none }
def transConstRow : OpenClaim := { program := "ytlnikilodakjmaadoor", sum := "660eb500aefde7ccdf9f0345f006403e75150313becdf79830fb357ee7b03880", func := "trammel/trammellaw19.TransConst", spec := "transConst", inPlace := ["math/bits.Add64"], named := ["math/bits.deBruijn64tab", "math/bits.deBruijn32tab"], apart := false, laid := [("math/bits.deBruijn32tab", laid_math_bits_deBruijn32tab), ("math/bits.deBruijn64tab", laid_math_bits_deBruijn64tab)] }
def TransConstSaid : Prop := transConstRow.holds Tryd.pinned (OpenSpec.ofChange transConstSpec)

/-- ITS FALSE NEIGHBOUR: 'it returns false'. Refute it at one input. -/
def transConstWrong : ChangeSpec := { name := "transConst", fn := fun _ => fun
  | [d1, d2, d3] => { results := [.lit (.bool false)], args := [d1, d2, d3] }
  | _ => none }
def TransConstWrongFalsely : Prop := transConstRow.holds Tryd.pinned (OpenSpec.ofChange transConstWrong)

/-- 'trammellaw19.TransSound': WHATEVER THE INPUT: true; the input reads as it did. -/
def transSoundSpec : ChangeSpec := { name := "transSound", fn := fun _ => fun
  | [d1, d2, d3, d4, d5] => { results := [.lit (.bool true)], args := [d1, d2, d3, d4, d5] }
  | _ => none }
def transSoundRow : OpenClaim := { program := "ytlnikilodakjmaadoor", sum := "660eb500aefde7ccdf9f0345f006403e75150313becdf79830fb357ee7b03880", func := "trammel/trammellaw19.TransSound", spec := "transSound", inPlace := ["math/bits.Add64"], named := ["math/bits.deBruijn64tab", "math/bits.deBruijn32tab"], apart := false, laid := [("math/bits.deBruijn32tab", laid_math_bits_deBruijn32tab), ("math/bits.deBruijn64tab", laid_math_bits_deBruijn64tab)] }
def TransSoundSaid : Prop := transSoundRow.holds Tryd.pinned (OpenSpec.ofChange transSoundSpec)

/-- ITS FALSE NEIGHBOUR: 'it returns false'. Refute it at one input. -/
def transSoundWrong : ChangeSpec := { name := "transSound", fn := fun _ => fun
  | [d1, d2, d3, d4, d5] => { results := [.lit (.bool false)], args := [d1, d2, d3, d4, d5] }
  | _ => none }
def TransSoundWrongFalsely : Prop := transSoundRow.holds Tryd.pinned (OpenSpec.ofChange transSoundWrong)

/-- 'trammellaw19.TransTight': WHATEVER THE INPUT: true; the input reads as it did. -/
def transTightSpec : ChangeSpec := { name := "transTight", fn := fun _ => fun
  | [d1, d2, d3] => { results := [.lit (.bool true)], args := [d1, d2, d3] }
  | _ => none }
def transTightRow : OpenClaim := { program := "ytlnikilodakjmaadoor", sum := "660eb500aefde7ccdf9f0345f006403e75150313becdf79830fb357ee7b03880", func := "trammel/trammellaw19.TransTight", spec := "transTight", inPlace := ["math/bits.Add64"], named := ["math/bits.deBruijn64tab", "math/bits.deBruijn32tab"], apart := false, laid := [("math/bits.deBruijn32tab", laid_math_bits_deBruijn32tab), ("math/bits.deBruijn64tab", laid_math_bits_deBruijn64tab)] }
def TransTightSaid : Prop := transTightRow.holds Tryd.pinned (OpenSpec.ofChange transTightSpec)

/-- ITS FALSE NEIGHBOUR: 'it returns false'. Refute it at one input. -/
def transTightWrong : ChangeSpec := { name := "transTight", fn := fun _ => fun
  | [d1, d2, d3] => { results := [.lit (.bool false)], args := [d1, d2, d3] }
  | _ => none }
def TransTightWrongFalsely : Prop := transTightRow.holds Tryd.pinned (OpenSpec.ofChange transTightWrong)

/- THE SECOND FORM. 'bulk': how many values and letters a reading holds, each counted each time it is reached (what is shared counts as often as it is met; a slice's spare places count too). A statement '..UptoSaid' is the law's where the arguments, and the package variables that the reading takes, are together of bulk at most 1048576: NARROWER than '..Said'. Prove '..Said' where nothing that the law and all that it calls make is longer than what came in: it says more and counts as full. Else prove '..UptoSaid'. A law counts once. -/
mutual
def uptoBulk {H : Type} : DataW H → Nat
  | .lit (.string bytes) => bytes.length + 1
  | .lit _ => 1
  | .nil => 1
  | .ptr d => uptoBulk d + 1
  | .slice elems spare => uptoBulkAll elems + uptoBulkAll spare + 1
  | .agg parts => uptoBulkAll parts + 1
  | .iface _ d => uptoBulk d + 1
  | .map entries => uptoBulkEntries entries + 1
  | .held _ => 1
def uptoBulkAll {H : Type} : List (DataW H) → Nat
  | [] => 0
  | d :: r => uptoBulk d + uptoBulkAll r
def uptoBulkEntries {H : Type} : List (Lit × DataW H) → Nat
  | [] => 0
  | x :: r => uptoBulkEntry x + uptoBulkEntries r
def uptoBulkEntry {H : Type} : Lit × DataW H → Nat
  | (.string bytes, d) => bytes.length + uptoBulk d + 1
  | (_, d) => uptoBulk d + 1
 end
def uptoSmall : (H : Type) → List (DataW H) → Bool := fun _ ds => decide (uptoBulkAll ds ≤ 1048576)
def OpenSpec.upto (s : _root_.Go.ChangeSpec) : _root_.Go.OpenSpec := { _root_.Go.OpenSpec.ofChange s with cond := some uptoSmall }

/-- 'trammellaw19.TransLimit', WHERE WHAT IT READS IS OF BULK AT MOST 1048576: true; the input reads as it did. -/
def transLimitUptoRow : OpenClaim := { program := "ytlnikilodakjmaadoor", sum := "660eb500aefde7ccdf9f0345f006403e75150313becdf79830fb357ee7b03880", func := "trammel/trammellaw19.TransLimit", spec := "transLimit", inPlace := ["math/bits.Add64"], named := ["math/bits.deBruijn64tab"], apart := false, laid := [("math/bits.deBruijn64tab", laid_math_bits_deBruijn64tab)], narrowed := true }
def TransLimitUptoSaid : Prop := transLimitUptoRow.holds Tryd.pinned (OpenSpec.upto transLimitSpec)

/-- 'trammellaw19.TransTruth', WHERE WHAT IT READS IS OF BULK AT MOST 1048576: true; the input reads as it did. -/
def transTruthUptoRow : OpenClaim := { program := "ytlnikilodakjmaadoor", sum := "660eb500aefde7ccdf9f0345f006403e75150313becdf79830fb357ee7b03880", func := "trammel/trammellaw19.TransTruth", spec := "transTruth", inPlace := ["math/bits.Add64"], named := ["math/bits.deBruijn64tab"], apart := false, laid := [("math/bits.deBruijn64tab", laid_math_bits_deBruijn64tab)], narrowed := true }
def TransTruthUptoSaid : Prop := transTruthUptoRow.holds Tryd.pinned (OpenSpec.upto transTruthSpec)

/-- 'trammellaw19.TransTraps', WHERE WHAT IT READS IS OF BULK AT MOST 1048576: true; the input reads as it did. -/
def transTrapsUptoRow : OpenClaim := { program := "ytlnikilodakjmaadoor", sum := "660eb500aefde7ccdf9f0345f006403e75150313becdf79830fb357ee7b03880", func := "trammel/trammellaw19.TransTraps", spec := "transTraps", inPlace := ["math/bits.Add64"], named := ["math/bits.deBruijn64tab"], apart := false, laid := [("math/bits.deBruijn64tab", laid_math_bits_deBruijn64tab)], narrowed := true }
def TransTrapsUptoSaid : Prop := transTrapsUptoRow.holds Tryd.pinned (OpenSpec.upto transTrapsSpec)

/-- 'trammellaw19.TransLoads', WHERE WHAT IT READS IS OF BULK AT MOST 1048576: true; the input reads as it did. -/
def transLoadsUptoRow : OpenClaim := { program := "ytlnikilodakjmaadoor", sum := "660eb500aefde7ccdf9f0345f006403e75150313becdf79830fb357ee7b03880", func := "trammel/trammellaw19.TransLoads", spec := "transLoads", inPlace := ["math/bits.Add64"], named := ["math/bits.deBruijn64tab"], apart := false, laid := [("math/bits.deBruijn64tab", laid_math_bits_deBruijn64tab)], narrowed := true }
def TransLoadsUptoSaid : Prop := transLoadsUptoRow.holds Tryd.pinned (OpenSpec.upto transLoadsSpec)

/-- 'trammellaw19.TransConst', WHERE WHAT IT READS IS OF BULK AT MOST 1048576: true; the input reads as it did. -/
def transConstUptoRow : OpenClaim := { program := "ytlnikilodakjmaadoor", sum := "660eb500aefde7ccdf9f0345f006403e75150313becdf79830fb357ee7b03880", func := "trammel/trammellaw19.TransConst", spec := "transConst", inPlace := ["math/bits.Add64"], named := ["math/bits.deBruijn64tab", "math/bits.deBruijn32tab"], apart := false, laid := [("math/bits.deBruijn32tab", laid_math_bits_deBruijn32tab), ("math/bits.deBruijn64tab", laid_math_bits_deBruijn64tab)], narrowed := true }
def TransConstUptoSaid : Prop := transConstUptoRow.holds Tryd.pinned (OpenSpec.upto transConstSpec)

/-- 'trammellaw19.TransSound', WHERE WHAT IT READS IS OF BULK AT MOST 1048576: true; the input reads as it did. -/
def transSoundUptoRow : OpenClaim := { program := "ytlnikilodakjmaadoor", sum := "660eb500aefde7ccdf9f0345f006403e75150313becdf79830fb357ee7b03880", func := "trammel/trammellaw19.TransSound", spec := "transSound", inPlace := ["math/bits.Add64"], named := ["math/bits.deBruijn64tab", "math/bits.deBruijn32tab"], apart := false, laid := [("math/bits.deBruijn32tab", laid_math_bits_deBruijn32tab), ("math/bits.deBruijn64tab", laid_math_bits_deBruijn64tab)], narrowed := true }
def TransSoundUptoSaid : Prop := transSoundUptoRow.holds Tryd.pinned (OpenSpec.upto transSoundSpec)

/-- 'trammellaw19.TransTight', WHERE WHAT IT READS IS OF BULK AT MOST 1048576: true; the input reads as it did. -/
def transTightUptoRow : OpenClaim := { program := "ytlnikilodakjmaadoor", sum := "660eb500aefde7ccdf9f0345f006403e75150313becdf79830fb357ee7b03880", func := "trammel/trammellaw19.TransTight", spec := "transTight", inPlace := ["math/bits.Add64"], named := ["math/bits.deBruijn64tab", "math/bits.deBruijn32tab"], apart := false, laid := [("math/bits.deBruijn32tab", laid_math_bits_deBruijn32tab), ("math/bits.deBruijn64tab", laid_math_bits_deBruijn64tab)], narrowed := true }
def TransTightUptoSaid : Prop := transTightUptoRow.holds Tryd.pinned (OpenSpec.upto transTightSpec)

end Rows
end Go.Proofs.YtlnikilodakjmaaDoor
