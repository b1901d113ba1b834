/-
  What the law's awake answers.
-/
import Derived.Test.YtlnikilodakjmaaDoorXTransLoads
namespace Go.Proofs.YtlnikilodakjmaaDoor.AwTransLoads
open Go.Proofs.YtlnikilodakjmaaDoor.Sx Go.Proofs.YtlnikilodakjmaaDoor.ETransLoads Go.Proofs.YtlnikilodakjmaaDoor.XTransLoads
open Go.RowKit (Below)
theorem q10 : F10 [] [] = some ([], [true]) := by decide +kernel
theorem aw (w : World) (hT : Tabs.Tabs w) : Calls Tryd.prog 10 #[] w fun e w' => e = .returned (.bool true) ∧ Below w.heap.size w w' := by
  exact Good.calls g10 Tryd.func10 (by kernel_rfl) (by kernel_rfl) rfl q10 w hT
end Go.Proofs.YtlnikilodakjmaaDoor.AwTransLoads
