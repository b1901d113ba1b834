/-
  What the parameters of TransLoads tell of their cells, kind by kind; the one plain statement that the row asks for. Written by a program of this session (myrow.py).
-/
import Derived.Test.YtlnikilodakjmaaDoorPTransLoadsx
import Derived.Test.YtlnikilodakjmaaDoorOpens
namespace Go.Proofs.YtlnikilodakjmaaDoor.TTransLoads
open Go.RowKit Go.Proofs.YtlnikilodakjmaaDoor.PTransLoads Go.Proofs.YtlnikilodakjmaaDoorW.PrintWords Go.Proofs.YtlnikilodakjmaaDoorW.PrintLast Go.Proofs.YtlnikilodakjmaaDoorW.PrintMore Go.Proofs.YtlnikilodakjmaaDoor.Opens
set_option linter.unusedVariables false
def Pure : Prop := ∀ (a0 : Int) (l1 : List Int), (Lit.int .i64 a0).wf = true → l1.length ≤ maxLen → (∀ y ∈ l1, (Lit.int .u8 y).wf = true) → ∃ k, trammellaw19_TransLoads.f k a0 l1 = some true
end Go.Proofs.YtlnikilodakjmaaDoor.TTransLoads
