/-
  What the parameters of LowGrows tell of their cells, kind by kind; the one plain statement that the row asks for. Written by a program of this session (myrow.py).
-/
import Derived.Test.YtfhmhoefeokihaaDoorPLowGrowsx
import Derived.Test.YtfhmhoefeokihaaDoorOpens
namespace Go.Proofs.YtfhmhoefeokihaaDoor.TLowGrows
open Go.RowKit Go.Proofs.YtfhmhoefeokihaaDoor.PLowGrows Go.Proofs.YtfhmhoefeokihaaDoorW.PrintWords Go.Proofs.YtfhmhoefeokihaaDoorW.PrintLast Go.Proofs.YtfhmhoefeokihaaDoorW.PrintMore Go.Proofs.YtfhmhoefeokihaaDoor.Opens
set_option linter.unusedVariables false
def Pure : Prop := ∀ (a0 : Int) (a1 : Int) (a2 : Int) (a3 : Int) (a4 : Int) (a5 : Bool), (Lit.int .u64 a0).wf = true → (Lit.int .u64 a1).wf = true → (Lit.int .u8 a2).wf = true → (Lit.int .u8 a3).wf = true → (Lit.int .u8 a4).wf = true → ∃ k, trammellaw17_LowGrows.f k a0 a1 a2 a3 a4 a5 = some true
end Go.Proofs.YtfhmhoefeokihaaDoor.TLowGrows
