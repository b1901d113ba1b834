/-
  The tree of function 7 of InstLays, in parts.
-/
import Derived.Test.YtambhhochajgnaaXInstLaysHead
namespace Go.Proofs.Ytambhhochajgnaa.XInstLays
open Go.Proofs.Ytambhhochajgnaa.Vx
set_option maxRecDepth 100000
theorem x7_81 : (sub (sub (sub (sub (sub (sub (sub (sub X7 1) 1) 1) 1) 0) 1) 1) 0) = c7_81 := by kernel_rfl
theorem x7_82 : (sub (sub (sub (sub (sub (sub (sub (sub X7 1) 1) 1) 1) 0) 1) 1) 1) = c7_82 := by kernel_rfl
end Go.Proofs.Ytambhhochajgnaa.XInstLays
