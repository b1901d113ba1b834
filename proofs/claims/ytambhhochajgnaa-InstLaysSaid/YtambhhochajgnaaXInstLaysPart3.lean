/-
  The tree of function 7 of InstLays, in parts.
-/
import Derived.Test.YtambhhochajgnaaXInstLaysHead
namespace Go.Proofs.Ytambhhochajgnaa.XInstLays
open Go.Proofs.Ytambhhochajgnaa.Vx
set_option maxRecDepth 100000
theorem x7_20 : (sub (sub (sub (sub (sub (sub (sub X7 0) 0) 1) 1) 0) 0) 0) = c7_20 := by kernel_rfl
theorem x7_21 : (sub (sub (sub (sub (sub (sub (sub X7 0) 0) 1) 1) 0) 0) 1) = c7_21 := by kernel_rfl
end Go.Proofs.Ytambhhochajgnaa.XInstLays
