/-
  The tree of function 7 of InstLays, in parts.
-/
import Derived.Test.YtambhhochajgnaaXInstLaysHead
namespace Go.Proofs.Ytambhhochajgnaa.XInstLays
open Go.Proofs.Ytambhhochajgnaa.Vx
set_option maxRecDepth 100000
theorem x7_6 : (sub (sub (sub (sub (sub X7 0) 0) 0) 0) 0) = c7_6 := by kernel_rfl
theorem x7_8 : (sub (sub (sub (sub (sub (sub X7 0) 0) 0) 0) 1) 0) = c7_8 := by kernel_rfl
end Go.Proofs.Ytambhhochajgnaa.XInstLays
