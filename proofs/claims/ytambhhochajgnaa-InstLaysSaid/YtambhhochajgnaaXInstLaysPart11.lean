/-
  The tree of function 7 of InstLays, in parts.
-/
import Derived.Test.YtambhhochajgnaaXInstLaysHead
namespace Go.Proofs.Ytambhhochajgnaa.XInstLays
open Go.Proofs.Ytambhhochajgnaa.Vx
set_option maxRecDepth 100000
theorem x7_58 : (sub (sub (sub (sub (sub (sub (sub X7 1) 1) 0) 0) 1) 1) 0) = c7_58 := by kernel_rfl
theorem x7_59 : (sub (sub (sub (sub (sub (sub (sub X7 1) 1) 0) 0) 1) 1) 1) = c7_59 := by kernel_rfl
end Go.Proofs.Ytambhhochajgnaa.XInstLays
