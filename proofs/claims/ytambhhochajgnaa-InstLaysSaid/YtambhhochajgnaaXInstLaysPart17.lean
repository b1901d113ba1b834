/-
  The tree of function 7 of InstLays, in parts.
-/
import Derived.Test.YtambhhochajgnaaXInstLaysHead
namespace Go.Proofs.Ytambhhochajgnaa.XInstLays
open Go.Proofs.Ytambhhochajgnaa.Vx
set_option maxRecDepth 100000
theorem x7_9n : hd (sub (sub (sub (sub (sub (sub X7 0) 0) 0) 0) 1) 1) = (.both (Vx.T.fail 0) (Vx.T.fail 0)) := by kernel_rfl
theorem x7_7n : hd (sub (sub (sub (sub (sub X7 0) 0) 0) 0) 1) = (.both (Vx.T.fail 0) (Vx.T.fail 0)) := by kernel_rfl
theorem x7_5n : hd (sub (sub (sub (sub X7 0) 0) 0) 0) = (.both (Vx.T.fail 0) (Vx.T.fail 0)) := by kernel_rfl
theorem x7_4n : hd (sub (sub (sub X7 0) 0) 0) = (.lst [(.els [])] (Vx.T.fail 0)) := by kernel_rfl
theorem x7_14n : hd (sub (sub (sub (sub (sub X7 0) 0) 1) 0) 0) = (.both (Vx.T.fail 0) (Vx.T.fail 0)) := by kernel_rfl
theorem x7_13n : hd (sub (sub (sub (sub X7 0) 0) 1) 0) = (.lst [(.els [])] (Vx.T.fail 0)) := by kernel_rfl
theorem x7_19n : hd (sub (sub (sub (sub (sub (sub X7 0) 0) 1) 1) 0) 0) = (.both (Vx.T.fail 0) (Vx.T.fail 0)) := by kernel_rfl
theorem x7_18n : hd (sub (sub (sub (sub (sub X7 0) 0) 1) 1) 0) = (.lst [(.els [])] (Vx.T.fail 0)) := by kernel_rfl
theorem x7_17n : hd (sub (sub (sub (sub X7 0) 0) 1) 1) = (.both (Vx.T.fail 0) (Vx.T.fail 0)) := by kernel_rfl
theorem x7_12n : hd (sub (sub (sub X7 0) 0) 1) = (.both (Vx.T.fail 0) (Vx.T.fail 0)) := by kernel_rfl
theorem x7_3n : hd (sub (sub X7 0) 0) = (.both (Vx.T.fail 0) (Vx.T.fail 0)) := by kernel_rfl
theorem x7_2n : hd (sub X7 0) = (.call 16 [] [] [(.v 0)] 0 0 1 (Vx.T.fail 0)) := by kernel_rfl
end Go.Proofs.Ytambhhochajgnaa.XInstLays
