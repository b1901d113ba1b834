/-
  The tree of function 7 of InstLays, in parts.
-/
import Derived.Test.YtambhhochajgnaaXInstLaysHead
namespace Go.Proofs.Ytambhhochajgnaa.XInstLays
open Go.Proofs.Ytambhhochajgnaa.Vx
set_option maxRecDepth 100000
theorem x7_31n : hd (sub (sub (sub (sub (sub (sub (sub X7 1) 0) 0) 0) 0) 1) 1) = (.both (Vx.T.fail 0) (Vx.T.fail 0)) := by kernel_rfl
theorem x7_29n : hd (sub (sub (sub (sub (sub (sub X7 1) 0) 0) 0) 0) 1) = (.both (Vx.T.fail 0) (Vx.T.fail 0)) := by kernel_rfl
theorem x7_27n : hd (sub (sub (sub (sub (sub X7 1) 0) 0) 0) 0) = (.both (Vx.T.fail 0) (Vx.T.fail 0)) := by kernel_rfl
theorem x7_26n : hd (sub (sub (sub (sub X7 1) 0) 0) 0) = (.call 16 [] [] [(.v 0)] 0 0 1 (Vx.T.fail 0)) := by kernel_rfl
theorem x7_36n : hd (sub (sub (sub (sub (sub (sub X7 1) 0) 0) 1) 0) 0) = (.both (Vx.T.fail 0) (Vx.T.fail 0)) := by kernel_rfl
theorem x7_35n : hd (sub (sub (sub (sub (sub X7 1) 0) 0) 1) 0) = (.lst [(.els [])] (Vx.T.fail 0)) := by kernel_rfl
theorem x7_41n : hd (sub (sub (sub (sub (sub (sub (sub X7 1) 0) 0) 1) 1) 0) 0) = (.both (Vx.T.fail 0) (Vx.T.fail 0)) := by kernel_rfl
theorem x7_40n : hd (sub (sub (sub (sub (sub (sub X7 1) 0) 0) 1) 1) 0) = (.lst [(.els [])] (Vx.T.fail 0)) := by kernel_rfl
theorem x7_39n : hd (sub (sub (sub (sub (sub X7 1) 0) 0) 1) 1) = (.both (Vx.T.fail 0) (Vx.T.fail 0)) := by kernel_rfl
theorem x7_34n : hd (sub (sub (sub (sub X7 1) 0) 0) 1) = (.both (Vx.T.fail 0) (Vx.T.fail 0)) := by kernel_rfl
theorem x7_25n : hd (sub (sub (sub X7 1) 0) 0) = (.both (Vx.T.fail 0) (Vx.T.fail 0)) := by kernel_rfl
theorem x7_24n : hd (sub (sub X7 1) 0) = (.lst [(.els [])] (Vx.T.fail 0)) := by kernel_rfl
end Go.Proofs.Ytambhhochajgnaa.XInstLays
