/-
  The tree of function 7 of InstLays, in parts.
-/
import Derived.Test.YtambhhochajgnaaXInstLaysHead
namespace Go.Proofs.Ytambhhochajgnaa.XInstLays
open Go.Proofs.Ytambhhochajgnaa.Vx
set_option maxRecDepth 100000
theorem x7_72n : hd (sub (sub (sub (sub (sub (sub (sub X7 1) 1) 1) 0) 0) 1) 1) = (.both (Vx.T.fail 0) (Vx.T.fail 0)) := by kernel_rfl
theorem x7_67n : hd (sub (sub (sub (sub (sub (sub X7 1) 1) 1) 0) 0) 1) = (.both (Vx.T.fail 0) (Vx.T.fail 0)) := by kernel_rfl
theorem x7_62n : hd (sub (sub (sub (sub (sub X7 1) 1) 1) 0) 0) = (.both (Vx.T.fail 0) (Vx.T.fail 0)) := by kernel_rfl
theorem x7_61n : hd (sub (sub (sub (sub X7 1) 1) 1) 0) = (.lst [(.els [])] (Vx.T.fail 0)) := by kernel_rfl
theorem x7_80n : hd (sub (sub (sub (sub (sub (sub (sub X7 1) 1) 1) 1) 0) 1) 1) = (.both (Vx.T.fail 0) (Vx.T.fail 0)) := by kernel_rfl
theorem x7_78n : hd (sub (sub (sub (sub (sub (sub X7 1) 1) 1) 1) 0) 1) = (.both (Vx.T.fail 0) (Vx.T.fail 0)) := by kernel_rfl
theorem x7_76n : hd (sub (sub (sub (sub (sub X7 1) 1) 1) 1) 0) = (.both (Vx.T.fail 0) (Vx.T.fail 0)) := by kernel_rfl
theorem x7_75n : hd (sub (sub (sub (sub X7 1) 1) 1) 1) = (.lst [(.els [])] (Vx.T.fail 0)) := by kernel_rfl
theorem x7_60n : hd (sub (sub (sub X7 1) 1) 1) = (.both (Vx.T.fail 0) (Vx.T.fail 0)) := by kernel_rfl
theorem x7_45n : hd (sub (sub X7 1) 1) = (.both (Vx.T.fail 0) (Vx.T.fail 0)) := by kernel_rfl
theorem x7_23n : hd (sub X7 1) = (.both (Vx.T.fail 0) (Vx.T.fail 0)) := by kernel_rfl
theorem x7_1n : hd X7 = (.both (Vx.T.fail 0) (Vx.T.fail 0)) := by kernel_rfl
end Go.Proofs.Ytambhhochajgnaa.XInstLays
