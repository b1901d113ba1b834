/-
  The tree of function 7 of InstLays, in parts.
-/
import Derived.Test.YtambhhochajgnaaXInstLaysHead
namespace Go.Proofs.Ytambhhochajgnaa.XInstLays
open Go.Proofs.Ytambhhochajgnaa.Vx
set_option maxRecDepth 100000
theorem x7_49n : hd (sub (sub (sub (sub (sub (sub X7 1) 1) 0) 0) 0) 0) = (.both (Vx.T.fail 0) (Vx.T.fail 0)) := by kernel_rfl
theorem x7_48n : hd (sub (sub (sub (sub (sub X7 1) 1) 0) 0) 0) = (.call 16 [] [] [(.v 0)] 0 0 1 (Vx.T.fail 0)) := by kernel_rfl
theorem x7_54n : hd (sub (sub (sub (sub (sub (sub (sub X7 1) 1) 0) 0) 1) 0) 0) = (.both (Vx.T.fail 0) (Vx.T.fail 0)) := by kernel_rfl
theorem x7_53n : hd (sub (sub (sub (sub (sub (sub X7 1) 1) 0) 0) 1) 0) = (.lst [(.els [])] (Vx.T.fail 0)) := by kernel_rfl
theorem x7_57n : hd (sub (sub (sub (sub (sub (sub X7 1) 1) 0) 0) 1) 1) = (.both (Vx.T.fail 0) (Vx.T.fail 0)) := by kernel_rfl
theorem x7_52n : hd (sub (sub (sub (sub (sub X7 1) 1) 0) 0) 1) = (.both (Vx.T.fail 0) (Vx.T.fail 0)) := by kernel_rfl
theorem x7_47n : hd (sub (sub (sub (sub X7 1) 1) 0) 0) = (.both (Vx.T.fail 0) (Vx.T.fail 0)) := by kernel_rfl
theorem x7_46n : hd (sub (sub (sub X7 1) 1) 0) = (.lst [(.els [])] (Vx.T.fail 0)) := by kernel_rfl
theorem x7_64n : hd (sub (sub (sub (sub (sub (sub (sub X7 1) 1) 1) 0) 0) 0) 0) = (.both (Vx.T.fail 0) (Vx.T.fail 0)) := by kernel_rfl
theorem x7_63n : hd (sub (sub (sub (sub (sub (sub X7 1) 1) 1) 0) 0) 0) = (.call 16 [] [] [(.v 0)] 0 0 1 (Vx.T.fail 0)) := by kernel_rfl
theorem x7_69n : hd (sub (sub (sub (sub (sub (sub (sub (sub X7 1) 1) 1) 0) 0) 1) 0) 0) = (.both (Vx.T.fail 0) (Vx.T.fail 0)) := by kernel_rfl
theorem x7_68n : hd (sub (sub (sub (sub (sub (sub (sub X7 1) 1) 1) 0) 0) 1) 0) = (.lst [(.els [])] (Vx.T.fail 0)) := by kernel_rfl
end Go.Proofs.Ytambhhochajgnaa.XInstLays
