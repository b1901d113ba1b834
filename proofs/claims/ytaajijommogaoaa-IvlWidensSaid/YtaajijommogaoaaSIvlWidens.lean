/-
  What the functions of layer 16 (intervals) answer: no program in sight.
-/
import Derived.Test.YtaajijommogaoaaPIvlWidensx
import Derived.Test.YtaajijommogaoaaNums
namespace Go.Proofs.Ytaajijommogaoaa.SIvlWidens
open Go.RowKit Go.Proofs.Ytaajijommogaoaa.PIvlWidens Go.Proofs.YtaajijommogaoaaW.PrintWords Go.Proofs.YtaajijommogaoaaW.PrintLast Go.Proofs.YtaajijommogaoaaW.PrintMore Go.Proofs.Ytaajijommogaoaa.Nums
theorem mn_eq (a b : Int) : mn a b = min a b := by unfold mn; split <;> omega
theorem mx_eq (a b : Int) : mx a b = max a b := by unfold mx; split <;> omega
theorem within_eq (a b c d : Int) : ivl_Within.f a b c d = some (decide (c ≤ a ∧ b ≤ d)) := by
  unfold ivl_Within.f
  by_cases h : c ≤ a
  · rw [if_pos h]; simp [h]
  · rw [if_neg h]; simp [h]
theorem put_eq (a b : Int) : trammellaw16_put.f a b = some (min a b, max a b) := by
  unfold trammellaw16_put.f
  rw [mn_eq, mx_eq]
def top (w : Int) : Int := if w = 32 then 4294967295 else 18446744073709551615
theorem all_eq (w : Int) : ivl_All.f w = some (0, top w) := by
  unfold ivl_All.f top
  split <;> rfl
theorem top_or (w : Int) : top w = 4294967295 ∨ top w = 18446744073709551615 := by
  unfold top
  split
  · exact .inl rfl
  · exact .inr rfl
theorem widen_eq (a b c d w : Int) : ivl_Widen.f a b c d w = some (if c < a then 0 else a, if d > b then top w else b) := by
  unfold ivl_Widen.f
  simp only [all_eq, Option.bind_some]
  repeat' split
  all_goals first | rfl | omega
end Go.Proofs.Ytaajijommogaoaa.SIvlWidens
