/-
  A join of two intervals is the least: whatever has both has it (of numbers alone).
-/
import Derived.Test.YtaajijommogaoaaPIvlJoinx
import Derived.Test.YtaajijommogaoaaSIvlJoin
namespace Go.Proofs.Ytaajijommogaoaa.Pure
open Go.RowKit Go.Proofs.Ytaajijommogaoaa.PIvlJoin Go.Proofs.YtaajijommogaoaaW.PrintWords Go.Proofs.YtaajijommogaoaaW.PrintLast Go.Proofs.YtaajijommogaoaaW.PrintMore Go.Proofs.Ytaajijommogaoaa.Nums Go.Proofs.Ytaajijommogaoaa.SIvlJoin

theorem is_awake : trammellaw16_awake.f = some true := by decide +kernel

theorem IvlJoin : trammellaw16_IvlJoin.Pure := by
  intro a0 a1 a2 a3 a4 a5 _ _ _ _ _ _
  unfold trammellaw16_IvlJoin.f
  simp only [is_awake, Option.bind_some, if_true, put_eq, join_eq, within_eq]
  by_cases h1 : min a4 a5 ≤ min a0 a1 ∧ max a0 a1 ≤ max a4 a5 <;> by_cases h2 : min a4 a5 ≤ min a2 a3 ∧ max a2 a3 ≤ max a4 a5 <;>
    by_cases h3 : min a4 a5 ≤ min (min a0 a1) (min a2 a3) ∧ max (max a0 a1) (max a2 a3) ≤ max a4 a5
  all_goals first | (exfalso; omega) | (simp only [decide_eq_true_iff.2 h3, decide_eq_true_iff.2 h1, decide_eq_true_iff.2 h2, if_true]; rfl) | ((first | rw [decide_eq_true h1] | rw [decide_eq_false h1]); (first | rw [decide_eq_true h2] | rw [decide_eq_false h2]); (first | rw [decide_eq_true h3] | rw [decide_eq_false h3]); rfl)
end Go.Proofs.Ytaajijommogaoaa.Pure
