/-
  What the functions of layer 17 (known low bits) answer, in natural numbers: no program in sight.
-/
import Derived.Test.YticpdchlknbodaaDoorPAbsWidensx
import Derived.Test.YticpdchlknbodaaDoorNums
namespace Go.Proofs.YticpdchlknbodaaDoor.SAbsWidens
open Go.RowKit Go.Proofs.YticpdchlknbodaaDoor.PAbsWidens Go.Proofs.YticpdchlknbodaaDoorW.PrintWords Go.Proofs.YticpdchlknbodaaDoorW.PrintLast Go.Proofs.YticpdchlknbodaaDoorW.PrintMore Go.Proofs.YticpdchlknbodaaDoor.Nums
theorem min64_le (n : Nat) : min n 64 ≤ 64 := Nat.min_le_right _ _
theorem pow_min_lt (n : Nat) : 2 ^ min n 64 - 1 < 2 ^ 64 := by have := pow_le (min64_le n); have := pow_pos (min n 64); omega
theorem mx0 (n : Int) : mx n 0 = (n.toNat : Int) := by unfold mx; split <;> omega
theorem mask_eq (n : Int) : low_mask.f n = some ((2 ^ min n.toNat 64 - 1 : Nat) : Int) := by
  unfold low_mask.f
  by_cases h : n ≥ 64
  · rw [if_pos h, Nat.min_eq_right (by omega)]; rfl
  · rw [if_neg h, mx0, wraps_u64 _ (by omega) (by omega), if_pos (by omega), shl_one (by omega), Nat.min_eq_left (by omega)]
    have h1 := pow_pos n.toNat
    have h2 := pow_lt (i := n.toNat) (by omega)
    have e : ((2 ^ n.toNat : Nat) : Int) - 1 = ((2 ^ n.toNat - 1 : Nat) : Int) := by omega
    rw [e, wrap_u64_nat, Nat.mod_eq_of_lt (by omega)]
theorem has_eq {n r : Nat} (hn : n < 2 ^ 64) (hr : r < 2 ^ 64) (N : Int) : low_Has.f N r n = some (decide (n % 2 ^ min N.toNat 64 = r % 2 ^ min N.toNat 64)) := by
  unfold low_Has.f
  rw [mask_eq, Option.bind_some, bxor hn hr, band (Nat.xor_lt_two_pow hn hr) (pow_min_lt _)]
  refine congrArg some ?_
  rw [Bool.eq_iff_iff, beq_iff_eq, decide_eq_true_iff, ← xor_mask_eq_zero]
  omega
theorem right_eq {r : Nat} (hr : r < 2 ^ 64) (N : Int) : low_Right.f N r = some (decide (0 ≤ N ∧ N ≤ 64 ∧ r < 2 ^ N.toNat)) := by
  unfold low_Right.f
  by_cases h0 : N ≥ 0
  · rw [if_pos h0]
    by_cases h1 : N ≤ 64
    · rw [if_pos h1, mask_eq, Option.bind_some, bandNot hr (pow_min_lt _)]
      refine congrArg some ?_
      rw [Bool.eq_iff_iff, beq_iff_eq, decide_eq_true_iff, Nat.min_eq_left (by omega)]
      have := and_not_mask_eq_zero hr (i := N.toNat) (by omega)
      constructor
      · exact fun h => ⟨h0, h1, this.1 (by omega)⟩
      · intro h
        have := this.2 h.2.2
        omega
    · rw [if_neg h1, decide_eq_false (by omega)]
  · rw [if_neg h0, decide_eq_false (by omega)]
theorem cut_eq {r : Nat} (hr : r < 2 ^ 64) (N n : Int) : low_Cut.f N r n = some (if n ≥ N then (N, (r : Int)) else ((n.toNat : Int), ((r % 2 ^ min n.toNat 64 : Nat) : Int))) := by
  unfold low_Cut.f
  by_cases h : n ≥ N
  · rw [if_pos h, if_pos h]
  · rw [if_neg h, if_neg h, mask_eq, Option.bind_some, mx0, band hr (pow_min_lt _), and_mask]
theorem within_eq {r q : Nat} (hr : r < 2 ^ 64) (hq : q < 2 ^ 64) (N M : Int) : low_Within.f N r M q = some (decide (N ≥ M ∧ r % 2 ^ min M.toNat 64 = q % 2 ^ min M.toNat 64)) := by
  unfold low_Within.f
  by_cases h : N ≥ M
  · rw [if_pos h, has_eq hr hq, Option.bind_some]
    refine congrArg some ?_
    rw [Bool.eq_iff_iff, decide_eq_true_iff, decide_eq_true_iff]
    exact ⟨fun x => ⟨h, x⟩, fun x => x.2⟩
  · rw [if_neg h, decide_eq_false (fun x => h x.1)]
theorem const_eq (a : Int) : low_Const.f a = some (64, a) := rfl
end Go.Proofs.YticpdchlknbodaaDoor.SAbsWidens
