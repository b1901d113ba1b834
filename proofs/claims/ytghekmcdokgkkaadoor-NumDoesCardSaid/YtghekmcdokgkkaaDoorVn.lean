/-
  Whole numbers as the program's kinds have them.
-/
import Derived.Test.YtghekmcdokgkkaaDoorVx
import Derived.Laws.Bits64
import Derived.WalkKit
namespace Go.Proofs.YtghekmcdokgkkaaDoor.Vn
open Go.Proofs.YtghekmcdokgkkaaDoor.Vx
theorem wrap_u64 (n : Int) : IntKind.u64.wrap n = n % 18446744073709551616 := by simp [IntKind.wrap, IntKind.bits, IntKind.signed]
theorem wraps_u64 (n : Int) (h0 : 0 ≤ n) (h1 : n < 2 ^ 64) : IntKind.u64.wrap n = n := by rw [wrap_u64]; omega
theorem wf_u64 {x : Int} (h : (Lit.int .u64 x).wf = true) : 0 ≤ x ∧ x < 18446744073709551616 := by
  simp [Lit.wf, IntKind.bits, IntKind.signed, IntKind.min, IntKind.max] at h; omega
theorem wf_i64 {x : Int} (h : (Lit.int .i64 x).wf = true) : -9223372036854775808 ≤ x ∧ x ≤ 9223372036854775807 := by
  simp [Lit.wf, IntKind.bits, IntKind.signed, IntKind.min, IntKind.max] at h; omega
theorem arAdd (x y : Int) : arI .add .u64 x y = (x + y) % 18446744073709551616 := wrap_u64 _
theorem arSub (x y : Int) : arI .sub .u64 x y = (x - y) % 18446744073709551616 := wrap_u64 _
theorem arMul (x y : Int) : arI .mul .u64 x y = (x * y) % 18446744073709551616 := wrap_u64 _
theorem arQuo (x y : Int) (hx : 0 ≤ x) (hx1 : x < 18446744073709551616) (hy : 0 < y) : arI .quo .u64 x y = x / y := by
  show IntKind.u64.wrap (x.tdiv y) = _
  rw [Int.tdiv_eq_ediv_of_nonneg hx]
  have h1 : 0 ≤ x / y := Int.ediv_nonneg hx (by omega)
  have h2 : x / y ≤ x := Int.ediv_le_self y hx
  exact wraps_u64 _ h1 (by omega)
theorem arRem (x y : Int) (hx : 0 ≤ x) : arI .rem .u64 x y = x % y := by
  show x.tmod y = _
  exact Int.tmod_eq_emod_of_nonneg hx
theorem arShr (x y : Int) (hy0 : 0 ≤ y) (hy : y ≤ 64) : arI .shr .u64 x y = x / 2 ^ y.toNat := by
  show x.fdiv (2 ^ (min y.toNat 64)) = _
  rw [show min y.toNat 64 = y.toNat from by omega]
  exact Int.fdiv_eq_ediv_of_nonneg _ (Int.pow_nonneg (by decide))
theorem arShl (x y : Int) (hy0 : 0 ≤ y) (hy : y ≤ 64) : arI .shl .u64 x y = (x * 2 ^ y.toNat) % 18446744073709551616 := by
  show IntKind.u64.wrap (x * 2 ^ (min y.toNat 64)) = _
  rw [show min y.toNat 64 = y.toNat from by omega, wrap_u64]
theorem toN (x : Nat) (hx : x < 2 ^ 64) : (BitVec.ofInt 64 (x : Int)).toNat = x := by
  rw [BitVec.toNat_ofInt]; omega
section
variable (a b : Nat) (ha : a < 2 ^ 64) (hb : b < 2 ^ 64)
include ha hb
theorem band : arI .and .u64 (a : Int) (b : Int) = ((a &&& b : Nat) : Int) := by
  show IntKind.u64.wrap ((BitVec.ofInt 64 (a : Int) &&& BitVec.ofInt 64 (b : Int)).toNat : Int) = _
  rw [BitVec.toNat_and, toN a ha, toN b hb]
  exact wraps_u64 _ (by omega) (by have := @Nat.and_lt_two_pow a b 64 hb; omega)
theorem bor : arI .or .u64 (a : Int) (b : Int) = ((a ||| b : Nat) : Int) := by
  show IntKind.u64.wrap ((BitVec.ofInt 64 (a : Int) ||| BitVec.ofInt 64 (b : Int)).toNat : Int) = _
  rw [BitVec.toNat_or, toN a ha, toN b hb]
  exact wraps_u64 _ (by omega) (by have := @Nat.or_lt_two_pow a b 64 ha hb; omega)
theorem bxor : arI .xor .u64 (a : Int) (b : Int) = ((a ^^^ b : Nat) : Int) := by
  show IntKind.u64.wrap ((BitVec.ofInt 64 (a : Int) ^^^ BitVec.ofInt 64 (b : Int)).toNat : Int) = _
  rw [BitVec.toNat_xor, toN a ha, toN b hb]
  exact wraps_u64 _ (by omega) (by have := @Nat.xor_lt_two_pow a b 64 ha hb; omega)
end
theorem and_le (x T : Int) (h0 : 0 ≤ x) (h1 : x < 18446744073709551616) (h2 : 0 ≤ T) (h3 : T < 18446744073709551616) : 0 ≤ arI .and .u64 x T ∧ arI .and .u64 x T ≤ T := by
  obtain ⟨n, rfl⟩ := Int.eq_ofNat_of_zero_le h0
  obtain ⟨t, rfl⟩ := Int.eq_ofNat_of_zero_le h2
  rw [band n t (by omega) (by omega)]
  have : n &&& t ≤ t := Nat.and_le_right
  omega
theorem and_mask (r i : Nat) : r &&& (2 ^ i - 1) = r % 2 ^ i := Nat.and_two_pow_sub_one_eq_mod r i
theorem ite_or {p : Prop} [Decidable p] {x y u v u' v' : Int} (h1 : x = if p then u else v) (h2 : y = if p then u' else v') : (p ∧ x = u ∧ y = u') ∨ (¬ p ∧ x = v ∧ y = v') := by
  by_cases h : p
  · rw [if_pos h] at h1 h2; exact .inl ⟨h, h1, h2⟩
  · rw [if_neg h] at h1 h2; exact .inr ⟨h, h1, h2⟩
theorem r2 {a b a' b' : Int} (h1 : a = a') (h2 : b = b') : (some ([a, b], []) : Option (List Int × List Bool)) = some ([a', b'], []) := by rw [h1, h2]
theorem r21 {a b a' b' : Int} {c c' : Bool} (h1 : a = a') (h2 : b = b') (h3 : c = c') : (some ([a, b], [c]) : Option (List Int × List Bool)) = some ([a', b'], [c']) := by rw [h1, h2, h3]
theorem min_ (a b : Int) : min a b = if b < a then b else a := by split <;> omega
theorem max_ (a b : Int) : max a b = if b > a then b else a := by split <;> omega
end Go.Proofs.YtghekmcdokgkkaaDoor.Vn
