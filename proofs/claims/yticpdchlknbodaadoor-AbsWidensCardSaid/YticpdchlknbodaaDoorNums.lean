/-
  Plain facts on Go's whole numbers of 64 bits, for natural numbers below 2^64: the operations bit by bit, the shifts, what wraps. No program in sight.
-/
import Derived.Laws.BitsLemmas
import Derived.RowKit
import Derived.Test.YticpdchlknbodaaDoorWMore
namespace Go.Proofs.YticpdchlknbodaaDoor.Nums
open Go.RowKit Go.Proofs.YticpdchlknbodaaDoorW.PrintWords Go.Proofs.YticpdchlknbodaaDoorW.PrintMore

theorem wrap_u64 (n : Int) : IntKind.u64.wrap n = n % 18446744073709551616 := by simp [IntKind.wrap, IntKind.bits, IntKind.signed]
theorem wraps_u64 (n : Int) (h0 : 0 ≤ n) (h1 : n < 2 ^ 64) : IntKind.u64.wrap n = n := by rw [wrap_u64]; omega
theorem wrap_u64_nat (n : Nat) : IntKind.u64.wrap (n : Int) = ((n % 2 ^ 64 : Nat) : Int) := by rw [wrap_u64]; omega
theorem wrap64_id (n : Int) (h0 : -9223372036854775808 ≤ n) (h1 : n ≤ 9223372036854775807) : wrap64 n = n := by unfold wrap64; omega

theorem wf_u64 {x : Int} (h : (Lit.int .u64 x).wf = true) : ∃ n : Nat, x = (n : Int) ∧ n < 2 ^ 64 := by
  simp [Lit.wf, IntKind.min, IntKind.max, IntKind.signed, IntKind.bits] at h
  exact ⟨x.toNat, by omega, by omega⟩
theorem wf_i64 {x : Int} (h : (Lit.int .i64 x).wf = true) : -9223372036854775808 ≤ x ∧ x ≤ 9223372036854775807 := by
  simp [Lit.wf, IntKind.min, IntKind.max, IntKind.signed, IntKind.bits] at h
  omega
theorem wf_u8 {x : Int} (h : (Lit.int .u8 x).wf = true) : ∃ n : Nat, x = (n : Int) ∧ n < 256 := by
  simp [Lit.wf, IntKind.min, IntKind.max, IntKind.signed, IntKind.bits] at h
  exact ⟨x.toNat, by omega, by omega⟩

section
variable {a b : Nat} (ha : a < 2 ^ 64) (hb : b < 2 ^ 64)
include ha hb
theorem band : Go.bits .and .u64 (a : Int) (b : Int) = ((a &&& b : Nat) : Int) := (bits_nat .u64 64 (by decide) wraps_u64 a b ha hb).1
theorem bor : Go.bits .or .u64 (a : Int) (b : Int) = ((a ||| b : Nat) : Int) := (bits_nat .u64 64 (by decide) wraps_u64 a b ha hb).2
theorem bxor : Go.bits .xor .u64 (a : Int) (b : Int) = ((a ^^^ b : Nat) : Int) := by
  have ha' : a % 2 ^ IntKind.u64.bits = a := Nat.mod_eq_of_lt ha
  have hb' : b % 2 ^ IntKind.u64.bits = b := Nat.mod_eq_of_lt hb
  simp only [Go.bits, BitVec.ofInt_natCast, BitVec.toNat_xor, BitVec.toNat_ofNat, ha', hb']
  exact wraps_u64 _ (Int.natCast_nonneg _) (by have := Nat.xor_lt_two_pow ha hb; exact_mod_cast this)
theorem bandNot : Go.bits .andNot .u64 (a : Int) (b : Int) = ((a &&& (2 ^ 64 - (b + 1)) : Nat) : Int) := by
  have ha' : a % 2 ^ IntKind.u64.bits = a := Nat.mod_eq_of_lt ha
  have hb' : b % 2 ^ IntKind.u64.bits = b := Nat.mod_eq_of_lt hb
  have e : 2 ^ IntKind.u64.bits - 1 - b = 2 ^ 64 - (b + 1) := by show 2 ^ 64 - 1 - b = _; omega
  simp only [Go.bits, BitVec.ofInt_natCast, BitVec.toNat_and, BitVec.toNat_not, BitVec.toNat_ofNat, ha', hb', e]
  exact wraps_u64 _ (Int.natCast_nonneg _) (by have := Nat.and_lt_two_pow (x := a) (y := 2 ^ 64 - (b + 1)) (n := 64) (by omega); exact_mod_cast this)
end

theorem ediv_zero_iff {a b : Int} (ha : 0 ≤ a) (hb : 0 < b) : a / b = 0 ↔ a < b := by
  have h1 := Int.ediv_lt_iff_lt_mul (a := a) (b := 1) hb
  have h2 := Int.ediv_nonneg ha (Int.le_of_lt hb)
  rw [Int.one_mul] at h1
  omega
theorem pow_int_pos (i : Nat) : (0 : Int) < 2 ^ i := Int.pow_pos (by decide)
theorem pow_pos (i : Nat) : 0 < 2 ^ i := Nat.two_pow_pos i
theorem pow_lt {i : Nat} (h : i < 64) : 2 ^ i < 2 ^ 64 := Nat.pow_lt_pow_right (by decide) h
theorem pow_le {i j : Nat} (h : i ≤ j) : 2 ^ i ≤ 2 ^ j := Nat.pow_le_pow_right (by decide) h

/-- A shift up by fewer than 64 bits. -/
theorem shl_nat (a i : Nat) (h : i ≤ 64) : shl .u64 (a : Int) (i : Int) = ((a * 2 ^ i % 2 ^ 64 : Nat) : Int) := by
  have e : min (Int.toNat (i : Int)) IntKind.u64.bits = i := by show min (Int.toNat (i : Int)) 64 = i; omega
  unfold shl
  rw [e, ← wrap_u64_nat, Int.natCast_mul, Int.natCast_pow]
  rfl
theorem shl_one {i : Nat} (h : i < 64) : shl .u64 1 (i : Int) = ((2 ^ i : Nat) : Int) := by
  have := shl_nat 1 i (by omega)
  rw [Nat.one_mul, Nat.mod_eq_of_lt (pow_lt h)] at this
  exact this
theorem shr_nat (a i : Nat) (h : i ≤ 64) : shr .u64 (a : Int) (i : Int) = ((a / 2 ^ i : Nat) : Int) := by
  have e : min (Int.toNat (i : Int)) IntKind.u64.bits = i := by show min (Int.toNat (i : Int)) 64 = i; omega
  unfold shr
  rw [e]
  simp

/-- One bit of a number. -/
theorem and_pow_eq_zero (r i : Nat) : r &&& 2 ^ i = 0 ↔ r.testBit i = false := by
  constructor
  · intro h
    have h1 : (r &&& 2 ^ i).testBit i = false := by rw [h]; simp
    rw [Nat.testBit_and, Nat.testBit_two_pow] at h1
    simpa using h1
  · intro h
    refine Nat.eq_of_testBit_eq (fun j => ?_)
    rw [Nat.testBit_and, Nat.testBit_two_pow]
    by_cases hj : i = j
    · subst hj; simp [h]
    · simp [hj]
/-- The lowest bits. -/
theorem and_mask (r i : Nat) : r &&& (2 ^ i - 1) = r % 2 ^ i := Nat.and_two_pow_sub_one_eq_mod r i
/-- All but the lowest bits. -/
theorem and_not_mask_eq_zero {r i : Nat} (hr : r < 2 ^ 64) (hi : i ≤ 64) : r &&& (2 ^ 64 - (2 ^ i - 1 + 1)) = 0 ↔ r < 2 ^ i := by
  constructor
  · intro h
    refine Nat.lt_pow_two_of_testBit r (fun j hj => ?_)
    have h1 : (r &&& (2 ^ 64 - (2 ^ i - 1 + 1))).testBit j = false := by rw [h]; simp
    rw [Nat.testBit_and, Nat.testBit_two_pow_sub_succ (by have := pow_le hi; have := pow_pos i; omega), Nat.testBit_two_pow_sub_one] at h1
    by_cases hj64 : j < 64
    · simpa [hj64, Nat.not_lt.2 hj] using h1
    · exact Nat.testBit_lt_two_pow (Nat.lt_of_lt_of_le hr (pow_le (by omega)))
  · intro h
    refine Nat.eq_of_testBit_eq (fun j => ?_)
    rw [Nat.testBit_and, Nat.testBit_two_pow_sub_succ (by have := pow_le hi; have := pow_pos i; omega), Nat.testBit_two_pow_sub_one]
    by_cases hj : j < i
    · simp [hj]
    · rw [Nat.testBit_lt_two_pow (Nat.lt_of_lt_of_le h (pow_le (by omega)))]; simp
theorem xor_eq_zero (a b : Nat) : a ^^^ b = 0 ↔ a = b := by
  constructor
  · intro h
    refine Nat.eq_of_testBit_eq (fun j => ?_)
    have h1 : (a ^^^ b).testBit j = false := by rw [h]; simp
    rw [Nat.testBit_xor] at h1
    revert h1
    cases a.testBit j <;> cases b.testBit j <;> simp
  · intro h; subst h; exact Nat.xor_self a
/-- Two numbers agree in their lowest bits. -/
theorem xor_mask_eq_zero (n r i : Nat) : (n ^^^ r) &&& (2 ^ i - 1) = 0 ↔ n % 2 ^ i = r % 2 ^ i := by
  rw [and_mask, Nat.xor_mod_two_pow]
  exact xor_eq_zero _ _
theorem mod_lt_pow (n i : Nat) : n % 2 ^ i < 2 ^ i := Nat.mod_lt _ (pow_pos i)
theorem mod_mod_pow (n : Nat) {i j : Nat} (h : i ≤ j) : n % 2 ^ j % 2 ^ i = n % 2 ^ i := Nat.mod_mod_of_dvd _ (Nat.pow_dvd_pow 2 h)
end Go.Proofs.YticpdchlknbodaaDoor.Nums
