/-
  What is spread from some bits: the plain law of NumSpreads.
-/
import Derived.Test.YtghekmcdokgkkaaDoorXNumSpreads
import Derived.Test.YtghekmcdokgkkaaDoorSn
namespace Go.Proofs.YtghekmcdokgkkaaDoor.YNumSpreads
open Go.Proofs.YtghekmcdokgkkaaDoor.Sx Go.Proofs.YtghekmcdokgkkaaDoor.Sn Go.Proofs.YtghekmcdokgkkaaDoor.XNumSpreads Go.Proofs.YtghekmcdokgkkaaDoor.ENumSpreads
set_option linter.unusedSimpArgs false
set_option linter.unusedVariables false
theorem st_0_1 {C : Nat → Sx.Fn} {is : List Int} {bs : List Bool} {r : Option (List Int × List Bool)} {G : E} {f : Nat} {ii bb : List E} {k : Sx.T} {c0 : Bool} {F : Sx.Fn} {g : Bool} {l : List Int} {m : List Bool} (hC : C f = F) (hG : G.B is bs = g) (hl : ii.map (E.I is bs) = l) (hm : bb.map (E.B is bs) = m)
    (h : (bif g then F l m else some (List.replicate 0 0, List.replicate 1 false)) = some ([], [c0]))
    (hk : ∀ (y0 : Bool), y0 = c0 → k.den C (is ++ []) (bs ++ [y0]) = r) : (Sx.T.call G f ii bb 0 1 k).den C is bs = r := st_call _ _ (by rw [hC, hG, hl, hm]; exact h) rfl rfl (hk _ rfl)

theorem st_1_1 {C : Nat → Sx.Fn} {is : List Int} {bs : List Bool} {r : Option (List Int × List Bool)} {G : E} {f : Nat} {ii bb : List E} {k : Sx.T} {a0 : Int} {c0 : Bool} {F : Sx.Fn} {g : Bool} {l : List Int} {m : List Bool} (hC : C f = F) (hG : G.B is bs = g) (hl : ii.map (E.I is bs) = l) (hm : bb.map (E.B is bs) = m)
    (h : (bif g then F l m else some (List.replicate 1 0, List.replicate 1 false)) = some ([a0], [c0]))
    (hk : ∀ (x0 : Int) (y0 : Bool), x0 = a0 → y0 = c0 → k.den C (is ++ [x0]) (bs ++ [y0]) = r) : (Sx.T.call G f ii bb 1 1 k).den C is bs = r := st_call _ _ (by rw [hC, hG, hl, hm]; exact h) rfl rfl (hk _ _ rfl rfl)
theorem wrap_u32 (n : Int) : IntKind.u32.wrap n = n % 4294967296 := by simp [IntKind.wrap, IntKind.bits, IntKind.signed]
theorem wrap_u8 (n : Int) : IntKind.u8.wrap n = n % 256 := by simp [IntKind.wrap, IntKind.bits, IntKind.signed]
theorem wrap_i64 (n : Int) : IntKind.i64.wrap n = (n + 9223372036854775808) % 18446744073709551616 - 9223372036854775808 := by simp [IntKind.wrap, IntKind.bits, IntKind.signed]; split <;> omega
theorem wrap_i32 (n : Int) : IntKind.i32.wrap n = (n + 2147483648) % 4294967296 - 2147483648 := by simp [IntKind.wrap, IntKind.bits, IntKind.signed]; split <;> omega
theorem wrap_i16 (n : Int) : IntKind.i16.wrap n = (n + 32768) % 65536 - 32768 := by simp [IntKind.wrap, IntKind.bits, IntKind.signed]; split <;> omega
theorem wrap_i8 (n : Int) : IntKind.i8.wrap n = (n + 128) % 256 - 128 := by simp [IntKind.wrap, IntKind.bits, IntKind.signed]; split <;> omega

theorem low8 (b : Int) : arI .and .u64 b 255 = b % 256 := by
  show IntKind.u64.wrap ((BitVec.ofInt 64 b &&& BitVec.ofInt 64 255).toNat : Int) = _
  rw [BitVec.toNat_and, BitVec.toNat_ofInt, show (BitVec.ofInt 64 255).toNat = 2 ^ 8 - 1 from by decide, Nat.and_two_pow_sub_one_eq_mod, wrap_u64]
  omega

theorem low16 (b : Int) : arI .and .u64 b 65535 = b % 65536 := by
  show IntKind.u64.wrap ((BitVec.ofInt 64 b &&& BitVec.ofInt 64 65535).toNat : Int) = _
  rw [BitVec.toNat_and, BitVec.toNat_ofInt, show (BitVec.ofInt 64 65535).toNat = 2 ^ 16 - 1 from by decide, Nat.and_two_pow_sub_one_eq_mod, wrap_u64]
  omega

theorem low32 (b : Int) : arI .and .u64 b 4294967295 = b % 4294967296 := by
  show IntKind.u64.wrap ((BitVec.ofInt 64 b &&& BitVec.ofInt 64 4294967295).toNat : Int) = _
  rw [BitVec.toNat_and, BitVec.toNat_ofInt, show (BitVec.ofInt 64 4294967295).toNat = 2 ^ 32 - 1 from by decide, Nat.and_two_pow_sub_one_eq_mod, wrap_u64]
  omega

theorem shl0 (x : Int) : arI .shl .u64 x 0 = (x * 1) % 18446744073709551616 := by
  rw [arShl _ _ (by decide) (by decide)]; simp

theorem sar0 (x : Int) : arI .shr .i64 x 0 = x / 1 := by
  show x.fdiv (2 ^ (min (0 : Int).toNat 64)) = _
  rw [Int.fdiv_eq_ediv_of_nonneg _ (by decide)]; simp

theorem shl32 (x : Int) : arI .shl .u64 x 32 = (x * 4294967296) % 18446744073709551616 := by
  rw [arShl _ _ (by decide) (by decide)]; simp

theorem sar32 (x : Int) : arI .shr .i64 x 32 = x / 4294967296 := by
  show x.fdiv (2 ^ (min (32 : Int).toNat 64)) = _
  rw [Int.fdiv_eq_ediv_of_nonneg _ (by decide)]; simp

theorem shl48 (x : Int) : arI .shl .u64 x 48 = (x * 281474976710656) % 18446744073709551616 := by
  rw [arShl _ _ (by decide) (by decide)]; simp

theorem sar48 (x : Int) : arI .shr .i64 x 48 = x / 281474976710656 := by
  show x.fdiv (2 ^ (min (48 : Int).toNat 64)) = _
  rw [Int.fdiv_eq_ediv_of_nonneg _ (by decide)]; simp

theorem shl56 (x : Int) : arI .shl .u64 x 56 = (x * 72057594037927936) % 18446744073709551616 := by
  rw [arShl _ _ (by decide) (by decide)]; simp

theorem sar56 (x : Int) : arI .shr .i64 x 56 = x / 72057594037927936 := by
  show x.fdiv (2 ^ (min (56 : Int).toNat 64)) = _
  rw [Int.fdiv_eq_ediv_of_nonneg _ (by decide)]; simp

theorem e6_9 : Tab.fn a6 9 = F9 := Tab.fn_hd
theorem e6_11 : Tab.fn a6 11 = F11 := ((Tab.fn_tl rfl).trans Tab.fn_hd)

set_option maxHeartbeats 4000000 in
theorem q11_192 (a : Int) : F11 [(192 : Int), a] [] = some ([(IntKind.wrap .u64 (IntKind.wrap .u32 (IntKind.wrap .i32 (IntKind.wrap .i8 a))))], [true]) := by
  refine Eq.trans (Fd_of (n := 2) (m := 0) (t := t11) (C := Tab.fn a11) rfl rfl) ?_
  rw [t11]
  refine st_itf (show ((192 : Int) == 69) = false from by kernel_rfl) ?_
  refine st_itf (show ((192 : Int) == 80) = false from by kernel_rfl) ?_
  refine st_itf (show ((192 : Int) == 103) = false from by kernel_rfl) ?_
  refine st_itf (show ((192 : Int) == 104) = false from by kernel_rfl) ?_
  refine st_itf (show ((192 : Int) == 105) = false from by kernel_rfl) ?_
  refine st_itf (show ((192 : Int) == 121) = false from by kernel_rfl) ?_
  refine st_itf (show ((192 : Int) == 122) = false from by kernel_rfl) ?_
  refine st_itf (show ((192 : Int) == 123) = false from by kernel_rfl) ?_
  refine st_itf (show ((192 : Int) == 167) = false from by kernel_rfl) ?_
  refine st_itf (show ((192 : Int) == 173) = false from by kernel_rfl) ?_
  refine st_itf (show ((192 : Int) == 172) = false from by kernel_rfl) ?_
  refine st_itf (show ((192 : Int) == 196) = false from by kernel_rfl) ?_
  refine st_itt (show ((192 : Int) == 192) = true from by kernel_rfl) ?_
  refine st_ret ?_
  show some ([(IntKind.wrap .u64 (IntKind.wrap .u32 (IntKind.wrap .i32 (IntKind.wrap .i8 a))))], [true]) = _
  rfl

theorem sp192 {a n : Int} (ha : 0 ≤ a ∧ a < 18446744073709551616) (hn : n = (IntKind.wrap .u64 (IntKind.wrap .u32 (IntKind.wrap .i32 (IntKind.wrap .i8 a))))) : arI .and .u64 n 255 = arI .and .u64 a 255 ∧ arI .shr .i64 (IntKind.wrap .i64 (arI .shl .u64 n 32)) 32 = arI .shr .i64 (IntKind.wrap .i64 (arI .shl .u64 a 56)) 56 := by
  subst hn; simp only [wrap_u64, wrap_u32, wrap_i64, wrap_i32, wrap_i16, wrap_i8, low8, shl32, sar32, shl56, sar56]; constructor <;> omega

theorem again192 {a n m : Int} (ha : 0 ≤ a ∧ a < 18446744073709551616) (hn : n = (IntKind.wrap .u64 (IntKind.wrap .u32 (IntKind.wrap .i32 (IntKind.wrap .i8 a))))) (hm : m = (IntKind.wrap .u64 (IntKind.wrap .u32 (IntKind.wrap .i32 (IntKind.wrap .i8 n))))) : m = n := by
  subst hn; subst hm; simp only [wrap_u64, wrap_u32, wrap_i64, wrap_i32, wrap_i16, wrap_i8, shl32, sar32, shl56, sar56]; omega

set_option maxHeartbeats 4000000 in
theorem q11_193 (a : Int) : F11 [(193 : Int), a] [] = some ([(IntKind.wrap .u64 (IntKind.wrap .u32 (IntKind.wrap .i32 (IntKind.wrap .i16 a))))], [true]) := by
  refine Eq.trans (Fd_of (n := 2) (m := 0) (t := t11) (C := Tab.fn a11) rfl rfl) ?_
  rw [t11]
  refine st_itf (show ((193 : Int) == 69) = false from by kernel_rfl) ?_
  refine st_itf (show ((193 : Int) == 80) = false from by kernel_rfl) ?_
  refine st_itf (show ((193 : Int) == 103) = false from by kernel_rfl) ?_
  refine st_itf (show ((193 : Int) == 104) = false from by kernel_rfl) ?_
  refine st_itf (show ((193 : Int) == 105) = false from by kernel_rfl) ?_
  refine st_itf (show ((193 : Int) == 121) = false from by kernel_rfl) ?_
  refine st_itf (show ((193 : Int) == 122) = false from by kernel_rfl) ?_
  refine st_itf (show ((193 : Int) == 123) = false from by kernel_rfl) ?_
  refine st_itf (show ((193 : Int) == 167) = false from by kernel_rfl) ?_
  refine st_itf (show ((193 : Int) == 173) = false from by kernel_rfl) ?_
  refine st_itf (show ((193 : Int) == 172) = false from by kernel_rfl) ?_
  refine st_itf (show ((193 : Int) == 196) = false from by kernel_rfl) ?_
  refine st_itf (show ((193 : Int) == 192) = false from by kernel_rfl) ?_
  refine st_itt (show ((193 : Int) == 193) = true from by kernel_rfl) ?_
  refine st_ret ?_
  show some ([(IntKind.wrap .u64 (IntKind.wrap .u32 (IntKind.wrap .i32 (IntKind.wrap .i16 a))))], [true]) = _
  rfl

theorem sp193 {a n : Int} (ha : 0 ≤ a ∧ a < 18446744073709551616) (hn : n = (IntKind.wrap .u64 (IntKind.wrap .u32 (IntKind.wrap .i32 (IntKind.wrap .i16 a))))) : arI .and .u64 n 65535 = arI .and .u64 a 65535 ∧ arI .shr .i64 (IntKind.wrap .i64 (arI .shl .u64 n 32)) 32 = arI .shr .i64 (IntKind.wrap .i64 (arI .shl .u64 a 48)) 48 := by
  subst hn; simp only [wrap_u64, wrap_u32, wrap_i64, wrap_i32, wrap_i16, wrap_i8, low16, shl32, sar32, shl48, sar48]; constructor <;> omega

theorem again193 {a n m : Int} (ha : 0 ≤ a ∧ a < 18446744073709551616) (hn : n = (IntKind.wrap .u64 (IntKind.wrap .u32 (IntKind.wrap .i32 (IntKind.wrap .i16 a))))) (hm : m = (IntKind.wrap .u64 (IntKind.wrap .u32 (IntKind.wrap .i32 (IntKind.wrap .i16 n))))) : m = n := by
  subst hn; subst hm; simp only [wrap_u64, wrap_u32, wrap_i64, wrap_i32, wrap_i16, wrap_i8, shl32, sar32, shl48, sar48]; omega

set_option maxHeartbeats 4000000 in
theorem q11_194 (a : Int) : F11 [(194 : Int), a] [] = some ([(IntKind.wrap .u64 (IntKind.wrap .i64 (IntKind.wrap .i8 a)))], [true]) := by
  refine Eq.trans (Fd_of (n := 2) (m := 0) (t := t11) (C := Tab.fn a11) rfl rfl) ?_
  rw [t11]
  refine st_itf (show ((194 : Int) == 69) = false from by kernel_rfl) ?_
  refine st_itf (show ((194 : Int) == 80) = false from by kernel_rfl) ?_
  refine st_itf (show ((194 : Int) == 103) = false from by kernel_rfl) ?_
  refine st_itf (show ((194 : Int) == 104) = false from by kernel_rfl) ?_
  refine st_itf (show ((194 : Int) == 105) = false from by kernel_rfl) ?_
  refine st_itf (show ((194 : Int) == 121) = false from by kernel_rfl) ?_
  refine st_itf (show ((194 : Int) == 122) = false from by kernel_rfl) ?_
  refine st_itf (show ((194 : Int) == 123) = false from by kernel_rfl) ?_
  refine st_itf (show ((194 : Int) == 167) = false from by kernel_rfl) ?_
  refine st_itf (show ((194 : Int) == 173) = false from by kernel_rfl) ?_
  refine st_itf (show ((194 : Int) == 172) = false from by kernel_rfl) ?_
  refine st_itf (show ((194 : Int) == 196) = false from by kernel_rfl) ?_
  refine st_itf (show ((194 : Int) == 192) = false from by kernel_rfl) ?_
  refine st_itf (show ((194 : Int) == 193) = false from by kernel_rfl) ?_
  refine st_itt (show ((194 : Int) == 194) = true from by kernel_rfl) ?_
  refine st_ret ?_
  show some ([(IntKind.wrap .u64 (IntKind.wrap .i64 (IntKind.wrap .i8 a)))], [true]) = _
  rfl

theorem sp194 {a n : Int} (ha : 0 ≤ a ∧ a < 18446744073709551616) (hn : n = (IntKind.wrap .u64 (IntKind.wrap .i64 (IntKind.wrap .i8 a)))) : arI .and .u64 n 255 = arI .and .u64 a 255 ∧ arI .shr .i64 (IntKind.wrap .i64 (arI .shl .u64 n 0)) 0 = arI .shr .i64 (IntKind.wrap .i64 (arI .shl .u64 a 56)) 56 := by
  subst hn; simp only [wrap_u64, wrap_u32, wrap_i64, wrap_i32, wrap_i16, wrap_i8, low8, shl0, sar0, shl56, sar56]; constructor <;> omega

theorem again194 {a n m : Int} (ha : 0 ≤ a ∧ a < 18446744073709551616) (hn : n = (IntKind.wrap .u64 (IntKind.wrap .i64 (IntKind.wrap .i8 a)))) (hm : m = (IntKind.wrap .u64 (IntKind.wrap .i64 (IntKind.wrap .i8 n)))) : m = n := by
  subst hn; subst hm; simp only [wrap_u64, wrap_u32, wrap_i64, wrap_i32, wrap_i16, wrap_i8, shl0, sar0, shl56, sar56]; omega

set_option maxHeartbeats 4000000 in
theorem q11_195 (a : Int) : F11 [(195 : Int), a] [] = some ([(IntKind.wrap .u64 (IntKind.wrap .i64 (IntKind.wrap .i16 a)))], [true]) := by
  refine Eq.trans (Fd_of (n := 2) (m := 0) (t := t11) (C := Tab.fn a11) rfl rfl) ?_
  rw [t11]
  refine st_itf (show ((195 : Int) == 69) = false from by kernel_rfl) ?_
  refine st_itf (show ((195 : Int) == 80) = false from by kernel_rfl) ?_
  refine st_itf (show ((195 : Int) == 103) = false from by kernel_rfl) ?_
  refine st_itf (show ((195 : Int) == 104) = false from by kernel_rfl) ?_
  refine st_itf (show ((195 : Int) == 105) = false from by kernel_rfl) ?_
  refine st_itf (show ((195 : Int) == 121) = false from by kernel_rfl) ?_
  refine st_itf (show ((195 : Int) == 122) = false from by kernel_rfl) ?_
  refine st_itf (show ((195 : Int) == 123) = false from by kernel_rfl) ?_
  refine st_itf (show ((195 : Int) == 167) = false from by kernel_rfl) ?_
  refine st_itf (show ((195 : Int) == 173) = false from by kernel_rfl) ?_
  refine st_itf (show ((195 : Int) == 172) = false from by kernel_rfl) ?_
  refine st_itf (show ((195 : Int) == 196) = false from by kernel_rfl) ?_
  refine st_itf (show ((195 : Int) == 192) = false from by kernel_rfl) ?_
  refine st_itf (show ((195 : Int) == 193) = false from by kernel_rfl) ?_
  refine st_itf (show ((195 : Int) == 194) = false from by kernel_rfl) ?_
  refine st_itt (show ((195 : Int) == 195) = true from by kernel_rfl) ?_
  refine st_ret ?_
  show some ([(IntKind.wrap .u64 (IntKind.wrap .i64 (IntKind.wrap .i16 a)))], [true]) = _
  rfl

theorem sp195 {a n : Int} (ha : 0 ≤ a ∧ a < 18446744073709551616) (hn : n = (IntKind.wrap .u64 (IntKind.wrap .i64 (IntKind.wrap .i16 a)))) : arI .and .u64 n 65535 = arI .and .u64 a 65535 ∧ arI .shr .i64 (IntKind.wrap .i64 (arI .shl .u64 n 0)) 0 = arI .shr .i64 (IntKind.wrap .i64 (arI .shl .u64 a 48)) 48 := by
  subst hn; simp only [wrap_u64, wrap_u32, wrap_i64, wrap_i32, wrap_i16, wrap_i8, low16, shl0, sar0, shl48, sar48]; constructor <;> omega

theorem again195 {a n m : Int} (ha : 0 ≤ a ∧ a < 18446744073709551616) (hn : n = (IntKind.wrap .u64 (IntKind.wrap .i64 (IntKind.wrap .i16 a)))) (hm : m = (IntKind.wrap .u64 (IntKind.wrap .i64 (IntKind.wrap .i16 n)))) : m = n := by
  subst hn; subst hm; simp only [wrap_u64, wrap_u32, wrap_i64, wrap_i32, wrap_i16, wrap_i8, shl0, sar0, shl48, sar48]; omega

set_option maxHeartbeats 4000000 in
theorem q11_196 (a : Int) : F11 [(196 : Int), a] [] = some ([(IntKind.wrap .u64 (IntKind.wrap .i64 (IntKind.wrap .i32 (IntKind.wrap .u32 a))))], [true]) := by
  refine Eq.trans (Fd_of (n := 2) (m := 0) (t := t11) (C := Tab.fn a11) rfl rfl) ?_
  rw [t11]
  refine st_itf (show ((196 : Int) == 69) = false from by kernel_rfl) ?_
  refine st_itf (show ((196 : Int) == 80) = false from by kernel_rfl) ?_
  refine st_itf (show ((196 : Int) == 103) = false from by kernel_rfl) ?_
  refine st_itf (show ((196 : Int) == 104) = false from by kernel_rfl) ?_
  refine st_itf (show ((196 : Int) == 105) = false from by kernel_rfl) ?_
  refine st_itf (show ((196 : Int) == 121) = false from by kernel_rfl) ?_
  refine st_itf (show ((196 : Int) == 122) = false from by kernel_rfl) ?_
  refine st_itf (show ((196 : Int) == 123) = false from by kernel_rfl) ?_
  refine st_itf (show ((196 : Int) == 167) = false from by kernel_rfl) ?_
  refine st_itf (show ((196 : Int) == 173) = false from by kernel_rfl) ?_
  refine st_itf (show ((196 : Int) == 172) = false from by kernel_rfl) ?_
  refine st_itt (show ((196 : Int) == 196) = true from by kernel_rfl) ?_
  refine st_ret ?_
  show some ([(IntKind.wrap .u64 (IntKind.wrap .i64 (IntKind.wrap .i32 (IntKind.wrap .u32 a))))], [true]) = _
  rfl

theorem sp196 {a n : Int} (ha : 0 ≤ a ∧ a < 18446744073709551616) (hn : n = (IntKind.wrap .u64 (IntKind.wrap .i64 (IntKind.wrap .i32 (IntKind.wrap .u32 a))))) : arI .and .u64 n 4294967295 = arI .and .u64 a 4294967295 ∧ arI .shr .i64 (IntKind.wrap .i64 (arI .shl .u64 n 0)) 0 = arI .shr .i64 (IntKind.wrap .i64 (arI .shl .u64 a 32)) 32 := by
  subst hn; simp only [wrap_u64, wrap_u32, wrap_i64, wrap_i32, wrap_i16, wrap_i8, low32, shl0, sar0, shl32, sar32]; constructor <;> omega

theorem again196 {a n m : Int} (ha : 0 ≤ a ∧ a < 18446744073709551616) (hn : n = (IntKind.wrap .u64 (IntKind.wrap .i64 (IntKind.wrap .i32 (IntKind.wrap .u32 a))))) (hm : m = (IntKind.wrap .u64 (IntKind.wrap .i64 (IntKind.wrap .i32 (IntKind.wrap .u32 n))))) : m = n := by
  subst hn; subst hm; simp only [wrap_u64, wrap_u32, wrap_i64, wrap_i32, wrap_i16, wrap_i8, shl0, sar0, shl32, sar32]; omega

set_option maxHeartbeats 4000000 in
theorem q11_172 (a : Int) : F11 [(172 : Int), a] [] = some ([(IntKind.wrap .u64 (IntKind.wrap .i64 (IntKind.wrap .i32 (IntKind.wrap .u32 a))))], [true]) := by
  refine Eq.trans (Fd_of (n := 2) (m := 0) (t := t11) (C := Tab.fn a11) rfl rfl) ?_
  rw [t11]
  refine st_itf (show ((172 : Int) == 69) = false from by kernel_rfl) ?_
  refine st_itf (show ((172 : Int) == 80) = false from by kernel_rfl) ?_
  refine st_itf (show ((172 : Int) == 103) = false from by kernel_rfl) ?_
  refine st_itf (show ((172 : Int) == 104) = false from by kernel_rfl) ?_
  refine st_itf (show ((172 : Int) == 105) = false from by kernel_rfl) ?_
  refine st_itf (show ((172 : Int) == 121) = false from by kernel_rfl) ?_
  refine st_itf (show ((172 : Int) == 122) = false from by kernel_rfl) ?_
  refine st_itf (show ((172 : Int) == 123) = false from by kernel_rfl) ?_
  refine st_itf (show ((172 : Int) == 167) = false from by kernel_rfl) ?_
  refine st_itf (show ((172 : Int) == 173) = false from by kernel_rfl) ?_
  refine st_itt (show ((172 : Int) == 172) = true from by kernel_rfl) ?_
  refine st_itt (show ((172 : Int) == 172) = true from by kernel_rfl) ?_
  refine st_ret ?_
  show some ([(IntKind.wrap .u64 (IntKind.wrap .i64 (IntKind.wrap .i32 (IntKind.wrap .u32 a))))], [true]) = _
  rfl

theorem sp172 {a n : Int} (ha : 0 ≤ a ∧ a < 18446744073709551616) (hn : n = (IntKind.wrap .u64 (IntKind.wrap .i64 (IntKind.wrap .i32 (IntKind.wrap .u32 a))))) : arI .and .u64 n 4294967295 = arI .and .u64 a 4294967295 ∧ arI .shr .i64 (IntKind.wrap .i64 (arI .shl .u64 n 0)) 0 = arI .shr .i64 (IntKind.wrap .i64 (arI .shl .u64 a 32)) 32 := by
  subst hn; simp only [wrap_u64, wrap_u32, wrap_i64, wrap_i32, wrap_i16, wrap_i8, low32, shl0, sar0, shl32, sar32]; constructor <;> omega

theorem again172 {a n m : Int} (ha : 0 ≤ a ∧ a < 18446744073709551616) (hn : n = (IntKind.wrap .u64 (IntKind.wrap .i64 (IntKind.wrap .i32 (IntKind.wrap .u32 a))))) (hm : m = (IntKind.wrap .u64 (IntKind.wrap .i64 (IntKind.wrap .i32 (IntKind.wrap .u32 n))))) : m = n := by
  subst hn; subst hm; simp only [wrap_u64, wrap_u32, wrap_i64, wrap_i32, wrap_i16, wrap_i8, shl0, sar0, shl32, sar32]; omega

theorem q9 : F9 [] [] = some ([], [true]) := by decide +kernel

set_option maxHeartbeats 4000000 in
theorem law (a : Int) (wa : (Lit.int .u64 a).wf = true) : F6 [a] [] = some ([], [true]) := by
  have ha := wf_u64 wa
  refine Eq.trans (Fd_of (n := 1) (m := 0) (t := t6) (C := Tab.fn a6) rfl rfl) ?_
  rw [t6]
  refine st_0_1 (e6_9) (g := true) rfl (l := []) rfl (m := []) rfl (cl_t q9) fun b0 hb0 => ?_
  show T.den _ _ [a] [b0] = _
  refine st_ite (fun hc => ?_) (fun hc => ?_)
  · replace hc : (!b0) = true := hc
    have c1 := hc
    clear hc
    refine st_ret ?_
    show some ([], [false]) = _
    rw [hb0] at c1; cases c1
  · replace hc : (!b0) = false := hc
    have c2 := hc
    clear hc
    refine st_1_1 (e6_11) (g := true) rfl (l := [192, a]) rfl (m := []) rfl (cl_t (q11_192 a)) fun i1 b1 hi1 hb1 => ?_
    show T.den _ _ [a, i1] [b0, b1] = _
    have e := sp192 ha hi1
    refine st_lb fun b2 hb2 => ?_
    replace hb2 : b2 = ((arI .and .u64 i1 255) != (arI .and .u64 a 255)) := hb2
    show T.den _ _ [a, i1] [b0, b1, b2] = _
    refine st_ite (fun hc => ?_) (fun hc => ?_)
    · replace hc : ((!b1) || b2) = true := hc
      have c3 := hc
      clear hc
      refine st_ret ?_
      show some ([], [false]) = _
      rw [hb1, hb2, e.1] at c3; simp at c3
    · replace hc : ((!b1) || b2) = false := hc
      have c4 := hc
      clear hc
      refine st_1_1 (e6_11) (g := true) rfl (l := [192, i1]) rfl (m := []) rfl (cl_t (q11_192 i1)) fun i2 b3 hi2 hb3 => ?_
      show T.den _ _ [a, i1, i2] [b0, b1, b2, b3] = _
      have e2 := again192 ha hi1 hi2
      refine st_lb fun b4 hb4 => ?_
      replace hb4 : b4 = ((arI .shr .i64 (IntKind.wrap .i64 (arI .shl .u64 i1 32)) 32) != (arI .shr .i64 (IntKind.wrap .i64 (arI .shl .u64 a 56)) 56)) := hb4
      show T.den _ _ [a, i1, i2] [b0, b1, b2, b3, b4] = _
      refine st_ite (fun hc => ?_) (fun hc => ?_)
      · replace hc : (b4 || (i2 != i1)) = true := hc
        have c5 := hc
        clear hc
        refine st_ret ?_
        show some ([], [false]) = _
        rw [hb4, e.2, e2] at c5; simp at c5
      · replace hc : (b4 || (i2 != i1)) = false := hc
        have c6 := hc
        clear hc
        refine st_1_1 (e6_11) (g := true) rfl (l := [193, a]) rfl (m := []) rfl (cl_t (q11_193 a)) fun i3 b5 hi3 hb5 => ?_
        show T.den _ _ [a, i1, i2, i3] [b0, b1, b2, b3, b4, b5] = _
        have e := sp193 ha hi3
        refine st_lb fun b6 hb6 => ?_
        replace hb6 : b6 = ((arI .and .u64 i3 65535) != (arI .and .u64 a 65535)) := hb6
        show T.den _ _ [a, i1, i2, i3] [b0, b1, b2, b3, b4, b5, b6] = _
        refine st_ite (fun hc => ?_) (fun hc => ?_)
        · replace hc : ((!b5) || b6) = true := hc
          have c7 := hc
          clear hc
          refine st_ret ?_
          show some ([], [false]) = _
          rw [hb5, hb6, e.1] at c7; simp at c7
        · replace hc : ((!b5) || b6) = false := hc
          have c8 := hc
          clear hc
          refine st_1_1 (e6_11) (g := true) rfl (l := [193, i3]) rfl (m := []) rfl (cl_t (q11_193 i3)) fun i4 b7 hi4 hb7 => ?_
          show T.den _ _ [a, i1, i2, i3, i4] [b0, b1, b2, b3, b4, b5, b6, b7] = _
          have e2 := again193 ha hi3 hi4
          refine st_lb fun b8 hb8 => ?_
          replace hb8 : b8 = ((arI .shr .i64 (IntKind.wrap .i64 (arI .shl .u64 i3 32)) 32) != (arI .shr .i64 (IntKind.wrap .i64 (arI .shl .u64 a 48)) 48)) := hb8
          show T.den _ _ [a, i1, i2, i3, i4] [b0, b1, b2, b3, b4, b5, b6, b7, b8] = _
          refine st_ite (fun hc => ?_) (fun hc => ?_)
          · replace hc : (b8 || (i4 != i3)) = true := hc
            have c9 := hc
            clear hc
            refine st_ret ?_
            show some ([], [false]) = _
            rw [hb8, e.2, e2] at c9; simp at c9
          · replace hc : (b8 || (i4 != i3)) = false := hc
            have c10 := hc
            clear hc
            refine st_1_1 (e6_11) (g := true) rfl (l := [194, a]) rfl (m := []) rfl (cl_t (q11_194 a)) fun i5 b9 hi5 hb9 => ?_
            show T.den _ _ [a, i1, i2, i3, i4, i5] [b0, b1, b2, b3, b4, b5, b6, b7, b8, b9] = _
            have e := sp194 ha hi5
            refine st_lb fun b10 hb10 => ?_
            replace hb10 : b10 = ((arI .and .u64 i5 255) != (arI .and .u64 a 255)) := hb10
            show T.den _ _ [a, i1, i2, i3, i4, i5] [b0, b1, b2, b3, b4, b5, b6, b7, b8, b9, b10] = _
            refine st_ite (fun hc => ?_) (fun hc => ?_)
            · replace hc : ((!b9) || b10) = true := hc
              have c11 := hc
              clear hc
              refine st_ret ?_
              show some ([], [false]) = _
              rw [hb9, hb10, e.1] at c11; simp at c11
            · replace hc : ((!b9) || b10) = false := hc
              have c12 := hc
              clear hc
              refine st_1_1 (e6_11) (g := true) rfl (l := [194, i5]) rfl (m := []) rfl (cl_t (q11_194 i5)) fun i6 b11 hi6 hb11 => ?_
              show T.den _ _ [a, i1, i2, i3, i4, i5, i6] [b0, b1, b2, b3, b4, b5, b6, b7, b8, b9, b10, b11] = _
              have e2 := again194 ha hi5 hi6
              refine st_lb fun b12 hb12 => ?_
              replace hb12 : b12 = ((arI .shr .i64 (IntKind.wrap .i64 (arI .shl .u64 i5 0)) 0) != (arI .shr .i64 (IntKind.wrap .i64 (arI .shl .u64 a 56)) 56)) := hb12
              show T.den _ _ [a, i1, i2, i3, i4, i5, i6] [b0, b1, b2, b3, b4, b5, b6, b7, b8, b9, b10, b11, b12] = _
              refine st_ite (fun hc => ?_) (fun hc => ?_)
              · replace hc : (b12 || (i6 != i5)) = true := hc
                have c13 := hc
                clear hc
                refine st_ret ?_
                show some ([], [false]) = _
                rw [hb12, e.2, e2] at c13; simp at c13
              · replace hc : (b12 || (i6 != i5)) = false := hc
                have c14 := hc
                clear hc
                refine st_1_1 (e6_11) (g := true) rfl (l := [195, a]) rfl (m := []) rfl (cl_t (q11_195 a)) fun i7 b13 hi7 hb13 => ?_
                show T.den _ _ [a, i1, i2, i3, i4, i5, i6, i7] [b0, b1, b2, b3, b4, b5, b6, b7, b8, b9, b10, b11, b12, b13] = _
                have e := sp195 ha hi7
                refine st_lb fun b14 hb14 => ?_
                replace hb14 : b14 = ((arI .and .u64 i7 65535) != (arI .and .u64 a 65535)) := hb14
                show T.den _ _ [a, i1, i2, i3, i4, i5, i6, i7] [b0, b1, b2, b3, b4, b5, b6, b7, b8, b9, b10, b11, b12, b13, b14] = _
                refine st_ite (fun hc => ?_) (fun hc => ?_)
                · replace hc : ((!b13) || b14) = true := hc
                  have c15 := hc
                  clear hc
                  refine st_ret ?_
                  show some ([], [false]) = _
                  rw [hb13, hb14, e.1] at c15; simp at c15
                · replace hc : ((!b13) || b14) = false := hc
                  have c16 := hc
                  clear hc
                  refine st_1_1 (e6_11) (g := true) rfl (l := [195, i7]) rfl (m := []) rfl (cl_t (q11_195 i7)) fun i8 b15 hi8 hb15 => ?_
                  show T.den _ _ [a, i1, i2, i3, i4, i5, i6, i7, i8] [b0, b1, b2, b3, b4, b5, b6, b7, b8, b9, b10, b11, b12, b13, b14, b15] = _
                  have e2 := again195 ha hi7 hi8
                  refine st_lb fun b16 hb16 => ?_
                  replace hb16 : b16 = ((arI .shr .i64 (IntKind.wrap .i64 (arI .shl .u64 i7 0)) 0) != (arI .shr .i64 (IntKind.wrap .i64 (arI .shl .u64 a 48)) 48)) := hb16
                  show T.den _ _ [a, i1, i2, i3, i4, i5, i6, i7, i8] [b0, b1, b2, b3, b4, b5, b6, b7, b8, b9, b10, b11, b12, b13, b14, b15, b16] = _
                  refine st_ite (fun hc => ?_) (fun hc => ?_)
                  · replace hc : (b16 || (i8 != i7)) = true := hc
                    have c17 := hc
                    clear hc
                    refine st_ret ?_
                    show some ([], [false]) = _
                    rw [hb16, e.2, e2] at c17; simp at c17
                  · replace hc : (b16 || (i8 != i7)) = false := hc
                    have c18 := hc
                    clear hc
                    refine st_1_1 (e6_11) (g := true) rfl (l := [196, a]) rfl (m := []) rfl (cl_t (q11_196 a)) fun i9 b17 hi9 hb17 => ?_
                    show T.den _ _ [a, i1, i2, i3, i4, i5, i6, i7, i8, i9] [b0, b1, b2, b3, b4, b5, b6, b7, b8, b9, b10, b11, b12, b13, b14, b15, b16, b17] = _
                    have e := sp196 ha hi9
                    refine st_lb fun b18 hb18 => ?_
                    replace hb18 : b18 = ((arI .and .u64 i9 4294967295) != (arI .and .u64 a 4294967295)) := hb18
                    show T.den _ _ [a, i1, i2, i3, i4, i5, i6, i7, i8, i9] [b0, b1, b2, b3, b4, b5, b6, b7, b8, b9, b10, b11, b12, b13, b14, b15, b16, b17, b18] = _
                    refine st_ite (fun hc => ?_) (fun hc => ?_)
                    · replace hc : ((!b17) || b18) = true := hc
                      have c19 := hc
                      clear hc
                      refine st_ret ?_
                      show some ([], [false]) = _
                      rw [hb17, hb18, e.1] at c19; simp at c19
                    · replace hc : ((!b17) || b18) = false := hc
                      have c20 := hc
                      clear hc
                      refine st_1_1 (e6_11) (g := true) rfl (l := [196, i9]) rfl (m := []) rfl (cl_t (q11_196 i9)) fun i10 b19 hi10 hb19 => ?_
                      show T.den _ _ [a, i1, i2, i3, i4, i5, i6, i7, i8, i9, i10] [b0, b1, b2, b3, b4, b5, b6, b7, b8, b9, b10, b11, b12, b13, b14, b15, b16, b17, b18, b19] = _
                      have e2 := again196 ha hi9 hi10
                      refine st_lb fun b20 hb20 => ?_
                      replace hb20 : b20 = ((arI .shr .i64 (IntKind.wrap .i64 (arI .shl .u64 i9 0)) 0) != (arI .shr .i64 (IntKind.wrap .i64 (arI .shl .u64 a 32)) 32)) := hb20
                      show T.den _ _ [a, i1, i2, i3, i4, i5, i6, i7, i8, i9, i10] [b0, b1, b2, b3, b4, b5, b6, b7, b8, b9, b10, b11, b12, b13, b14, b15, b16, b17, b18, b19, b20] = _
                      refine st_ite (fun hc => ?_) (fun hc => ?_)
                      · replace hc : (b20 || (i10 != i9)) = true := hc
                        have c21 := hc
                        clear hc
                        refine st_ret ?_
                        show some ([], [false]) = _
                        rw [hb20, e.2, e2] at c21; simp at c21
                      · replace hc : (b20 || (i10 != i9)) = false := hc
                        have c22 := hc
                        clear hc
                        refine st_1_1 (e6_11) (g := true) rfl (l := [172, a]) rfl (m := []) rfl (cl_t (q11_172 a)) fun i11 b21 hi11 hb21 => ?_
                        show T.den _ _ [a, i1, i2, i3, i4, i5, i6, i7, i8, i9, i10, i11] [b0, b1, b2, b3, b4, b5, b6, b7, b8, b9, b10, b11, b12, b13, b14, b15, b16, b17, b18, b19, b20, b21] = _
                        have e := sp172 ha hi11
                        refine st_lb fun b22 hb22 => ?_
                        replace hb22 : b22 = ((arI .and .u64 i11 4294967295) != (arI .and .u64 a 4294967295)) := hb22
                        show T.den _ _ [a, i1, i2, i3, i4, i5, i6, i7, i8, i9, i10, i11] [b0, b1, b2, b3, b4, b5, b6, b7, b8, b9, b10, b11, b12, b13, b14, b15, b16, b17, b18, b19, b20, b21, b22] = _
                        refine st_ite (fun hc => ?_) (fun hc => ?_)
                        · replace hc : ((!b21) || b22) = true := hc
                          have c23 := hc
                          clear hc
                          refine st_ret ?_
                          show some ([], [false]) = _
                          rw [hb21, hb22, e.1] at c23; simp at c23
                        · replace hc : ((!b21) || b22) = false := hc
                          have c24 := hc
                          clear hc
                          refine st_1_1 (e6_11) (g := true) rfl (l := [172, i11]) rfl (m := []) rfl (cl_t (q11_172 i11)) fun i12 b23 hi12 hb23 => ?_
                          show T.den _ _ [a, i1, i2, i3, i4, i5, i6, i7, i8, i9, i10, i11, i12] [b0, b1, b2, b3, b4, b5, b6, b7, b8, b9, b10, b11, b12, b13, b14, b15, b16, b17, b18, b19, b20, b21, b22, b23] = _
                          have e2 := again172 ha hi11 hi12
                          refine st_lb fun b24 hb24 => ?_
                          replace hb24 : b24 = ((arI .shr .i64 (IntKind.wrap .i64 (arI .shl .u64 i11 0)) 0) != (arI .shr .i64 (IntKind.wrap .i64 (arI .shl .u64 a 32)) 32)) := hb24
                          show T.den _ _ [a, i1, i2, i3, i4, i5, i6, i7, i8, i9, i10, i11, i12] [b0, b1, b2, b3, b4, b5, b6, b7, b8, b9, b10, b11, b12, b13, b14, b15, b16, b17, b18, b19, b20, b21, b22, b23, b24] = _
                          refine st_ite (fun hc => ?_) (fun hc => ?_)
                          · replace hc : (b24 || (i12 != i11)) = true := hc
                            have c25 := hc
                            clear hc
                            refine st_ret ?_
                            show some ([], [false]) = _
                            rw [hb24, e.2, e2] at c25; simp at c25
                          · replace hc : (b24 || (i12 != i11)) = false := hc
                            have c26 := hc
                            clear hc
                            refine st_ret ?_
                            show some ([], [true]) = _
                            rfl
end Go.Proofs.YtghekmcdokgkkaaDoor.YNumSpreads
