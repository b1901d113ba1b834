/-
  What a comparison tells: the plain law of TransLimit.
-/
import Derived.Test.YtlnikilodakjmaaDoorXTransLimit
import Derived.Test.YtlnikilodakjmaaDoorSn
import Derived.Test.YtlnikilodakjmaaDoorZTransLimit
import Derived.Lib.TrailingZeros
namespace Go.Proofs.YtlnikilodakjmaaDoor.YTransLimit
open Go.Proofs.YtlnikilodakjmaaDoor.ZTransLimit Go.Proofs.YtlnikilodakjmaaDoor.Sx Go.Proofs.YtlnikilodakjmaaDoor.Sn Go.Proofs.YtlnikilodakjmaaDoor.XTransLimit Go.Proofs.YtlnikilodakjmaaDoor.ETransLimit
set_option linter.unusedSimpArgs false
set_option linter.unusedVariables false
theorem e16_39 : Tab.fn a16 39 = F39 := Tab.fn_hd
theorem e16_38 : Tab.fn a16 38 = F38 := ((Tab.fn_tl rfl).trans Tab.fn_hd)
theorem e16_40 : Tab.fn a16 40 = F40 := ((Tab.fn_tl rfl).trans ((Tab.fn_tl rfl).trans Tab.fn_hd))
theorem e40_64 : Tab.fn a40 64 = F64 := Tab.fn_hd


theorem rem_ge (b : Int) (w : Int) (h : 0 ≤ b) : (decide (arI .rem .u64 b w ≥ 0)) = true := by
  rw [arRem _ _ h, decide_eq_true_eq]
  by_cases hw : w = 0
  · subst hw; rw [Int.emod_zero]; exact h
  · exact Int.emod_nonneg _ hw

theorem sub_ge (x y : Int) : (decide (arI .sub .u64 x y ≥ 0)) = true := by rw [arSub, decide_eq_true_eq]; omega

theorem q16 (b : Bool) : F38 [] [b] = some ([bif b then 1 else 0], []) := by cases b <;> rfl

theorem u32_ge (x : Int) : 0 ≤ IntKind.wrap .u64 (IntKind.wrap .u32 x) := by rw [wrap_u64]; omega
theorem shlN (a s : Nat) (hs : s ≤ 64) : arI .shl .u64 (a : Int) (s : Int) = ((a * 2 ^ s % 2 ^ 64 : Nat) : Int) := by
  rw [arShl _ _ (by omega) (by omega), Int.toNat_natCast, Int.natCast_emod, Int.natCast_mul, Int.natCast_pow]; rfl
theorem shrN (a s : Nat) (hs : s ≤ 64) : arI .shr .u64 (a : Int) (s : Int) = ((a / 2 ^ s : Nat) : Int) := by
  rw [arShr _ _ (by omega) (by omega), Int.toNat_natCast, Int.natCast_ediv, Int.natCast_pow]; rfl
theorem remN (a w : Nat) : arI .rem .u64 (a : Int) (w : Int) = ((a % w : Nat) : Int) := by
  rw [arRem _ _ (by omega), Int.natCast_emod]
theorem subN (a b : Nat) (h : b ≤ a) (ha : a < 2 ^ 64) : arI .sub .u64 (a : Int) (b : Int) = ((a - b : Nat) : Int) := by
  rw [arSub]; omega
theorem shl_lt (a s : Nat) : a * 2 ^ s % 2 ^ 64 < 2 ^ 64 := Nat.mod_lt _ (by decide)
theorem shr_lt (a s : Nat) (h : a < 2 ^ 64) : a / 2 ^ s < 2 ^ 64 := Nat.lt_of_le_of_lt (Nat.div_le_self _ _) h
/-! Turned left by s, of 64 bits. -/
def rl (a s : Nat) : Nat := (a % 2 ^ (64 - s)) * 2 ^ s + a / 2 ^ (64 - s)
theorem rl_or (a s : Nat) (ha : a < 2 ^ 64) (hs : s ≤ 64) : (a * 2 ^ s % 2 ^ 64) ||| (a / 2 ^ (64 - s)) = rl a s := by
  have e : 2 ^ 64 = 2 ^ (64 - s) * 2 ^ s := by rw [← Nat.pow_add, Nat.sub_add_cancel hs]
  have h : a / 2 ^ (64 - s) < 2 ^ s := Nat.div_lt_of_lt_mul (by rw [← e]; exact ha)
  rw [e, Nat.mul_mod_mul_right, Nat.mul_comm _ (2 ^ s), ← Nat.two_pow_add_eq_or_of_lt h, Nat.mul_comm (2 ^ s)]
  rfl
theorem rl_lt (a s : Nat) (ha : a < 2 ^ 64) (hs : s ≤ 64) : rl a s < 2 ^ 64 := by
  rw [← rl_or a s ha hs]
  exact Nat.or_lt_two_pow (shl_lt a s) (shr_lt a _ ha)
theorem rl_back (a s : Nat) (ha : a < 2 ^ 64) (hs : s ≤ 64) : rl (rl a s) (64 - s) = a := by
  have e : 2 ^ 64 = 2 ^ (64 - s) * 2 ^ s := by rw [← Nat.pow_add, Nat.sub_add_cancel hs]
  have h : a / 2 ^ (64 - s) < 2 ^ s := Nat.div_lt_of_lt_mul (by rw [← e]; exact ha)
  unfold rl
  rw [show 64 - (64 - s) = s from by omega, Nat.mul_comm _ (2 ^ s), Nat.mul_add_mod, Nat.mod_eq_of_lt h, Nat.mul_add_div (Nat.two_pow_pos s), Nat.div_eq_of_lt h, Nat.add_zero, Nat.mul_comm, Nat.add_comm, Nat.mod_add_div]

theorem wrap_u32 (n : Int) : IntKind.u32.wrap n = n % 4294967296 := by simp [IntKind.wrap, IntKind.bits, IntKind.signed]
theorem wrap_u8 (n : Int) : IntKind.u8.wrap n = n % 256 := by simp [IntKind.wrap, IntKind.bits, IntKind.signed]
theorem wrap_i64 (n : Int) : IntKind.i64.wrap n = (n + 9223372036854775808) % 18446744073709551616 - 9223372036854775808 := by simp [IntKind.wrap, IntKind.bits, IntKind.signed]; split <;> omega
theorem wrap_i32 (n : Int) : IntKind.i32.wrap n = (n + 2147483648) % 4294967296 - 2147483648 := by simp [IntKind.wrap, IntKind.bits, IntKind.signed]; split <;> omega
theorem wrap_i16 (n : Int) : IntKind.i16.wrap n = (n + 32768) % 65536 - 32768 := by simp [IntKind.wrap, IntKind.bits, IntKind.signed]; split <;> omega
theorem wrap_i8 (n : Int) : IntKind.i8.wrap n = (n + 128) % 256 - 128 := by simp [IntKind.wrap, IntKind.bits, IntKind.signed]; split <;> omega

def dt (b x y l : Int) : Int := if b = 0 then 6 else if x = l ∧ y = -1 then 7 else 0
def dq (b x y l : Int) : Int := if b = 0 then 0 else if x = l ∧ y = -1 then 0 else IntKind.wrap .u64 (arI .quo .i64 x y)
def dz (b : Int) : Int := if b = 0 then 6 else 0
def uq (a b : Int) : Int := if b = 0 then 0 else arI .quo .u64 a b
def dr (b x y : Int) : Int := if b = 0 then 0 else if y = -1 then 0 else IntKind.wrap .u64 (arI .rem .i64 x y)
def ur (a b : Int) : Int := if b = 0 then 0 else arI .rem .u64 a b
theorem i32_ne (b : Int) (h : 0 ≤ b) (h1 : b < 4294967296) : b ≠ 0 → IntKind.wrap .i64 (IntKind.wrap .i32 b) ≠ 0 := by
  simp only [IntKind.wrap, IntKind.bits, IntKind.signed]; omega
theorem i64_ne (b : Int) (h : 0 ≤ b) (h1 : b < 18446744073709551616) : b ≠ 0 → IntKind.wrap .i64 b ≠ 0 := by
  simp only [IntKind.wrap, IntKind.bits, IntKind.signed]; omega
theorem u32_lt (x : Int) : IntKind.wrap .u64 (IntKind.wrap .u32 x) < 4294967296 := by
  have h : IntKind.u32.wrap x = x % 4294967296 := by simp [IntKind.wrap, IntKind.bits, IntKind.signed]
  rw [wrap_u64, h]; omega

theorem q36_0 (a b x y l : Int) (hy : b ≠ 0 → y ≠ 0) : F64 [(0 : Int), a, b, x, y, l] [] = some ([dq b x y l, dt b x y l], []) := by
  refine Eq.trans (Fd_of (n := 6) (m := 0) (t := t64) (C := Tab.fn a64) rfl rfl) ?_
  rw [t64]
  refine st_ite (fun hc => ?_) (fun hc => ?_)
  · replace hc : (b == 0) = true := hc
    have c1 := hc
    clear hc
    refine st_ret ?_
    show some ([0, 6], []) = _
    unfold dq dt
    refine r2 ?_ ?_ <;> simp_all
  · replace hc : (b == 0) = false := hc
    have c2 := hc
    clear hc
    refine st_lb fun b0 hb0 => ?_
    replace hb0 : b0 = (((0 : Int) == 0) && (x == l)) := hb0
    show T.den _ _ [(0 : Int), a, b, x, y, l] [b0] = _
    refine st_ite (fun hc => ?_) (fun hc => ?_)
    · replace hc : (b0 && (y == (-1))) = true := hc
      have c3 := hc
      clear hc
      refine st_ret ?_
      show some ([0, 7], []) = _
      unfold dq dt
      refine r2 ?_ ?_ <;> simp_all
    · replace hc : (b0 && (y == (-1))) = false := hc
      have c4 := hc
      clear hc
      refine st_itt (show ((0 : Int) == 0) = true from by kernel_rfl) ?_
      refine st_rq (show (y != 0) = true from ?_) ?_
      · simp_all
      refine st_ret ?_
      show some ([(IntKind.wrap .u64 (arI .quo .i64 x y)), 0], []) = _
      unfold dq dt
      refine r2 ?_ ?_ <;> simp_all

theorem q36_1 (a b x y l : Int) (hy : b ≠ 0 → y ≠ 0) : F64 [(1 : Int), a, b, x, y, l] [] = some ([uq a b, dz b], []) := by
  refine Eq.trans (Fd_of (n := 6) (m := 0) (t := t64) (C := Tab.fn a64) rfl rfl) ?_
  rw [t64]
  refine st_ite (fun hc => ?_) (fun hc => ?_)
  · replace hc : (b == 0) = true := hc
    have c1 := hc
    clear hc
    refine st_ret ?_
    show some ([0, 6], []) = _
    unfold uq dz
    refine r2 ?_ ?_ <;> simp_all
  · replace hc : (b == 0) = false := hc
    have c2 := hc
    clear hc
    refine st_lbc (show (((1 : Int) == 0) && (x == l)) = false from by kernel_rfl) ?_
    show T.den _ _ [(1 : Int), a, b, x, y, l] [false] = _
    refine st_itf (show (false && (y == (-1))) = false from by kernel_rfl) ?_
    refine st_itf (show ((1 : Int) == 0) = false from by kernel_rfl) ?_
    refine st_itt (show ((1 : Int) == 1) = true from by kernel_rfl) ?_
    refine st_rq (show (b != 0) = true from ?_) ?_
    · simp_all
    refine st_ret ?_
    show some ([(arI .quo .u64 a b), 0], []) = _
    unfold uq dz
    refine r2 ?_ ?_ <;> simp_all

theorem q36_2 (a b x y l : Int) (hy : b ≠ 0 → y ≠ 0) : F64 [(2 : Int), a, b, x, y, l] [] = some ([dr b x y, dz b], []) := by
  refine Eq.trans (Fd_of (n := 6) (m := 0) (t := t64) (C := Tab.fn a64) rfl rfl) ?_
  rw [t64]
  refine st_ite (fun hc => ?_) (fun hc => ?_)
  · replace hc : (b == 0) = true := hc
    have c1 := hc
    clear hc
    refine st_ret ?_
    show some ([0, 6], []) = _
    unfold dr dz
    refine r2 ?_ ?_ <;> simp_all
  · replace hc : (b == 0) = false := hc
    have c2 := hc
    clear hc
    refine st_lbc (show (((2 : Int) == 0) && (x == l)) = false from by kernel_rfl) ?_
    show T.den _ _ [(2 : Int), a, b, x, y, l] [false] = _
    refine st_itf (show (false && (y == (-1))) = false from by kernel_rfl) ?_
    refine st_itf (show ((2 : Int) == 0) = false from by kernel_rfl) ?_
    refine st_itf (show ((2 : Int) == 1) = false from by kernel_rfl) ?_
    refine st_lb fun b1 hb1 => ?_
    replace hb1 : b1 = (((2 : Int) == 2) && (y == (-1))) := hb1
    show T.den _ _ [(2 : Int), a, b, x, y, l] [false, b1] = _
    refine st_ite (fun hc => ?_) (fun hc => ?_)
    · replace hc : b1 = true := hc
      have c3 := hc
      clear hc
      refine st_ret ?_
      show some ([0, 0], []) = _
      unfold dr dz
      refine r2 ?_ ?_ <;> simp_all
    · replace hc : b1 = false := hc
      have c4 := hc
      clear hc
      refine st_itt (show ((2 : Int) == 2) = true from by kernel_rfl) ?_
      refine st_rq (show (y != 0) = true from ?_) ?_
      · simp_all
      refine st_ret ?_
      show some ([(IntKind.wrap .u64 (arI .rem .i64 x y)), 0], []) = _
      unfold dr dz
      refine r2 ?_ ?_ <;> simp_all

theorem q36_3 (a b x y l : Int) (hy : b ≠ 0 → y ≠ 0) : F64 [(3 : Int), a, b, x, y, l] [] = some ([ur a b, dz b], []) := by
  refine Eq.trans (Fd_of (n := 6) (m := 0) (t := t64) (C := Tab.fn a64) rfl rfl) ?_
  rw [t64]
  refine st_ite (fun hc => ?_) (fun hc => ?_)
  · replace hc : (b == 0) = true := hc
    have c1 := hc
    clear hc
    refine st_ret ?_
    show some ([0, 6], []) = _
    unfold ur dz
    refine r2 ?_ ?_ <;> simp_all
  · replace hc : (b == 0) = false := hc
    have c2 := hc
    clear hc
    refine st_lbc (show (((3 : Int) == 0) && (x == l)) = false from by kernel_rfl) ?_
    show T.den _ _ [(3 : Int), a, b, x, y, l] [false] = _
    refine st_itf (show (false && (y == (-1))) = false from by kernel_rfl) ?_
    refine st_itf (show ((3 : Int) == 0) = false from by kernel_rfl) ?_
    refine st_itf (show ((3 : Int) == 1) = false from by kernel_rfl) ?_
    refine st_lbc (show (((3 : Int) == 2) && (y == (-1))) = false from by kernel_rfl) ?_
    show T.den _ _ [(3 : Int), a, b, x, y, l] [false, false] = _
    refine st_itf (show false = false from by kernel_rfl) ?_
    refine st_itf (show ((3 : Int) == 2) = false from by kernel_rfl) ?_
    refine st_rq (show (b != 0) = true from ?_) ?_
    · simp_all
    refine st_ret ?_
    show some ([(arI .rem .u64 a b), 0], []) = _
    unfold ur dz
    refine r2 ?_ ?_ <;> simp_all

theorem q17_0 (a b x y : Int) : F39 [0, a, b, x, y] [] = some ([], [(a == b)]) := by kernel_rfl

set_option maxHeartbeats 4000000 in
theorem q10_70 (a b : Int) : F16 [(70 : Int), a, b] [] = some ([(bif ((IntKind.wrap .u64 (IntKind.wrap .u32 a)) == (IntKind.wrap .u64 (IntKind.wrap .u32 b))) then 1 else 0), 0], [true]) := by
  refine Eq.trans (Fd_of (n := 3) (m := 0) (t := t16) (C := Tab.fn a16) rfl rfl) ?_
  rw [t16]
  refine st_lbc (show ((decide ((70 : Int) ≥ 70)) && (decide ((70 : Int) ≤ 79))) = true from by kernel_rfl) ?_
  show T.den _ _ [(70 : Int), a, b] [true] = _
  refine st_itt (show true = true from by kernel_rfl) ?_
  refine st_0_1 (e16_39) (g := true) rfl (l := [0, (IntKind.wrap .u64 (IntKind.wrap .u32 a)), (IntKind.wrap .u64 (IntKind.wrap .u32 b)), (IntKind.wrap .i64 (IntKind.wrap .i32 (IntKind.wrap .u64 (IntKind.wrap .u32 a)))), (IntKind.wrap .i64 (IntKind.wrap .i32 (IntKind.wrap .u64 (IntKind.wrap .u32 b))))]) rfl (m := []) rfl (cl_t (q17_0 (IntKind.wrap .u64 (IntKind.wrap .u32 a)) (IntKind.wrap .u64 (IntKind.wrap .u32 b)) (IntKind.wrap .i64 (IntKind.wrap .i32 (IntKind.wrap .u64 (IntKind.wrap .u32 a)))) (IntKind.wrap .i64 (IntKind.wrap .i32 (IntKind.wrap .u64 (IntKind.wrap .u32 b)))))) fun b1 hb1 => ?_
  show T.den _ _ [(70 : Int), a, b] [true, b1] = _
  refine st_1_0 (e16_38) (g := true) rfl (l := []) rfl (m := [b1]) rfl (cl_t (q16 b1)) fun i3 hi3 => ?_
  show T.den _ _ [(70 : Int), a, b, i3] [true, b1] = _
  refine st_ret ?_
  show some ([i3, 0], [true]) = _
  subst hb1 hi3
  rfl

theorem q17_1 (a b x y : Int) : F39 [1, a, b, x, y] [] = some ([], [(a != b)]) := by kernel_rfl

set_option maxHeartbeats 4000000 in
theorem q10_71 (a b : Int) : F16 [(71 : Int), a, b] [] = some ([(bif ((IntKind.wrap .u64 (IntKind.wrap .u32 a)) != (IntKind.wrap .u64 (IntKind.wrap .u32 b))) then 1 else 0), 0], [true]) := by
  refine Eq.trans (Fd_of (n := 3) (m := 0) (t := t16) (C := Tab.fn a16) rfl rfl) ?_
  rw [t16]
  refine st_lbc (show ((decide ((71 : Int) ≥ 70)) && (decide ((71 : Int) ≤ 79))) = true from by kernel_rfl) ?_
  show T.den _ _ [(71 : Int), a, b] [true] = _
  refine st_itt (show true = true from by kernel_rfl) ?_
  refine st_0_1 (e16_39) (g := true) rfl (l := [1, (IntKind.wrap .u64 (IntKind.wrap .u32 a)), (IntKind.wrap .u64 (IntKind.wrap .u32 b)), (IntKind.wrap .i64 (IntKind.wrap .i32 (IntKind.wrap .u64 (IntKind.wrap .u32 a)))), (IntKind.wrap .i64 (IntKind.wrap .i32 (IntKind.wrap .u64 (IntKind.wrap .u32 b))))]) rfl (m := []) rfl (cl_t (q17_1 (IntKind.wrap .u64 (IntKind.wrap .u32 a)) (IntKind.wrap .u64 (IntKind.wrap .u32 b)) (IntKind.wrap .i64 (IntKind.wrap .i32 (IntKind.wrap .u64 (IntKind.wrap .u32 a)))) (IntKind.wrap .i64 (IntKind.wrap .i32 (IntKind.wrap .u64 (IntKind.wrap .u32 b)))))) fun b1 hb1 => ?_
  show T.den _ _ [(71 : Int), a, b] [true, b1] = _
  refine st_1_0 (e16_38) (g := true) rfl (l := []) rfl (m := [b1]) rfl (cl_t (q16 b1)) fun i3 hi3 => ?_
  show T.den _ _ [(71 : Int), a, b, i3] [true, b1] = _
  refine st_ret ?_
  show some ([i3, 0], [true]) = _
  subst hb1 hi3
  rfl

theorem q17_2 (a b x y : Int) : F39 [2, a, b, x, y] [] = some ([], [(decide (x < y))]) := by kernel_rfl

set_option maxHeartbeats 4000000 in
theorem q10_72 (a b : Int) : F16 [(72 : Int), a, b] [] = some ([(bif (decide ((IntKind.wrap .i64 (IntKind.wrap .i32 (IntKind.wrap .u64 (IntKind.wrap .u32 a)))) < (IntKind.wrap .i64 (IntKind.wrap .i32 (IntKind.wrap .u64 (IntKind.wrap .u32 b)))))) then 1 else 0), 0], [true]) := by
  refine Eq.trans (Fd_of (n := 3) (m := 0) (t := t16) (C := Tab.fn a16) rfl rfl) ?_
  rw [t16]
  refine st_lbc (show ((decide ((72 : Int) ≥ 70)) && (decide ((72 : Int) ≤ 79))) = true from by kernel_rfl) ?_
  show T.den _ _ [(72 : Int), a, b] [true] = _
  refine st_itt (show true = true from by kernel_rfl) ?_
  refine st_0_1 (e16_39) (g := true) rfl (l := [2, (IntKind.wrap .u64 (IntKind.wrap .u32 a)), (IntKind.wrap .u64 (IntKind.wrap .u32 b)), (IntKind.wrap .i64 (IntKind.wrap .i32 (IntKind.wrap .u64 (IntKind.wrap .u32 a)))), (IntKind.wrap .i64 (IntKind.wrap .i32 (IntKind.wrap .u64 (IntKind.wrap .u32 b))))]) rfl (m := []) rfl (cl_t (q17_2 (IntKind.wrap .u64 (IntKind.wrap .u32 a)) (IntKind.wrap .u64 (IntKind.wrap .u32 b)) (IntKind.wrap .i64 (IntKind.wrap .i32 (IntKind.wrap .u64 (IntKind.wrap .u32 a)))) (IntKind.wrap .i64 (IntKind.wrap .i32 (IntKind.wrap .u64 (IntKind.wrap .u32 b)))))) fun b1 hb1 => ?_
  show T.den _ _ [(72 : Int), a, b] [true, b1] = _
  refine st_1_0 (e16_38) (g := true) rfl (l := []) rfl (m := [b1]) rfl (cl_t (q16 b1)) fun i3 hi3 => ?_
  show T.den _ _ [(72 : Int), a, b, i3] [true, b1] = _
  refine st_ret ?_
  show some ([i3, 0], [true]) = _
  subst hb1 hi3
  rfl

theorem q17_3 (a b x y : Int) : F39 [3, a, b, x, y] [] = some ([], [(decide (a < b))]) := by kernel_rfl

set_option maxHeartbeats 4000000 in
theorem q10_73 (a b : Int) : F16 [(73 : Int), a, b] [] = some ([(bif (decide ((IntKind.wrap .u64 (IntKind.wrap .u32 a)) < (IntKind.wrap .u64 (IntKind.wrap .u32 b)))) then 1 else 0), 0], [true]) := by
  refine Eq.trans (Fd_of (n := 3) (m := 0) (t := t16) (C := Tab.fn a16) rfl rfl) ?_
  rw [t16]
  refine st_lbc (show ((decide ((73 : Int) ≥ 70)) && (decide ((73 : Int) ≤ 79))) = true from by kernel_rfl) ?_
  show T.den _ _ [(73 : Int), a, b] [true] = _
  refine st_itt (show true = true from by kernel_rfl) ?_
  refine st_0_1 (e16_39) (g := true) rfl (l := [3, (IntKind.wrap .u64 (IntKind.wrap .u32 a)), (IntKind.wrap .u64 (IntKind.wrap .u32 b)), (IntKind.wrap .i64 (IntKind.wrap .i32 (IntKind.wrap .u64 (IntKind.wrap .u32 a)))), (IntKind.wrap .i64 (IntKind.wrap .i32 (IntKind.wrap .u64 (IntKind.wrap .u32 b))))]) rfl (m := []) rfl (cl_t (q17_3 (IntKind.wrap .u64 (IntKind.wrap .u32 a)) (IntKind.wrap .u64 (IntKind.wrap .u32 b)) (IntKind.wrap .i64 (IntKind.wrap .i32 (IntKind.wrap .u64 (IntKind.wrap .u32 a)))) (IntKind.wrap .i64 (IntKind.wrap .i32 (IntKind.wrap .u64 (IntKind.wrap .u32 b)))))) fun b1 hb1 => ?_
  show T.den _ _ [(73 : Int), a, b] [true, b1] = _
  refine st_1_0 (e16_38) (g := true) rfl (l := []) rfl (m := [b1]) rfl (cl_t (q16 b1)) fun i3 hi3 => ?_
  show T.den _ _ [(73 : Int), a, b, i3] [true, b1] = _
  refine st_ret ?_
  show some ([i3, 0], [true]) = _
  subst hb1 hi3
  rfl

theorem q17_4 (a b x y : Int) : F39 [4, a, b, x, y] [] = some ([], [(decide (x > y))]) := by kernel_rfl

set_option maxHeartbeats 4000000 in
theorem q10_74 (a b : Int) : F16 [(74 : Int), a, b] [] = some ([(bif (decide ((IntKind.wrap .i64 (IntKind.wrap .i32 (IntKind.wrap .u64 (IntKind.wrap .u32 a)))) > (IntKind.wrap .i64 (IntKind.wrap .i32 (IntKind.wrap .u64 (IntKind.wrap .u32 b)))))) then 1 else 0), 0], [true]) := by
  refine Eq.trans (Fd_of (n := 3) (m := 0) (t := t16) (C := Tab.fn a16) rfl rfl) ?_
  rw [t16]
  refine st_lbc (show ((decide ((74 : Int) ≥ 70)) && (decide ((74 : Int) ≤ 79))) = true from by kernel_rfl) ?_
  show T.den _ _ [(74 : Int), a, b] [true] = _
  refine st_itt (show true = true from by kernel_rfl) ?_
  refine st_0_1 (e16_39) (g := true) rfl (l := [4, (IntKind.wrap .u64 (IntKind.wrap .u32 a)), (IntKind.wrap .u64 (IntKind.wrap .u32 b)), (IntKind.wrap .i64 (IntKind.wrap .i32 (IntKind.wrap .u64 (IntKind.wrap .u32 a)))), (IntKind.wrap .i64 (IntKind.wrap .i32 (IntKind.wrap .u64 (IntKind.wrap .u32 b))))]) rfl (m := []) rfl (cl_t (q17_4 (IntKind.wrap .u64 (IntKind.wrap .u32 a)) (IntKind.wrap .u64 (IntKind.wrap .u32 b)) (IntKind.wrap .i64 (IntKind.wrap .i32 (IntKind.wrap .u64 (IntKind.wrap .u32 a)))) (IntKind.wrap .i64 (IntKind.wrap .i32 (IntKind.wrap .u64 (IntKind.wrap .u32 b)))))) fun b1 hb1 => ?_
  show T.den _ _ [(74 : Int), a, b] [true, b1] = _
  refine st_1_0 (e16_38) (g := true) rfl (l := []) rfl (m := [b1]) rfl (cl_t (q16 b1)) fun i3 hi3 => ?_
  show T.den _ _ [(74 : Int), a, b, i3] [true, b1] = _
  refine st_ret ?_
  show some ([i3, 0], [true]) = _
  subst hb1 hi3
  rfl

theorem q17_5 (a b x y : Int) : F39 [5, a, b, x, y] [] = some ([], [(decide (a > b))]) := by kernel_rfl

set_option maxHeartbeats 4000000 in
theorem q10_75 (a b : Int) : F16 [(75 : Int), a, b] [] = some ([(bif (decide ((IntKind.wrap .u64 (IntKind.wrap .u32 a)) > (IntKind.wrap .u64 (IntKind.wrap .u32 b)))) then 1 else 0), 0], [true]) := by
  refine Eq.trans (Fd_of (n := 3) (m := 0) (t := t16) (C := Tab.fn a16) rfl rfl) ?_
  rw [t16]
  refine st_lbc (show ((decide ((75 : Int) ≥ 70)) && (decide ((75 : Int) ≤ 79))) = true from by kernel_rfl) ?_
  show T.den _ _ [(75 : Int), a, b] [true] = _
  refine st_itt (show true = true from by kernel_rfl) ?_
  refine st_0_1 (e16_39) (g := true) rfl (l := [5, (IntKind.wrap .u64 (IntKind.wrap .u32 a)), (IntKind.wrap .u64 (IntKind.wrap .u32 b)), (IntKind.wrap .i64 (IntKind.wrap .i32 (IntKind.wrap .u64 (IntKind.wrap .u32 a)))), (IntKind.wrap .i64 (IntKind.wrap .i32 (IntKind.wrap .u64 (IntKind.wrap .u32 b))))]) rfl (m := []) rfl (cl_t (q17_5 (IntKind.wrap .u64 (IntKind.wrap .u32 a)) (IntKind.wrap .u64 (IntKind.wrap .u32 b)) (IntKind.wrap .i64 (IntKind.wrap .i32 (IntKind.wrap .u64 (IntKind.wrap .u32 a)))) (IntKind.wrap .i64 (IntKind.wrap .i32 (IntKind.wrap .u64 (IntKind.wrap .u32 b)))))) fun b1 hb1 => ?_
  show T.den _ _ [(75 : Int), a, b] [true, b1] = _
  refine st_1_0 (e16_38) (g := true) rfl (l := []) rfl (m := [b1]) rfl (cl_t (q16 b1)) fun i3 hi3 => ?_
  show T.den _ _ [(75 : Int), a, b, i3] [true, b1] = _
  refine st_ret ?_
  show some ([i3, 0], [true]) = _
  subst hb1 hi3
  rfl

theorem q17_6 (a b x y : Int) : F39 [6, a, b, x, y] [] = some ([], [(decide (x ≤ y))]) := by kernel_rfl

set_option maxHeartbeats 4000000 in
theorem q10_76 (a b : Int) : F16 [(76 : Int), a, b] [] = some ([(bif (decide ((IntKind.wrap .i64 (IntKind.wrap .i32 (IntKind.wrap .u64 (IntKind.wrap .u32 a)))) ≤ (IntKind.wrap .i64 (IntKind.wrap .i32 (IntKind.wrap .u64 (IntKind.wrap .u32 b)))))) then 1 else 0), 0], [true]) := by
  refine Eq.trans (Fd_of (n := 3) (m := 0) (t := t16) (C := Tab.fn a16) rfl rfl) ?_
  rw [t16]
  refine st_lbc (show ((decide ((76 : Int) ≥ 70)) && (decide ((76 : Int) ≤ 79))) = true from by kernel_rfl) ?_
  show T.den _ _ [(76 : Int), a, b] [true] = _
  refine st_itt (show true = true from by kernel_rfl) ?_
  refine st_0_1 (e16_39) (g := true) rfl (l := [6, (IntKind.wrap .u64 (IntKind.wrap .u32 a)), (IntKind.wrap .u64 (IntKind.wrap .u32 b)), (IntKind.wrap .i64 (IntKind.wrap .i32 (IntKind.wrap .u64 (IntKind.wrap .u32 a)))), (IntKind.wrap .i64 (IntKind.wrap .i32 (IntKind.wrap .u64 (IntKind.wrap .u32 b))))]) rfl (m := []) rfl (cl_t (q17_6 (IntKind.wrap .u64 (IntKind.wrap .u32 a)) (IntKind.wrap .u64 (IntKind.wrap .u32 b)) (IntKind.wrap .i64 (IntKind.wrap .i32 (IntKind.wrap .u64 (IntKind.wrap .u32 a)))) (IntKind.wrap .i64 (IntKind.wrap .i32 (IntKind.wrap .u64 (IntKind.wrap .u32 b)))))) fun b1 hb1 => ?_
  show T.den _ _ [(76 : Int), a, b] [true, b1] = _
  refine st_1_0 (e16_38) (g := true) rfl (l := []) rfl (m := [b1]) rfl (cl_t (q16 b1)) fun i3 hi3 => ?_
  show T.den _ _ [(76 : Int), a, b, i3] [true, b1] = _
  refine st_ret ?_
  show some ([i3, 0], [true]) = _
  subst hb1 hi3
  rfl

theorem q17_7 (a b x y : Int) : F39 [7, a, b, x, y] [] = some ([], [(decide (a ≤ b))]) := by kernel_rfl

set_option maxHeartbeats 4000000 in
theorem q10_77 (a b : Int) : F16 [(77 : Int), a, b] [] = some ([(bif (decide ((IntKind.wrap .u64 (IntKind.wrap .u32 a)) ≤ (IntKind.wrap .u64 (IntKind.wrap .u32 b)))) then 1 else 0), 0], [true]) := by
  refine Eq.trans (Fd_of (n := 3) (m := 0) (t := t16) (C := Tab.fn a16) rfl rfl) ?_
  rw [t16]
  refine st_lbc (show ((decide ((77 : Int) ≥ 70)) && (decide ((77 : Int) ≤ 79))) = true from by kernel_rfl) ?_
  show T.den _ _ [(77 : Int), a, b] [true] = _
  refine st_itt (show true = true from by kernel_rfl) ?_
  refine st_0_1 (e16_39) (g := true) rfl (l := [7, (IntKind.wrap .u64 (IntKind.wrap .u32 a)), (IntKind.wrap .u64 (IntKind.wrap .u32 b)), (IntKind.wrap .i64 (IntKind.wrap .i32 (IntKind.wrap .u64 (IntKind.wrap .u32 a)))), (IntKind.wrap .i64 (IntKind.wrap .i32 (IntKind.wrap .u64 (IntKind.wrap .u32 b))))]) rfl (m := []) rfl (cl_t (q17_7 (IntKind.wrap .u64 (IntKind.wrap .u32 a)) (IntKind.wrap .u64 (IntKind.wrap .u32 b)) (IntKind.wrap .i64 (IntKind.wrap .i32 (IntKind.wrap .u64 (IntKind.wrap .u32 a)))) (IntKind.wrap .i64 (IntKind.wrap .i32 (IntKind.wrap .u64 (IntKind.wrap .u32 b)))))) fun b1 hb1 => ?_
  show T.den _ _ [(77 : Int), a, b] [true, b1] = _
  refine st_1_0 (e16_38) (g := true) rfl (l := []) rfl (m := [b1]) rfl (cl_t (q16 b1)) fun i3 hi3 => ?_
  show T.den _ _ [(77 : Int), a, b, i3] [true, b1] = _
  refine st_ret ?_
  show some ([i3, 0], [true]) = _
  subst hb1 hi3
  rfl

theorem q17_8 (a b x y : Int) : F39 [8, a, b, x, y] [] = some ([], [(decide (x ≥ y))]) := by kernel_rfl

set_option maxHeartbeats 4000000 in
theorem q10_78 (a b : Int) : F16 [(78 : Int), a, b] [] = some ([(bif (decide ((IntKind.wrap .i64 (IntKind.wrap .i32 (IntKind.wrap .u64 (IntKind.wrap .u32 a)))) ≥ (IntKind.wrap .i64 (IntKind.wrap .i32 (IntKind.wrap .u64 (IntKind.wrap .u32 b)))))) then 1 else 0), 0], [true]) := by
  refine Eq.trans (Fd_of (n := 3) (m := 0) (t := t16) (C := Tab.fn a16) rfl rfl) ?_
  rw [t16]
  refine st_lbc (show ((decide ((78 : Int) ≥ 70)) && (decide ((78 : Int) ≤ 79))) = true from by kernel_rfl) ?_
  show T.den _ _ [(78 : Int), a, b] [true] = _
  refine st_itt (show true = true from by kernel_rfl) ?_
  refine st_0_1 (e16_39) (g := true) rfl (l := [8, (IntKind.wrap .u64 (IntKind.wrap .u32 a)), (IntKind.wrap .u64 (IntKind.wrap .u32 b)), (IntKind.wrap .i64 (IntKind.wrap .i32 (IntKind.wrap .u64 (IntKind.wrap .u32 a)))), (IntKind.wrap .i64 (IntKind.wrap .i32 (IntKind.wrap .u64 (IntKind.wrap .u32 b))))]) rfl (m := []) rfl (cl_t (q17_8 (IntKind.wrap .u64 (IntKind.wrap .u32 a)) (IntKind.wrap .u64 (IntKind.wrap .u32 b)) (IntKind.wrap .i64 (IntKind.wrap .i32 (IntKind.wrap .u64 (IntKind.wrap .u32 a)))) (IntKind.wrap .i64 (IntKind.wrap .i32 (IntKind.wrap .u64 (IntKind.wrap .u32 b)))))) fun b1 hb1 => ?_
  show T.den _ _ [(78 : Int), a, b] [true, b1] = _
  refine st_1_0 (e16_38) (g := true) rfl (l := []) rfl (m := [b1]) rfl (cl_t (q16 b1)) fun i3 hi3 => ?_
  show T.den _ _ [(78 : Int), a, b, i3] [true, b1] = _
  refine st_ret ?_
  show some ([i3, 0], [true]) = _
  subst hb1 hi3
  rfl

theorem q17_9 (a b x y : Int) : F39 [9, a, b, x, y] [] = some ([], [(decide (a ≥ b))]) := by kernel_rfl

set_option maxHeartbeats 4000000 in
theorem q10_79 (a b : Int) : F16 [(79 : Int), a, b] [] = some ([(bif (decide ((IntKind.wrap .u64 (IntKind.wrap .u32 a)) ≥ (IntKind.wrap .u64 (IntKind.wrap .u32 b)))) then 1 else 0), 0], [true]) := by
  refine Eq.trans (Fd_of (n := 3) (m := 0) (t := t16) (C := Tab.fn a16) rfl rfl) ?_
  rw [t16]
  refine st_lbc (show ((decide ((79 : Int) ≥ 70)) && (decide ((79 : Int) ≤ 79))) = true from by kernel_rfl) ?_
  show T.den _ _ [(79 : Int), a, b] [true] = _
  refine st_itt (show true = true from by kernel_rfl) ?_
  refine st_0_1 (e16_39) (g := true) rfl (l := [9, (IntKind.wrap .u64 (IntKind.wrap .u32 a)), (IntKind.wrap .u64 (IntKind.wrap .u32 b)), (IntKind.wrap .i64 (IntKind.wrap .i32 (IntKind.wrap .u64 (IntKind.wrap .u32 a)))), (IntKind.wrap .i64 (IntKind.wrap .i32 (IntKind.wrap .u64 (IntKind.wrap .u32 b))))]) rfl (m := []) rfl (cl_t (q17_9 (IntKind.wrap .u64 (IntKind.wrap .u32 a)) (IntKind.wrap .u64 (IntKind.wrap .u32 b)) (IntKind.wrap .i64 (IntKind.wrap .i32 (IntKind.wrap .u64 (IntKind.wrap .u32 a)))) (IntKind.wrap .i64 (IntKind.wrap .i32 (IntKind.wrap .u64 (IntKind.wrap .u32 b)))))) fun b1 hb1 => ?_
  show T.den _ _ [(79 : Int), a, b] [true, b1] = _
  refine st_1_0 (e16_38) (g := true) rfl (l := []) rfl (m := [b1]) rfl (cl_t (q16 b1)) fun i3 hi3 => ?_
  show T.den _ _ [(79 : Int), a, b, i3] [true, b1] = _
  refine st_ret ?_
  show some ([i3, 0], [true]) = _
  subst hb1 hi3
  rfl

set_option maxHeartbeats 4000000 in
theorem q18_0_32 (a b : Int) : F40 [(0 : Int), a, b, (32 : Int)] [] = some ([(arI .add .u64 a b), 0], []) := by
  refine Eq.trans (Fd_of (n := 4) (m := 0) (t := t40) (C := Tab.fn a40) rfl rfl) ?_
  rw [t40]
  refine st_itt (show ((32 : Int) == 32) = true from by kernel_rfl) ?_
  refine st_rq (show ((32 : Int) != 0) = true from by kernel_rfl) ?_
  refine st_itt (show ((0 : Int) == 0) = true from by kernel_rfl) ?_
  refine st_ret ?_
  show some ([(arI .add .u64 a b), 0], []) = _
  rfl

set_option maxHeartbeats 4000000 in
theorem q10_106 (a b : Int) : F16 [(106 : Int), a, b] [] = some ([(IntKind.wrap .u64 (IntKind.wrap .u32 (arI .add .u64 (IntKind.wrap .u64 (IntKind.wrap .u32 a)) (IntKind.wrap .u64 (IntKind.wrap .u32 b))))), 0], [true]) := by
  refine Eq.trans (Fd_of (n := 3) (m := 0) (t := t16) (C := Tab.fn a16) rfl rfl) ?_
  rw [t16]
  refine st_lbc (show ((decide ((106 : Int) ≥ 70)) && (decide ((106 : Int) ≤ 79))) = false from by kernel_rfl) ?_
  show T.den _ _ [(106 : Int), a, b] [false] = _
  refine st_itf (show false = false from by kernel_rfl) ?_
  refine st_lbc (show ((decide ((106 : Int) ≥ 81)) && (decide ((106 : Int) ≤ 90))) = false from by kernel_rfl) ?_
  show T.den _ _ [(106 : Int), a, b] [false, false] = _
  refine st_itf (show false = false from by kernel_rfl) ?_
  refine st_lbc (show ((decide ((106 : Int) ≥ 106)) && (decide ((106 : Int) ≤ 120))) = true from by kernel_rfl) ?_
  show T.den _ _ [(106 : Int), a, b] [false, false, true] = _
  refine st_itt (show true = true from by kernel_rfl) ?_
  refine st_2_0 (e16_40) (g := true) rfl (l := [0, (IntKind.wrap .u64 (IntKind.wrap .u32 a)), (IntKind.wrap .u64 (IntKind.wrap .u32 b)), 32]) rfl (m := []) rfl (cl_t (q18_0_32 (IntKind.wrap .u64 (IntKind.wrap .u32 a)) (IntKind.wrap .u64 (IntKind.wrap .u32 b)) )) fun i3 i4 hi3 hi4 => ?_
  show T.den _ _ [(106 : Int), a, b, i3, i4] [false, false, true] = _
  refine st_ret ?_
  show some ([(IntKind.wrap .u64 (IntKind.wrap .u32 i3)), i4], [true]) = _
  subst hi3 hi4
  rfl

set_option maxHeartbeats 4000000 in
theorem q18_1_32 (a b : Int) : F40 [(1 : Int), a, b, (32 : Int)] [] = some ([(arI .sub .u64 a b), 0], []) := by
  refine Eq.trans (Fd_of (n := 4) (m := 0) (t := t40) (C := Tab.fn a40) rfl rfl) ?_
  rw [t40]
  refine st_itt (show ((32 : Int) == 32) = true from by kernel_rfl) ?_
  refine st_rq (show ((32 : Int) != 0) = true from by kernel_rfl) ?_
  refine st_itf (show ((1 : Int) == 0) = false from by kernel_rfl) ?_
  refine st_itt (show ((1 : Int) == 1) = true from by kernel_rfl) ?_
  refine st_ret ?_
  show some ([(arI .sub .u64 a b), 0], []) = _
  rfl

set_option maxHeartbeats 4000000 in
theorem q10_107 (a b : Int) : F16 [(107 : Int), a, b] [] = some ([(IntKind.wrap .u64 (IntKind.wrap .u32 (arI .sub .u64 (IntKind.wrap .u64 (IntKind.wrap .u32 a)) (IntKind.wrap .u64 (IntKind.wrap .u32 b))))), 0], [true]) := by
  refine Eq.trans (Fd_of (n := 3) (m := 0) (t := t16) (C := Tab.fn a16) rfl rfl) ?_
  rw [t16]
  refine st_lbc (show ((decide ((107 : Int) ≥ 70)) && (decide ((107 : Int) ≤ 79))) = false from by kernel_rfl) ?_
  show T.den _ _ [(107 : Int), a, b] [false] = _
  refine st_itf (show false = false from by kernel_rfl) ?_
  refine st_lbc (show ((decide ((107 : Int) ≥ 81)) && (decide ((107 : Int) ≤ 90))) = false from by kernel_rfl) ?_
  show T.den _ _ [(107 : Int), a, b] [false, false] = _
  refine st_itf (show false = false from by kernel_rfl) ?_
  refine st_lbc (show ((decide ((107 : Int) ≥ 106)) && (decide ((107 : Int) ≤ 120))) = true from by kernel_rfl) ?_
  show T.den _ _ [(107 : Int), a, b] [false, false, true] = _
  refine st_itt (show true = true from by kernel_rfl) ?_
  refine st_2_0 (e16_40) (g := true) rfl (l := [1, (IntKind.wrap .u64 (IntKind.wrap .u32 a)), (IntKind.wrap .u64 (IntKind.wrap .u32 b)), 32]) rfl (m := []) rfl (cl_t (q18_1_32 (IntKind.wrap .u64 (IntKind.wrap .u32 a)) (IntKind.wrap .u64 (IntKind.wrap .u32 b)) )) fun i3 i4 hi3 hi4 => ?_
  show T.den _ _ [(107 : Int), a, b, i3, i4] [false, false, true] = _
  refine st_ret ?_
  show some ([(IntKind.wrap .u64 (IntKind.wrap .u32 i3)), i4], [true]) = _
  subst hi3 hi4
  rfl

set_option maxHeartbeats 4000000 in
theorem q18_2_32 (a b : Int) : F40 [(2 : Int), a, b, (32 : Int)] [] = some ([(arI .mul .u64 a b), 0], []) := by
  refine Eq.trans (Fd_of (n := 4) (m := 0) (t := t40) (C := Tab.fn a40) rfl rfl) ?_
  rw [t40]
  refine st_itt (show ((32 : Int) == 32) = true from by kernel_rfl) ?_
  refine st_rq (show ((32 : Int) != 0) = true from by kernel_rfl) ?_
  refine st_itf (show ((2 : Int) == 0) = false from by kernel_rfl) ?_
  refine st_itf (show ((2 : Int) == 1) = false from by kernel_rfl) ?_
  refine st_itt (show ((2 : Int) == 2) = true from by kernel_rfl) ?_
  refine st_ret ?_
  show some ([(arI .mul .u64 a b), 0], []) = _
  rfl

set_option maxHeartbeats 4000000 in
theorem q10_108 (a b : Int) : F16 [(108 : Int), a, b] [] = some ([(IntKind.wrap .u64 (IntKind.wrap .u32 (arI .mul .u64 (IntKind.wrap .u64 (IntKind.wrap .u32 a)) (IntKind.wrap .u64 (IntKind.wrap .u32 b))))), 0], [true]) := by
  refine Eq.trans (Fd_of (n := 3) (m := 0) (t := t16) (C := Tab.fn a16) rfl rfl) ?_
  rw [t16]
  refine st_lbc (show ((decide ((108 : Int) ≥ 70)) && (decide ((108 : Int) ≤ 79))) = false from by kernel_rfl) ?_
  show T.den _ _ [(108 : Int), a, b] [false] = _
  refine st_itf (show false = false from by kernel_rfl) ?_
  refine st_lbc (show ((decide ((108 : Int) ≥ 81)) && (decide ((108 : Int) ≤ 90))) = false from by kernel_rfl) ?_
  show T.den _ _ [(108 : Int), a, b] [false, false] = _
  refine st_itf (show false = false from by kernel_rfl) ?_
  refine st_lbc (show ((decide ((108 : Int) ≥ 106)) && (decide ((108 : Int) ≤ 120))) = true from by kernel_rfl) ?_
  show T.den _ _ [(108 : Int), a, b] [false, false, true] = _
  refine st_itt (show true = true from by kernel_rfl) ?_
  refine st_2_0 (e16_40) (g := true) rfl (l := [2, (IntKind.wrap .u64 (IntKind.wrap .u32 a)), (IntKind.wrap .u64 (IntKind.wrap .u32 b)), 32]) rfl (m := []) rfl (cl_t (q18_2_32 (IntKind.wrap .u64 (IntKind.wrap .u32 a)) (IntKind.wrap .u64 (IntKind.wrap .u32 b)) )) fun i3 i4 hi3 hi4 => ?_
  show T.den _ _ [(108 : Int), a, b, i3, i4] [false, false, true] = _
  refine st_ret ?_
  show some ([(IntKind.wrap .u64 (IntKind.wrap .u32 i3)), i4], [true]) = _
  subst hi3 hi4
  rfl

set_option maxHeartbeats 4000000 in
theorem q18_3_32 (a b : Int) (hb : 0 ≤ b) (hb2 : b < 4294967296) : F40 [(3 : Int), a, b, (32 : Int)] [] = some ([(dq b (IntKind.wrap .i64 (IntKind.wrap .i32 a)) (IntKind.wrap .i64 (IntKind.wrap .i32 b)) (-2147483648)), (dt b (IntKind.wrap .i64 (IntKind.wrap .i32 a)) (IntKind.wrap .i64 (IntKind.wrap .i32 b)) (-2147483648))], []) := by
  refine Eq.trans (Fd_of (n := 4) (m := 0) (t := t40) (C := Tab.fn a40) rfl rfl) ?_
  rw [t40]
  refine st_itt (show ((32 : Int) == 32) = true from by kernel_rfl) ?_
  refine st_rq (show ((32 : Int) != 0) = true from by kernel_rfl) ?_
  refine st_itf (show ((3 : Int) == 0) = false from by kernel_rfl) ?_
  refine st_itf (show ((3 : Int) == 1) = false from by kernel_rfl) ?_
  refine st_itf (show ((3 : Int) == 2) = false from by kernel_rfl) ?_
  refine st_itt (show ((3 : Int) == 3) = true from by kernel_rfl) ?_
  refine st_itt (show ((3 : Int) == 3) = true from by kernel_rfl) ?_
  refine st_2_0 (e40_64) (g := true) rfl (l := [0, a, b, (IntKind.wrap .i64 (IntKind.wrap .i32 a)), (IntKind.wrap .i64 (IntKind.wrap .i32 b)), (-2147483648)]) rfl (m := []) rfl (cl_t (q36_0 (a) (b) ((IntKind.wrap .i64 (IntKind.wrap .i32 a))) ((IntKind.wrap .i64 (IntKind.wrap .i32 b))) ((-2147483648)) (i32_ne b hb hb2))) fun i4 i5 hi4 hi5 => ?_
  show T.den _ _ [(3 : Int), a, b, (32 : Int), i4, i5] [] = _
  refine st_ret ?_
  show some ([i4, i5], []) = _
  subst hi4 hi5
  rfl

set_option maxHeartbeats 4000000 in
theorem q10_109 (a b : Int) : F16 [(109 : Int), a, b] [] = some ([(IntKind.wrap .u64 (IntKind.wrap .u32 (dq (IntKind.wrap .u64 (IntKind.wrap .u32 b)) (IntKind.wrap .i64 (IntKind.wrap .i32 (IntKind.wrap .u64 (IntKind.wrap .u32 a)))) (IntKind.wrap .i64 (IntKind.wrap .i32 (IntKind.wrap .u64 (IntKind.wrap .u32 b)))) (-2147483648)))), (dt (IntKind.wrap .u64 (IntKind.wrap .u32 b)) (IntKind.wrap .i64 (IntKind.wrap .i32 (IntKind.wrap .u64 (IntKind.wrap .u32 a)))) (IntKind.wrap .i64 (IntKind.wrap .i32 (IntKind.wrap .u64 (IntKind.wrap .u32 b)))) (-2147483648))], [true]) := by
  refine Eq.trans (Fd_of (n := 3) (m := 0) (t := t16) (C := Tab.fn a16) rfl rfl) ?_
  rw [t16]
  refine st_lbc (show ((decide ((109 : Int) ≥ 70)) && (decide ((109 : Int) ≤ 79))) = false from by kernel_rfl) ?_
  show T.den _ _ [(109 : Int), a, b] [false] = _
  refine st_itf (show false = false from by kernel_rfl) ?_
  refine st_lbc (show ((decide ((109 : Int) ≥ 81)) && (decide ((109 : Int) ≤ 90))) = false from by kernel_rfl) ?_
  show T.den _ _ [(109 : Int), a, b] [false, false] = _
  refine st_itf (show false = false from by kernel_rfl) ?_
  refine st_lbc (show ((decide ((109 : Int) ≥ 106)) && (decide ((109 : Int) ≤ 120))) = true from by kernel_rfl) ?_
  show T.den _ _ [(109 : Int), a, b] [false, false, true] = _
  refine st_itt (show true = true from by kernel_rfl) ?_
  refine st_2_0 (e16_40) (g := true) rfl (l := [3, (IntKind.wrap .u64 (IntKind.wrap .u32 a)), (IntKind.wrap .u64 (IntKind.wrap .u32 b)), 32]) rfl (m := []) rfl (cl_t (q18_3_32 (IntKind.wrap .u64 (IntKind.wrap .u32 a)) (IntKind.wrap .u64 (IntKind.wrap .u32 b)) (u32_ge _) (u32_lt _))) fun i3 i4 hi3 hi4 => ?_
  show T.den _ _ [(109 : Int), a, b, i3, i4] [false, false, true] = _
  refine st_ret ?_
  show some ([(IntKind.wrap .u64 (IntKind.wrap .u32 i3)), i4], [true]) = _
  subst hi3 hi4
  rfl

set_option maxHeartbeats 4000000 in
theorem q18_4_32 (a b : Int) (hb : 0 ≤ b) (hb2 : b < 4294967296) : F40 [(4 : Int), a, b, (32 : Int)] [] = some ([(uq a b), (dz b)], []) := by
  refine Eq.trans (Fd_of (n := 4) (m := 0) (t := t40) (C := Tab.fn a40) rfl rfl) ?_
  rw [t40]
  refine st_itt (show ((32 : Int) == 32) = true from by kernel_rfl) ?_
  refine st_rq (show ((32 : Int) != 0) = true from by kernel_rfl) ?_
  refine st_itf (show ((4 : Int) == 0) = false from by kernel_rfl) ?_
  refine st_itf (show ((4 : Int) == 1) = false from by kernel_rfl) ?_
  refine st_itf (show ((4 : Int) == 2) = false from by kernel_rfl) ?_
  refine st_itf (show ((4 : Int) == 3) = false from by kernel_rfl) ?_
  refine st_itt (show ((4 : Int) == 4) = true from by kernel_rfl) ?_
  refine st_itt (show ((4 : Int) == 4) = true from by kernel_rfl) ?_
  refine st_2_0 (e40_64) (g := true) rfl (l := [1, a, b, (IntKind.wrap .i64 (IntKind.wrap .i32 a)), (IntKind.wrap .i64 (IntKind.wrap .i32 b)), (-2147483648)]) rfl (m := []) rfl (cl_t (q36_1 (a) (b) ((IntKind.wrap .i64 (IntKind.wrap .i32 a))) ((IntKind.wrap .i64 (IntKind.wrap .i32 b))) ((-2147483648)) (i32_ne b hb hb2))) fun i4 i5 hi4 hi5 => ?_
  show T.den _ _ [(4 : Int), a, b, (32 : Int), i4, i5] [] = _
  refine st_ret ?_
  show some ([i4, i5], []) = _
  subst hi4 hi5
  rfl

set_option maxHeartbeats 4000000 in
theorem q10_110 (a b : Int) : F16 [(110 : Int), a, b] [] = some ([(IntKind.wrap .u64 (IntKind.wrap .u32 (uq (IntKind.wrap .u64 (IntKind.wrap .u32 a)) (IntKind.wrap .u64 (IntKind.wrap .u32 b))))), (dz (IntKind.wrap .u64 (IntKind.wrap .u32 b)))], [true]) := by
  refine Eq.trans (Fd_of (n := 3) (m := 0) (t := t16) (C := Tab.fn a16) rfl rfl) ?_
  rw [t16]
  refine st_lbc (show ((decide ((110 : Int) ≥ 70)) && (decide ((110 : Int) ≤ 79))) = false from by kernel_rfl) ?_
  show T.den _ _ [(110 : Int), a, b] [false] = _
  refine st_itf (show false = false from by kernel_rfl) ?_
  refine st_lbc (show ((decide ((110 : Int) ≥ 81)) && (decide ((110 : Int) ≤ 90))) = false from by kernel_rfl) ?_
  show T.den _ _ [(110 : Int), a, b] [false, false] = _
  refine st_itf (show false = false from by kernel_rfl) ?_
  refine st_lbc (show ((decide ((110 : Int) ≥ 106)) && (decide ((110 : Int) ≤ 120))) = true from by kernel_rfl) ?_
  show T.den _ _ [(110 : Int), a, b] [false, false, true] = _
  refine st_itt (show true = true from by kernel_rfl) ?_
  refine st_2_0 (e16_40) (g := true) rfl (l := [4, (IntKind.wrap .u64 (IntKind.wrap .u32 a)), (IntKind.wrap .u64 (IntKind.wrap .u32 b)), 32]) rfl (m := []) rfl (cl_t (q18_4_32 (IntKind.wrap .u64 (IntKind.wrap .u32 a)) (IntKind.wrap .u64 (IntKind.wrap .u32 b)) (u32_ge _) (u32_lt _))) fun i3 i4 hi3 hi4 => ?_
  show T.den _ _ [(110 : Int), a, b, i3, i4] [false, false, true] = _
  refine st_ret ?_
  show some ([(IntKind.wrap .u64 (IntKind.wrap .u32 i3)), i4], [true]) = _
  subst hi3 hi4
  rfl

set_option maxHeartbeats 4000000 in
theorem q18_5_32 (a b : Int) (hb : 0 ≤ b) (hb2 : b < 4294967296) : F40 [(5 : Int), a, b, (32 : Int)] [] = some ([(dr b (IntKind.wrap .i64 (IntKind.wrap .i32 a)) (IntKind.wrap .i64 (IntKind.wrap .i32 b))), (dz b)], []) := by
  refine Eq.trans (Fd_of (n := 4) (m := 0) (t := t40) (C := Tab.fn a40) rfl rfl) ?_
  rw [t40]
  refine st_itt (show ((32 : Int) == 32) = true from by kernel_rfl) ?_
  refine st_rq (show ((32 : Int) != 0) = true from by kernel_rfl) ?_
  refine st_itf (show ((5 : Int) == 0) = false from by kernel_rfl) ?_
  refine st_itf (show ((5 : Int) == 1) = false from by kernel_rfl) ?_
  refine st_itf (show ((5 : Int) == 2) = false from by kernel_rfl) ?_
  refine st_itf (show ((5 : Int) == 3) = false from by kernel_rfl) ?_
  refine st_itf (show ((5 : Int) == 4) = false from by kernel_rfl) ?_
  refine st_itt (show ((5 : Int) == 5) = true from by kernel_rfl) ?_
  refine st_itt (show ((5 : Int) == 5) = true from by kernel_rfl) ?_
  refine st_2_0 (e40_64) (g := true) rfl (l := [2, a, b, (IntKind.wrap .i64 (IntKind.wrap .i32 a)), (IntKind.wrap .i64 (IntKind.wrap .i32 b)), (-2147483648)]) rfl (m := []) rfl (cl_t (q36_2 (a) (b) ((IntKind.wrap .i64 (IntKind.wrap .i32 a))) ((IntKind.wrap .i64 (IntKind.wrap .i32 b))) ((-2147483648)) (i32_ne b hb hb2))) fun i4 i5 hi4 hi5 => ?_
  show T.den _ _ [(5 : Int), a, b, (32 : Int), i4, i5] [] = _
  refine st_ret ?_
  show some ([i4, i5], []) = _
  subst hi4 hi5
  rfl

set_option maxHeartbeats 4000000 in
theorem q10_111 (a b : Int) : F16 [(111 : Int), a, b] [] = some ([(IntKind.wrap .u64 (IntKind.wrap .u32 (dr (IntKind.wrap .u64 (IntKind.wrap .u32 b)) (IntKind.wrap .i64 (IntKind.wrap .i32 (IntKind.wrap .u64 (IntKind.wrap .u32 a)))) (IntKind.wrap .i64 (IntKind.wrap .i32 (IntKind.wrap .u64 (IntKind.wrap .u32 b))))))), (dz (IntKind.wrap .u64 (IntKind.wrap .u32 b)))], [true]) := by
  refine Eq.trans (Fd_of (n := 3) (m := 0) (t := t16) (C := Tab.fn a16) rfl rfl) ?_
  rw [t16]
  refine st_lbc (show ((decide ((111 : Int) ≥ 70)) && (decide ((111 : Int) ≤ 79))) = false from by kernel_rfl) ?_
  show T.den _ _ [(111 : Int), a, b] [false] = _
  refine st_itf (show false = false from by kernel_rfl) ?_
  refine st_lbc (show ((decide ((111 : Int) ≥ 81)) && (decide ((111 : Int) ≤ 90))) = false from by kernel_rfl) ?_
  show T.den _ _ [(111 : Int), a, b] [false, false] = _
  refine st_itf (show false = false from by kernel_rfl) ?_
  refine st_lbc (show ((decide ((111 : Int) ≥ 106)) && (decide ((111 : Int) ≤ 120))) = true from by kernel_rfl) ?_
  show T.den _ _ [(111 : Int), a, b] [false, false, true] = _
  refine st_itt (show true = true from by kernel_rfl) ?_
  refine st_2_0 (e16_40) (g := true) rfl (l := [5, (IntKind.wrap .u64 (IntKind.wrap .u32 a)), (IntKind.wrap .u64 (IntKind.wrap .u32 b)), 32]) rfl (m := []) rfl (cl_t (q18_5_32 (IntKind.wrap .u64 (IntKind.wrap .u32 a)) (IntKind.wrap .u64 (IntKind.wrap .u32 b)) (u32_ge _) (u32_lt _))) fun i3 i4 hi3 hi4 => ?_
  show T.den _ _ [(111 : Int), a, b, i3, i4] [false, false, true] = _
  refine st_ret ?_
  show some ([(IntKind.wrap .u64 (IntKind.wrap .u32 i3)), i4], [true]) = _
  subst hi3 hi4
  rfl

set_option maxHeartbeats 4000000 in
theorem q18_6_32 (a b : Int) (hb : 0 ≤ b) (hb2 : b < 4294967296) : F40 [(6 : Int), a, b, (32 : Int)] [] = some ([(ur a b), (dz b)], []) := by
  refine Eq.trans (Fd_of (n := 4) (m := 0) (t := t40) (C := Tab.fn a40) rfl rfl) ?_
  rw [t40]
  refine st_itt (show ((32 : Int) == 32) = true from by kernel_rfl) ?_
  refine st_rq (show ((32 : Int) != 0) = true from by kernel_rfl) ?_
  refine st_itf (show ((6 : Int) == 0) = false from by kernel_rfl) ?_
  refine st_itf (show ((6 : Int) == 1) = false from by kernel_rfl) ?_
  refine st_itf (show ((6 : Int) == 2) = false from by kernel_rfl) ?_
  refine st_itf (show ((6 : Int) == 3) = false from by kernel_rfl) ?_
  refine st_itf (show ((6 : Int) == 4) = false from by kernel_rfl) ?_
  refine st_itf (show ((6 : Int) == 5) = false from by kernel_rfl) ?_
  refine st_itt (show ((6 : Int) == 6) = true from by kernel_rfl) ?_
  refine st_2_0 (e40_64) (g := true) rfl (l := [3, a, b, (IntKind.wrap .i64 (IntKind.wrap .i32 a)), (IntKind.wrap .i64 (IntKind.wrap .i32 b)), (-2147483648)]) rfl (m := []) rfl (cl_t (q36_3 (a) (b) ((IntKind.wrap .i64 (IntKind.wrap .i32 a))) ((IntKind.wrap .i64 (IntKind.wrap .i32 b))) ((-2147483648)) (i32_ne b hb hb2))) fun i4 i5 hi4 hi5 => ?_
  show T.den _ _ [(6 : Int), a, b, (32 : Int), i4, i5] [] = _
  refine st_ret ?_
  show some ([i4, i5], []) = _
  subst hi4 hi5
  rfl

set_option maxHeartbeats 4000000 in
theorem q10_112 (a b : Int) : F16 [(112 : Int), a, b] [] = some ([(IntKind.wrap .u64 (IntKind.wrap .u32 (ur (IntKind.wrap .u64 (IntKind.wrap .u32 a)) (IntKind.wrap .u64 (IntKind.wrap .u32 b))))), (dz (IntKind.wrap .u64 (IntKind.wrap .u32 b)))], [true]) := by
  refine Eq.trans (Fd_of (n := 3) (m := 0) (t := t16) (C := Tab.fn a16) rfl rfl) ?_
  rw [t16]
  refine st_lbc (show ((decide ((112 : Int) ≥ 70)) && (decide ((112 : Int) ≤ 79))) = false from by kernel_rfl) ?_
  show T.den _ _ [(112 : Int), a, b] [false] = _
  refine st_itf (show false = false from by kernel_rfl) ?_
  refine st_lbc (show ((decide ((112 : Int) ≥ 81)) && (decide ((112 : Int) ≤ 90))) = false from by kernel_rfl) ?_
  show T.den _ _ [(112 : Int), a, b] [false, false] = _
  refine st_itf (show false = false from by kernel_rfl) ?_
  refine st_lbc (show ((decide ((112 : Int) ≥ 106)) && (decide ((112 : Int) ≤ 120))) = true from by kernel_rfl) ?_
  show T.den _ _ [(112 : Int), a, b] [false, false, true] = _
  refine st_itt (show true = true from by kernel_rfl) ?_
  refine st_2_0 (e16_40) (g := true) rfl (l := [6, (IntKind.wrap .u64 (IntKind.wrap .u32 a)), (IntKind.wrap .u64 (IntKind.wrap .u32 b)), 32]) rfl (m := []) rfl (cl_t (q18_6_32 (IntKind.wrap .u64 (IntKind.wrap .u32 a)) (IntKind.wrap .u64 (IntKind.wrap .u32 b)) (u32_ge _) (u32_lt _))) fun i3 i4 hi3 hi4 => ?_
  show T.den _ _ [(112 : Int), a, b, i3, i4] [false, false, true] = _
  refine st_ret ?_
  show some ([(IntKind.wrap .u64 (IntKind.wrap .u32 i3)), i4], [true]) = _
  subst hi3 hi4
  rfl

set_option maxHeartbeats 4000000 in
theorem q18_7_32 (a b : Int) : F40 [(7 : Int), a, b, (32 : Int)] [] = some ([(arI .and .u64 a b), 0], []) := by
  refine Eq.trans (Fd_of (n := 4) (m := 0) (t := t40) (C := Tab.fn a40) rfl rfl) ?_
  rw [t40]
  refine st_itt (show ((32 : Int) == 32) = true from by kernel_rfl) ?_
  refine st_rq (show ((32 : Int) != 0) = true from by kernel_rfl) ?_
  refine st_itf (show ((7 : Int) == 0) = false from by kernel_rfl) ?_
  refine st_itf (show ((7 : Int) == 1) = false from by kernel_rfl) ?_
  refine st_itf (show ((7 : Int) == 2) = false from by kernel_rfl) ?_
  refine st_itf (show ((7 : Int) == 3) = false from by kernel_rfl) ?_
  refine st_itf (show ((7 : Int) == 4) = false from by kernel_rfl) ?_
  refine st_itf (show ((7 : Int) == 5) = false from by kernel_rfl) ?_
  refine st_itf (show ((7 : Int) == 6) = false from by kernel_rfl) ?_
  refine st_itt (show ((7 : Int) == 7) = true from by kernel_rfl) ?_
  refine st_ret ?_
  show some ([(arI .and .u64 a b), 0], []) = _
  rfl

set_option maxHeartbeats 4000000 in
theorem q10_113 (a b : Int) : F16 [(113 : Int), a, b] [] = some ([(IntKind.wrap .u64 (IntKind.wrap .u32 (arI .and .u64 (IntKind.wrap .u64 (IntKind.wrap .u32 a)) (IntKind.wrap .u64 (IntKind.wrap .u32 b))))), 0], [true]) := by
  refine Eq.trans (Fd_of (n := 3) (m := 0) (t := t16) (C := Tab.fn a16) rfl rfl) ?_
  rw [t16]
  refine st_lbc (show ((decide ((113 : Int) ≥ 70)) && (decide ((113 : Int) ≤ 79))) = false from by kernel_rfl) ?_
  show T.den _ _ [(113 : Int), a, b] [false] = _
  refine st_itf (show false = false from by kernel_rfl) ?_
  refine st_lbc (show ((decide ((113 : Int) ≥ 81)) && (decide ((113 : Int) ≤ 90))) = false from by kernel_rfl) ?_
  show T.den _ _ [(113 : Int), a, b] [false, false] = _
  refine st_itf (show false = false from by kernel_rfl) ?_
  refine st_lbc (show ((decide ((113 : Int) ≥ 106)) && (decide ((113 : Int) ≤ 120))) = true from by kernel_rfl) ?_
  show T.den _ _ [(113 : Int), a, b] [false, false, true] = _
  refine st_itt (show true = true from by kernel_rfl) ?_
  refine st_2_0 (e16_40) (g := true) rfl (l := [7, (IntKind.wrap .u64 (IntKind.wrap .u32 a)), (IntKind.wrap .u64 (IntKind.wrap .u32 b)), 32]) rfl (m := []) rfl (cl_t (q18_7_32 (IntKind.wrap .u64 (IntKind.wrap .u32 a)) (IntKind.wrap .u64 (IntKind.wrap .u32 b)) )) fun i3 i4 hi3 hi4 => ?_
  show T.den _ _ [(113 : Int), a, b, i3, i4] [false, false, true] = _
  refine st_ret ?_
  show some ([(IntKind.wrap .u64 (IntKind.wrap .u32 i3)), i4], [true]) = _
  subst hi3 hi4
  rfl

set_option maxHeartbeats 4000000 in
theorem q18_8_32 (a b : Int) : F40 [(8 : Int), a, b, (32 : Int)] [] = some ([(arI .or .u64 a b), 0], []) := by
  refine Eq.trans (Fd_of (n := 4) (m := 0) (t := t40) (C := Tab.fn a40) rfl rfl) ?_
  rw [t40]
  refine st_itt (show ((32 : Int) == 32) = true from by kernel_rfl) ?_
  refine st_rq (show ((32 : Int) != 0) = true from by kernel_rfl) ?_
  refine st_itf (show ((8 : Int) == 0) = false from by kernel_rfl) ?_
  refine st_itf (show ((8 : Int) == 1) = false from by kernel_rfl) ?_
  refine st_itf (show ((8 : Int) == 2) = false from by kernel_rfl) ?_
  refine st_itf (show ((8 : Int) == 3) = false from by kernel_rfl) ?_
  refine st_itf (show ((8 : Int) == 4) = false from by kernel_rfl) ?_
  refine st_itf (show ((8 : Int) == 5) = false from by kernel_rfl) ?_
  refine st_itf (show ((8 : Int) == 6) = false from by kernel_rfl) ?_
  refine st_itf (show ((8 : Int) == 7) = false from by kernel_rfl) ?_
  refine st_itt (show ((8 : Int) == 8) = true from by kernel_rfl) ?_
  refine st_ret ?_
  show some ([(arI .or .u64 a b), 0], []) = _
  rfl

set_option maxHeartbeats 4000000 in
theorem q10_114 (a b : Int) : F16 [(114 : Int), a, b] [] = some ([(IntKind.wrap .u64 (IntKind.wrap .u32 (arI .or .u64 (IntKind.wrap .u64 (IntKind.wrap .u32 a)) (IntKind.wrap .u64 (IntKind.wrap .u32 b))))), 0], [true]) := by
  refine Eq.trans (Fd_of (n := 3) (m := 0) (t := t16) (C := Tab.fn a16) rfl rfl) ?_
  rw [t16]
  refine st_lbc (show ((decide ((114 : Int) ≥ 70)) && (decide ((114 : Int) ≤ 79))) = false from by kernel_rfl) ?_
  show T.den _ _ [(114 : Int), a, b] [false] = _
  refine st_itf (show false = false from by kernel_rfl) ?_
  refine st_lbc (show ((decide ((114 : Int) ≥ 81)) && (decide ((114 : Int) ≤ 90))) = false from by kernel_rfl) ?_
  show T.den _ _ [(114 : Int), a, b] [false, false] = _
  refine st_itf (show false = false from by kernel_rfl) ?_
  refine st_lbc (show ((decide ((114 : Int) ≥ 106)) && (decide ((114 : Int) ≤ 120))) = true from by kernel_rfl) ?_
  show T.den _ _ [(114 : Int), a, b] [false, false, true] = _
  refine st_itt (show true = true from by kernel_rfl) ?_
  refine st_2_0 (e16_40) (g := true) rfl (l := [8, (IntKind.wrap .u64 (IntKind.wrap .u32 a)), (IntKind.wrap .u64 (IntKind.wrap .u32 b)), 32]) rfl (m := []) rfl (cl_t (q18_8_32 (IntKind.wrap .u64 (IntKind.wrap .u32 a)) (IntKind.wrap .u64 (IntKind.wrap .u32 b)) )) fun i3 i4 hi3 hi4 => ?_
  show T.den _ _ [(114 : Int), a, b, i3, i4] [false, false, true] = _
  refine st_ret ?_
  show some ([(IntKind.wrap .u64 (IntKind.wrap .u32 i3)), i4], [true]) = _
  subst hi3 hi4
  rfl

set_option maxHeartbeats 4000000 in
theorem q18_9_32 (a b : Int) : F40 [(9 : Int), a, b, (32 : Int)] [] = some ([(arI .xor .u64 a b), 0], []) := by
  refine Eq.trans (Fd_of (n := 4) (m := 0) (t := t40) (C := Tab.fn a40) rfl rfl) ?_
  rw [t40]
  refine st_itt (show ((32 : Int) == 32) = true from by kernel_rfl) ?_
  refine st_rq (show ((32 : Int) != 0) = true from by kernel_rfl) ?_
  refine st_itf (show ((9 : Int) == 0) = false from by kernel_rfl) ?_
  refine st_itf (show ((9 : Int) == 1) = false from by kernel_rfl) ?_
  refine st_itf (show ((9 : Int) == 2) = false from by kernel_rfl) ?_
  refine st_itf (show ((9 : Int) == 3) = false from by kernel_rfl) ?_
  refine st_itf (show ((9 : Int) == 4) = false from by kernel_rfl) ?_
  refine st_itf (show ((9 : Int) == 5) = false from by kernel_rfl) ?_
  refine st_itf (show ((9 : Int) == 6) = false from by kernel_rfl) ?_
  refine st_itf (show ((9 : Int) == 7) = false from by kernel_rfl) ?_
  refine st_itf (show ((9 : Int) == 8) = false from by kernel_rfl) ?_
  refine st_itt (show ((9 : Int) == 9) = true from by kernel_rfl) ?_
  refine st_ret ?_
  show some ([(arI .xor .u64 a b), 0], []) = _
  rfl

set_option maxHeartbeats 4000000 in
theorem q10_115 (a b : Int) : F16 [(115 : Int), a, b] [] = some ([(IntKind.wrap .u64 (IntKind.wrap .u32 (arI .xor .u64 (IntKind.wrap .u64 (IntKind.wrap .u32 a)) (IntKind.wrap .u64 (IntKind.wrap .u32 b))))), 0], [true]) := by
  refine Eq.trans (Fd_of (n := 3) (m := 0) (t := t16) (C := Tab.fn a16) rfl rfl) ?_
  rw [t16]
  refine st_lbc (show ((decide ((115 : Int) ≥ 70)) && (decide ((115 : Int) ≤ 79))) = false from by kernel_rfl) ?_
  show T.den _ _ [(115 : Int), a, b] [false] = _
  refine st_itf (show false = false from by kernel_rfl) ?_
  refine st_lbc (show ((decide ((115 : Int) ≥ 81)) && (decide ((115 : Int) ≤ 90))) = false from by kernel_rfl) ?_
  show T.den _ _ [(115 : Int), a, b] [false, false] = _
  refine st_itf (show false = false from by kernel_rfl) ?_
  refine st_lbc (show ((decide ((115 : Int) ≥ 106)) && (decide ((115 : Int) ≤ 120))) = true from by kernel_rfl) ?_
  show T.den _ _ [(115 : Int), a, b] [false, false, true] = _
  refine st_itt (show true = true from by kernel_rfl) ?_
  refine st_2_0 (e16_40) (g := true) rfl (l := [9, (IntKind.wrap .u64 (IntKind.wrap .u32 a)), (IntKind.wrap .u64 (IntKind.wrap .u32 b)), 32]) rfl (m := []) rfl (cl_t (q18_9_32 (IntKind.wrap .u64 (IntKind.wrap .u32 a)) (IntKind.wrap .u64 (IntKind.wrap .u32 b)) )) fun i3 i4 hi3 hi4 => ?_
  show T.den _ _ [(115 : Int), a, b, i3, i4] [false, false, true] = _
  refine st_ret ?_
  show some ([(IntKind.wrap .u64 (IntKind.wrap .u32 i3)), i4], [true]) = _
  subst hi3 hi4
  rfl

set_option maxHeartbeats 4000000 in
theorem q18_10_32 (a b : Int) (hb : 0 ≤ b) : F40 [(10 : Int), a, b, (32 : Int)] [] = some ([(arI .shl .u64 a (arI .rem .u64 b (32 : Int))), 0], []) := by
  refine Eq.trans (Fd_of (n := 4) (m := 0) (t := t40) (C := Tab.fn a40) rfl rfl) ?_
  rw [t40]
  refine st_itt (show ((32 : Int) == 32) = true from by kernel_rfl) ?_
  refine st_rq (show ((32 : Int) != 0) = true from by kernel_rfl) ?_
  refine st_itf (show ((10 : Int) == 0) = false from by kernel_rfl) ?_
  refine st_itf (show ((10 : Int) == 1) = false from by kernel_rfl) ?_
  refine st_itf (show ((10 : Int) == 2) = false from by kernel_rfl) ?_
  refine st_itf (show ((10 : Int) == 3) = false from by kernel_rfl) ?_
  refine st_itf (show ((10 : Int) == 4) = false from by kernel_rfl) ?_
  refine st_itf (show ((10 : Int) == 5) = false from by kernel_rfl) ?_
  refine st_itf (show ((10 : Int) == 6) = false from by kernel_rfl) ?_
  refine st_itf (show ((10 : Int) == 7) = false from by kernel_rfl) ?_
  refine st_itf (show ((10 : Int) == 8) = false from by kernel_rfl) ?_
  refine st_itf (show ((10 : Int) == 9) = false from by kernel_rfl) ?_
  refine st_itt (show ((10 : Int) == 10) = true from by kernel_rfl) ?_
  refine st_rq (show (decide ((arI .rem .u64 b (32 : Int)) ≥ 0)) = true from ?_) ?_
  · first | exact rem_ge _ _ (by omega) | exact sub_ge _ _ | (subst_vars; exact sub_ge _ _) | (omega)
  refine st_ret ?_
  show some ([(arI .shl .u64 a (arI .rem .u64 b (32 : Int))), 0], []) = _
  rfl

set_option maxHeartbeats 4000000 in
theorem q10_116 (a b : Int) : F16 [(116 : Int), a, b] [] = some ([(IntKind.wrap .u64 (IntKind.wrap .u32 (arI .shl .u64 (IntKind.wrap .u64 (IntKind.wrap .u32 a)) (arI .rem .u64 (IntKind.wrap .u64 (IntKind.wrap .u32 b)) (32 : Int))))), 0], [true]) := by
  refine Eq.trans (Fd_of (n := 3) (m := 0) (t := t16) (C := Tab.fn a16) rfl rfl) ?_
  rw [t16]
  refine st_lbc (show ((decide ((116 : Int) ≥ 70)) && (decide ((116 : Int) ≤ 79))) = false from by kernel_rfl) ?_
  show T.den _ _ [(116 : Int), a, b] [false] = _
  refine st_itf (show false = false from by kernel_rfl) ?_
  refine st_lbc (show ((decide ((116 : Int) ≥ 81)) && (decide ((116 : Int) ≤ 90))) = false from by kernel_rfl) ?_
  show T.den _ _ [(116 : Int), a, b] [false, false] = _
  refine st_itf (show false = false from by kernel_rfl) ?_
  refine st_lbc (show ((decide ((116 : Int) ≥ 106)) && (decide ((116 : Int) ≤ 120))) = true from by kernel_rfl) ?_
  show T.den _ _ [(116 : Int), a, b] [false, false, true] = _
  refine st_itt (show true = true from by kernel_rfl) ?_
  refine st_2_0 (e16_40) (g := true) rfl (l := [10, (IntKind.wrap .u64 (IntKind.wrap .u32 a)), (IntKind.wrap .u64 (IntKind.wrap .u32 b)), 32]) rfl (m := []) rfl (cl_t (q18_10_32 (IntKind.wrap .u64 (IntKind.wrap .u32 a)) (IntKind.wrap .u64 (IntKind.wrap .u32 b)) (u32_ge _))) fun i3 i4 hi3 hi4 => ?_
  show T.den _ _ [(116 : Int), a, b, i3, i4] [false, false, true] = _
  refine st_ret ?_
  show some ([(IntKind.wrap .u64 (IntKind.wrap .u32 i3)), i4], [true]) = _
  subst hi3 hi4
  rfl

set_option maxHeartbeats 4000000 in
theorem q18_11_32 (a b : Int) (hb : 0 ≤ b) : F40 [(11 : Int), a, b, (32 : Int)] [] = some ([(IntKind.wrap .u64 (arI .shr .i64 (IntKind.wrap .i64 (IntKind.wrap .i32 a)) (arI .rem .u64 b (32 : Int)))), 0], []) := by
  refine Eq.trans (Fd_of (n := 4) (m := 0) (t := t40) (C := Tab.fn a40) rfl rfl) ?_
  rw [t40]
  refine st_itt (show ((32 : Int) == 32) = true from by kernel_rfl) ?_
  refine st_rq (show ((32 : Int) != 0) = true from by kernel_rfl) ?_
  refine st_itf (show ((11 : Int) == 0) = false from by kernel_rfl) ?_
  refine st_itf (show ((11 : Int) == 1) = false from by kernel_rfl) ?_
  refine st_itf (show ((11 : Int) == 2) = false from by kernel_rfl) ?_
  refine st_itf (show ((11 : Int) == 3) = false from by kernel_rfl) ?_
  refine st_itf (show ((11 : Int) == 4) = false from by kernel_rfl) ?_
  refine st_itf (show ((11 : Int) == 5) = false from by kernel_rfl) ?_
  refine st_itf (show ((11 : Int) == 6) = false from by kernel_rfl) ?_
  refine st_itf (show ((11 : Int) == 7) = false from by kernel_rfl) ?_
  refine st_itf (show ((11 : Int) == 8) = false from by kernel_rfl) ?_
  refine st_itf (show ((11 : Int) == 9) = false from by kernel_rfl) ?_
  refine st_itf (show ((11 : Int) == 10) = false from by kernel_rfl) ?_
  refine st_itt (show ((11 : Int) == 11) = true from by kernel_rfl) ?_
  refine st_rq (show (decide ((arI .rem .u64 b (32 : Int)) ≥ 0)) = true from ?_) ?_
  · first | exact rem_ge _ _ (by omega) | exact sub_ge _ _ | (subst_vars; exact sub_ge _ _) | (omega)
  refine st_li fun i4 hi4 => ?_
  replace hi4 : i4 = (arI .shr .i64 (IntKind.wrap .i64 (IntKind.wrap .i32 a)) (arI .rem .u64 b (32 : Int))) := hi4
  show T.den _ _ [(11 : Int), a, b, (32 : Int), i4] [] = _
  refine st_ret ?_
  show some ([(IntKind.wrap .u64 i4), 0], []) = _
  subst hi4
  rfl

set_option maxHeartbeats 4000000 in
theorem q10_117 (a b : Int) : F16 [(117 : Int), a, b] [] = some ([(IntKind.wrap .u64 (IntKind.wrap .u32 (IntKind.wrap .u64 (arI .shr .i64 (IntKind.wrap .i64 (IntKind.wrap .i32 (IntKind.wrap .u64 (IntKind.wrap .u32 a)))) (arI .rem .u64 (IntKind.wrap .u64 (IntKind.wrap .u32 b)) (32 : Int)))))), 0], [true]) := by
  refine Eq.trans (Fd_of (n := 3) (m := 0) (t := t16) (C := Tab.fn a16) rfl rfl) ?_
  rw [t16]
  refine st_lbc (show ((decide ((117 : Int) ≥ 70)) && (decide ((117 : Int) ≤ 79))) = false from by kernel_rfl) ?_
  show T.den _ _ [(117 : Int), a, b] [false] = _
  refine st_itf (show false = false from by kernel_rfl) ?_
  refine st_lbc (show ((decide ((117 : Int) ≥ 81)) && (decide ((117 : Int) ≤ 90))) = false from by kernel_rfl) ?_
  show T.den _ _ [(117 : Int), a, b] [false, false] = _
  refine st_itf (show false = false from by kernel_rfl) ?_
  refine st_lbc (show ((decide ((117 : Int) ≥ 106)) && (decide ((117 : Int) ≤ 120))) = true from by kernel_rfl) ?_
  show T.den _ _ [(117 : Int), a, b] [false, false, true] = _
  refine st_itt (show true = true from by kernel_rfl) ?_
  refine st_2_0 (e16_40) (g := true) rfl (l := [11, (IntKind.wrap .u64 (IntKind.wrap .u32 a)), (IntKind.wrap .u64 (IntKind.wrap .u32 b)), 32]) rfl (m := []) rfl (cl_t (q18_11_32 (IntKind.wrap .u64 (IntKind.wrap .u32 a)) (IntKind.wrap .u64 (IntKind.wrap .u32 b)) (u32_ge _))) fun i3 i4 hi3 hi4 => ?_
  show T.den _ _ [(117 : Int), a, b, i3, i4] [false, false, true] = _
  refine st_ret ?_
  show some ([(IntKind.wrap .u64 (IntKind.wrap .u32 i3)), i4], [true]) = _
  subst hi3 hi4
  rfl

set_option maxHeartbeats 4000000 in
theorem q18_12_32 (a b : Int) (hb : 0 ≤ b) : F40 [(12 : Int), a, b, (32 : Int)] [] = some ([(arI .shr .u64 a (arI .rem .u64 b (32 : Int))), 0], []) := by
  refine Eq.trans (Fd_of (n := 4) (m := 0) (t := t40) (C := Tab.fn a40) rfl rfl) ?_
  rw [t40]
  refine st_itt (show ((32 : Int) == 32) = true from by kernel_rfl) ?_
  refine st_rq (show ((32 : Int) != 0) = true from by kernel_rfl) ?_
  refine st_itf (show ((12 : Int) == 0) = false from by kernel_rfl) ?_
  refine st_itf (show ((12 : Int) == 1) = false from by kernel_rfl) ?_
  refine st_itf (show ((12 : Int) == 2) = false from by kernel_rfl) ?_
  refine st_itf (show ((12 : Int) == 3) = false from by kernel_rfl) ?_
  refine st_itf (show ((12 : Int) == 4) = false from by kernel_rfl) ?_
  refine st_itf (show ((12 : Int) == 5) = false from by kernel_rfl) ?_
  refine st_itf (show ((12 : Int) == 6) = false from by kernel_rfl) ?_
  refine st_itf (show ((12 : Int) == 7) = false from by kernel_rfl) ?_
  refine st_itf (show ((12 : Int) == 8) = false from by kernel_rfl) ?_
  refine st_itf (show ((12 : Int) == 9) = false from by kernel_rfl) ?_
  refine st_itf (show ((12 : Int) == 10) = false from by kernel_rfl) ?_
  refine st_itf (show ((12 : Int) == 11) = false from by kernel_rfl) ?_
  refine st_itt (show ((12 : Int) == 12) = true from by kernel_rfl) ?_
  refine st_rq (show (decide ((arI .rem .u64 b (32 : Int)) ≥ 0)) = true from ?_) ?_
  · first | exact rem_ge _ _ (by omega) | exact sub_ge _ _ | (subst_vars; exact sub_ge _ _) | (omega)
  refine st_ret ?_
  show some ([(arI .shr .u64 a (arI .rem .u64 b (32 : Int))), 0], []) = _
  rfl

set_option maxHeartbeats 4000000 in
theorem q10_118 (a b : Int) : F16 [(118 : Int), a, b] [] = some ([(IntKind.wrap .u64 (IntKind.wrap .u32 (arI .shr .u64 (IntKind.wrap .u64 (IntKind.wrap .u32 a)) (arI .rem .u64 (IntKind.wrap .u64 (IntKind.wrap .u32 b)) (32 : Int))))), 0], [true]) := by
  refine Eq.trans (Fd_of (n := 3) (m := 0) (t := t16) (C := Tab.fn a16) rfl rfl) ?_
  rw [t16]
  refine st_lbc (show ((decide ((118 : Int) ≥ 70)) && (decide ((118 : Int) ≤ 79))) = false from by kernel_rfl) ?_
  show T.den _ _ [(118 : Int), a, b] [false] = _
  refine st_itf (show false = false from by kernel_rfl) ?_
  refine st_lbc (show ((decide ((118 : Int) ≥ 81)) && (decide ((118 : Int) ≤ 90))) = false from by kernel_rfl) ?_
  show T.den _ _ [(118 : Int), a, b] [false, false] = _
  refine st_itf (show false = false from by kernel_rfl) ?_
  refine st_lbc (show ((decide ((118 : Int) ≥ 106)) && (decide ((118 : Int) ≤ 120))) = true from by kernel_rfl) ?_
  show T.den _ _ [(118 : Int), a, b] [false, false, true] = _
  refine st_itt (show true = true from by kernel_rfl) ?_
  refine st_2_0 (e16_40) (g := true) rfl (l := [12, (IntKind.wrap .u64 (IntKind.wrap .u32 a)), (IntKind.wrap .u64 (IntKind.wrap .u32 b)), 32]) rfl (m := []) rfl (cl_t (q18_12_32 (IntKind.wrap .u64 (IntKind.wrap .u32 a)) (IntKind.wrap .u64 (IntKind.wrap .u32 b)) (u32_ge _))) fun i3 i4 hi3 hi4 => ?_
  show T.den _ _ [(118 : Int), a, b, i3, i4] [false, false, true] = _
  refine st_ret ?_
  show some ([(IntKind.wrap .u64 (IntKind.wrap .u32 i3)), i4], [true]) = _
  subst hi3 hi4
  rfl

set_option maxHeartbeats 4000000 in
theorem q18_13_32 (a b : Int) (hb : 0 ≤ b) : F40 [(13 : Int), a, b, (32 : Int)] [] = some ([(arI .or .u64 (arI .shl .u64 a (arI .rem .u64 b (32 : Int))) (arI .shr .u64 a (arI .sub .u64 (32 : Int) (arI .rem .u64 b (32 : Int))))), 0], []) := by
  refine Eq.trans (Fd_of (n := 4) (m := 0) (t := t40) (C := Tab.fn a40) rfl rfl) ?_
  rw [t40]
  refine st_itt (show ((32 : Int) == 32) = true from by kernel_rfl) ?_
  refine st_rq (show ((32 : Int) != 0) = true from by kernel_rfl) ?_
  refine st_itf (show ((13 : Int) == 0) = false from by kernel_rfl) ?_
  refine st_itf (show ((13 : Int) == 1) = false from by kernel_rfl) ?_
  refine st_itf (show ((13 : Int) == 2) = false from by kernel_rfl) ?_
  refine st_itf (show ((13 : Int) == 3) = false from by kernel_rfl) ?_
  refine st_itf (show ((13 : Int) == 4) = false from by kernel_rfl) ?_
  refine st_itf (show ((13 : Int) == 5) = false from by kernel_rfl) ?_
  refine st_itf (show ((13 : Int) == 6) = false from by kernel_rfl) ?_
  refine st_itf (show ((13 : Int) == 7) = false from by kernel_rfl) ?_
  refine st_itf (show ((13 : Int) == 8) = false from by kernel_rfl) ?_
  refine st_itf (show ((13 : Int) == 9) = false from by kernel_rfl) ?_
  refine st_itf (show ((13 : Int) == 10) = false from by kernel_rfl) ?_
  refine st_itf (show ((13 : Int) == 11) = false from by kernel_rfl) ?_
  refine st_itf (show ((13 : Int) == 12) = false from by kernel_rfl) ?_
  refine st_itt (show ((13 : Int) == 13) = true from by kernel_rfl) ?_
  refine st_rq (show (decide ((arI .rem .u64 b (32 : Int)) ≥ 0)) = true from ?_) ?_
  · first | exact rem_ge _ _ (by omega) | exact sub_ge _ _ | (subst_vars; exact sub_ge _ _) | (omega)
  refine st_li fun i4 hi4 => ?_
  replace hi4 : i4 = (arI .sub .u64 (32 : Int) (arI .rem .u64 b (32 : Int))) := hi4
  show T.den _ _ [(13 : Int), a, b, (32 : Int), i4] [] = _
  refine st_rq (show (decide (i4 ≥ 0)) = true from ?_) ?_
  · first | exact rem_ge _ _ (by omega) | exact sub_ge _ _ | (subst_vars; exact sub_ge _ _) | (omega)
  refine st_li fun i5 hi5 => ?_
  replace hi5 : i5 = (arI .or .u64 (arI .shl .u64 a (arI .rem .u64 b (32 : Int))) (arI .shr .u64 a i4)) := hi5
  show T.den _ _ [(13 : Int), a, b, (32 : Int), i4, i5] [] = _
  refine st_ret ?_
  show some ([i5, 0], []) = _
  subst hi4 hi5
  rfl

set_option maxHeartbeats 4000000 in
theorem q10_119 (a b : Int) : F16 [(119 : Int), a, b] [] = some ([(IntKind.wrap .u64 (IntKind.wrap .u32 (arI .or .u64 (arI .shl .u64 (IntKind.wrap .u64 (IntKind.wrap .u32 a)) (arI .rem .u64 (IntKind.wrap .u64 (IntKind.wrap .u32 b)) (32 : Int))) (arI .shr .u64 (IntKind.wrap .u64 (IntKind.wrap .u32 a)) (arI .sub .u64 (32 : Int) (arI .rem .u64 (IntKind.wrap .u64 (IntKind.wrap .u32 b)) (32 : Int))))))), 0], [true]) := by
  refine Eq.trans (Fd_of (n := 3) (m := 0) (t := t16) (C := Tab.fn a16) rfl rfl) ?_
  rw [t16]
  refine st_lbc (show ((decide ((119 : Int) ≥ 70)) && (decide ((119 : Int) ≤ 79))) = false from by kernel_rfl) ?_
  show T.den _ _ [(119 : Int), a, b] [false] = _
  refine st_itf (show false = false from by kernel_rfl) ?_
  refine st_lbc (show ((decide ((119 : Int) ≥ 81)) && (decide ((119 : Int) ≤ 90))) = false from by kernel_rfl) ?_
  show T.den _ _ [(119 : Int), a, b] [false, false] = _
  refine st_itf (show false = false from by kernel_rfl) ?_
  refine st_lbc (show ((decide ((119 : Int) ≥ 106)) && (decide ((119 : Int) ≤ 120))) = true from by kernel_rfl) ?_
  show T.den _ _ [(119 : Int), a, b] [false, false, true] = _
  refine st_itt (show true = true from by kernel_rfl) ?_
  refine st_2_0 (e16_40) (g := true) rfl (l := [13, (IntKind.wrap .u64 (IntKind.wrap .u32 a)), (IntKind.wrap .u64 (IntKind.wrap .u32 b)), 32]) rfl (m := []) rfl (cl_t (q18_13_32 (IntKind.wrap .u64 (IntKind.wrap .u32 a)) (IntKind.wrap .u64 (IntKind.wrap .u32 b)) (u32_ge _))) fun i3 i4 hi3 hi4 => ?_
  show T.den _ _ [(119 : Int), a, b, i3, i4] [false, false, true] = _
  refine st_ret ?_
  show some ([(IntKind.wrap .u64 (IntKind.wrap .u32 i3)), i4], [true]) = _
  subst hi3 hi4
  rfl

set_option maxHeartbeats 4000000 in
theorem q18_14_32 (a b : Int) (hb : 0 ≤ b) : F40 [(14 : Int), a, b, (32 : Int)] [] = some ([(arI .or .u64 (arI .shr .u64 a (arI .rem .u64 b (32 : Int))) (arI .shl .u64 a (arI .sub .u64 (32 : Int) (arI .rem .u64 b (32 : Int))))), 0], []) := by
  refine Eq.trans (Fd_of (n := 4) (m := 0) (t := t40) (C := Tab.fn a40) rfl rfl) ?_
  rw [t40]
  refine st_itt (show ((32 : Int) == 32) = true from by kernel_rfl) ?_
  refine st_rq (show ((32 : Int) != 0) = true from by kernel_rfl) ?_
  refine st_itf (show ((14 : Int) == 0) = false from by kernel_rfl) ?_
  refine st_itf (show ((14 : Int) == 1) = false from by kernel_rfl) ?_
  refine st_itf (show ((14 : Int) == 2) = false from by kernel_rfl) ?_
  refine st_itf (show ((14 : Int) == 3) = false from by kernel_rfl) ?_
  refine st_itf (show ((14 : Int) == 4) = false from by kernel_rfl) ?_
  refine st_itf (show ((14 : Int) == 5) = false from by kernel_rfl) ?_
  refine st_itf (show ((14 : Int) == 6) = false from by kernel_rfl) ?_
  refine st_itf (show ((14 : Int) == 7) = false from by kernel_rfl) ?_
  refine st_itf (show ((14 : Int) == 8) = false from by kernel_rfl) ?_
  refine st_itf (show ((14 : Int) == 9) = false from by kernel_rfl) ?_
  refine st_itf (show ((14 : Int) == 10) = false from by kernel_rfl) ?_
  refine st_itf (show ((14 : Int) == 11) = false from by kernel_rfl) ?_
  refine st_itf (show ((14 : Int) == 12) = false from by kernel_rfl) ?_
  refine st_itf (show ((14 : Int) == 13) = false from by kernel_rfl) ?_
  refine st_rq (show (decide ((arI .rem .u64 b (32 : Int)) ≥ 0)) = true from ?_) ?_
  · first | exact rem_ge _ _ (by omega) | exact sub_ge _ _ | (subst_vars; exact sub_ge _ _) | (omega)
  refine st_li fun i4 hi4 => ?_
  replace hi4 : i4 = (arI .sub .u64 (32 : Int) (arI .rem .u64 b (32 : Int))) := hi4
  show T.den _ _ [(14 : Int), a, b, (32 : Int), i4] [] = _
  refine st_rq (show (decide (i4 ≥ 0)) = true from ?_) ?_
  · first | exact rem_ge _ _ (by omega) | exact sub_ge _ _ | (subst_vars; exact sub_ge _ _) | (omega)
  refine st_li fun i5 hi5 => ?_
  replace hi5 : i5 = (arI .or .u64 (arI .shr .u64 a (arI .rem .u64 b (32 : Int))) (arI .shl .u64 a i4)) := hi5
  show T.den _ _ [(14 : Int), a, b, (32 : Int), i4, i5] [] = _
  refine st_ret ?_
  show some ([i5, 0], []) = _
  subst hi4 hi5
  rfl

set_option maxHeartbeats 4000000 in
theorem q10_120 (a b : Int) : F16 [(120 : Int), a, b] [] = some ([(IntKind.wrap .u64 (IntKind.wrap .u32 (arI .or .u64 (arI .shr .u64 (IntKind.wrap .u64 (IntKind.wrap .u32 a)) (arI .rem .u64 (IntKind.wrap .u64 (IntKind.wrap .u32 b)) (32 : Int))) (arI .shl .u64 (IntKind.wrap .u64 (IntKind.wrap .u32 a)) (arI .sub .u64 (32 : Int) (arI .rem .u64 (IntKind.wrap .u64 (IntKind.wrap .u32 b)) (32 : Int))))))), 0], [true]) := by
  refine Eq.trans (Fd_of (n := 3) (m := 0) (t := t16) (C := Tab.fn a16) rfl rfl) ?_
  rw [t16]
  refine st_lbc (show ((decide ((120 : Int) ≥ 70)) && (decide ((120 : Int) ≤ 79))) = false from by kernel_rfl) ?_
  show T.den _ _ [(120 : Int), a, b] [false] = _
  refine st_itf (show false = false from by kernel_rfl) ?_
  refine st_lbc (show ((decide ((120 : Int) ≥ 81)) && (decide ((120 : Int) ≤ 90))) = false from by kernel_rfl) ?_
  show T.den _ _ [(120 : Int), a, b] [false, false] = _
  refine st_itf (show false = false from by kernel_rfl) ?_
  refine st_lbc (show ((decide ((120 : Int) ≥ 106)) && (decide ((120 : Int) ≤ 120))) = true from by kernel_rfl) ?_
  show T.den _ _ [(120 : Int), a, b] [false, false, true] = _
  refine st_itt (show true = true from by kernel_rfl) ?_
  refine st_2_0 (e16_40) (g := true) rfl (l := [14, (IntKind.wrap .u64 (IntKind.wrap .u32 a)), (IntKind.wrap .u64 (IntKind.wrap .u32 b)), 32]) rfl (m := []) rfl (cl_t (q18_14_32 (IntKind.wrap .u64 (IntKind.wrap .u32 a)) (IntKind.wrap .u64 (IntKind.wrap .u32 b)) (u32_ge _))) fun i3 i4 hi3 hi4 => ?_
  show T.den _ _ [(120 : Int), a, b, i3, i4] [false, false, true] = _
  refine st_ret ?_
  show some ([(IntKind.wrap .u64 (IntKind.wrap .u32 i3)), i4], [true]) = _
  subst hi3 hi4
  rfl

set_option maxHeartbeats 4000000 in
theorem q10_81 (a b : Int) : F16 [(81 : Int), a, b] [] = some ([(bif (a == b) then 1 else 0), 0], [true]) := by
  refine Eq.trans (Fd_of (n := 3) (m := 0) (t := t16) (C := Tab.fn a16) rfl rfl) ?_
  rw [t16]
  refine st_lbc (show ((decide ((81 : Int) ≥ 70)) && (decide ((81 : Int) ≤ 79))) = false from by kernel_rfl) ?_
  show T.den _ _ [(81 : Int), a, b] [false] = _
  refine st_itf (show false = false from by kernel_rfl) ?_
  refine st_lbc (show ((decide ((81 : Int) ≥ 81)) && (decide ((81 : Int) ≤ 90))) = true from by kernel_rfl) ?_
  show T.den _ _ [(81 : Int), a, b] [false, true] = _
  refine st_itt (show true = true from by kernel_rfl) ?_
  refine st_0_1 (e16_39) (g := true) rfl (l := [0, a, b, (IntKind.wrap .i64 a), (IntKind.wrap .i64 b)]) rfl (m := []) rfl (cl_t (q17_0 a b (IntKind.wrap .i64 a) (IntKind.wrap .i64 b))) fun b2 hb2 => ?_
  show T.den _ _ [(81 : Int), a, b] [false, true, b2] = _
  refine st_1_0 (e16_38) (g := true) rfl (l := []) rfl (m := [b2]) rfl (cl_t (q16 b2)) fun i3 hi3 => ?_
  show T.den _ _ [(81 : Int), a, b, i3] [false, true, b2] = _
  refine st_ret ?_
  show some ([i3, 0], [true]) = _
  subst hb2 hi3
  rfl

set_option maxHeartbeats 4000000 in
theorem q10_82 (a b : Int) : F16 [(82 : Int), a, b] [] = some ([(bif (a != b) then 1 else 0), 0], [true]) := by
  refine Eq.trans (Fd_of (n := 3) (m := 0) (t := t16) (C := Tab.fn a16) rfl rfl) ?_
  rw [t16]
  refine st_lbc (show ((decide ((82 : Int) ≥ 70)) && (decide ((82 : Int) ≤ 79))) = false from by kernel_rfl) ?_
  show T.den _ _ [(82 : Int), a, b] [false] = _
  refine st_itf (show false = false from by kernel_rfl) ?_
  refine st_lbc (show ((decide ((82 : Int) ≥ 81)) && (decide ((82 : Int) ≤ 90))) = true from by kernel_rfl) ?_
  show T.den _ _ [(82 : Int), a, b] [false, true] = _
  refine st_itt (show true = true from by kernel_rfl) ?_
  refine st_0_1 (e16_39) (g := true) rfl (l := [1, a, b, (IntKind.wrap .i64 a), (IntKind.wrap .i64 b)]) rfl (m := []) rfl (cl_t (q17_1 a b (IntKind.wrap .i64 a) (IntKind.wrap .i64 b))) fun b2 hb2 => ?_
  show T.den _ _ [(82 : Int), a, b] [false, true, b2] = _
  refine st_1_0 (e16_38) (g := true) rfl (l := []) rfl (m := [b2]) rfl (cl_t (q16 b2)) fun i3 hi3 => ?_
  show T.den _ _ [(82 : Int), a, b, i3] [false, true, b2] = _
  refine st_ret ?_
  show some ([i3, 0], [true]) = _
  subst hb2 hi3
  rfl

set_option maxHeartbeats 4000000 in
theorem q10_83 (a b : Int) : F16 [(83 : Int), a, b] [] = some ([(bif (decide ((IntKind.wrap .i64 a) < (IntKind.wrap .i64 b))) then 1 else 0), 0], [true]) := by
  refine Eq.trans (Fd_of (n := 3) (m := 0) (t := t16) (C := Tab.fn a16) rfl rfl) ?_
  rw [t16]
  refine st_lbc (show ((decide ((83 : Int) ≥ 70)) && (decide ((83 : Int) ≤ 79))) = false from by kernel_rfl) ?_
  show T.den _ _ [(83 : Int), a, b] [false] = _
  refine st_itf (show false = false from by kernel_rfl) ?_
  refine st_lbc (show ((decide ((83 : Int) ≥ 81)) && (decide ((83 : Int) ≤ 90))) = true from by kernel_rfl) ?_
  show T.den _ _ [(83 : Int), a, b] [false, true] = _
  refine st_itt (show true = true from by kernel_rfl) ?_
  refine st_0_1 (e16_39) (g := true) rfl (l := [2, a, b, (IntKind.wrap .i64 a), (IntKind.wrap .i64 b)]) rfl (m := []) rfl (cl_t (q17_2 a b (IntKind.wrap .i64 a) (IntKind.wrap .i64 b))) fun b2 hb2 => ?_
  show T.den _ _ [(83 : Int), a, b] [false, true, b2] = _
  refine st_1_0 (e16_38) (g := true) rfl (l := []) rfl (m := [b2]) rfl (cl_t (q16 b2)) fun i3 hi3 => ?_
  show T.den _ _ [(83 : Int), a, b, i3] [false, true, b2] = _
  refine st_ret ?_
  show some ([i3, 0], [true]) = _
  subst hb2 hi3
  rfl

set_option maxHeartbeats 4000000 in
theorem q10_84 (a b : Int) : F16 [(84 : Int), a, b] [] = some ([(bif (decide (a < b)) then 1 else 0), 0], [true]) := by
  refine Eq.trans (Fd_of (n := 3) (m := 0) (t := t16) (C := Tab.fn a16) rfl rfl) ?_
  rw [t16]
  refine st_lbc (show ((decide ((84 : Int) ≥ 70)) && (decide ((84 : Int) ≤ 79))) = false from by kernel_rfl) ?_
  show T.den _ _ [(84 : Int), a, b] [false] = _
  refine st_itf (show false = false from by kernel_rfl) ?_
  refine st_lbc (show ((decide ((84 : Int) ≥ 81)) && (decide ((84 : Int) ≤ 90))) = true from by kernel_rfl) ?_
  show T.den _ _ [(84 : Int), a, b] [false, true] = _
  refine st_itt (show true = true from by kernel_rfl) ?_
  refine st_0_1 (e16_39) (g := true) rfl (l := [3, a, b, (IntKind.wrap .i64 a), (IntKind.wrap .i64 b)]) rfl (m := []) rfl (cl_t (q17_3 a b (IntKind.wrap .i64 a) (IntKind.wrap .i64 b))) fun b2 hb2 => ?_
  show T.den _ _ [(84 : Int), a, b] [false, true, b2] = _
  refine st_1_0 (e16_38) (g := true) rfl (l := []) rfl (m := [b2]) rfl (cl_t (q16 b2)) fun i3 hi3 => ?_
  show T.den _ _ [(84 : Int), a, b, i3] [false, true, b2] = _
  refine st_ret ?_
  show some ([i3, 0], [true]) = _
  subst hb2 hi3
  rfl

set_option maxHeartbeats 4000000 in
theorem q10_85 (a b : Int) : F16 [(85 : Int), a, b] [] = some ([(bif (decide ((IntKind.wrap .i64 a) > (IntKind.wrap .i64 b))) then 1 else 0), 0], [true]) := by
  refine Eq.trans (Fd_of (n := 3) (m := 0) (t := t16) (C := Tab.fn a16) rfl rfl) ?_
  rw [t16]
  refine st_lbc (show ((decide ((85 : Int) ≥ 70)) && (decide ((85 : Int) ≤ 79))) = false from by kernel_rfl) ?_
  show T.den _ _ [(85 : Int), a, b] [false] = _
  refine st_itf (show false = false from by kernel_rfl) ?_
  refine st_lbc (show ((decide ((85 : Int) ≥ 81)) && (decide ((85 : Int) ≤ 90))) = true from by kernel_rfl) ?_
  show T.den _ _ [(85 : Int), a, b] [false, true] = _
  refine st_itt (show true = true from by kernel_rfl) ?_
  refine st_0_1 (e16_39) (g := true) rfl (l := [4, a, b, (IntKind.wrap .i64 a), (IntKind.wrap .i64 b)]) rfl (m := []) rfl (cl_t (q17_4 a b (IntKind.wrap .i64 a) (IntKind.wrap .i64 b))) fun b2 hb2 => ?_
  show T.den _ _ [(85 : Int), a, b] [false, true, b2] = _
  refine st_1_0 (e16_38) (g := true) rfl (l := []) rfl (m := [b2]) rfl (cl_t (q16 b2)) fun i3 hi3 => ?_
  show T.den _ _ [(85 : Int), a, b, i3] [false, true, b2] = _
  refine st_ret ?_
  show some ([i3, 0], [true]) = _
  subst hb2 hi3
  rfl

set_option maxHeartbeats 4000000 in
theorem q10_86 (a b : Int) : F16 [(86 : Int), a, b] [] = some ([(bif (decide (a > b)) then 1 else 0), 0], [true]) := by
  refine Eq.trans (Fd_of (n := 3) (m := 0) (t := t16) (C := Tab.fn a16) rfl rfl) ?_
  rw [t16]
  refine st_lbc (show ((decide ((86 : Int) ≥ 70)) && (decide ((86 : Int) ≤ 79))) = false from by kernel_rfl) ?_
  show T.den _ _ [(86 : Int), a, b] [false] = _
  refine st_itf (show false = false from by kernel_rfl) ?_
  refine st_lbc (show ((decide ((86 : Int) ≥ 81)) && (decide ((86 : Int) ≤ 90))) = true from by kernel_rfl) ?_
  show T.den _ _ [(86 : Int), a, b] [false, true] = _
  refine st_itt (show true = true from by kernel_rfl) ?_
  refine st_0_1 (e16_39) (g := true) rfl (l := [5, a, b, (IntKind.wrap .i64 a), (IntKind.wrap .i64 b)]) rfl (m := []) rfl (cl_t (q17_5 a b (IntKind.wrap .i64 a) (IntKind.wrap .i64 b))) fun b2 hb2 => ?_
  show T.den _ _ [(86 : Int), a, b] [false, true, b2] = _
  refine st_1_0 (e16_38) (g := true) rfl (l := []) rfl (m := [b2]) rfl (cl_t (q16 b2)) fun i3 hi3 => ?_
  show T.den _ _ [(86 : Int), a, b, i3] [false, true, b2] = _
  refine st_ret ?_
  show some ([i3, 0], [true]) = _
  subst hb2 hi3
  rfl

set_option maxHeartbeats 4000000 in
theorem q10_87 (a b : Int) : F16 [(87 : Int), a, b] [] = some ([(bif (decide ((IntKind.wrap .i64 a) ≤ (IntKind.wrap .i64 b))) then 1 else 0), 0], [true]) := by
  refine Eq.trans (Fd_of (n := 3) (m := 0) (t := t16) (C := Tab.fn a16) rfl rfl) ?_
  rw [t16]
  refine st_lbc (show ((decide ((87 : Int) ≥ 70)) && (decide ((87 : Int) ≤ 79))) = false from by kernel_rfl) ?_
  show T.den _ _ [(87 : Int), a, b] [false] = _
  refine st_itf (show false = false from by kernel_rfl) ?_
  refine st_lbc (show ((decide ((87 : Int) ≥ 81)) && (decide ((87 : Int) ≤ 90))) = true from by kernel_rfl) ?_
  show T.den _ _ [(87 : Int), a, b] [false, true] = _
  refine st_itt (show true = true from by kernel_rfl) ?_
  refine st_0_1 (e16_39) (g := true) rfl (l := [6, a, b, (IntKind.wrap .i64 a), (IntKind.wrap .i64 b)]) rfl (m := []) rfl (cl_t (q17_6 a b (IntKind.wrap .i64 a) (IntKind.wrap .i64 b))) fun b2 hb2 => ?_
  show T.den _ _ [(87 : Int), a, b] [false, true, b2] = _
  refine st_1_0 (e16_38) (g := true) rfl (l := []) rfl (m := [b2]) rfl (cl_t (q16 b2)) fun i3 hi3 => ?_
  show T.den _ _ [(87 : Int), a, b, i3] [false, true, b2] = _
  refine st_ret ?_
  show some ([i3, 0], [true]) = _
  subst hb2 hi3
  rfl

set_option maxHeartbeats 4000000 in
theorem q10_88 (a b : Int) : F16 [(88 : Int), a, b] [] = some ([(bif (decide (a ≤ b)) then 1 else 0), 0], [true]) := by
  refine Eq.trans (Fd_of (n := 3) (m := 0) (t := t16) (C := Tab.fn a16) rfl rfl) ?_
  rw [t16]
  refine st_lbc (show ((decide ((88 : Int) ≥ 70)) && (decide ((88 : Int) ≤ 79))) = false from by kernel_rfl) ?_
  show T.den _ _ [(88 : Int), a, b] [false] = _
  refine st_itf (show false = false from by kernel_rfl) ?_
  refine st_lbc (show ((decide ((88 : Int) ≥ 81)) && (decide ((88 : Int) ≤ 90))) = true from by kernel_rfl) ?_
  show T.den _ _ [(88 : Int), a, b] [false, true] = _
  refine st_itt (show true = true from by kernel_rfl) ?_
  refine st_0_1 (e16_39) (g := true) rfl (l := [7, a, b, (IntKind.wrap .i64 a), (IntKind.wrap .i64 b)]) rfl (m := []) rfl (cl_t (q17_7 a b (IntKind.wrap .i64 a) (IntKind.wrap .i64 b))) fun b2 hb2 => ?_
  show T.den _ _ [(88 : Int), a, b] [false, true, b2] = _
  refine st_1_0 (e16_38) (g := true) rfl (l := []) rfl (m := [b2]) rfl (cl_t (q16 b2)) fun i3 hi3 => ?_
  show T.den _ _ [(88 : Int), a, b, i3] [false, true, b2] = _
  refine st_ret ?_
  show some ([i3, 0], [true]) = _
  subst hb2 hi3
  rfl

set_option maxHeartbeats 4000000 in
theorem q10_89 (a b : Int) : F16 [(89 : Int), a, b] [] = some ([(bif (decide ((IntKind.wrap .i64 a) ≥ (IntKind.wrap .i64 b))) then 1 else 0), 0], [true]) := by
  refine Eq.trans (Fd_of (n := 3) (m := 0) (t := t16) (C := Tab.fn a16) rfl rfl) ?_
  rw [t16]
  refine st_lbc (show ((decide ((89 : Int) ≥ 70)) && (decide ((89 : Int) ≤ 79))) = false from by kernel_rfl) ?_
  show T.den _ _ [(89 : Int), a, b] [false] = _
  refine st_itf (show false = false from by kernel_rfl) ?_
  refine st_lbc (show ((decide ((89 : Int) ≥ 81)) && (decide ((89 : Int) ≤ 90))) = true from by kernel_rfl) ?_
  show T.den _ _ [(89 : Int), a, b] [false, true] = _
  refine st_itt (show true = true from by kernel_rfl) ?_
  refine st_0_1 (e16_39) (g := true) rfl (l := [8, a, b, (IntKind.wrap .i64 a), (IntKind.wrap .i64 b)]) rfl (m := []) rfl (cl_t (q17_8 a b (IntKind.wrap .i64 a) (IntKind.wrap .i64 b))) fun b2 hb2 => ?_
  show T.den _ _ [(89 : Int), a, b] [false, true, b2] = _
  refine st_1_0 (e16_38) (g := true) rfl (l := []) rfl (m := [b2]) rfl (cl_t (q16 b2)) fun i3 hi3 => ?_
  show T.den _ _ [(89 : Int), a, b, i3] [false, true, b2] = _
  refine st_ret ?_
  show some ([i3, 0], [true]) = _
  subst hb2 hi3
  rfl

set_option maxHeartbeats 4000000 in
theorem q10_90 (a b : Int) : F16 [(90 : Int), a, b] [] = some ([(bif (decide (a ≥ b)) then 1 else 0), 0], [true]) := by
  refine Eq.trans (Fd_of (n := 3) (m := 0) (t := t16) (C := Tab.fn a16) rfl rfl) ?_
  rw [t16]
  refine st_lbc (show ((decide ((90 : Int) ≥ 70)) && (decide ((90 : Int) ≤ 79))) = false from by kernel_rfl) ?_
  show T.den _ _ [(90 : Int), a, b] [false] = _
  refine st_itf (show false = false from by kernel_rfl) ?_
  refine st_lbc (show ((decide ((90 : Int) ≥ 81)) && (decide ((90 : Int) ≤ 90))) = true from by kernel_rfl) ?_
  show T.den _ _ [(90 : Int), a, b] [false, true] = _
  refine st_itt (show true = true from by kernel_rfl) ?_
  refine st_0_1 (e16_39) (g := true) rfl (l := [9, a, b, (IntKind.wrap .i64 a), (IntKind.wrap .i64 b)]) rfl (m := []) rfl (cl_t (q17_9 a b (IntKind.wrap .i64 a) (IntKind.wrap .i64 b))) fun b2 hb2 => ?_
  show T.den _ _ [(90 : Int), a, b] [false, true, b2] = _
  refine st_1_0 (e16_38) (g := true) rfl (l := []) rfl (m := [b2]) rfl (cl_t (q16 b2)) fun i3 hi3 => ?_
  show T.den _ _ [(90 : Int), a, b, i3] [false, true, b2] = _
  refine st_ret ?_
  show some ([i3, 0], [true]) = _
  subst hb2 hi3
  rfl

set_option maxHeartbeats 4000000 in
theorem q18_0_64 (a b : Int) : F40 [(0 : Int), a, b, (64 : Int)] [] = some ([(arI .add .u64 a b), 0], []) := by
  refine Eq.trans (Fd_of (n := 4) (m := 0) (t := t40) (C := Tab.fn a40) rfl rfl) ?_
  rw [t40]
  refine st_itf (show ((64 : Int) == 32) = false from by kernel_rfl) ?_
  refine st_rq (show ((64 : Int) != 0) = true from by kernel_rfl) ?_
  refine st_itt (show ((0 : Int) == 0) = true from by kernel_rfl) ?_
  refine st_ret ?_
  show some ([(arI .add .u64 a b), 0], []) = _
  rfl

set_option maxHeartbeats 4000000 in
theorem q10_124 (a b : Int) : F16 [(124 : Int), a, b] [] = some ([(arI .add .u64 a b), 0], [true]) := by
  refine Eq.trans (Fd_of (n := 3) (m := 0) (t := t16) (C := Tab.fn a16) rfl rfl) ?_
  rw [t16]
  refine st_lbc (show ((decide ((124 : Int) ≥ 70)) && (decide ((124 : Int) ≤ 79))) = false from by kernel_rfl) ?_
  show T.den _ _ [(124 : Int), a, b] [false] = _
  refine st_itf (show false = false from by kernel_rfl) ?_
  refine st_lbc (show ((decide ((124 : Int) ≥ 81)) && (decide ((124 : Int) ≤ 90))) = false from by kernel_rfl) ?_
  show T.den _ _ [(124 : Int), a, b] [false, false] = _
  refine st_itf (show false = false from by kernel_rfl) ?_
  refine st_lbc (show ((decide ((124 : Int) ≥ 106)) && (decide ((124 : Int) ≤ 120))) = false from by kernel_rfl) ?_
  show T.den _ _ [(124 : Int), a, b] [false, false, false] = _
  refine st_itf (show false = false from by kernel_rfl) ?_
  refine st_lbc (show ((decide ((124 : Int) ≥ 124)) && (decide ((124 : Int) ≤ 138))) = true from by kernel_rfl) ?_
  show T.den _ _ [(124 : Int), a, b] [false, false, false, true] = _
  refine st_itt (show true = true from by kernel_rfl) ?_
  refine st_2_0 (e16_40) (g := true) rfl (l := [0, a, b, 64]) rfl (m := []) rfl (cl_t (q18_0_64 a b )) fun i3 i4 hi3 hi4 => ?_
  show T.den _ _ [(124 : Int), a, b, i3, i4] [false, false, false, true] = _
  refine st_ret ?_
  show some ([i3, i4], [true]) = _
  subst hi3 hi4
  rfl

set_option maxHeartbeats 4000000 in
theorem q18_1_64 (a b : Int) : F40 [(1 : Int), a, b, (64 : Int)] [] = some ([(arI .sub .u64 a b), 0], []) := by
  refine Eq.trans (Fd_of (n := 4) (m := 0) (t := t40) (C := Tab.fn a40) rfl rfl) ?_
  rw [t40]
  refine st_itf (show ((64 : Int) == 32) = false from by kernel_rfl) ?_
  refine st_rq (show ((64 : Int) != 0) = true from by kernel_rfl) ?_
  refine st_itf (show ((1 : Int) == 0) = false from by kernel_rfl) ?_
  refine st_itt (show ((1 : Int) == 1) = true from by kernel_rfl) ?_
  refine st_ret ?_
  show some ([(arI .sub .u64 a b), 0], []) = _
  rfl

set_option maxHeartbeats 4000000 in
theorem q10_125 (a b : Int) : F16 [(125 : Int), a, b] [] = some ([(arI .sub .u64 a b), 0], [true]) := by
  refine Eq.trans (Fd_of (n := 3) (m := 0) (t := t16) (C := Tab.fn a16) rfl rfl) ?_
  rw [t16]
  refine st_lbc (show ((decide ((125 : Int) ≥ 70)) && (decide ((125 : Int) ≤ 79))) = false from by kernel_rfl) ?_
  show T.den _ _ [(125 : Int), a, b] [false] = _
  refine st_itf (show false = false from by kernel_rfl) ?_
  refine st_lbc (show ((decide ((125 : Int) ≥ 81)) && (decide ((125 : Int) ≤ 90))) = false from by kernel_rfl) ?_
  show T.den _ _ [(125 : Int), a, b] [false, false] = _
  refine st_itf (show false = false from by kernel_rfl) ?_
  refine st_lbc (show ((decide ((125 : Int) ≥ 106)) && (decide ((125 : Int) ≤ 120))) = false from by kernel_rfl) ?_
  show T.den _ _ [(125 : Int), a, b] [false, false, false] = _
  refine st_itf (show false = false from by kernel_rfl) ?_
  refine st_lbc (show ((decide ((125 : Int) ≥ 124)) && (decide ((125 : Int) ≤ 138))) = true from by kernel_rfl) ?_
  show T.den _ _ [(125 : Int), a, b] [false, false, false, true] = _
  refine st_itt (show true = true from by kernel_rfl) ?_
  refine st_2_0 (e16_40) (g := true) rfl (l := [1, a, b, 64]) rfl (m := []) rfl (cl_t (q18_1_64 a b )) fun i3 i4 hi3 hi4 => ?_
  show T.den _ _ [(125 : Int), a, b, i3, i4] [false, false, false, true] = _
  refine st_ret ?_
  show some ([i3, i4], [true]) = _
  subst hi3 hi4
  rfl

set_option maxHeartbeats 4000000 in
theorem q18_2_64 (a b : Int) : F40 [(2 : Int), a, b, (64 : Int)] [] = some ([(arI .mul .u64 a b), 0], []) := by
  refine Eq.trans (Fd_of (n := 4) (m := 0) (t := t40) (C := Tab.fn a40) rfl rfl) ?_
  rw [t40]
  refine st_itf (show ((64 : Int) == 32) = false from by kernel_rfl) ?_
  refine st_rq (show ((64 : Int) != 0) = true from by kernel_rfl) ?_
  refine st_itf (show ((2 : Int) == 0) = false from by kernel_rfl) ?_
  refine st_itf (show ((2 : Int) == 1) = false from by kernel_rfl) ?_
  refine st_itt (show ((2 : Int) == 2) = true from by kernel_rfl) ?_
  refine st_ret ?_
  show some ([(arI .mul .u64 a b), 0], []) = _
  rfl

set_option maxHeartbeats 4000000 in
theorem q10_126 (a b : Int) : F16 [(126 : Int), a, b] [] = some ([(arI .mul .u64 a b), 0], [true]) := by
  refine Eq.trans (Fd_of (n := 3) (m := 0) (t := t16) (C := Tab.fn a16) rfl rfl) ?_
  rw [t16]
  refine st_lbc (show ((decide ((126 : Int) ≥ 70)) && (decide ((126 : Int) ≤ 79))) = false from by kernel_rfl) ?_
  show T.den _ _ [(126 : Int), a, b] [false] = _
  refine st_itf (show false = false from by kernel_rfl) ?_
  refine st_lbc (show ((decide ((126 : Int) ≥ 81)) && (decide ((126 : Int) ≤ 90))) = false from by kernel_rfl) ?_
  show T.den _ _ [(126 : Int), a, b] [false, false] = _
  refine st_itf (show false = false from by kernel_rfl) ?_
  refine st_lbc (show ((decide ((126 : Int) ≥ 106)) && (decide ((126 : Int) ≤ 120))) = false from by kernel_rfl) ?_
  show T.den _ _ [(126 : Int), a, b] [false, false, false] = _
  refine st_itf (show false = false from by kernel_rfl) ?_
  refine st_lbc (show ((decide ((126 : Int) ≥ 124)) && (decide ((126 : Int) ≤ 138))) = true from by kernel_rfl) ?_
  show T.den _ _ [(126 : Int), a, b] [false, false, false, true] = _
  refine st_itt (show true = true from by kernel_rfl) ?_
  refine st_2_0 (e16_40) (g := true) rfl (l := [2, a, b, 64]) rfl (m := []) rfl (cl_t (q18_2_64 a b )) fun i3 i4 hi3 hi4 => ?_
  show T.den _ _ [(126 : Int), a, b, i3, i4] [false, false, false, true] = _
  refine st_ret ?_
  show some ([i3, i4], [true]) = _
  subst hi3 hi4
  rfl

set_option maxHeartbeats 4000000 in
theorem q18_3_64 (a b : Int) (hb : 0 ≤ b) (hb2 : b < 18446744073709551616) : F40 [(3 : Int), a, b, (64 : Int)] [] = some ([(dq b (IntKind.wrap .i64 a) (IntKind.wrap .i64 b) (-9223372036854775808)), (dt b (IntKind.wrap .i64 a) (IntKind.wrap .i64 b) (-9223372036854775808))], []) := by
  refine Eq.trans (Fd_of (n := 4) (m := 0) (t := t40) (C := Tab.fn a40) rfl rfl) ?_
  rw [t40]
  refine st_itf (show ((64 : Int) == 32) = false from by kernel_rfl) ?_
  refine st_rq (show ((64 : Int) != 0) = true from by kernel_rfl) ?_
  refine st_itf (show ((3 : Int) == 0) = false from by kernel_rfl) ?_
  refine st_itf (show ((3 : Int) == 1) = false from by kernel_rfl) ?_
  refine st_itf (show ((3 : Int) == 2) = false from by kernel_rfl) ?_
  refine st_itt (show ((3 : Int) == 3) = true from by kernel_rfl) ?_
  refine st_itt (show ((3 : Int) == 3) = true from by kernel_rfl) ?_
  refine st_2_0 (e40_64) (g := true) rfl (l := [0, a, b, (IntKind.wrap .i64 a), (IntKind.wrap .i64 b), (-9223372036854775808)]) rfl (m := []) rfl (cl_t (q36_0 (a) (b) ((IntKind.wrap .i64 a)) ((IntKind.wrap .i64 b)) ((-9223372036854775808)) (i64_ne b hb hb2))) fun i4 i5 hi4 hi5 => ?_
  show T.den _ _ [(3 : Int), a, b, (64 : Int), i4, i5] [] = _
  refine st_ret ?_
  show some ([i4, i5], []) = _
  subst hi4 hi5
  rfl

set_option maxHeartbeats 4000000 in
theorem q10_127 (a b : Int) (hb : 0 ≤ b) (hb2 : b < 18446744073709551616) : F16 [(127 : Int), a, b] [] = some ([(dq b (IntKind.wrap .i64 a) (IntKind.wrap .i64 b) (-9223372036854775808)), (dt b (IntKind.wrap .i64 a) (IntKind.wrap .i64 b) (-9223372036854775808))], [true]) := by
  refine Eq.trans (Fd_of (n := 3) (m := 0) (t := t16) (C := Tab.fn a16) rfl rfl) ?_
  rw [t16]
  refine st_lbc (show ((decide ((127 : Int) ≥ 70)) && (decide ((127 : Int) ≤ 79))) = false from by kernel_rfl) ?_
  show T.den _ _ [(127 : Int), a, b] [false] = _
  refine st_itf (show false = false from by kernel_rfl) ?_
  refine st_lbc (show ((decide ((127 : Int) ≥ 81)) && (decide ((127 : Int) ≤ 90))) = false from by kernel_rfl) ?_
  show T.den _ _ [(127 : Int), a, b] [false, false] = _
  refine st_itf (show false = false from by kernel_rfl) ?_
  refine st_lbc (show ((decide ((127 : Int) ≥ 106)) && (decide ((127 : Int) ≤ 120))) = false from by kernel_rfl) ?_
  show T.den _ _ [(127 : Int), a, b] [false, false, false] = _
  refine st_itf (show false = false from by kernel_rfl) ?_
  refine st_lbc (show ((decide ((127 : Int) ≥ 124)) && (decide ((127 : Int) ≤ 138))) = true from by kernel_rfl) ?_
  show T.den _ _ [(127 : Int), a, b] [false, false, false, true] = _
  refine st_itt (show true = true from by kernel_rfl) ?_
  refine st_2_0 (e16_40) (g := true) rfl (l := [3, a, b, 64]) rfl (m := []) rfl (cl_t (q18_3_64 a b hb hb2)) fun i3 i4 hi3 hi4 => ?_
  show T.den _ _ [(127 : Int), a, b, i3, i4] [false, false, false, true] = _
  refine st_ret ?_
  show some ([i3, i4], [true]) = _
  subst hi3 hi4
  rfl

set_option maxHeartbeats 4000000 in
theorem q18_4_64 (a b : Int) (hb : 0 ≤ b) (hb2 : b < 18446744073709551616) : F40 [(4 : Int), a, b, (64 : Int)] [] = some ([(uq a b), (dz b)], []) := by
  refine Eq.trans (Fd_of (n := 4) (m := 0) (t := t40) (C := Tab.fn a40) rfl rfl) ?_
  rw [t40]
  refine st_itf (show ((64 : Int) == 32) = false from by kernel_rfl) ?_
  refine st_rq (show ((64 : Int) != 0) = true from by kernel_rfl) ?_
  refine st_itf (show ((4 : Int) == 0) = false from by kernel_rfl) ?_
  refine st_itf (show ((4 : Int) == 1) = false from by kernel_rfl) ?_
  refine st_itf (show ((4 : Int) == 2) = false from by kernel_rfl) ?_
  refine st_itf (show ((4 : Int) == 3) = false from by kernel_rfl) ?_
  refine st_itt (show ((4 : Int) == 4) = true from by kernel_rfl) ?_
  refine st_itt (show ((4 : Int) == 4) = true from by kernel_rfl) ?_
  refine st_2_0 (e40_64) (g := true) rfl (l := [1, a, b, (IntKind.wrap .i64 a), (IntKind.wrap .i64 b), (-9223372036854775808)]) rfl (m := []) rfl (cl_t (q36_1 (a) (b) ((IntKind.wrap .i64 a)) ((IntKind.wrap .i64 b)) ((-9223372036854775808)) (i64_ne b hb hb2))) fun i4 i5 hi4 hi5 => ?_
  show T.den _ _ [(4 : Int), a, b, (64 : Int), i4, i5] [] = _
  refine st_ret ?_
  show some ([i4, i5], []) = _
  subst hi4 hi5
  rfl

set_option maxHeartbeats 4000000 in
theorem q10_128 (a b : Int) (hb : 0 ≤ b) (hb2 : b < 18446744073709551616) : F16 [(128 : Int), a, b] [] = some ([(uq a b), (dz b)], [true]) := by
  refine Eq.trans (Fd_of (n := 3) (m := 0) (t := t16) (C := Tab.fn a16) rfl rfl) ?_
  rw [t16]
  refine st_lbc (show ((decide ((128 : Int) ≥ 70)) && (decide ((128 : Int) ≤ 79))) = false from by kernel_rfl) ?_
  show T.den _ _ [(128 : Int), a, b] [false] = _
  refine st_itf (show false = false from by kernel_rfl) ?_
  refine st_lbc (show ((decide ((128 : Int) ≥ 81)) && (decide ((128 : Int) ≤ 90))) = false from by kernel_rfl) ?_
  show T.den _ _ [(128 : Int), a, b] [false, false] = _
  refine st_itf (show false = false from by kernel_rfl) ?_
  refine st_lbc (show ((decide ((128 : Int) ≥ 106)) && (decide ((128 : Int) ≤ 120))) = false from by kernel_rfl) ?_
  show T.den _ _ [(128 : Int), a, b] [false, false, false] = _
  refine st_itf (show false = false from by kernel_rfl) ?_
  refine st_lbc (show ((decide ((128 : Int) ≥ 124)) && (decide ((128 : Int) ≤ 138))) = true from by kernel_rfl) ?_
  show T.den _ _ [(128 : Int), a, b] [false, false, false, true] = _
  refine st_itt (show true = true from by kernel_rfl) ?_
  refine st_2_0 (e16_40) (g := true) rfl (l := [4, a, b, 64]) rfl (m := []) rfl (cl_t (q18_4_64 a b hb hb2)) fun i3 i4 hi3 hi4 => ?_
  show T.den _ _ [(128 : Int), a, b, i3, i4] [false, false, false, true] = _
  refine st_ret ?_
  show some ([i3, i4], [true]) = _
  subst hi3 hi4
  rfl

set_option maxHeartbeats 4000000 in
theorem q18_5_64 (a b : Int) (hb : 0 ≤ b) (hb2 : b < 18446744073709551616) : F40 [(5 : Int), a, b, (64 : Int)] [] = some ([(dr b (IntKind.wrap .i64 a) (IntKind.wrap .i64 b)), (dz b)], []) := by
  refine Eq.trans (Fd_of (n := 4) (m := 0) (t := t40) (C := Tab.fn a40) rfl rfl) ?_
  rw [t40]
  refine st_itf (show ((64 : Int) == 32) = false from by kernel_rfl) ?_
  refine st_rq (show ((64 : Int) != 0) = true from by kernel_rfl) ?_
  refine st_itf (show ((5 : Int) == 0) = false from by kernel_rfl) ?_
  refine st_itf (show ((5 : Int) == 1) = false from by kernel_rfl) ?_
  refine st_itf (show ((5 : Int) == 2) = false from by kernel_rfl) ?_
  refine st_itf (show ((5 : Int) == 3) = false from by kernel_rfl) ?_
  refine st_itf (show ((5 : Int) == 4) = false from by kernel_rfl) ?_
  refine st_itt (show ((5 : Int) == 5) = true from by kernel_rfl) ?_
  refine st_itt (show ((5 : Int) == 5) = true from by kernel_rfl) ?_
  refine st_2_0 (e40_64) (g := true) rfl (l := [2, a, b, (IntKind.wrap .i64 a), (IntKind.wrap .i64 b), (-9223372036854775808)]) rfl (m := []) rfl (cl_t (q36_2 (a) (b) ((IntKind.wrap .i64 a)) ((IntKind.wrap .i64 b)) ((-9223372036854775808)) (i64_ne b hb hb2))) fun i4 i5 hi4 hi5 => ?_
  show T.den _ _ [(5 : Int), a, b, (64 : Int), i4, i5] [] = _
  refine st_ret ?_
  show some ([i4, i5], []) = _
  subst hi4 hi5
  rfl

set_option maxHeartbeats 4000000 in
theorem q10_129 (a b : Int) (hb : 0 ≤ b) (hb2 : b < 18446744073709551616) : F16 [(129 : Int), a, b] [] = some ([(dr b (IntKind.wrap .i64 a) (IntKind.wrap .i64 b)), (dz b)], [true]) := by
  refine Eq.trans (Fd_of (n := 3) (m := 0) (t := t16) (C := Tab.fn a16) rfl rfl) ?_
  rw [t16]
  refine st_lbc (show ((decide ((129 : Int) ≥ 70)) && (decide ((129 : Int) ≤ 79))) = false from by kernel_rfl) ?_
  show T.den _ _ [(129 : Int), a, b] [false] = _
  refine st_itf (show false = false from by kernel_rfl) ?_
  refine st_lbc (show ((decide ((129 : Int) ≥ 81)) && (decide ((129 : Int) ≤ 90))) = false from by kernel_rfl) ?_
  show T.den _ _ [(129 : Int), a, b] [false, false] = _
  refine st_itf (show false = false from by kernel_rfl) ?_
  refine st_lbc (show ((decide ((129 : Int) ≥ 106)) && (decide ((129 : Int) ≤ 120))) = false from by kernel_rfl) ?_
  show T.den _ _ [(129 : Int), a, b] [false, false, false] = _
  refine st_itf (show false = false from by kernel_rfl) ?_
  refine st_lbc (show ((decide ((129 : Int) ≥ 124)) && (decide ((129 : Int) ≤ 138))) = true from by kernel_rfl) ?_
  show T.den _ _ [(129 : Int), a, b] [false, false, false, true] = _
  refine st_itt (show true = true from by kernel_rfl) ?_
  refine st_2_0 (e16_40) (g := true) rfl (l := [5, a, b, 64]) rfl (m := []) rfl (cl_t (q18_5_64 a b hb hb2)) fun i3 i4 hi3 hi4 => ?_
  show T.den _ _ [(129 : Int), a, b, i3, i4] [false, false, false, true] = _
  refine st_ret ?_
  show some ([i3, i4], [true]) = _
  subst hi3 hi4
  rfl

set_option maxHeartbeats 4000000 in
theorem q18_6_64 (a b : Int) (hb : 0 ≤ b) (hb2 : b < 18446744073709551616) : F40 [(6 : Int), a, b, (64 : Int)] [] = some ([(ur a b), (dz b)], []) := by
  refine Eq.trans (Fd_of (n := 4) (m := 0) (t := t40) (C := Tab.fn a40) rfl rfl) ?_
  rw [t40]
  refine st_itf (show ((64 : Int) == 32) = false from by kernel_rfl) ?_
  refine st_rq (show ((64 : Int) != 0) = true from by kernel_rfl) ?_
  refine st_itf (show ((6 : Int) == 0) = false from by kernel_rfl) ?_
  refine st_itf (show ((6 : Int) == 1) = false from by kernel_rfl) ?_
  refine st_itf (show ((6 : Int) == 2) = false from by kernel_rfl) ?_
  refine st_itf (show ((6 : Int) == 3) = false from by kernel_rfl) ?_
  refine st_itf (show ((6 : Int) == 4) = false from by kernel_rfl) ?_
  refine st_itf (show ((6 : Int) == 5) = false from by kernel_rfl) ?_
  refine st_itt (show ((6 : Int) == 6) = true from by kernel_rfl) ?_
  refine st_2_0 (e40_64) (g := true) rfl (l := [3, a, b, (IntKind.wrap .i64 a), (IntKind.wrap .i64 b), (-9223372036854775808)]) rfl (m := []) rfl (cl_t (q36_3 (a) (b) ((IntKind.wrap .i64 a)) ((IntKind.wrap .i64 b)) ((-9223372036854775808)) (i64_ne b hb hb2))) fun i4 i5 hi4 hi5 => ?_
  show T.den _ _ [(6 : Int), a, b, (64 : Int), i4, i5] [] = _
  refine st_ret ?_
  show some ([i4, i5], []) = _
  subst hi4 hi5
  rfl

set_option maxHeartbeats 4000000 in
theorem q10_130 (a b : Int) (hb : 0 ≤ b) (hb2 : b < 18446744073709551616) : F16 [(130 : Int), a, b] [] = some ([(ur a b), (dz b)], [true]) := by
  refine Eq.trans (Fd_of (n := 3) (m := 0) (t := t16) (C := Tab.fn a16) rfl rfl) ?_
  rw [t16]
  refine st_lbc (show ((decide ((130 : Int) ≥ 70)) && (decide ((130 : Int) ≤ 79))) = false from by kernel_rfl) ?_
  show T.den _ _ [(130 : Int), a, b] [false] = _
  refine st_itf (show false = false from by kernel_rfl) ?_
  refine st_lbc (show ((decide ((130 : Int) ≥ 81)) && (decide ((130 : Int) ≤ 90))) = false from by kernel_rfl) ?_
  show T.den _ _ [(130 : Int), a, b] [false, false] = _
  refine st_itf (show false = false from by kernel_rfl) ?_
  refine st_lbc (show ((decide ((130 : Int) ≥ 106)) && (decide ((130 : Int) ≤ 120))) = false from by kernel_rfl) ?_
  show T.den _ _ [(130 : Int), a, b] [false, false, false] = _
  refine st_itf (show false = false from by kernel_rfl) ?_
  refine st_lbc (show ((decide ((130 : Int) ≥ 124)) && (decide ((130 : Int) ≤ 138))) = true from by kernel_rfl) ?_
  show T.den _ _ [(130 : Int), a, b] [false, false, false, true] = _
  refine st_itt (show true = true from by kernel_rfl) ?_
  refine st_2_0 (e16_40) (g := true) rfl (l := [6, a, b, 64]) rfl (m := []) rfl (cl_t (q18_6_64 a b hb hb2)) fun i3 i4 hi3 hi4 => ?_
  show T.den _ _ [(130 : Int), a, b, i3, i4] [false, false, false, true] = _
  refine st_ret ?_
  show some ([i3, i4], [true]) = _
  subst hi3 hi4
  rfl

set_option maxHeartbeats 4000000 in
theorem q18_7_64 (a b : Int) : F40 [(7 : Int), a, b, (64 : Int)] [] = some ([(arI .and .u64 a b), 0], []) := by
  refine Eq.trans (Fd_of (n := 4) (m := 0) (t := t40) (C := Tab.fn a40) rfl rfl) ?_
  rw [t40]
  refine st_itf (show ((64 : Int) == 32) = false from by kernel_rfl) ?_
  refine st_rq (show ((64 : Int) != 0) = true from by kernel_rfl) ?_
  refine st_itf (show ((7 : Int) == 0) = false from by kernel_rfl) ?_
  refine st_itf (show ((7 : Int) == 1) = false from by kernel_rfl) ?_
  refine st_itf (show ((7 : Int) == 2) = false from by kernel_rfl) ?_
  refine st_itf (show ((7 : Int) == 3) = false from by kernel_rfl) ?_
  refine st_itf (show ((7 : Int) == 4) = false from by kernel_rfl) ?_
  refine st_itf (show ((7 : Int) == 5) = false from by kernel_rfl) ?_
  refine st_itf (show ((7 : Int) == 6) = false from by kernel_rfl) ?_
  refine st_itt (show ((7 : Int) == 7) = true from by kernel_rfl) ?_
  refine st_ret ?_
  show some ([(arI .and .u64 a b), 0], []) = _
  rfl

set_option maxHeartbeats 4000000 in
theorem q10_131 (a b : Int) : F16 [(131 : Int), a, b] [] = some ([(arI .and .u64 a b), 0], [true]) := by
  refine Eq.trans (Fd_of (n := 3) (m := 0) (t := t16) (C := Tab.fn a16) rfl rfl) ?_
  rw [t16]
  refine st_lbc (show ((decide ((131 : Int) ≥ 70)) && (decide ((131 : Int) ≤ 79))) = false from by kernel_rfl) ?_
  show T.den _ _ [(131 : Int), a, b] [false] = _
  refine st_itf (show false = false from by kernel_rfl) ?_
  refine st_lbc (show ((decide ((131 : Int) ≥ 81)) && (decide ((131 : Int) ≤ 90))) = false from by kernel_rfl) ?_
  show T.den _ _ [(131 : Int), a, b] [false, false] = _
  refine st_itf (show false = false from by kernel_rfl) ?_
  refine st_lbc (show ((decide ((131 : Int) ≥ 106)) && (decide ((131 : Int) ≤ 120))) = false from by kernel_rfl) ?_
  show T.den _ _ [(131 : Int), a, b] [false, false, false] = _
  refine st_itf (show false = false from by kernel_rfl) ?_
  refine st_lbc (show ((decide ((131 : Int) ≥ 124)) && (decide ((131 : Int) ≤ 138))) = true from by kernel_rfl) ?_
  show T.den _ _ [(131 : Int), a, b] [false, false, false, true] = _
  refine st_itt (show true = true from by kernel_rfl) ?_
  refine st_2_0 (e16_40) (g := true) rfl (l := [7, a, b, 64]) rfl (m := []) rfl (cl_t (q18_7_64 a b )) fun i3 i4 hi3 hi4 => ?_
  show T.den _ _ [(131 : Int), a, b, i3, i4] [false, false, false, true] = _
  refine st_ret ?_
  show some ([i3, i4], [true]) = _
  subst hi3 hi4
  rfl

set_option maxHeartbeats 4000000 in
theorem q18_8_64 (a b : Int) : F40 [(8 : Int), a, b, (64 : Int)] [] = some ([(arI .or .u64 a b), 0], []) := by
  refine Eq.trans (Fd_of (n := 4) (m := 0) (t := t40) (C := Tab.fn a40) rfl rfl) ?_
  rw [t40]
  refine st_itf (show ((64 : Int) == 32) = false from by kernel_rfl) ?_
  refine st_rq (show ((64 : Int) != 0) = true from by kernel_rfl) ?_
  refine st_itf (show ((8 : Int) == 0) = false from by kernel_rfl) ?_
  refine st_itf (show ((8 : Int) == 1) = false from by kernel_rfl) ?_
  refine st_itf (show ((8 : Int) == 2) = false from by kernel_rfl) ?_
  refine st_itf (show ((8 : Int) == 3) = false from by kernel_rfl) ?_
  refine st_itf (show ((8 : Int) == 4) = false from by kernel_rfl) ?_
  refine st_itf (show ((8 : Int) == 5) = false from by kernel_rfl) ?_
  refine st_itf (show ((8 : Int) == 6) = false from by kernel_rfl) ?_
  refine st_itf (show ((8 : Int) == 7) = false from by kernel_rfl) ?_
  refine st_itt (show ((8 : Int) == 8) = true from by kernel_rfl) ?_
  refine st_ret ?_
  show some ([(arI .or .u64 a b), 0], []) = _
  rfl

set_option maxHeartbeats 4000000 in
theorem q10_132 (a b : Int) : F16 [(132 : Int), a, b] [] = some ([(arI .or .u64 a b), 0], [true]) := by
  refine Eq.trans (Fd_of (n := 3) (m := 0) (t := t16) (C := Tab.fn a16) rfl rfl) ?_
  rw [t16]
  refine st_lbc (show ((decide ((132 : Int) ≥ 70)) && (decide ((132 : Int) ≤ 79))) = false from by kernel_rfl) ?_
  show T.den _ _ [(132 : Int), a, b] [false] = _
  refine st_itf (show false = false from by kernel_rfl) ?_
  refine st_lbc (show ((decide ((132 : Int) ≥ 81)) && (decide ((132 : Int) ≤ 90))) = false from by kernel_rfl) ?_
  show T.den _ _ [(132 : Int), a, b] [false, false] = _
  refine st_itf (show false = false from by kernel_rfl) ?_
  refine st_lbc (show ((decide ((132 : Int) ≥ 106)) && (decide ((132 : Int) ≤ 120))) = false from by kernel_rfl) ?_
  show T.den _ _ [(132 : Int), a, b] [false, false, false] = _
  refine st_itf (show false = false from by kernel_rfl) ?_
  refine st_lbc (show ((decide ((132 : Int) ≥ 124)) && (decide ((132 : Int) ≤ 138))) = true from by kernel_rfl) ?_
  show T.den _ _ [(132 : Int), a, b] [false, false, false, true] = _
  refine st_itt (show true = true from by kernel_rfl) ?_
  refine st_2_0 (e16_40) (g := true) rfl (l := [8, a, b, 64]) rfl (m := []) rfl (cl_t (q18_8_64 a b )) fun i3 i4 hi3 hi4 => ?_
  show T.den _ _ [(132 : Int), a, b, i3, i4] [false, false, false, true] = _
  refine st_ret ?_
  show some ([i3, i4], [true]) = _
  subst hi3 hi4
  rfl

set_option maxHeartbeats 4000000 in
theorem q18_9_64 (a b : Int) : F40 [(9 : Int), a, b, (64 : Int)] [] = some ([(arI .xor .u64 a b), 0], []) := by
  refine Eq.trans (Fd_of (n := 4) (m := 0) (t := t40) (C := Tab.fn a40) rfl rfl) ?_
  rw [t40]
  refine st_itf (show ((64 : Int) == 32) = false from by kernel_rfl) ?_
  refine st_rq (show ((64 : Int) != 0) = true from by kernel_rfl) ?_
  refine st_itf (show ((9 : Int) == 0) = false from by kernel_rfl) ?_
  refine st_itf (show ((9 : Int) == 1) = false from by kernel_rfl) ?_
  refine st_itf (show ((9 : Int) == 2) = false from by kernel_rfl) ?_
  refine st_itf (show ((9 : Int) == 3) = false from by kernel_rfl) ?_
  refine st_itf (show ((9 : Int) == 4) = false from by kernel_rfl) ?_
  refine st_itf (show ((9 : Int) == 5) = false from by kernel_rfl) ?_
  refine st_itf (show ((9 : Int) == 6) = false from by kernel_rfl) ?_
  refine st_itf (show ((9 : Int) == 7) = false from by kernel_rfl) ?_
  refine st_itf (show ((9 : Int) == 8) = false from by kernel_rfl) ?_
  refine st_itt (show ((9 : Int) == 9) = true from by kernel_rfl) ?_
  refine st_ret ?_
  show some ([(arI .xor .u64 a b), 0], []) = _
  rfl

set_option maxHeartbeats 4000000 in
theorem q10_133 (a b : Int) : F16 [(133 : Int), a, b] [] = some ([(arI .xor .u64 a b), 0], [true]) := by
  refine Eq.trans (Fd_of (n := 3) (m := 0) (t := t16) (C := Tab.fn a16) rfl rfl) ?_
  rw [t16]
  refine st_lbc (show ((decide ((133 : Int) ≥ 70)) && (decide ((133 : Int) ≤ 79))) = false from by kernel_rfl) ?_
  show T.den _ _ [(133 : Int), a, b] [false] = _
  refine st_itf (show false = false from by kernel_rfl) ?_
  refine st_lbc (show ((decide ((133 : Int) ≥ 81)) && (decide ((133 : Int) ≤ 90))) = false from by kernel_rfl) ?_
  show T.den _ _ [(133 : Int), a, b] [false, false] = _
  refine st_itf (show false = false from by kernel_rfl) ?_
  refine st_lbc (show ((decide ((133 : Int) ≥ 106)) && (decide ((133 : Int) ≤ 120))) = false from by kernel_rfl) ?_
  show T.den _ _ [(133 : Int), a, b] [false, false, false] = _
  refine st_itf (show false = false from by kernel_rfl) ?_
  refine st_lbc (show ((decide ((133 : Int) ≥ 124)) && (decide ((133 : Int) ≤ 138))) = true from by kernel_rfl) ?_
  show T.den _ _ [(133 : Int), a, b] [false, false, false, true] = _
  refine st_itt (show true = true from by kernel_rfl) ?_
  refine st_2_0 (e16_40) (g := true) rfl (l := [9, a, b, 64]) rfl (m := []) rfl (cl_t (q18_9_64 a b )) fun i3 i4 hi3 hi4 => ?_
  show T.den _ _ [(133 : Int), a, b, i3, i4] [false, false, false, true] = _
  refine st_ret ?_
  show some ([i3, i4], [true]) = _
  subst hi3 hi4
  rfl

set_option maxHeartbeats 4000000 in
theorem q18_10_64 (a b : Int) (hb : 0 ≤ b) : F40 [(10 : Int), a, b, (64 : Int)] [] = some ([(arI .shl .u64 a (arI .rem .u64 b (64 : Int))), 0], []) := by
  refine Eq.trans (Fd_of (n := 4) (m := 0) (t := t40) (C := Tab.fn a40) rfl rfl) ?_
  rw [t40]
  refine st_itf (show ((64 : Int) == 32) = false from by kernel_rfl) ?_
  refine st_rq (show ((64 : Int) != 0) = true from by kernel_rfl) ?_
  refine st_itf (show ((10 : Int) == 0) = false from by kernel_rfl) ?_
  refine st_itf (show ((10 : Int) == 1) = false from by kernel_rfl) ?_
  refine st_itf (show ((10 : Int) == 2) = false from by kernel_rfl) ?_
  refine st_itf (show ((10 : Int) == 3) = false from by kernel_rfl) ?_
  refine st_itf (show ((10 : Int) == 4) = false from by kernel_rfl) ?_
  refine st_itf (show ((10 : Int) == 5) = false from by kernel_rfl) ?_
  refine st_itf (show ((10 : Int) == 6) = false from by kernel_rfl) ?_
  refine st_itf (show ((10 : Int) == 7) = false from by kernel_rfl) ?_
  refine st_itf (show ((10 : Int) == 8) = false from by kernel_rfl) ?_
  refine st_itf (show ((10 : Int) == 9) = false from by kernel_rfl) ?_
  refine st_itt (show ((10 : Int) == 10) = true from by kernel_rfl) ?_
  refine st_rq (show (decide ((arI .rem .u64 b (64 : Int)) ≥ 0)) = true from ?_) ?_
  · first | exact rem_ge _ _ (by omega) | exact sub_ge _ _ | (subst_vars; exact sub_ge _ _) | (omega)
  refine st_ret ?_
  show some ([(arI .shl .u64 a (arI .rem .u64 b (64 : Int))), 0], []) = _
  rfl

set_option maxHeartbeats 4000000 in
theorem q10_134 (a b : Int) (hb : 0 ≤ b) : F16 [(134 : Int), a, b] [] = some ([(arI .shl .u64 a (arI .rem .u64 b (64 : Int))), 0], [true]) := by
  refine Eq.trans (Fd_of (n := 3) (m := 0) (t := t16) (C := Tab.fn a16) rfl rfl) ?_
  rw [t16]
  refine st_lbc (show ((decide ((134 : Int) ≥ 70)) && (decide ((134 : Int) ≤ 79))) = false from by kernel_rfl) ?_
  show T.den _ _ [(134 : Int), a, b] [false] = _
  refine st_itf (show false = false from by kernel_rfl) ?_
  refine st_lbc (show ((decide ((134 : Int) ≥ 81)) && (decide ((134 : Int) ≤ 90))) = false from by kernel_rfl) ?_
  show T.den _ _ [(134 : Int), a, b] [false, false] = _
  refine st_itf (show false = false from by kernel_rfl) ?_
  refine st_lbc (show ((decide ((134 : Int) ≥ 106)) && (decide ((134 : Int) ≤ 120))) = false from by kernel_rfl) ?_
  show T.den _ _ [(134 : Int), a, b] [false, false, false] = _
  refine st_itf (show false = false from by kernel_rfl) ?_
  refine st_lbc (show ((decide ((134 : Int) ≥ 124)) && (decide ((134 : Int) ≤ 138))) = true from by kernel_rfl) ?_
  show T.den _ _ [(134 : Int), a, b] [false, false, false, true] = _
  refine st_itt (show true = true from by kernel_rfl) ?_
  refine st_2_0 (e16_40) (g := true) rfl (l := [10, a, b, 64]) rfl (m := []) rfl (cl_t (q18_10_64 a b hb)) fun i3 i4 hi3 hi4 => ?_
  show T.den _ _ [(134 : Int), a, b, i3, i4] [false, false, false, true] = _
  refine st_ret ?_
  show some ([i3, i4], [true]) = _
  subst hi3 hi4
  rfl

set_option maxHeartbeats 4000000 in
theorem q18_11_64 (a b : Int) (hb : 0 ≤ b) : F40 [(11 : Int), a, b, (64 : Int)] [] = some ([(IntKind.wrap .u64 (arI .shr .i64 (IntKind.wrap .i64 a) (arI .rem .u64 b (64 : Int)))), 0], []) := by
  refine Eq.trans (Fd_of (n := 4) (m := 0) (t := t40) (C := Tab.fn a40) rfl rfl) ?_
  rw [t40]
  refine st_itf (show ((64 : Int) == 32) = false from by kernel_rfl) ?_
  refine st_rq (show ((64 : Int) != 0) = true from by kernel_rfl) ?_
  refine st_itf (show ((11 : Int) == 0) = false from by kernel_rfl) ?_
  refine st_itf (show ((11 : Int) == 1) = false from by kernel_rfl) ?_
  refine st_itf (show ((11 : Int) == 2) = false from by kernel_rfl) ?_
  refine st_itf (show ((11 : Int) == 3) = false from by kernel_rfl) ?_
  refine st_itf (show ((11 : Int) == 4) = false from by kernel_rfl) ?_
  refine st_itf (show ((11 : Int) == 5) = false from by kernel_rfl) ?_
  refine st_itf (show ((11 : Int) == 6) = false from by kernel_rfl) ?_
  refine st_itf (show ((11 : Int) == 7) = false from by kernel_rfl) ?_
  refine st_itf (show ((11 : Int) == 8) = false from by kernel_rfl) ?_
  refine st_itf (show ((11 : Int) == 9) = false from by kernel_rfl) ?_
  refine st_itf (show ((11 : Int) == 10) = false from by kernel_rfl) ?_
  refine st_itt (show ((11 : Int) == 11) = true from by kernel_rfl) ?_
  refine st_rq (show (decide ((arI .rem .u64 b (64 : Int)) ≥ 0)) = true from ?_) ?_
  · first | exact rem_ge _ _ (by omega) | exact sub_ge _ _ | (subst_vars; exact sub_ge _ _) | (omega)
  refine st_li fun i4 hi4 => ?_
  replace hi4 : i4 = (arI .shr .i64 (IntKind.wrap .i64 a) (arI .rem .u64 b (64 : Int))) := hi4
  show T.den _ _ [(11 : Int), a, b, (64 : Int), i4] [] = _
  refine st_ret ?_
  show some ([(IntKind.wrap .u64 i4), 0], []) = _
  subst hi4
  rfl

set_option maxHeartbeats 4000000 in
theorem q10_135 (a b : Int) (hb : 0 ≤ b) : F16 [(135 : Int), a, b] [] = some ([(IntKind.wrap .u64 (arI .shr .i64 (IntKind.wrap .i64 a) (arI .rem .u64 b (64 : Int)))), 0], [true]) := by
  refine Eq.trans (Fd_of (n := 3) (m := 0) (t := t16) (C := Tab.fn a16) rfl rfl) ?_
  rw [t16]
  refine st_lbc (show ((decide ((135 : Int) ≥ 70)) && (decide ((135 : Int) ≤ 79))) = false from by kernel_rfl) ?_
  show T.den _ _ [(135 : Int), a, b] [false] = _
  refine st_itf (show false = false from by kernel_rfl) ?_
  refine st_lbc (show ((decide ((135 : Int) ≥ 81)) && (decide ((135 : Int) ≤ 90))) = false from by kernel_rfl) ?_
  show T.den _ _ [(135 : Int), a, b] [false, false] = _
  refine st_itf (show false = false from by kernel_rfl) ?_
  refine st_lbc (show ((decide ((135 : Int) ≥ 106)) && (decide ((135 : Int) ≤ 120))) = false from by kernel_rfl) ?_
  show T.den _ _ [(135 : Int), a, b] [false, false, false] = _
  refine st_itf (show false = false from by kernel_rfl) ?_
  refine st_lbc (show ((decide ((135 : Int) ≥ 124)) && (decide ((135 : Int) ≤ 138))) = true from by kernel_rfl) ?_
  show T.den _ _ [(135 : Int), a, b] [false, false, false, true] = _
  refine st_itt (show true = true from by kernel_rfl) ?_
  refine st_2_0 (e16_40) (g := true) rfl (l := [11, a, b, 64]) rfl (m := []) rfl (cl_t (q18_11_64 a b hb)) fun i3 i4 hi3 hi4 => ?_
  show T.den _ _ [(135 : Int), a, b, i3, i4] [false, false, false, true] = _
  refine st_ret ?_
  show some ([i3, i4], [true]) = _
  subst hi3 hi4
  rfl

set_option maxHeartbeats 4000000 in
theorem q18_12_64 (a b : Int) (hb : 0 ≤ b) : F40 [(12 : Int), a, b, (64 : Int)] [] = some ([(arI .shr .u64 a (arI .rem .u64 b (64 : Int))), 0], []) := by
  refine Eq.trans (Fd_of (n := 4) (m := 0) (t := t40) (C := Tab.fn a40) rfl rfl) ?_
  rw [t40]
  refine st_itf (show ((64 : Int) == 32) = false from by kernel_rfl) ?_
  refine st_rq (show ((64 : Int) != 0) = true from by kernel_rfl) ?_
  refine st_itf (show ((12 : Int) == 0) = false from by kernel_rfl) ?_
  refine st_itf (show ((12 : Int) == 1) = false from by kernel_rfl) ?_
  refine st_itf (show ((12 : Int) == 2) = false from by kernel_rfl) ?_
  refine st_itf (show ((12 : Int) == 3) = false from by kernel_rfl) ?_
  refine st_itf (show ((12 : Int) == 4) = false from by kernel_rfl) ?_
  refine st_itf (show ((12 : Int) == 5) = false from by kernel_rfl) ?_
  refine st_itf (show ((12 : Int) == 6) = false from by kernel_rfl) ?_
  refine st_itf (show ((12 : Int) == 7) = false from by kernel_rfl) ?_
  refine st_itf (show ((12 : Int) == 8) = false from by kernel_rfl) ?_
  refine st_itf (show ((12 : Int) == 9) = false from by kernel_rfl) ?_
  refine st_itf (show ((12 : Int) == 10) = false from by kernel_rfl) ?_
  refine st_itf (show ((12 : Int) == 11) = false from by kernel_rfl) ?_
  refine st_itt (show ((12 : Int) == 12) = true from by kernel_rfl) ?_
  refine st_rq (show (decide ((arI .rem .u64 b (64 : Int)) ≥ 0)) = true from ?_) ?_
  · first | exact rem_ge _ _ (by omega) | exact sub_ge _ _ | (subst_vars; exact sub_ge _ _) | (omega)
  refine st_ret ?_
  show some ([(arI .shr .u64 a (arI .rem .u64 b (64 : Int))), 0], []) = _
  rfl

set_option maxHeartbeats 4000000 in
theorem q10_136 (a b : Int) (hb : 0 ≤ b) : F16 [(136 : Int), a, b] [] = some ([(arI .shr .u64 a (arI .rem .u64 b (64 : Int))), 0], [true]) := by
  refine Eq.trans (Fd_of (n := 3) (m := 0) (t := t16) (C := Tab.fn a16) rfl rfl) ?_
  rw [t16]
  refine st_lbc (show ((decide ((136 : Int) ≥ 70)) && (decide ((136 : Int) ≤ 79))) = false from by kernel_rfl) ?_
  show T.den _ _ [(136 : Int), a, b] [false] = _
  refine st_itf (show false = false from by kernel_rfl) ?_
  refine st_lbc (show ((decide ((136 : Int) ≥ 81)) && (decide ((136 : Int) ≤ 90))) = false from by kernel_rfl) ?_
  show T.den _ _ [(136 : Int), a, b] [false, false] = _
  refine st_itf (show false = false from by kernel_rfl) ?_
  refine st_lbc (show ((decide ((136 : Int) ≥ 106)) && (decide ((136 : Int) ≤ 120))) = false from by kernel_rfl) ?_
  show T.den _ _ [(136 : Int), a, b] [false, false, false] = _
  refine st_itf (show false = false from by kernel_rfl) ?_
  refine st_lbc (show ((decide ((136 : Int) ≥ 124)) && (decide ((136 : Int) ≤ 138))) = true from by kernel_rfl) ?_
  show T.den _ _ [(136 : Int), a, b] [false, false, false, true] = _
  refine st_itt (show true = true from by kernel_rfl) ?_
  refine st_2_0 (e16_40) (g := true) rfl (l := [12, a, b, 64]) rfl (m := []) rfl (cl_t (q18_12_64 a b hb)) fun i3 i4 hi3 hi4 => ?_
  show T.den _ _ [(136 : Int), a, b, i3, i4] [false, false, false, true] = _
  refine st_ret ?_
  show some ([i3, i4], [true]) = _
  subst hi3 hi4
  rfl

set_option maxHeartbeats 4000000 in
theorem q18_13_64 (a b : Int) (hb : 0 ≤ b) : F40 [(13 : Int), a, b, (64 : Int)] [] = some ([(arI .or .u64 (arI .shl .u64 a (arI .rem .u64 b (64 : Int))) (arI .shr .u64 a (arI .sub .u64 (64 : Int) (arI .rem .u64 b (64 : Int))))), 0], []) := by
  refine Eq.trans (Fd_of (n := 4) (m := 0) (t := t40) (C := Tab.fn a40) rfl rfl) ?_
  rw [t40]
  refine st_itf (show ((64 : Int) == 32) = false from by kernel_rfl) ?_
  refine st_rq (show ((64 : Int) != 0) = true from by kernel_rfl) ?_
  refine st_itf (show ((13 : Int) == 0) = false from by kernel_rfl) ?_
  refine st_itf (show ((13 : Int) == 1) = false from by kernel_rfl) ?_
  refine st_itf (show ((13 : Int) == 2) = false from by kernel_rfl) ?_
  refine st_itf (show ((13 : Int) == 3) = false from by kernel_rfl) ?_
  refine st_itf (show ((13 : Int) == 4) = false from by kernel_rfl) ?_
  refine st_itf (show ((13 : Int) == 5) = false from by kernel_rfl) ?_
  refine st_itf (show ((13 : Int) == 6) = false from by kernel_rfl) ?_
  refine st_itf (show ((13 : Int) == 7) = false from by kernel_rfl) ?_
  refine st_itf (show ((13 : Int) == 8) = false from by kernel_rfl) ?_
  refine st_itf (show ((13 : Int) == 9) = false from by kernel_rfl) ?_
  refine st_itf (show ((13 : Int) == 10) = false from by kernel_rfl) ?_
  refine st_itf (show ((13 : Int) == 11) = false from by kernel_rfl) ?_
  refine st_itf (show ((13 : Int) == 12) = false from by kernel_rfl) ?_
  refine st_itt (show ((13 : Int) == 13) = true from by kernel_rfl) ?_
  refine st_rq (show (decide ((arI .rem .u64 b (64 : Int)) ≥ 0)) = true from ?_) ?_
  · first | exact rem_ge _ _ (by omega) | exact sub_ge _ _ | (subst_vars; exact sub_ge _ _) | (omega)
  refine st_li fun i4 hi4 => ?_
  replace hi4 : i4 = (arI .sub .u64 (64 : Int) (arI .rem .u64 b (64 : Int))) := hi4
  show T.den _ _ [(13 : Int), a, b, (64 : Int), i4] [] = _
  refine st_rq (show (decide (i4 ≥ 0)) = true from ?_) ?_
  · first | exact rem_ge _ _ (by omega) | exact sub_ge _ _ | (subst_vars; exact sub_ge _ _) | (omega)
  refine st_li fun i5 hi5 => ?_
  replace hi5 : i5 = (arI .or .u64 (arI .shl .u64 a (arI .rem .u64 b (64 : Int))) (arI .shr .u64 a i4)) := hi5
  show T.den _ _ [(13 : Int), a, b, (64 : Int), i4, i5] [] = _
  refine st_ret ?_
  show some ([i5, 0], []) = _
  subst hi4 hi5
  rfl

set_option maxHeartbeats 4000000 in
theorem q10_137 (a b : Int) (hb : 0 ≤ b) : F16 [(137 : Int), a, b] [] = some ([(arI .or .u64 (arI .shl .u64 a (arI .rem .u64 b (64 : Int))) (arI .shr .u64 a (arI .sub .u64 (64 : Int) (arI .rem .u64 b (64 : Int))))), 0], [true]) := by
  refine Eq.trans (Fd_of (n := 3) (m := 0) (t := t16) (C := Tab.fn a16) rfl rfl) ?_
  rw [t16]
  refine st_lbc (show ((decide ((137 : Int) ≥ 70)) && (decide ((137 : Int) ≤ 79))) = false from by kernel_rfl) ?_
  show T.den _ _ [(137 : Int), a, b] [false] = _
  refine st_itf (show false = false from by kernel_rfl) ?_
  refine st_lbc (show ((decide ((137 : Int) ≥ 81)) && (decide ((137 : Int) ≤ 90))) = false from by kernel_rfl) ?_
  show T.den _ _ [(137 : Int), a, b] [false, false] = _
  refine st_itf (show false = false from by kernel_rfl) ?_
  refine st_lbc (show ((decide ((137 : Int) ≥ 106)) && (decide ((137 : Int) ≤ 120))) = false from by kernel_rfl) ?_
  show T.den _ _ [(137 : Int), a, b] [false, false, false] = _
  refine st_itf (show false = false from by kernel_rfl) ?_
  refine st_lbc (show ((decide ((137 : Int) ≥ 124)) && (decide ((137 : Int) ≤ 138))) = true from by kernel_rfl) ?_
  show T.den _ _ [(137 : Int), a, b] [false, false, false, true] = _
  refine st_itt (show true = true from by kernel_rfl) ?_
  refine st_2_0 (e16_40) (g := true) rfl (l := [13, a, b, 64]) rfl (m := []) rfl (cl_t (q18_13_64 a b hb)) fun i3 i4 hi3 hi4 => ?_
  show T.den _ _ [(137 : Int), a, b, i3, i4] [false, false, false, true] = _
  refine st_ret ?_
  show some ([i3, i4], [true]) = _
  subst hi3 hi4
  rfl

set_option maxHeartbeats 4000000 in
theorem q18_14_64 (a b : Int) (hb : 0 ≤ b) : F40 [(14 : Int), a, b, (64 : Int)] [] = some ([(arI .or .u64 (arI .shr .u64 a (arI .rem .u64 b (64 : Int))) (arI .shl .u64 a (arI .sub .u64 (64 : Int) (arI .rem .u64 b (64 : Int))))), 0], []) := by
  refine Eq.trans (Fd_of (n := 4) (m := 0) (t := t40) (C := Tab.fn a40) rfl rfl) ?_
  rw [t40]
  refine st_itf (show ((64 : Int) == 32) = false from by kernel_rfl) ?_
  refine st_rq (show ((64 : Int) != 0) = true from by kernel_rfl) ?_
  refine st_itf (show ((14 : Int) == 0) = false from by kernel_rfl) ?_
  refine st_itf (show ((14 : Int) == 1) = false from by kernel_rfl) ?_
  refine st_itf (show ((14 : Int) == 2) = false from by kernel_rfl) ?_
  refine st_itf (show ((14 : Int) == 3) = false from by kernel_rfl) ?_
  refine st_itf (show ((14 : Int) == 4) = false from by kernel_rfl) ?_
  refine st_itf (show ((14 : Int) == 5) = false from by kernel_rfl) ?_
  refine st_itf (show ((14 : Int) == 6) = false from by kernel_rfl) ?_
  refine st_itf (show ((14 : Int) == 7) = false from by kernel_rfl) ?_
  refine st_itf (show ((14 : Int) == 8) = false from by kernel_rfl) ?_
  refine st_itf (show ((14 : Int) == 9) = false from by kernel_rfl) ?_
  refine st_itf (show ((14 : Int) == 10) = false from by kernel_rfl) ?_
  refine st_itf (show ((14 : Int) == 11) = false from by kernel_rfl) ?_
  refine st_itf (show ((14 : Int) == 12) = false from by kernel_rfl) ?_
  refine st_itf (show ((14 : Int) == 13) = false from by kernel_rfl) ?_
  refine st_rq (show (decide ((arI .rem .u64 b (64 : Int)) ≥ 0)) = true from ?_) ?_
  · first | exact rem_ge _ _ (by omega) | exact sub_ge _ _ | (subst_vars; exact sub_ge _ _) | (omega)
  refine st_li fun i4 hi4 => ?_
  replace hi4 : i4 = (arI .sub .u64 (64 : Int) (arI .rem .u64 b (64 : Int))) := hi4
  show T.den _ _ [(14 : Int), a, b, (64 : Int), i4] [] = _
  refine st_rq (show (decide (i4 ≥ 0)) = true from ?_) ?_
  · first | exact rem_ge _ _ (by omega) | exact sub_ge _ _ | (subst_vars; exact sub_ge _ _) | (omega)
  refine st_li fun i5 hi5 => ?_
  replace hi5 : i5 = (arI .or .u64 (arI .shr .u64 a (arI .rem .u64 b (64 : Int))) (arI .shl .u64 a i4)) := hi5
  show T.den _ _ [(14 : Int), a, b, (64 : Int), i4, i5] [] = _
  refine st_ret ?_
  show some ([i5, 0], []) = _
  subst hi4 hi5
  rfl

set_option maxHeartbeats 4000000 in
theorem q10_138 (a b : Int) (hb : 0 ≤ b) : F16 [(138 : Int), a, b] [] = some ([(arI .or .u64 (arI .shr .u64 a (arI .rem .u64 b (64 : Int))) (arI .shl .u64 a (arI .sub .u64 (64 : Int) (arI .rem .u64 b (64 : Int))))), 0], [true]) := by
  refine Eq.trans (Fd_of (n := 3) (m := 0) (t := t16) (C := Tab.fn a16) rfl rfl) ?_
  rw [t16]
  refine st_lbc (show ((decide ((138 : Int) ≥ 70)) && (decide ((138 : Int) ≤ 79))) = false from by kernel_rfl) ?_
  show T.den _ _ [(138 : Int), a, b] [false] = _
  refine st_itf (show false = false from by kernel_rfl) ?_
  refine st_lbc (show ((decide ((138 : Int) ≥ 81)) && (decide ((138 : Int) ≤ 90))) = false from by kernel_rfl) ?_
  show T.den _ _ [(138 : Int), a, b] [false, false] = _
  refine st_itf (show false = false from by kernel_rfl) ?_
  refine st_lbc (show ((decide ((138 : Int) ≥ 106)) && (decide ((138 : Int) ≤ 120))) = false from by kernel_rfl) ?_
  show T.den _ _ [(138 : Int), a, b] [false, false, false] = _
  refine st_itf (show false = false from by kernel_rfl) ?_
  refine st_lbc (show ((decide ((138 : Int) ≥ 124)) && (decide ((138 : Int) ≤ 138))) = true from by kernel_rfl) ?_
  show T.den _ _ [(138 : Int), a, b] [false, false, false, true] = _
  refine st_itt (show true = true from by kernel_rfl) ?_
  refine st_2_0 (e16_40) (g := true) rfl (l := [14, a, b, 64]) rfl (m := []) rfl (cl_t (q18_14_64 a b hb)) fun i3 i4 hi3 hi4 => ?_
  show T.den _ _ [(138 : Int), a, b, i3, i4] [false, false, false, true] = _
  refine st_ret ?_
  show some ([i3, i4], [true]) = _
  subst hi3 hi4
  rfl

theorem q14_of (k : Nat) (T : List (Option (List Int × List Bool))) (h : (List.range 256).map (fun k : Nat => F13 [(k : Int)] []) = T) (hk : k < 256) : F13 [(k : Int)] [] = T.getD k none := by
  subst h; rw [List.getD_eq_getElem?_getD, List.getElem?_map, List.getElem?_range hk]; rfl

theorem q14_69 : F13 [69] [] = some ([1, 127, 0, 127], [true]) := by kernel_rfl

theorem q14_103 : F13 [103] [] = some ([1, 127, 0, 127], [true]) := by kernel_rfl

theorem q14_104 : F13 [104] [] = some ([1, 127, 0, 127], [true]) := by kernel_rfl

theorem q14_105 : F13 [105] [] = some ([1, 127, 0, 127], [true]) := by kernel_rfl

theorem q14_192 : F13 [192] [] = some ([1, 127, 0, 127], [true]) := by kernel_rfl

theorem q14_193 : F13 [193] [] = some ([1, 127, 0, 127], [true]) := by kernel_rfl

theorem q14_80 : F13 [80] [] = some ([1, 126, 0, 127], [true]) := by kernel_rfl

theorem q14_167 : F13 [167] [] = some ([1, 126, 0, 127], [true]) := by kernel_rfl

theorem q14_121 : F13 [121] [] = some ([1, 126, 0, 126], [true]) := by kernel_rfl

theorem q14_122 : F13 [122] [] = some ([1, 126, 0, 126], [true]) := by kernel_rfl

theorem q14_123 : F13 [123] [] = some ([1, 126, 0, 126], [true]) := by kernel_rfl

theorem q14_194 : F13 [194] [] = some ([1, 126, 0, 126], [true]) := by kernel_rfl

theorem q14_195 : F13 [195] [] = some ([1, 126, 0, 126], [true]) := by kernel_rfl

theorem q14_196 : F13 [196] [] = some ([1, 126, 0, 126], [true]) := by kernel_rfl

theorem q14_172 : F13 [172] [] = some ([1, 127, 0, 126], [true]) := by kernel_rfl

theorem q14_173 : F13 [173] [] = some ([1, 127, 0, 126], [true]) := by kernel_rfl

theorem q14_70 : F13 [70] [] = some ([2, 127, 127, 127], [true]) := by kernel_rfl

theorem q14_71 : F13 [71] [] = some ([2, 127, 127, 127], [true]) := by kernel_rfl

theorem q14_72 : F13 [72] [] = some ([2, 127, 127, 127], [true]) := by kernel_rfl

theorem q14_73 : F13 [73] [] = some ([2, 127, 127, 127], [true]) := by kernel_rfl

theorem q14_74 : F13 [74] [] = some ([2, 127, 127, 127], [true]) := by kernel_rfl

theorem q14_75 : F13 [75] [] = some ([2, 127, 127, 127], [true]) := by kernel_rfl

theorem q14_76 : F13 [76] [] = some ([2, 127, 127, 127], [true]) := by kernel_rfl

theorem q14_77 : F13 [77] [] = some ([2, 127, 127, 127], [true]) := by kernel_rfl

theorem q14_78 : F13 [78] [] = some ([2, 127, 127, 127], [true]) := by kernel_rfl

theorem q14_79 : F13 [79] [] = some ([2, 127, 127, 127], [true]) := by kernel_rfl

theorem q14_106 : F13 [106] [] = some ([2, 127, 127, 127], [true]) := by kernel_rfl

theorem q14_107 : F13 [107] [] = some ([2, 127, 127, 127], [true]) := by kernel_rfl

theorem q14_108 : F13 [108] [] = some ([2, 127, 127, 127], [true]) := by kernel_rfl

theorem q14_109 : F13 [109] [] = some ([2, 127, 127, 127], [true]) := by kernel_rfl

theorem q14_110 : F13 [110] [] = some ([2, 127, 127, 127], [true]) := by kernel_rfl

theorem q14_111 : F13 [111] [] = some ([2, 127, 127, 127], [true]) := by kernel_rfl

theorem q14_112 : F13 [112] [] = some ([2, 127, 127, 127], [true]) := by kernel_rfl

theorem q14_113 : F13 [113] [] = some ([2, 127, 127, 127], [true]) := by kernel_rfl

theorem q14_114 : F13 [114] [] = some ([2, 127, 127, 127], [true]) := by kernel_rfl

theorem q14_115 : F13 [115] [] = some ([2, 127, 127, 127], [true]) := by kernel_rfl

theorem q14_116 : F13 [116] [] = some ([2, 127, 127, 127], [true]) := by kernel_rfl

theorem q14_117 : F13 [117] [] = some ([2, 127, 127, 127], [true]) := by kernel_rfl

theorem q14_118 : F13 [118] [] = some ([2, 127, 127, 127], [true]) := by kernel_rfl

theorem q14_119 : F13 [119] [] = some ([2, 127, 127, 127], [true]) := by kernel_rfl

theorem q14_120 : F13 [120] [] = some ([2, 127, 127, 127], [true]) := by kernel_rfl

theorem q14_81 : F13 [81] [] = some ([2, 126, 126, 127], [true]) := by kernel_rfl

theorem q14_82 : F13 [82] [] = some ([2, 126, 126, 127], [true]) := by kernel_rfl

theorem q14_83 : F13 [83] [] = some ([2, 126, 126, 127], [true]) := by kernel_rfl

theorem q14_84 : F13 [84] [] = some ([2, 126, 126, 127], [true]) := by kernel_rfl

theorem q14_85 : F13 [85] [] = some ([2, 126, 126, 127], [true]) := by kernel_rfl

theorem q14_86 : F13 [86] [] = some ([2, 126, 126, 127], [true]) := by kernel_rfl

theorem q14_87 : F13 [87] [] = some ([2, 126, 126, 127], [true]) := by kernel_rfl

theorem q14_88 : F13 [88] [] = some ([2, 126, 126, 127], [true]) := by kernel_rfl

theorem q14_89 : F13 [89] [] = some ([2, 126, 126, 127], [true]) := by kernel_rfl

theorem q14_90 : F13 [90] [] = some ([2, 126, 126, 127], [true]) := by kernel_rfl

theorem q14_124 : F13 [124] [] = some ([2, 126, 126, 126], [true]) := by kernel_rfl

theorem q14_125 : F13 [125] [] = some ([2, 126, 126, 126], [true]) := by kernel_rfl

theorem q14_126 : F13 [126] [] = some ([2, 126, 126, 126], [true]) := by kernel_rfl

theorem q14_127 : F13 [127] [] = some ([2, 126, 126, 126], [true]) := by kernel_rfl

theorem q14_128 : F13 [128] [] = some ([2, 126, 126, 126], [true]) := by kernel_rfl

theorem q14_129 : F13 [129] [] = some ([2, 126, 126, 126], [true]) := by kernel_rfl

theorem q14_130 : F13 [130] [] = some ([2, 126, 126, 126], [true]) := by kernel_rfl

theorem q14_131 : F13 [131] [] = some ([2, 126, 126, 126], [true]) := by kernel_rfl

theorem q14_132 : F13 [132] [] = some ([2, 126, 126, 126], [true]) := by kernel_rfl

theorem q14_133 : F13 [133] [] = some ([2, 126, 126, 126], [true]) := by kernel_rfl

theorem q14_134 : F13 [134] [] = some ([2, 126, 126, 126], [true]) := by kernel_rfl

theorem q14_135 : F13 [135] [] = some ([2, 126, 126, 126], [true]) := by kernel_rfl

theorem q14_136 : F13 [136] [] = some ([2, 126, 126, 126], [true]) := by kernel_rfl

theorem q14_137 : F13 [137] [] = some ([2, 126, 126, 126], [true]) := by kernel_rfl

theorem q14_138 : F13 [138] [] = some ([2, 126, 126, 126], [true]) := by kernel_rfl

set_option maxHeartbeats 4000000 in
theorem q14_out (op : Int) (h : (op < 69 ∨ (91 ≤ op ∧ op ≤ 102) ∨ (139 ≤ op ∧ op ≤ 166) ∨ (168 ≤ op ∧ op ≤ 171) ∨ (174 ≤ op ∧ op ≤ 191) ∨ 196 < op)) : F13 [op] [] = some ([0, 0, 0, 0], [false]) := by
  refine Eq.trans (Fd_of (n := 1) (m := 0) (t := t13) (C := Tab.fn a13) rfl rfl) ?_
  rw [t13]
  refine st_itf (show (op == 69) = false from by simp only [Bool.and_eq_false_iff, Bool.or_eq_false_iff, decide_eq_false_iff_not, beq_eq_false_iff_ne, ne_eq, Bool.or_false, Bool.false_or, Bool.and_false, Bool.false_and] <;> omega) ?_
  refine st_lbc (show ((decide (op ≥ 103)) && (decide (op ≤ 105))) = false from by simp only [Bool.and_eq_false_iff, Bool.or_eq_false_iff, decide_eq_false_iff_not, beq_eq_false_iff_ne, ne_eq, Bool.or_false, Bool.false_or, Bool.and_false, Bool.false_and] <;> omega) ?_
  show T.den _ _ [op] [false] = _
  refine st_itf (show false = false from by simp only [Bool.and_eq_false_iff, Bool.or_eq_false_iff, decide_eq_false_iff_not, beq_eq_false_iff_ne, ne_eq, Bool.or_false, Bool.false_or, Bool.and_false, Bool.false_and] <;> omega) ?_
  refine st_itf (show (op == 192) = false from by simp only [Bool.and_eq_false_iff, Bool.or_eq_false_iff, decide_eq_false_iff_not, beq_eq_false_iff_ne, ne_eq, Bool.or_false, Bool.false_or, Bool.and_false, Bool.false_and] <;> omega) ?_
  refine st_itf (show (op == 193) = false from by simp only [Bool.and_eq_false_iff, Bool.or_eq_false_iff, decide_eq_false_iff_not, beq_eq_false_iff_ne, ne_eq, Bool.or_false, Bool.false_or, Bool.and_false, Bool.false_and] <;> omega) ?_
  refine st_itf (show (op == 80) = false from by simp only [Bool.and_eq_false_iff, Bool.or_eq_false_iff, decide_eq_false_iff_not, beq_eq_false_iff_ne, ne_eq, Bool.or_false, Bool.false_or, Bool.and_false, Bool.false_and] <;> omega) ?_
  refine st_itf (show (op == 167) = false from by simp only [Bool.and_eq_false_iff, Bool.or_eq_false_iff, decide_eq_false_iff_not, beq_eq_false_iff_ne, ne_eq, Bool.or_false, Bool.false_or, Bool.and_false, Bool.false_and] <;> omega) ?_
  refine st_lbc (show ((decide (op ≥ 121)) && (decide (op ≤ 123))) = false from by simp only [Bool.and_eq_false_iff, Bool.or_eq_false_iff, decide_eq_false_iff_not, beq_eq_false_iff_ne, ne_eq, Bool.or_false, Bool.false_or, Bool.and_false, Bool.false_and] <;> omega) ?_
  show T.den _ _ [op] [false, false] = _
  refine st_itf (show false = false from by simp only [Bool.and_eq_false_iff, Bool.or_eq_false_iff, decide_eq_false_iff_not, beq_eq_false_iff_ne, ne_eq, Bool.or_false, Bool.false_or, Bool.and_false, Bool.false_and] <;> omega) ?_
  refine st_lbc (show ((decide (op ≥ 194)) && (decide (op ≤ 196))) = false from by simp only [Bool.and_eq_false_iff, Bool.or_eq_false_iff, decide_eq_false_iff_not, beq_eq_false_iff_ne, ne_eq, Bool.or_false, Bool.false_or, Bool.and_false, Bool.false_and] <;> omega) ?_
  show T.den _ _ [op] [false, false, false] = _
  refine st_itf (show false = false from by simp only [Bool.and_eq_false_iff, Bool.or_eq_false_iff, decide_eq_false_iff_not, beq_eq_false_iff_ne, ne_eq, Bool.or_false, Bool.false_or, Bool.and_false, Bool.false_and] <;> omega) ?_
  refine st_itf (show (op == 172) = false from by simp only [Bool.and_eq_false_iff, Bool.or_eq_false_iff, decide_eq_false_iff_not, beq_eq_false_iff_ne, ne_eq, Bool.or_false, Bool.false_or, Bool.and_false, Bool.false_and] <;> omega) ?_
  refine st_itf (show (op == 173) = false from by simp only [Bool.and_eq_false_iff, Bool.or_eq_false_iff, decide_eq_false_iff_not, beq_eq_false_iff_ne, ne_eq, Bool.or_false, Bool.false_or, Bool.and_false, Bool.false_and] <;> omega) ?_
  refine st_lbc (show ((decide (op ≥ 70)) && (decide (op ≤ 79))) = false from by simp only [Bool.and_eq_false_iff, Bool.or_eq_false_iff, decide_eq_false_iff_not, beq_eq_false_iff_ne, ne_eq, Bool.or_false, Bool.false_or, Bool.and_false, Bool.false_and] <;> omega) ?_
  show T.den _ _ [op] [false, false, false, false] = _
  refine st_itf (show false = false from by simp only [Bool.and_eq_false_iff, Bool.or_eq_false_iff, decide_eq_false_iff_not, beq_eq_false_iff_ne, ne_eq, Bool.or_false, Bool.false_or, Bool.and_false, Bool.false_and] <;> omega) ?_
  refine st_lbc (show ((decide (op ≥ 106)) && (decide (op ≤ 120))) = false from by simp only [Bool.and_eq_false_iff, Bool.or_eq_false_iff, decide_eq_false_iff_not, beq_eq_false_iff_ne, ne_eq, Bool.or_false, Bool.false_or, Bool.and_false, Bool.false_and] <;> omega) ?_
  show T.den _ _ [op] [false, false, false, false, false] = _
  refine st_itf (show false = false from by simp only [Bool.and_eq_false_iff, Bool.or_eq_false_iff, decide_eq_false_iff_not, beq_eq_false_iff_ne, ne_eq, Bool.or_false, Bool.false_or, Bool.and_false, Bool.false_and] <;> omega) ?_
  refine st_lbc (show ((decide (op ≥ 81)) && (decide (op ≤ 90))) = false from by simp only [Bool.and_eq_false_iff, Bool.or_eq_false_iff, decide_eq_false_iff_not, beq_eq_false_iff_ne, ne_eq, Bool.or_false, Bool.false_or, Bool.and_false, Bool.false_and] <;> omega) ?_
  show T.den _ _ [op] [false, false, false, false, false, false] = _
  refine st_itf (show false = false from by simp only [Bool.and_eq_false_iff, Bool.or_eq_false_iff, decide_eq_false_iff_not, beq_eq_false_iff_ne, ne_eq, Bool.or_false, Bool.false_or, Bool.and_false, Bool.false_and] <;> omega) ?_
  refine st_lbc (show ((decide (op ≥ 124)) && (decide (op ≤ 138))) = false from by simp only [Bool.and_eq_false_iff, Bool.or_eq_false_iff, decide_eq_false_iff_not, beq_eq_false_iff_ne, ne_eq, Bool.or_false, Bool.false_or, Bool.and_false, Bool.false_and] <;> omega) ?_
  show T.den _ _ [op] [false, false, false, false, false, false, false] = _
  refine st_itf (show false = false from by simp only [Bool.and_eq_false_iff, Bool.or_eq_false_iff, decide_eq_false_iff_not, beq_eq_false_iff_ne, ne_eq, Bool.or_false, Bool.false_or, Bool.and_false, Bool.false_and] <;> omega) ?_
  refine st_ret ?_
  show some ([0, 0, 0, 0], [false]) = _
  rfl

def InR (a : Int) : Prop := 0 ≤ a ∧ a < 18446744073709551616
def U (op : Int) : Prop := ∃ i o : Int, F13 [op] [] = some ([1, i, 0, o], [true])
def B (op : Int) : Prop := ∃ i o : Int, F13 [op] [] = some ([2, i, i, o], [true]) ∧ ∃ f g : Int → Int → Int, (∀ a b, InR a → InR b → F16 [op, a, b] [] = some ([f a b, g a b], [true])) ∧
  (i = 127 → ∀ a x b y, IntKind.wrap .u32 a = IntKind.wrap .u32 x → IntKind.wrap .u32 b = IntKind.wrap .u32 y → f a b = f x y ∧ g a b = g x y) ∧ (∀ a b, o = 126 ∨ f a b < 4294967296) ∧ (∀ a b, g a b = 0 ∨ f a b = 0)
theorem nat32 (a : Int) : ∃ A : Nat, IntKind.wrap .u32 a = A ∧ A < 4294967296 ∧ (IntKind.wrap .u32 a).toNat = A := by
  rw [wrap_u32]; exact ⟨(a % 4294967296).toNat, by omega, by omega, rfl⟩
theorem w64_lt (n : Nat) (h : n < 4294967296) : IntKind.wrap .u64 (n : Int) < 4294967296 := by rw [wrap_u64]; omega
theorem bif_lt (b : Bool) : (bif b then (1 : Int) else 0) < 4294967296 := by cases b <;> decide
theorem dt_dq (b x y l : Int) : dt b x y l = 0 ∨ dq b x y l = 0 := by
  unfold dt dq; by_cases h : b = 0
  · right; rw [if_pos h]
  · rw [if_neg h, if_neg h]; by_cases h2 : x = l ∧ y = -1
    · right; rw [if_pos h2]
    · left; rw [if_neg h2]
theorem dz_0 (b v : Int) : dz b = 0 ∨ (if b = 0 then 0 else v) = 0 := by
  unfold dz; by_cases h : b = 0
  · right; rw [if_pos h]
  · left; rw [if_neg h]
theorem w0 {v : Int} (h : v = 0) : IntKind.wrap .u64 (IntKind.wrap .u32 v) = 0 := by subst h; decide
theorem ctz_le (w x : Nat) (h : x < 2 ^ w) : Lib.ctz w x ≤ w := by
  unfold Lib.ctz
  by_cases h0 : x = 0
  · rw [if_pos h0]; exact Nat.le_refl _
  · rw [if_neg h0]
    obtain ⟨m, e, h1⟩ := Lib.ctzFrom_spec w x (by omega) h
    omega

theorem U_69 : U 69 := ⟨127, 127, q14_69⟩

theorem U_103 : U 103 := ⟨127, 127, q14_103⟩

theorem U_104 : U 104 := ⟨127, 127, q14_104⟩

theorem U_105 : U 105 := ⟨127, 127, q14_105⟩

theorem U_192 : U 192 := ⟨127, 127, q14_192⟩

theorem U_193 : U 193 := ⟨127, 127, q14_193⟩

theorem U_80 : U 80 := ⟨126, 127, q14_80⟩

theorem U_167 : U 167 := ⟨126, 127, q14_167⟩

theorem U_121 : U 121 := ⟨126, 126, q14_121⟩

theorem U_122 : U 122 := ⟨126, 126, q14_122⟩

theorem U_123 : U 123 := ⟨126, 126, q14_123⟩

theorem U_194 : U 194 := ⟨126, 126, q14_194⟩

theorem U_195 : U 195 := ⟨126, 126, q14_195⟩

theorem U_196 : U 196 := ⟨126, 126, q14_196⟩

theorem U_172 : U 172 := ⟨127, 126, q14_172⟩

theorem U_173 : U 173 := ⟨127, 126, q14_173⟩

theorem B_70 : B 70 := by
  refine ⟨127, 127, q14_70, fun a b => (bif ((IntKind.wrap .u64 (IntKind.wrap .u32 a)) == (IntKind.wrap .u64 (IntKind.wrap .u32 b))) then 1 else 0), fun a b => 0, ?_, ?_, ?_, ?_⟩
  · exact fun a b ha hb => q10_70 a b
  · exact fun _ a x b y h1 h2 => by simp only [h1, h2, and_self]
  · exact fun a b => .inr (bif_lt _)
  · exact fun a b => .inl rfl

theorem B_71 : B 71 := by
  refine ⟨127, 127, q14_71, fun a b => (bif ((IntKind.wrap .u64 (IntKind.wrap .u32 a)) != (IntKind.wrap .u64 (IntKind.wrap .u32 b))) then 1 else 0), fun a b => 0, ?_, ?_, ?_, ?_⟩
  · exact fun a b ha hb => q10_71 a b
  · exact fun _ a x b y h1 h2 => by simp only [h1, h2, and_self]
  · exact fun a b => .inr (bif_lt _)
  · exact fun a b => .inl rfl

theorem B_72 : B 72 := by
  refine ⟨127, 127, q14_72, fun a b => (bif (decide ((IntKind.wrap .i64 (IntKind.wrap .i32 (IntKind.wrap .u64 (IntKind.wrap .u32 a)))) < (IntKind.wrap .i64 (IntKind.wrap .i32 (IntKind.wrap .u64 (IntKind.wrap .u32 b)))))) then 1 else 0), fun a b => 0, ?_, ?_, ?_, ?_⟩
  · exact fun a b ha hb => q10_72 a b
  · exact fun _ a x b y h1 h2 => by simp only [h1, h2, and_self]
  · exact fun a b => .inr (bif_lt _)
  · exact fun a b => .inl rfl

theorem B_73 : B 73 := by
  refine ⟨127, 127, q14_73, fun a b => (bif (decide ((IntKind.wrap .u64 (IntKind.wrap .u32 a)) < (IntKind.wrap .u64 (IntKind.wrap .u32 b)))) then 1 else 0), fun a b => 0, ?_, ?_, ?_, ?_⟩
  · exact fun a b ha hb => q10_73 a b
  · exact fun _ a x b y h1 h2 => by simp only [h1, h2, and_self]
  · exact fun a b => .inr (bif_lt _)
  · exact fun a b => .inl rfl

theorem B_74 : B 74 := by
  refine ⟨127, 127, q14_74, fun a b => (bif (decide ((IntKind.wrap .i64 (IntKind.wrap .i32 (IntKind.wrap .u64 (IntKind.wrap .u32 a)))) > (IntKind.wrap .i64 (IntKind.wrap .i32 (IntKind.wrap .u64 (IntKind.wrap .u32 b)))))) then 1 else 0), fun a b => 0, ?_, ?_, ?_, ?_⟩
  · exact fun a b ha hb => q10_74 a b
  · exact fun _ a x b y h1 h2 => by simp only [h1, h2, and_self]
  · exact fun a b => .inr (bif_lt _)
  · exact fun a b => .inl rfl

theorem B_75 : B 75 := by
  refine ⟨127, 127, q14_75, fun a b => (bif (decide ((IntKind.wrap .u64 (IntKind.wrap .u32 a)) > (IntKind.wrap .u64 (IntKind.wrap .u32 b)))) then 1 else 0), fun a b => 0, ?_, ?_, ?_, ?_⟩
  · exact fun a b ha hb => q10_75 a b
  · exact fun _ a x b y h1 h2 => by simp only [h1, h2, and_self]
  · exact fun a b => .inr (bif_lt _)
  · exact fun a b => .inl rfl

theorem B_76 : B 76 := by
  refine ⟨127, 127, q14_76, fun a b => (bif (decide ((IntKind.wrap .i64 (IntKind.wrap .i32 (IntKind.wrap .u64 (IntKind.wrap .u32 a)))) ≤ (IntKind.wrap .i64 (IntKind.wrap .i32 (IntKind.wrap .u64 (IntKind.wrap .u32 b)))))) then 1 else 0), fun a b => 0, ?_, ?_, ?_, ?_⟩
  · exact fun a b ha hb => q10_76 a b
  · exact fun _ a x b y h1 h2 => by simp only [h1, h2, and_self]
  · exact fun a b => .inr (bif_lt _)
  · exact fun a b => .inl rfl

theorem B_77 : B 77 := by
  refine ⟨127, 127, q14_77, fun a b => (bif (decide ((IntKind.wrap .u64 (IntKind.wrap .u32 a)) ≤ (IntKind.wrap .u64 (IntKind.wrap .u32 b)))) then 1 else 0), fun a b => 0, ?_, ?_, ?_, ?_⟩
  · exact fun a b ha hb => q10_77 a b
  · exact fun _ a x b y h1 h2 => by simp only [h1, h2, and_self]
  · exact fun a b => .inr (bif_lt _)
  · exact fun a b => .inl rfl

theorem B_78 : B 78 := by
  refine ⟨127, 127, q14_78, fun a b => (bif (decide ((IntKind.wrap .i64 (IntKind.wrap .i32 (IntKind.wrap .u64 (IntKind.wrap .u32 a)))) ≥ (IntKind.wrap .i64 (IntKind.wrap .i32 (IntKind.wrap .u64 (IntKind.wrap .u32 b)))))) then 1 else 0), fun a b => 0, ?_, ?_, ?_, ?_⟩
  · exact fun a b ha hb => q10_78 a b
  · exact fun _ a x b y h1 h2 => by simp only [h1, h2, and_self]
  · exact fun a b => .inr (bif_lt _)
  · exact fun a b => .inl rfl

theorem B_79 : B 79 := by
  refine ⟨127, 127, q14_79, fun a b => (bif (decide ((IntKind.wrap .u64 (IntKind.wrap .u32 a)) ≥ (IntKind.wrap .u64 (IntKind.wrap .u32 b)))) then 1 else 0), fun a b => 0, ?_, ?_, ?_, ?_⟩
  · exact fun a b ha hb => q10_79 a b
  · exact fun _ a x b y h1 h2 => by simp only [h1, h2, and_self]
  · exact fun a b => .inr (bif_lt _)
  · exact fun a b => .inl rfl

theorem B_106 : B 106 := by
  refine ⟨127, 127, q14_106, fun a b => (IntKind.wrap .u64 (IntKind.wrap .u32 (arI .add .u64 (IntKind.wrap .u64 (IntKind.wrap .u32 a)) (IntKind.wrap .u64 (IntKind.wrap .u32 b))))), fun a b => 0, ?_, ?_, ?_, ?_⟩
  · exact fun a b ha hb => q10_106 a b
  · exact fun _ a x b y h1 h2 => by simp only [h1, h2, and_self]
  · exact fun a b => .inr (u32_lt _)
  · exact fun a b => .inl rfl

theorem B_107 : B 107 := by
  refine ⟨127, 127, q14_107, fun a b => (IntKind.wrap .u64 (IntKind.wrap .u32 (arI .sub .u64 (IntKind.wrap .u64 (IntKind.wrap .u32 a)) (IntKind.wrap .u64 (IntKind.wrap .u32 b))))), fun a b => 0, ?_, ?_, ?_, ?_⟩
  · exact fun a b ha hb => q10_107 a b
  · exact fun _ a x b y h1 h2 => by simp only [h1, h2, and_self]
  · exact fun a b => .inr (u32_lt _)
  · exact fun a b => .inl rfl

theorem B_108 : B 108 := by
  refine ⟨127, 127, q14_108, fun a b => (IntKind.wrap .u64 (IntKind.wrap .u32 (arI .mul .u64 (IntKind.wrap .u64 (IntKind.wrap .u32 a)) (IntKind.wrap .u64 (IntKind.wrap .u32 b))))), fun a b => 0, ?_, ?_, ?_, ?_⟩
  · exact fun a b ha hb => q10_108 a b
  · exact fun _ a x b y h1 h2 => by simp only [h1, h2, and_self]
  · exact fun a b => .inr (u32_lt _)
  · exact fun a b => .inl rfl

theorem B_109 : B 109 := by
  refine ⟨127, 127, q14_109, fun a b => (IntKind.wrap .u64 (IntKind.wrap .u32 (dq (IntKind.wrap .u64 (IntKind.wrap .u32 b)) (IntKind.wrap .i64 (IntKind.wrap .i32 (IntKind.wrap .u64 (IntKind.wrap .u32 a)))) (IntKind.wrap .i64 (IntKind.wrap .i32 (IntKind.wrap .u64 (IntKind.wrap .u32 b)))) (-2147483648)))), fun a b => (dt (IntKind.wrap .u64 (IntKind.wrap .u32 b)) (IntKind.wrap .i64 (IntKind.wrap .i32 (IntKind.wrap .u64 (IntKind.wrap .u32 a)))) (IntKind.wrap .i64 (IntKind.wrap .i32 (IntKind.wrap .u64 (IntKind.wrap .u32 b)))) (-2147483648)), ?_, ?_, ?_, ?_⟩
  · exact fun a b ha hb => q10_109 a b
  · exact fun _ a x b y h1 h2 => by simp only [h1, h2, and_self]
  · exact fun a b => .inr (u32_lt _)
  · exact fun a b => (dt_dq _ _ _ _).imp id w0

theorem B_110 : B 110 := by
  refine ⟨127, 127, q14_110, fun a b => (IntKind.wrap .u64 (IntKind.wrap .u32 (uq (IntKind.wrap .u64 (IntKind.wrap .u32 a)) (IntKind.wrap .u64 (IntKind.wrap .u32 b))))), fun a b => (dz (IntKind.wrap .u64 (IntKind.wrap .u32 b))), ?_, ?_, ?_, ?_⟩
  · exact fun a b ha hb => q10_110 a b
  · exact fun _ a x b y h1 h2 => by simp only [h1, h2, and_self]
  · exact fun a b => .inr (u32_lt _)
  · exact fun a b => (dz_0 _ _).imp id w0

theorem B_111 : B 111 := by
  refine ⟨127, 127, q14_111, fun a b => (IntKind.wrap .u64 (IntKind.wrap .u32 (dr (IntKind.wrap .u64 (IntKind.wrap .u32 b)) (IntKind.wrap .i64 (IntKind.wrap .i32 (IntKind.wrap .u64 (IntKind.wrap .u32 a)))) (IntKind.wrap .i64 (IntKind.wrap .i32 (IntKind.wrap .u64 (IntKind.wrap .u32 b))))))), fun a b => (dz (IntKind.wrap .u64 (IntKind.wrap .u32 b))), ?_, ?_, ?_, ?_⟩
  · exact fun a b ha hb => q10_111 a b
  · exact fun _ a x b y h1 h2 => by simp only [h1, h2, and_self]
  · exact fun a b => .inr (u32_lt _)
  · exact fun a b => (dz_0 _ _).imp id w0

theorem B_112 : B 112 := by
  refine ⟨127, 127, q14_112, fun a b => (IntKind.wrap .u64 (IntKind.wrap .u32 (ur (IntKind.wrap .u64 (IntKind.wrap .u32 a)) (IntKind.wrap .u64 (IntKind.wrap .u32 b))))), fun a b => (dz (IntKind.wrap .u64 (IntKind.wrap .u32 b))), ?_, ?_, ?_, ?_⟩
  · exact fun a b ha hb => q10_112 a b
  · exact fun _ a x b y h1 h2 => by simp only [h1, h2, and_self]
  · exact fun a b => .inr (u32_lt _)
  · exact fun a b => (dz_0 _ _).imp id w0

theorem B_113 : B 113 := by
  refine ⟨127, 127, q14_113, fun a b => (IntKind.wrap .u64 (IntKind.wrap .u32 (arI .and .u64 (IntKind.wrap .u64 (IntKind.wrap .u32 a)) (IntKind.wrap .u64 (IntKind.wrap .u32 b))))), fun a b => 0, ?_, ?_, ?_, ?_⟩
  · exact fun a b ha hb => q10_113 a b
  · exact fun _ a x b y h1 h2 => by simp only [h1, h2, and_self]
  · exact fun a b => .inr (u32_lt _)
  · exact fun a b => .inl rfl

theorem B_114 : B 114 := by
  refine ⟨127, 127, q14_114, fun a b => (IntKind.wrap .u64 (IntKind.wrap .u32 (arI .or .u64 (IntKind.wrap .u64 (IntKind.wrap .u32 a)) (IntKind.wrap .u64 (IntKind.wrap .u32 b))))), fun a b => 0, ?_, ?_, ?_, ?_⟩
  · exact fun a b ha hb => q10_114 a b
  · exact fun _ a x b y h1 h2 => by simp only [h1, h2, and_self]
  · exact fun a b => .inr (u32_lt _)
  · exact fun a b => .inl rfl

theorem B_115 : B 115 := by
  refine ⟨127, 127, q14_115, fun a b => (IntKind.wrap .u64 (IntKind.wrap .u32 (arI .xor .u64 (IntKind.wrap .u64 (IntKind.wrap .u32 a)) (IntKind.wrap .u64 (IntKind.wrap .u32 b))))), fun a b => 0, ?_, ?_, ?_, ?_⟩
  · exact fun a b ha hb => q10_115 a b
  · exact fun _ a x b y h1 h2 => by simp only [h1, h2, and_self]
  · exact fun a b => .inr (u32_lt _)
  · exact fun a b => .inl rfl

theorem B_116 : B 116 := by
  refine ⟨127, 127, q14_116, fun a b => (IntKind.wrap .u64 (IntKind.wrap .u32 (arI .shl .u64 (IntKind.wrap .u64 (IntKind.wrap .u32 a)) (arI .rem .u64 (IntKind.wrap .u64 (IntKind.wrap .u32 b)) (32 : Int))))), fun a b => 0, ?_, ?_, ?_, ?_⟩
  · exact fun a b ha hb => q10_116 a b
  · exact fun _ a x b y h1 h2 => by simp only [h1, h2, and_self]
  · exact fun a b => .inr (u32_lt _)
  · exact fun a b => .inl rfl

theorem B_117 : B 117 := by
  refine ⟨127, 127, q14_117, fun a b => (IntKind.wrap .u64 (IntKind.wrap .u32 (IntKind.wrap .u64 (arI .shr .i64 (IntKind.wrap .i64 (IntKind.wrap .i32 (IntKind.wrap .u64 (IntKind.wrap .u32 a)))) (arI .rem .u64 (IntKind.wrap .u64 (IntKind.wrap .u32 b)) (32 : Int)))))), fun a b => 0, ?_, ?_, ?_, ?_⟩
  · exact fun a b ha hb => q10_117 a b
  · exact fun _ a x b y h1 h2 => by simp only [h1, h2, and_self]
  · exact fun a b => .inr (u32_lt _)
  · exact fun a b => .inl rfl

theorem B_118 : B 118 := by
  refine ⟨127, 127, q14_118, fun a b => (IntKind.wrap .u64 (IntKind.wrap .u32 (arI .shr .u64 (IntKind.wrap .u64 (IntKind.wrap .u32 a)) (arI .rem .u64 (IntKind.wrap .u64 (IntKind.wrap .u32 b)) (32 : Int))))), fun a b => 0, ?_, ?_, ?_, ?_⟩
  · exact fun a b ha hb => q10_118 a b
  · exact fun _ a x b y h1 h2 => by simp only [h1, h2, and_self]
  · exact fun a b => .inr (u32_lt _)
  · exact fun a b => .inl rfl

theorem B_119 : B 119 := by
  refine ⟨127, 127, q14_119, fun a b => (IntKind.wrap .u64 (IntKind.wrap .u32 (arI .or .u64 (arI .shl .u64 (IntKind.wrap .u64 (IntKind.wrap .u32 a)) (arI .rem .u64 (IntKind.wrap .u64 (IntKind.wrap .u32 b)) (32 : Int))) (arI .shr .u64 (IntKind.wrap .u64 (IntKind.wrap .u32 a)) (arI .sub .u64 (32 : Int) (arI .rem .u64 (IntKind.wrap .u64 (IntKind.wrap .u32 b)) (32 : Int))))))), fun a b => 0, ?_, ?_, ?_, ?_⟩
  · exact fun a b ha hb => q10_119 a b
  · exact fun _ a x b y h1 h2 => by simp only [h1, h2, and_self]
  · exact fun a b => .inr (u32_lt _)
  · exact fun a b => .inl rfl

theorem B_120 : B 120 := by
  refine ⟨127, 127, q14_120, fun a b => (IntKind.wrap .u64 (IntKind.wrap .u32 (arI .or .u64 (arI .shr .u64 (IntKind.wrap .u64 (IntKind.wrap .u32 a)) (arI .rem .u64 (IntKind.wrap .u64 (IntKind.wrap .u32 b)) (32 : Int))) (arI .shl .u64 (IntKind.wrap .u64 (IntKind.wrap .u32 a)) (arI .sub .u64 (32 : Int) (arI .rem .u64 (IntKind.wrap .u64 (IntKind.wrap .u32 b)) (32 : Int))))))), fun a b => 0, ?_, ?_, ?_, ?_⟩
  · exact fun a b ha hb => q10_120 a b
  · exact fun _ a x b y h1 h2 => by simp only [h1, h2, and_self]
  · exact fun a b => .inr (u32_lt _)
  · exact fun a b => .inl rfl

theorem B_81 : B 81 := by
  refine ⟨126, 127, q14_81, fun a b => (bif (a == b) then 1 else 0), fun a b => 0, ?_, ?_, ?_, ?_⟩
  · exact fun a b ha hb => q10_81 a b
  · exact fun h => by omega
  · exact fun a b => .inr (bif_lt _)
  · exact fun a b => .inl rfl

theorem B_82 : B 82 := by
  refine ⟨126, 127, q14_82, fun a b => (bif (a != b) then 1 else 0), fun a b => 0, ?_, ?_, ?_, ?_⟩
  · exact fun a b ha hb => q10_82 a b
  · exact fun h => by omega
  · exact fun a b => .inr (bif_lt _)
  · exact fun a b => .inl rfl

theorem B_83 : B 83 := by
  refine ⟨126, 127, q14_83, fun a b => (bif (decide ((IntKind.wrap .i64 a) < (IntKind.wrap .i64 b))) then 1 else 0), fun a b => 0, ?_, ?_, ?_, ?_⟩
  · exact fun a b ha hb => q10_83 a b
  · exact fun h => by omega
  · exact fun a b => .inr (bif_lt _)
  · exact fun a b => .inl rfl

theorem B_84 : B 84 := by
  refine ⟨126, 127, q14_84, fun a b => (bif (decide (a < b)) then 1 else 0), fun a b => 0, ?_, ?_, ?_, ?_⟩
  · exact fun a b ha hb => q10_84 a b
  · exact fun h => by omega
  · exact fun a b => .inr (bif_lt _)
  · exact fun a b => .inl rfl

theorem B_85 : B 85 := by
  refine ⟨126, 127, q14_85, fun a b => (bif (decide ((IntKind.wrap .i64 a) > (IntKind.wrap .i64 b))) then 1 else 0), fun a b => 0, ?_, ?_, ?_, ?_⟩
  · exact fun a b ha hb => q10_85 a b
  · exact fun h => by omega
  · exact fun a b => .inr (bif_lt _)
  · exact fun a b => .inl rfl

theorem B_86 : B 86 := by
  refine ⟨126, 127, q14_86, fun a b => (bif (decide (a > b)) then 1 else 0), fun a b => 0, ?_, ?_, ?_, ?_⟩
  · exact fun a b ha hb => q10_86 a b
  · exact fun h => by omega
  · exact fun a b => .inr (bif_lt _)
  · exact fun a b => .inl rfl

theorem B_87 : B 87 := by
  refine ⟨126, 127, q14_87, fun a b => (bif (decide ((IntKind.wrap .i64 a) ≤ (IntKind.wrap .i64 b))) then 1 else 0), fun a b => 0, ?_, ?_, ?_, ?_⟩
  · exact fun a b ha hb => q10_87 a b
  · exact fun h => by omega
  · exact fun a b => .inr (bif_lt _)
  · exact fun a b => .inl rfl

theorem B_88 : B 88 := by
  refine ⟨126, 127, q14_88, fun a b => (bif (decide (a ≤ b)) then 1 else 0), fun a b => 0, ?_, ?_, ?_, ?_⟩
  · exact fun a b ha hb => q10_88 a b
  · exact fun h => by omega
  · exact fun a b => .inr (bif_lt _)
  · exact fun a b => .inl rfl

theorem B_89 : B 89 := by
  refine ⟨126, 127, q14_89, fun a b => (bif (decide ((IntKind.wrap .i64 a) ≥ (IntKind.wrap .i64 b))) then 1 else 0), fun a b => 0, ?_, ?_, ?_, ?_⟩
  · exact fun a b ha hb => q10_89 a b
  · exact fun h => by omega
  · exact fun a b => .inr (bif_lt _)
  · exact fun a b => .inl rfl

theorem B_90 : B 90 := by
  refine ⟨126, 127, q14_90, fun a b => (bif (decide (a ≥ b)) then 1 else 0), fun a b => 0, ?_, ?_, ?_, ?_⟩
  · exact fun a b ha hb => q10_90 a b
  · exact fun h => by omega
  · exact fun a b => .inr (bif_lt _)
  · exact fun a b => .inl rfl

theorem B_124 : B 124 := by
  refine ⟨126, 126, q14_124, fun a b => (arI .add .u64 a b), fun a b => 0, ?_, ?_, ?_, ?_⟩
  · exact fun a b ha hb => q10_124 a b
  · exact fun h => by omega
  · exact fun a b => .inl rfl
  · exact fun a b => .inl rfl

theorem B_125 : B 125 := by
  refine ⟨126, 126, q14_125, fun a b => (arI .sub .u64 a b), fun a b => 0, ?_, ?_, ?_, ?_⟩
  · exact fun a b ha hb => q10_125 a b
  · exact fun h => by omega
  · exact fun a b => .inl rfl
  · exact fun a b => .inl rfl

theorem B_126 : B 126 := by
  refine ⟨126, 126, q14_126, fun a b => (arI .mul .u64 a b), fun a b => 0, ?_, ?_, ?_, ?_⟩
  · exact fun a b ha hb => q10_126 a b
  · exact fun h => by omega
  · exact fun a b => .inl rfl
  · exact fun a b => .inl rfl

theorem B_127 : B 127 := by
  refine ⟨126, 126, q14_127, fun a b => (dq b (IntKind.wrap .i64 a) (IntKind.wrap .i64 b) (-9223372036854775808)), fun a b => (dt b (IntKind.wrap .i64 a) (IntKind.wrap .i64 b) (-9223372036854775808)), ?_, ?_, ?_, ?_⟩
  · exact fun a b ha hb => q10_127 a b hb.1 hb.2
  · exact fun h => by omega
  · exact fun a b => .inl rfl
  · exact fun a b => dt_dq _ _ _ _

theorem B_128 : B 128 := by
  refine ⟨126, 126, q14_128, fun a b => (uq a b), fun a b => (dz b), ?_, ?_, ?_, ?_⟩
  · exact fun a b ha hb => q10_128 a b hb.1 hb.2
  · exact fun h => by omega
  · exact fun a b => .inl rfl
  · exact fun a b => dz_0 _ _

theorem B_129 : B 129 := by
  refine ⟨126, 126, q14_129, fun a b => (dr b (IntKind.wrap .i64 a) (IntKind.wrap .i64 b)), fun a b => (dz b), ?_, ?_, ?_, ?_⟩
  · exact fun a b ha hb => q10_129 a b hb.1 hb.2
  · exact fun h => by omega
  · exact fun a b => .inl rfl
  · exact fun a b => dz_0 _ _

theorem B_130 : B 130 := by
  refine ⟨126, 126, q14_130, fun a b => (ur a b), fun a b => (dz b), ?_, ?_, ?_, ?_⟩
  · exact fun a b ha hb => q10_130 a b hb.1 hb.2
  · exact fun h => by omega
  · exact fun a b => .inl rfl
  · exact fun a b => dz_0 _ _

theorem B_131 : B 131 := by
  refine ⟨126, 126, q14_131, fun a b => (arI .and .u64 a b), fun a b => 0, ?_, ?_, ?_, ?_⟩
  · exact fun a b ha hb => q10_131 a b
  · exact fun h => by omega
  · exact fun a b => .inl rfl
  · exact fun a b => .inl rfl

theorem B_132 : B 132 := by
  refine ⟨126, 126, q14_132, fun a b => (arI .or .u64 a b), fun a b => 0, ?_, ?_, ?_, ?_⟩
  · exact fun a b ha hb => q10_132 a b
  · exact fun h => by omega
  · exact fun a b => .inl rfl
  · exact fun a b => .inl rfl

theorem B_133 : B 133 := by
  refine ⟨126, 126, q14_133, fun a b => (arI .xor .u64 a b), fun a b => 0, ?_, ?_, ?_, ?_⟩
  · exact fun a b ha hb => q10_133 a b
  · exact fun h => by omega
  · exact fun a b => .inl rfl
  · exact fun a b => .inl rfl

theorem B_134 : B 134 := by
  refine ⟨126, 126, q14_134, fun a b => (arI .shl .u64 a (arI .rem .u64 b (64 : Int))), fun a b => 0, ?_, ?_, ?_, ?_⟩
  · exact fun a b ha hb => q10_134 a b hb.1
  · exact fun h => by omega
  · exact fun a b => .inl rfl
  · exact fun a b => .inl rfl

theorem B_135 : B 135 := by
  refine ⟨126, 126, q14_135, fun a b => (IntKind.wrap .u64 (arI .shr .i64 (IntKind.wrap .i64 a) (arI .rem .u64 b (64 : Int)))), fun a b => 0, ?_, ?_, ?_, ?_⟩
  · exact fun a b ha hb => q10_135 a b hb.1
  · exact fun h => by omega
  · exact fun a b => .inl rfl
  · exact fun a b => .inl rfl

theorem B_136 : B 136 := by
  refine ⟨126, 126, q14_136, fun a b => (arI .shr .u64 a (arI .rem .u64 b (64 : Int))), fun a b => 0, ?_, ?_, ?_, ?_⟩
  · exact fun a b ha hb => q10_136 a b hb.1
  · exact fun h => by omega
  · exact fun a b => .inl rfl
  · exact fun a b => .inl rfl

theorem B_137 : B 137 := by
  refine ⟨126, 126, q14_137, fun a b => (arI .or .u64 (arI .shl .u64 a (arI .rem .u64 b (64 : Int))) (arI .shr .u64 a (arI .sub .u64 (64 : Int) (arI .rem .u64 b (64 : Int))))), fun a b => 0, ?_, ?_, ?_, ?_⟩
  · exact fun a b ha hb => q10_137 a b hb.1
  · exact fun h => by omega
  · exact fun a b => .inl rfl
  · exact fun a b => .inl rfl

theorem B_138 : B 138 := by
  refine ⟨126, 126, q14_138, fun a b => (arI .or .u64 (arI .shr .u64 a (arI .rem .u64 b (64 : Int))) (arI .shl .u64 a (arI .sub .u64 (64 : Int) (arI .rem .u64 b (64 : Int))))), fun a b => 0, ?_, ?_, ?_, ?_⟩
  · exact fun a b ha hb => q10_138 a b hb.1
  · exact fun h => by omega
  · exact fun a b => .inl rfl
  · exact fun a b => .inl rfl

theorem cases (op : Int) : F13 [op] [] = some ([0, 0, 0, 0], [false]) ∨ U op ∨ B op := by

  by_cases h69 : 69 ≤ op ∧ op ≤ 90

  · by_cases e69 : op = 69
    · subst e69; exact .inr (.inl U_69)

    by_cases e70 : op = 70
    · subst e70; exact .inr (.inr B_70)

    by_cases e71 : op = 71
    · subst e71; exact .inr (.inr B_71)

    by_cases e72 : op = 72
    · subst e72; exact .inr (.inr B_72)

    by_cases e73 : op = 73
    · subst e73; exact .inr (.inr B_73)

    by_cases e74 : op = 74
    · subst e74; exact .inr (.inr B_74)

    by_cases e75 : op = 75
    · subst e75; exact .inr (.inr B_75)

    by_cases e76 : op = 76
    · subst e76; exact .inr (.inr B_76)

    by_cases e77 : op = 77
    · subst e77; exact .inr (.inr B_77)

    by_cases e78 : op = 78
    · subst e78; exact .inr (.inr B_78)

    by_cases e79 : op = 79
    · subst e79; exact .inr (.inr B_79)

    by_cases e80 : op = 80
    · subst e80; exact .inr (.inl U_80)

    by_cases e81 : op = 81
    · subst e81; exact .inr (.inr B_81)

    by_cases e82 : op = 82
    · subst e82; exact .inr (.inr B_82)

    by_cases e83 : op = 83
    · subst e83; exact .inr (.inr B_83)

    by_cases e84 : op = 84
    · subst e84; exact .inr (.inr B_84)

    by_cases e85 : op = 85
    · subst e85; exact .inr (.inr B_85)

    by_cases e86 : op = 86
    · subst e86; exact .inr (.inr B_86)

    by_cases e87 : op = 87
    · subst e87; exact .inr (.inr B_87)

    by_cases e88 : op = 88
    · subst e88; exact .inr (.inr B_88)

    by_cases e89 : op = 89
    · subst e89; exact .inr (.inr B_89)

    have e90 : op = 90 := by omega
    subst e90; exact .inr (.inr B_90)

  by_cases h103 : 103 ≤ op ∧ op ≤ 138

  · by_cases e103 : op = 103
    · subst e103; exact .inr (.inl U_103)

    by_cases e104 : op = 104
    · subst e104; exact .inr (.inl U_104)

    by_cases e105 : op = 105
    · subst e105; exact .inr (.inl U_105)

    by_cases e106 : op = 106
    · subst e106; exact .inr (.inr B_106)

    by_cases e107 : op = 107
    · subst e107; exact .inr (.inr B_107)

    by_cases e108 : op = 108
    · subst e108; exact .inr (.inr B_108)

    by_cases e109 : op = 109
    · subst e109; exact .inr (.inr B_109)

    by_cases e110 : op = 110
    · subst e110; exact .inr (.inr B_110)

    by_cases e111 : op = 111
    · subst e111; exact .inr (.inr B_111)

    by_cases e112 : op = 112
    · subst e112; exact .inr (.inr B_112)

    by_cases e113 : op = 113
    · subst e113; exact .inr (.inr B_113)

    by_cases e114 : op = 114
    · subst e114; exact .inr (.inr B_114)

    by_cases e115 : op = 115
    · subst e115; exact .inr (.inr B_115)

    by_cases e116 : op = 116
    · subst e116; exact .inr (.inr B_116)

    by_cases e117 : op = 117
    · subst e117; exact .inr (.inr B_117)

    by_cases e118 : op = 118
    · subst e118; exact .inr (.inr B_118)

    by_cases e119 : op = 119
    · subst e119; exact .inr (.inr B_119)

    by_cases e120 : op = 120
    · subst e120; exact .inr (.inr B_120)

    by_cases e121 : op = 121
    · subst e121; exact .inr (.inl U_121)

    by_cases e122 : op = 122
    · subst e122; exact .inr (.inl U_122)

    by_cases e123 : op = 123
    · subst e123; exact .inr (.inl U_123)

    by_cases e124 : op = 124
    · subst e124; exact .inr (.inr B_124)

    by_cases e125 : op = 125
    · subst e125; exact .inr (.inr B_125)

    by_cases e126 : op = 126
    · subst e126; exact .inr (.inr B_126)

    by_cases e127 : op = 127
    · subst e127; exact .inr (.inr B_127)

    by_cases e128 : op = 128
    · subst e128; exact .inr (.inr B_128)

    by_cases e129 : op = 129
    · subst e129; exact .inr (.inr B_129)

    by_cases e130 : op = 130
    · subst e130; exact .inr (.inr B_130)

    by_cases e131 : op = 131
    · subst e131; exact .inr (.inr B_131)

    by_cases e132 : op = 132
    · subst e132; exact .inr (.inr B_132)

    by_cases e133 : op = 133
    · subst e133; exact .inr (.inr B_133)

    by_cases e134 : op = 134
    · subst e134; exact .inr (.inr B_134)

    by_cases e135 : op = 135
    · subst e135; exact .inr (.inr B_135)

    by_cases e136 : op = 136
    · subst e136; exact .inr (.inr B_136)

    by_cases e137 : op = 137
    · subst e137; exact .inr (.inr B_137)

    have e138 : op = 138 := by omega
    subst e138; exact .inr (.inr B_138)

  by_cases h167 : 167 ≤ op ∧ op ≤ 167

  · have e167 : op = 167 := by omega
    subst e167; exact .inr (.inl U_167)

  by_cases h172 : 172 ≤ op ∧ op ≤ 173

  · by_cases e172 : op = 172
    · subst e172; exact .inr (.inl U_172)

    have e173 : op = 173 := by omega
    subst e173; exact .inr (.inl U_173)

  by_cases h192 : 192 ≤ op ∧ op ≤ 196

  · by_cases e192 : op = 192
    · subst e192; exact .inr (.inl U_192)

    by_cases e193 : op = 193
    · subst e193; exact .inr (.inl U_193)

    by_cases e194 : op = 194
    · subst e194; exact .inr (.inl U_194)

    by_cases e195 : op = 195
    · subst e195; exact .inr (.inl U_195)

    have e196 : op = 196 := by omega
    subst e196; exact .inr (.inl U_196)

  exact .inl (q14_out op (by omega))

theorem e3_10 : Tab.fn a3 10 = F10 := Tab.fn_hd
theorem e3_11 : Tab.fn a3 11 = F11 := ((Tab.fn_tl rfl).trans Tab.fn_hd)
theorem e3_12 : Tab.fn a3 12 = F12 := ((Tab.fn_tl rfl).trans ((Tab.fn_tl rfl).trans Tab.fn_hd))
theorem e3_13 : Tab.fn a3 13 = F13 := ((Tab.fn_tl rfl).trans ((Tab.fn_tl rfl).trans ((Tab.fn_tl rfl).trans Tab.fn_hd)))
theorem e3_14 : Tab.fn a3 14 = F14 := ((Tab.fn_tl rfl).trans ((Tab.fn_tl rfl).trans ((Tab.fn_tl rfl).trans ((Tab.fn_tl rfl).trans Tab.fn_hd))))
theorem e3_15 : Tab.fn a3 15 = F15 := ((Tab.fn_tl rfl).trans ((Tab.fn_tl rfl).trans ((Tab.fn_tl rfl).trans ((Tab.fn_tl rfl).trans ((Tab.fn_tl rfl).trans Tab.fn_hd)))))
theorem e3_16 : Tab.fn a3 16 = F16 := ((Tab.fn_tl rfl).trans ((Tab.fn_tl rfl).trans ((Tab.fn_tl rfl).trans ((Tab.fn_tl rfl).trans ((Tab.fn_tl rfl).trans ((Tab.fn_tl rfl).trans Tab.fn_hd))))))
theorem e3_17 : Tab.fn a3 17 = F17 := ((Tab.fn_tl rfl).trans ((Tab.fn_tl rfl).trans ((Tab.fn_tl rfl).trans ((Tab.fn_tl rfl).trans ((Tab.fn_tl rfl).trans ((Tab.fn_tl rfl).trans ((Tab.fn_tl rfl).trans Tab.fn_hd)))))))


theorem q14 (t n : Int) : F14 [t, n] [] = some ([], [(t != 127) || (decide (n < 4294967296))]) := rfl
theorem len_ne {i : Int} {n m : Int} (h : i = n) (hc : (i == m) = true) (hn : n ≠ m) : False := by rw [beq_iff_eq] at hc; omega
theorem len_no {i : Int} {n m : Int} (h : i = n) (hc : (i == m) = false) (hn : n = m) : False := by rw [beq_eq_false_iff_ne] at hc; omega
theorem bif_ne {b : Bool} (h : (bif b then (1 : Int) else 0) ≠ 0) : b = true := by cases b with
  | true => rfl
  | false => exact absurd rfl h
theorem w32n {n : Nat} (h : n < 2 ^ 32) : IntKind.wrap .u64 (IntKind.wrap .u32 (n : Int)) = (n : Int) := by rw [wrap_u32, wrap_u64]; omega
def Cmp (op t : Int) (C : Nat → Nat → Prop) : Prop := ∀ n m : Nat, n < 2 ^ 64 → m < 2 ^ 64 → ∃ v, F16 [op, (n : Int), (m : Int)] [] = some ([v, 0], [true]) ∧ (Fit t n → Fit t m → v ≠ 0 → C n m)

theorem h31_70 : F31 [70] [] = some ([0, 127], [true]) := by kernel_rfl

theorem cmp_70 : Cmp 70 127 (fun n m => n = m) := fun n m hn hm => ⟨_, q10_70 n m, fun fn fm hv => by
  show n = m
  have h := bif_ne hv; rw [w32n (fn rfl), w32n (fm rfl)] at h; rw [beq_iff_eq] at h; omega⟩

theorem h31_71 : F31 [71] [] = some ([1, 127], [true]) := by kernel_rfl

theorem cmp_71 : Cmp 71 127 (fun n m => n ≠ m) := fun n m hn hm => ⟨_, q10_71 n m, fun fn fm hv => by
  show n ≠ m
  have h := bif_ne hv; rw [w32n (fn rfl), w32n (fm rfl)] at h; rw [bne_iff_ne] at h; omega⟩

theorem h31_72 : F31 [72] [] = some ([2, 127], [true]) := by kernel_rfl

theorem cmp_72 : Cmp 72 127 (fun n m => True) := fun n m hn hm => ⟨_, q10_72 n m, fun _ _ _ => trivial⟩

theorem h31_73 : F31 [73] [] = some ([3, 127], [true]) := by kernel_rfl

theorem cmp_73 : Cmp 73 127 (fun n m => n < m) := fun n m hn hm => ⟨_, q10_73 n m, fun fn fm hv => by
  show n < m
  have h := bif_ne hv; rw [w32n (fn rfl), w32n (fm rfl)] at h; rw [decide_eq_true_eq] at h; omega⟩

theorem h31_74 : F31 [74] [] = some ([4, 127], [true]) := by kernel_rfl

theorem cmp_74 : Cmp 74 127 (fun n m => True) := fun n m hn hm => ⟨_, q10_74 n m, fun _ _ _ => trivial⟩

theorem h31_75 : F31 [75] [] = some ([5, 127], [true]) := by kernel_rfl

theorem cmp_75 : Cmp 75 127 (fun n m => n > m) := fun n m hn hm => ⟨_, q10_75 n m, fun fn fm hv => by
  show n > m
  have h := bif_ne hv; rw [w32n (fn rfl), w32n (fm rfl)] at h; rw [decide_eq_true_eq] at h; omega⟩

theorem h31_76 : F31 [76] [] = some ([6, 127], [true]) := by kernel_rfl

theorem cmp_76 : Cmp 76 127 (fun n m => True) := fun n m hn hm => ⟨_, q10_76 n m, fun _ _ _ => trivial⟩

theorem h31_77 : F31 [77] [] = some ([7, 127], [true]) := by kernel_rfl

theorem cmp_77 : Cmp 77 127 (fun n m => n ≤ m) := fun n m hn hm => ⟨_, q10_77 n m, fun fn fm hv => by
  show n ≤ m
  have h := bif_ne hv; rw [w32n (fn rfl), w32n (fm rfl)] at h; rw [decide_eq_true_eq] at h; omega⟩

theorem h31_78 : F31 [78] [] = some ([8, 127], [true]) := by kernel_rfl

theorem cmp_78 : Cmp 78 127 (fun n m => True) := fun n m hn hm => ⟨_, q10_78 n m, fun _ _ _ => trivial⟩

theorem h31_79 : F31 [79] [] = some ([9, 127], [true]) := by kernel_rfl

theorem cmp_79 : Cmp 79 127 (fun n m => n ≥ m) := fun n m hn hm => ⟨_, q10_79 n m, fun fn fm hv => by
  show n ≥ m
  have h := bif_ne hv; rw [w32n (fn rfl), w32n (fm rfl)] at h; rw [decide_eq_true_eq] at h; omega⟩

theorem h31_81 : F31 [81] [] = some ([0, 126], [true]) := by kernel_rfl

theorem cmp_81 : Cmp 81 126 (fun n m => n = m) := fun n m hn hm => ⟨_, q10_81 n m, fun fn fm hv => by
  show n = m
  have h := bif_ne hv; rw [beq_iff_eq] at h; omega⟩

theorem h31_82 : F31 [82] [] = some ([1, 126], [true]) := by kernel_rfl

theorem cmp_82 : Cmp 82 126 (fun n m => n ≠ m) := fun n m hn hm => ⟨_, q10_82 n m, fun fn fm hv => by
  show n ≠ m
  have h := bif_ne hv; rw [bne_iff_ne] at h; omega⟩

theorem h31_83 : F31 [83] [] = some ([2, 126], [true]) := by kernel_rfl

theorem cmp_83 : Cmp 83 126 (fun n m => True) := fun n m hn hm => ⟨_, q10_83 n m, fun _ _ _ => trivial⟩

theorem h31_84 : F31 [84] [] = some ([3, 126], [true]) := by kernel_rfl

theorem cmp_84 : Cmp 84 126 (fun n m => n < m) := fun n m hn hm => ⟨_, q10_84 n m, fun fn fm hv => by
  show n < m
  have h := bif_ne hv; rw [decide_eq_true_eq] at h; omega⟩

theorem h31_85 : F31 [85] [] = some ([4, 126], [true]) := by kernel_rfl

theorem cmp_85 : Cmp 85 126 (fun n m => True) := fun n m hn hm => ⟨_, q10_85 n m, fun _ _ _ => trivial⟩

theorem h31_86 : F31 [86] [] = some ([5, 126], [true]) := by kernel_rfl

theorem cmp_86 : Cmp 86 126 (fun n m => n > m) := fun n m hn hm => ⟨_, q10_86 n m, fun fn fm hv => by
  show n > m
  have h := bif_ne hv; rw [decide_eq_true_eq] at h; omega⟩

theorem h31_87 : F31 [87] [] = some ([6, 126], [true]) := by kernel_rfl

theorem cmp_87 : Cmp 87 126 (fun n m => True) := fun n m hn hm => ⟨_, q10_87 n m, fun _ _ _ => trivial⟩

theorem h31_88 : F31 [88] [] = some ([7, 126], [true]) := by kernel_rfl

theorem cmp_88 : Cmp 88 126 (fun n m => n ≤ m) := fun n m hn hm => ⟨_, q10_88 n m, fun fn fm hv => by
  show n ≤ m
  have h := bif_ne hv; rw [decide_eq_true_eq] at h; omega⟩

theorem h31_89 : F31 [89] [] = some ([8, 126], [true]) := by kernel_rfl

theorem cmp_89 : Cmp 89 126 (fun n m => True) := fun n m hn hm => ⟨_, q10_89 n m, fun _ _ _ => trivial⟩

theorem h31_90 : F31 [90] [] = some ([9, 126], [true]) := by kernel_rfl

theorem cmp_90 : Cmp 90 126 (fun n m => n ≥ m) := fun n m hn hm => ⟨_, q10_90 n m, fun fn fm hv => by
  show n ≥ m
  have h := bif_ne hv; rw [decide_eq_true_eq] at h; omega⟩

set_option maxHeartbeats 4000000 in
theorem q17 (N r M q : Int) : F17 [N, r, M, q] [] = some ([], [decide (N ≥ M) && hL M q r]) := by
  refine Eq.trans (Fd_of (n := 4) (m := 0) (t := XTransLimit.t17) (C := Tab.fn a17) rfl rfl) ?_
  rw [XTransLimit.t17]
  refine st_0_1 (e17_37) (g := (decide (N ≥ M))) rfl (l := [M, q, r]) rfl (m := []) rfl (cl_b (q37 M q r)) fun b0 hb0 => ?_
  show T.den _ _ [N, r, M, q] [b0] = _
  refine st_ret ?_
  show some ([], [((decide (N ≥ M)) && b0)]) = _
  exact rb (by rw [hb0, ← Bool.and_assoc, Bool.and_self])

theorem rt_rA {lo hi N r : Nat} (h : Rt lo hi N r) : rA lo hi N r = true := by
  unfold rA; rw [rL_nat N r h.2.2.1 h.r64, decide_eq_true h.2.2.2, decide_eq_true (by have := h.1; omega)]; rfl
theorem rti_rA {i j k l : Int} (h : RtI i j k l) : rA i j k l = true := by
  obtain ⟨a, b, c, d, rfl, rfl, rfl, rfl, h⟩ := h; exact rt_rA h
theorem l3 {u b4 b5 b6 b7 b8 b9 rx ry : Bool} {x0 x1 x2 x3 y0 y1 y2 y3 : Int} (h4 : b4 = (!(((x0 == 0) && (x1 == 0)) && ((x2 == 0) && (x3 == 0))))) (h5 : b5 = (!(((y0 == 0) && (y1 == 0)) && ((y2 == 0) && (y3 == 0)))))
    (h6 : b6 = (((!((!u) && (b4 || b5))) && u) && rx)) (h7 : b7 = ((((!((!u) && (b4 || b5))) && u) && b6) && ry)) (h8 : b8 = (u && ((!b6) || (!b7)))) (h9 : b9 = (((!u) && (b4 || b5)) || b8))
    (hz : u = false → (x0 = 0 ∧ x1 = 0 ∧ x2 = 0 ∧ x3 = 0) ∧ (y0 = 0 ∧ y1 = 0 ∧ y2 = 0 ∧ y3 = 0)) (hr : u = true → rx = true ∧ ry = true) : b9 = false := by
  cases u
  · obtain ⟨⟨rfl, rfl, rfl, rfl⟩, rfl, rfl, rfl, rfl⟩ := hz rfl
    subst h4 h5 h8 h9; rfl
  · obtain ⟨rfl, rfl⟩ := hr rfl
    subst h6 h7 h8 h9; rfl
theorem l7 {b12 b13 b14 b15 b16 p1 p2 p3 p4 : Bool} (h12 : b12 = p1) (h13 : b13 = (b12 && p2)) (h14 : b14 = ((!((!b12) || (!b13))) && p3)) (h15 : b15 = (((!b12) || (!b13)) || (!b14))) (h16 : b16 = ((!b15) && p4)) (c : (b15 || (!b16)) = false) : p1 = true ∧ p2 = true ∧ p3 = true ∧ p4 = true := by
  subst h12 h13 h14 h15 h16; revert c; cases b12 <;> cases p2 <;> cases p3 <;> cases p4 <;> simp
theorem l8 {v : Int} {u b18 b19 b20 b21 b22 hx hy ha wx : Bool} (h18 : b18 = (((!(v == 0)) && u) && hx)) (h19 : b19 = (((!(v == 0)) && (u && b18)) && hy)) (h20 : b20 = (((!(v == 0)) && ((u && b18) && b19)) && ha)) (h21 : b21 = ((((!(v == 0)) && ((u && b18) && b19)) && b20) && wx))
    (h22 : b22 = (((u && b18) && b19) && ((!b20) || b21))) (h : v ≠ 0 → u = true ∧ hx = true ∧ hy = true ∧ wx = true) : ((v == 0) || b22) = true := by
  by_cases hv : v = 0
  · rw [beq_iff_eq.2 hv]; rfl
  · obtain ⟨rfl, rfl, rfl, rfl⟩ := h hv
    have e : (v == 0) = false := by simpa using hv
    rw [e] at h18 h19 h20 h21
    clear h20
    subst h18 h19 h21 h22; rw [e]; cases b20 <;> rfl
theorem fit_of {t : Int} {n : Nat} (h : ((t != 127) || (decide ((n : Int) < 4294967296))) = true) : Fit t n := fun e => by subst e; simp at h; omega
theorem in_hA {N r : Nat} {i j k l : Int} {n : Nat} (h : In N r i j k l n) (hn : n < 2 ^ 64) : hA i j k l n = true := by
  obtain ⟨a, b, c, d, rfl, rfl, rfl, rfl, h1, _, _, h4⟩ := h
  rw [hA_hAN h4.2.2.1 h4.r64 hn]; exact h1
theorem in_wx {N r : Nat} {i j k l : Int} {n : Nat} (h : In N r i j k l n) (hN : N ≤ 64) (hr : r < 2 ^ 64) : (decide (k ≥ (N : Int)) && hL N r l) = true := by
  obtain ⟨a, b, c, d, rfl, rfl, rfl, rfl, _, h2, h3, h4⟩ := h
  rw [hL_nat N r d hN hr h4.r64, h3, decide_eq_true (by omega)]; rfl

set_option maxHeartbeats 4000000 in
theorem law_c (op : Int) (lo hi N r lo2 hi2 M q n m : Nat) (h : Rt lo hi N r) (h2 : Rt lo2 hi2 M q) (hn : n < 2 ^ 64) (hm : m < 2 ^ 64) (t o : Int) (C : Nat → Nat → Prop) (hop : 70 ≤ op ∧ op ≤ 90) (hT : F13 [op] [] = some ([2, t, t, o], [true])) (hc : Cmp op t C) (hL : Lim op t lo hi N r lo2 hi2 M q C) : F3 [op, (lo : Int), (hi : Int), (N : Int), (r : Int), (lo2 : Int), (hi2 : Int), (M : Int), (q : Int), (n : Int), (m : Int)] [] = some ([], [true]) := by
  obtain ⟨x0, x1, x2, x3, y0, y1, y2, y3, u, hF, hz, hr', hm_⟩ := hL
  have hr := fun hu => (⟨rti_rA (hr' hu).1, rti_rA (hr' hu).2⟩ : rA x0 x1 x2 x3 = true ∧ rA y0 y1 y2 y3 = true)
  obtain ⟨v, hV, hC⟩ := hc n m hn hm
  refine Eq.trans (Fd_of (n := 11) (m := 0) (t := XTransLimit.t3) (C := Tab.fn a3) rfl rfl) ?_
  rw [XTransLimit.t3]
  refine st_0_1 (e3_10) (g := true) rfl (l := []) rfl (m := []) rfl (cl_t q10) fun b0 hb0 => ?_
  show T.den _ _ [op, (lo : Int), (hi : Int), (N : Int), (r : Int), (lo2 : Int), (hi2 : Int), (M : Int), (q : Int), (n : Int), (m : Int)] [b0] = _
  refine st_ite (fun hc => ?_) (fun hc => ?_)
  · replace hc : (!b0) = true := hc
    have c1 := hc
    clear hc
    rw [hb0] at c1; cases c1
  · replace hc : (!b0) = false := hc
    have c2 := hc
    clear hc
    refine st_0_1 (e3_11) (g := true) rfl (l := [(lo : Int), (hi : Int), (N : Int), (r : Int)]) rfl (m := []) rfl (cl_t (q11 (lo : Int) (hi : Int) (N : Int) (r : Int))) fun b1 hb1 => ?_
    show T.den _ _ [op, (lo : Int), (hi : Int), (N : Int), (r : Int), (lo2 : Int), (hi2 : Int), (M : Int), (q : Int), (n : Int), (m : Int)] [b0, b1] = _
    refine st_0_1 (e3_11) (g := b1) rfl (l := [(lo2 : Int), (hi2 : Int), (M : Int), (q : Int)]) rfl (m := []) rfl (cl_b (q11 (lo2 : Int) (hi2 : Int) (M : Int) (q : Int))) fun b2 hb2 => ?_
    show T.den _ _ [op, (lo : Int), (hi : Int), (N : Int), (r : Int), (lo2 : Int), (hi2 : Int), (M : Int), (q : Int), (n : Int), (m : Int)] [b0, b1, b2] = _
    refine st_ite (fun hc => ?_) (fun hc => ?_)
    · replace hc : ((!b1) || (!b2)) = true := hc
      have c3 := hc
      clear hc
      rw [hb2, hb1, rt_rA h, rt_rA h2] at c3; cases c3
    · replace hc : ((!b1) || (!b2)) = false := hc
      have c4 := hc
      clear hc
      refine st_8_1 (e3_12) (g := true) rfl (l := [op, (lo : Int), (hi : Int), (N : Int), (r : Int), (lo2 : Int), (hi2 : Int), (M : Int), (q : Int)]) rfl (m := []) rfl (cl_t hF) fun i11 i12 i13 i14 i15 i16 i17 i18 b3 hi11 hi12 hi13 hi14 hi15 hi16 hi17 hi18 hb3 => ?_
      show T.den _ _ [op, (lo : Int), (hi : Int), (N : Int), (r : Int), (lo2 : Int), (hi2 : Int), (M : Int), (q : Int), (n : Int), (m : Int), i11, i12, i13, i14, i15, i16, i17, i18] [b0, b1, b2, b3] = _
      refine st_lb fun b4 hb4 => ?_
      replace hb4 : b4 = (!(((i11 == 0) && (i12 == 0)) && ((i13 == 0) && (i14 == 0)))) := hb4
      show T.den _ _ [op, (lo : Int), (hi : Int), (N : Int), (r : Int), (lo2 : Int), (hi2 : Int), (M : Int), (q : Int), (n : Int), (m : Int), i11, i12, i13, i14, i15, i16, i17, i18] [b0, b1, b2, b3, b4] = _
      refine st_lb fun b5 hb5 => ?_
      replace hb5 : b5 = (!(((i15 == 0) && (i16 == 0)) && ((i17 == 0) && (i18 == 0)))) := hb5
      show T.den _ _ [op, (lo : Int), (hi : Int), (N : Int), (r : Int), (lo2 : Int), (hi2 : Int), (M : Int), (q : Int), (n : Int), (m : Int), i11, i12, i13, i14, i15, i16, i17, i18] [b0, b1, b2, b3, b4, b5] = _
      refine st_0_1 (e3_11) (g := ((!((!b3) && (b4 || b5))) && b3)) rfl (l := [i11, i12, i13, i14]) rfl (m := []) rfl (cl_b (q11 i11 i12 i13 i14)) fun b6 hb6 => ?_
      show T.den _ _ [op, (lo : Int), (hi : Int), (N : Int), (r : Int), (lo2 : Int), (hi2 : Int), (M : Int), (q : Int), (n : Int), (m : Int), i11, i12, i13, i14, i15, i16, i17, i18] [b0, b1, b2, b3, b4, b5, b6] = _
      refine st_0_1 (e3_11) (g := (((!((!b3) && (b4 || b5))) && b3) && b6)) rfl (l := [i15, i16, i17, i18]) rfl (m := []) rfl (cl_b (q11 i15 i16 i17 i18)) fun b7 hb7 => ?_
      show T.den _ _ [op, (lo : Int), (hi : Int), (N : Int), (r : Int), (lo2 : Int), (hi2 : Int), (M : Int), (q : Int), (n : Int), (m : Int), i11, i12, i13, i14, i15, i16, i17, i18] [b0, b1, b2, b3, b4, b5, b6, b7] = _
      refine st_lb fun b8 hb8 => ?_
      replace hb8 : b8 = (b3 && ((!b6) || (!b7))) := hb8
      show T.den _ _ [op, (lo : Int), (hi : Int), (N : Int), (r : Int), (lo2 : Int), (hi2 : Int), (M : Int), (q : Int), (n : Int), (m : Int), i11, i12, i13, i14, i15, i16, i17, i18] [b0, b1, b2, b3, b4, b5, b6, b7, b8] = _
      refine st_lb fun b9 hb9 => ?_
      replace hb9 : b9 = (((!b3) && (b4 || b5)) || b8) := hb9
      show T.den _ _ [op, (lo : Int), (hi : Int), (N : Int), (r : Int), (lo2 : Int), (hi2 : Int), (M : Int), (q : Int), (n : Int), (m : Int), i11, i12, i13, i14, i15, i16, i17, i18] [b0, b1, b2, b3, b4, b5, b6, b7, b8, b9] = _
      refine st_ite (fun hc => ?_) (fun hc => ?_)
      · replace hc : b9 = true := hc
        have c5 := hc
        clear hc
        exact absurd (l3 hb4 hb5 hb6 hb7 hb8 hb9 (by rw [hb3, hi11, hi12, hi13, hi14, hi15, hi16, hi17, hi18]; exact hz) (by rw [hb3, hi11, hi12, hi13, hi14, hi15, hi16, hi17, hi18]; exact hr)) (by rw [c5]; decide)
      · replace hc : b9 = false := hc
        have c6 := hc
        clear hc
        refine st_4_1 (e3_13) (g := true) rfl (l := [op]) rfl (m := []) rfl (cl_t hT) fun i19 i20 i21 i22 b10 hi19 hi20 hi21 hi22 hb10 => ?_
        show T.den _ _ [op, (lo : Int), (hi : Int), (N : Int), (r : Int), (lo2 : Int), (hi2 : Int), (M : Int), (q : Int), (n : Int), (m : Int), i11, i12, i13, i14, i15, i16, i17, i18, i19, i20, i21, i22] [b0, b1, b2, b3, b4, b5, b6, b7, b8, b9, b10] = _
        refine st_ite (fun hc => ?_) (fun hc => ?_)
        · replace hc : (i19 == 0) = true := hc
          have c7 := hc
          clear hc
          exact (len_ne hi19 c7 (by decide)).elim
        · replace hc : (i19 == 0) = false := hc
          have c8 := hc
          clear hc
          refine st_ite (fun hc => ?_) (fun hc => ?_)
          · replace hc : (i19 == 1) = true := hc
            have c9 := hc
            clear hc
            exact (len_ne hi19 c9 (by decide)).elim
          · replace hc : (i19 == 1) = false := hc
            have c10 := hc
            clear hc
            refine st_ite (fun hc => ?_) (fun hc => ?_)
            · replace hc : (i19 == 2) = true := hc
              have c11 := hc
              clear hc
              refine st_lb fun b11 hb11 => ?_
              replace hb11 : b11 = (((!b10) || (decide (op < 70))) || (decide (op > 90))) := hb11
              show T.den _ _ [op, (lo : Int), (hi : Int), (N : Int), (r : Int), (lo2 : Int), (hi2 : Int), (M : Int), (q : Int), (n : Int), (m : Int), i11, i12, i13, i14, i15, i16, i17, i18, i19, i20, i21, i22] [b0, b1, b2, b3, b4, b5, b6, b7, b8, b9, b10, b11] = _
              refine st_ite (fun hc => ?_) (fun hc => ?_)
              · replace hc : b11 = true := hc
                have c12 := hc
                clear hc
                rw [hb11, hb10, decide_eq_false (show ¬ op < 70 by omega), decide_eq_false (show ¬ op > 90 by omega)] at c12; cases c12
              · replace hc : b11 = false := hc
                have c13 := hc
                clear hc
                refine st_0_1 (e3_14) (g := true) rfl (l := [i20, (n : Int)]) rfl (m := []) rfl (cl_t (q14 i20 (n : Int))) fun b12 hb12 => ?_
                show T.den _ _ [op, (lo : Int), (hi : Int), (N : Int), (r : Int), (lo2 : Int), (hi2 : Int), (M : Int), (q : Int), (n : Int), (m : Int), i11, i12, i13, i14, i15, i16, i17, i18, i19, i20, i21, i22] [b0, b1, b2, b3, b4, b5, b6, b7, b8, b9, b10, b11, b12] = _
                refine st_0_1 (e3_14) (g := b12) rfl (l := [i20, (m : Int)]) rfl (m := []) rfl (cl_b (q14 i20 (m : Int))) fun b13 hb13 => ?_
                show T.den _ _ [op, (lo : Int), (hi : Int), (N : Int), (r : Int), (lo2 : Int), (hi2 : Int), (M : Int), (q : Int), (n : Int), (m : Int), i11, i12, i13, i14, i15, i16, i17, i18, i19, i20, i21, i22] [b0, b1, b2, b3, b4, b5, b6, b7, b8, b9, b10, b11, b12, b13] = _
                refine st_0_1 (e3_15) (g := (!((!b12) || (!b13)))) rfl (l := [(lo : Int), (hi : Int), (N : Int), (r : Int), (n : Int)]) rfl (m := []) rfl (cl_b (q15 (lo : Int) (hi : Int) (N : Int) (r : Int) (n : Int))) fun b14 hb14 => ?_
                show T.den _ _ [op, (lo : Int), (hi : Int), (N : Int), (r : Int), (lo2 : Int), (hi2 : Int), (M : Int), (q : Int), (n : Int), (m : Int), i11, i12, i13, i14, i15, i16, i17, i18, i19, i20, i21, i22] [b0, b1, b2, b3, b4, b5, b6, b7, b8, b9, b10, b11, b12, b13, b14] = _
                refine st_lb fun b15 hb15 => ?_
                replace hb15 : b15 = (((!b12) || (!b13)) || (!b14)) := hb15
                show T.den _ _ [op, (lo : Int), (hi : Int), (N : Int), (r : Int), (lo2 : Int), (hi2 : Int), (M : Int), (q : Int), (n : Int), (m : Int), i11, i12, i13, i14, i15, i16, i17, i18, i19, i20, i21, i22] [b0, b1, b2, b3, b4, b5, b6, b7, b8, b9, b10, b11, b12, b13, b14, b15] = _
                refine st_0_1 (e3_15) (g := (!b15)) rfl (l := [(lo2 : Int), (hi2 : Int), (M : Int), (q : Int), (m : Int)]) rfl (m := []) rfl (cl_b (q15 (lo2 : Int) (hi2 : Int) (M : Int) (q : Int) (m : Int))) fun b16 hb16 => ?_
                show T.den _ _ [op, (lo : Int), (hi : Int), (N : Int), (r : Int), (lo2 : Int), (hi2 : Int), (M : Int), (q : Int), (n : Int), (m : Int), i11, i12, i13, i14, i15, i16, i17, i18, i19, i20, i21, i22] [b0, b1, b2, b3, b4, b5, b6, b7, b8, b9, b10, b11, b12, b13, b14, b15, b16] = _
                refine st_ite (fun hc => ?_) (fun hc => ?_)
                · replace hc : (b15 || (!b16)) = true := hc
                  have c14 := hc
                  clear hc
                  refine st_ret ?_
                  show some ([], [true]) = _
                  rfl
                · replace hc : (b15 || (!b16)) = false := hc
                  have c15 := hc
                  clear hc
                  refine st_2_1 (e3_16) (g := true) rfl (l := [op, (n : Int), (m : Int)]) rfl (m := []) rfl (cl_t hV) fun i23 i24 b17 hi23 hi24 hb17 => ?_
                  show T.den _ _ [op, (lo : Int), (hi : Int), (N : Int), (r : Int), (lo2 : Int), (hi2 : Int), (M : Int), (q : Int), (n : Int), (m : Int), i11, i12, i13, i14, i15, i16, i17, i18, i19, i20, i21, i22, i23, i24] [b0, b1, b2, b3, b4, b5, b6, b7, b8, b9, b10, b11, b12, b13, b14, b15, b16, b17] = _
                  refine st_0_1 (e3_15) (g := ((!(i23 == 0)) && b3)) rfl (l := [i11, i12, i13, i14, (n : Int)]) rfl (m := []) rfl (cl_b (q15 i11 i12 i13 i14 (n : Int))) fun b18 hb18 => ?_
                  show T.den _ _ [op, (lo : Int), (hi : Int), (N : Int), (r : Int), (lo2 : Int), (hi2 : Int), (M : Int), (q : Int), (n : Int), (m : Int), i11, i12, i13, i14, i15, i16, i17, i18, i19, i20, i21, i22, i23, i24] [b0, b1, b2, b3, b4, b5, b6, b7, b8, b9, b10, b11, b12, b13, b14, b15, b16, b17, b18] = _
                  refine st_0_1 (e3_15) (g := ((!(i23 == 0)) && (b3 && b18))) rfl (l := [i15, i16, i17, i18, (m : Int)]) rfl (m := []) rfl (cl_b (q15 i15 i16 i17 i18 (m : Int))) fun b19 hb19 => ?_
                  show T.den _ _ [op, (lo : Int), (hi : Int), (N : Int), (r : Int), (lo2 : Int), (hi2 : Int), (M : Int), (q : Int), (n : Int), (m : Int), i11, i12, i13, i14, i15, i16, i17, i18, i19, i20, i21, i22, i23, i24] [b0, b1, b2, b3, b4, b5, b6, b7, b8, b9, b10, b11, b12, b13, b14, b15, b16, b17, b18, b19] = _
                  refine st_0_1 (e3_15) (g := ((!(i23 == 0)) && ((b3 && b18) && b19))) rfl (l := [(lo : Int), (hi : Int), (N : Int), (r : Int), i11]) rfl (m := []) rfl (cl_b (q15 (lo : Int) (hi : Int) (N : Int) (r : Int) i11)) fun b20 hb20 => ?_
                  show T.den _ _ [op, (lo : Int), (hi : Int), (N : Int), (r : Int), (lo2 : Int), (hi2 : Int), (M : Int), (q : Int), (n : Int), (m : Int), i11, i12, i13, i14, i15, i16, i17, i18, i19, i20, i21, i22, i23, i24] [b0, b1, b2, b3, b4, b5, b6, b7, b8, b9, b10, b11, b12, b13, b14, b15, b16, b17, b18, b19, b20] = _
                  refine st_0_1 (e3_17) (g := (((!(i23 == 0)) && ((b3 && b18) && b19)) && b20)) rfl (l := [i13, i14, (N : Int), (r : Int)]) rfl (m := []) rfl (cl_b (q17 i13 i14 (N : Int) (r : Int))) fun b21 hb21 => ?_
                  show T.den _ _ [op, (lo : Int), (hi : Int), (N : Int), (r : Int), (lo2 : Int), (hi2 : Int), (M : Int), (q : Int), (n : Int), (m : Int), i11, i12, i13, i14, i15, i16, i17, i18, i19, i20, i21, i22, i23, i24] [b0, b1, b2, b3, b4, b5, b6, b7, b8, b9, b10, b11, b12, b13, b14, b15, b16, b17, b18, b19, b20, b21] = _
                  refine st_lb fun b22 hb22 => ?_
                  replace hb22 : b22 = (((b3 && b18) && b19) && ((!b20) || b21)) := hb22
                  show T.den _ _ [op, (lo : Int), (hi : Int), (N : Int), (r : Int), (lo2 : Int), (hi2 : Int), (M : Int), (q : Int), (n : Int), (m : Int), i11, i12, i13, i14, i15, i16, i17, i18, i19, i20, i21, i22, i23, i24] [b0, b1, b2, b3, b4, b5, b6, b7, b8, b9, b10, b11, b12, b13, b14, b15, b16, b17, b18, b19, b20, b21, b22] = _
                  refine st_ret ?_
                  show some ([], [((i23 == 0) || b22)]) = _
                  obtain ⟨p1, p2, p3, p4⟩ := l7 hb12 hb13 hb14 hb15 hb16 c15
                  rw [hi20] at p1 p2
                  rw [hA_hAN h.2.2.1 h.r64 hn] at p3
                  rw [hA_hAN h2.2.2.1 h2.r64 hm] at p4
                  refine rb (l8 hb18 hb19 hb20 hb21 hb22 fun hv => ?_)
                  rw [hi23] at hv
                  obtain ⟨e1, e2, e3⟩ := hm_ n m hn hm (fit_of p1) (fit_of p2) p3 p4 (hC (fit_of p1) (fit_of p2) hv)
                  rw [hb3, hi11, hi12, hi13, hi14, hi15, hi16, hi17, hi18]
                  exact ⟨e1, in_hA e2 hn, in_hA e3 hm, in_wx e2 h.2.2.1 h.r64⟩
            · replace hc : (i19 == 2) = false := hc
              have c16 := hc
              clear hc
              exact (len_no hi19 c16 rfl).elim

set_option maxHeartbeats 4000000 in
theorem law_o (op : Int) (lo hi N r lo2 hi2 M q n m : Nat) (h : Rt lo hi N r) (h2 : Rt lo2 hi2 M q) (hn : n < 2 ^ 64) (hm : m < 2 ^ 64) (hp : F31 [op] [] = some ([0, 0], [false])) (hT : F13 [op] [] = some ([0, 0, 0, 0], [false])) : F3 [op, (lo : Int), (hi : Int), (N : Int), (r : Int), (lo2 : Int), (hi2 : Int), (M : Int), (q : Int), (n : Int), (m : Int)] [] = some ([], [true]) := by
  have hF := q12_o op lo hi N r lo2 hi2 M q hp
  have hz : true = false → ((lo : Int) = 0 ∧ (hi : Int) = 0 ∧ (N : Int) = 0 ∧ (r : Int) = 0) ∧ ((lo2 : Int) = 0 ∧ (hi2 : Int) = 0 ∧ (M : Int) = 0 ∧ (q : Int) = 0) := fun h => by cases h
  have hr := fun (_ : true = true) => (⟨rt_rA h, rt_rA h2⟩ : rA lo hi N r = true ∧ rA lo2 hi2 M q = true)
  refine Eq.trans (Fd_of (n := 11) (m := 0) (t := XTransLimit.t3) (C := Tab.fn a3) rfl rfl) ?_
  rw [XTransLimit.t3]
  refine st_0_1 (e3_10) (g := true) rfl (l := []) rfl (m := []) rfl (cl_t q10) fun b0 hb0 => ?_
  show T.den _ _ [op, (lo : Int), (hi : Int), (N : Int), (r : Int), (lo2 : Int), (hi2 : Int), (M : Int), (q : Int), (n : Int), (m : Int)] [b0] = _
  refine st_ite (fun hc => ?_) (fun hc => ?_)
  · replace hc : (!b0) = true := hc
    have c1 := hc
    clear hc
    rw [hb0] at c1; cases c1
  · replace hc : (!b0) = false := hc
    have c2 := hc
    clear hc
    refine st_0_1 (e3_11) (g := true) rfl (l := [(lo : Int), (hi : Int), (N : Int), (r : Int)]) rfl (m := []) rfl (cl_t (q11 (lo : Int) (hi : Int) (N : Int) (r : Int))) fun b1 hb1 => ?_
    show T.den _ _ [op, (lo : Int), (hi : Int), (N : Int), (r : Int), (lo2 : Int), (hi2 : Int), (M : Int), (q : Int), (n : Int), (m : Int)] [b0, b1] = _
    refine st_0_1 (e3_11) (g := b1) rfl (l := [(lo2 : Int), (hi2 : Int), (M : Int), (q : Int)]) rfl (m := []) rfl (cl_b (q11 (lo2 : Int) (hi2 : Int) (M : Int) (q : Int))) fun b2 hb2 => ?_
    show T.den _ _ [op, (lo : Int), (hi : Int), (N : Int), (r : Int), (lo2 : Int), (hi2 : Int), (M : Int), (q : Int), (n : Int), (m : Int)] [b0, b1, b2] = _
    refine st_ite (fun hc => ?_) (fun hc => ?_)
    · replace hc : ((!b1) || (!b2)) = true := hc
      have c3 := hc
      clear hc
      rw [hb2, hb1, rt_rA h, rt_rA h2] at c3; cases c3
    · replace hc : ((!b1) || (!b2)) = false := hc
      have c4 := hc
      clear hc
      refine st_8_1 (e3_12) (g := true) rfl (l := [op, (lo : Int), (hi : Int), (N : Int), (r : Int), (lo2 : Int), (hi2 : Int), (M : Int), (q : Int)]) rfl (m := []) rfl (cl_t hF) fun i11 i12 i13 i14 i15 i16 i17 i18 b3 hi11 hi12 hi13 hi14 hi15 hi16 hi17 hi18 hb3 => ?_
      show T.den _ _ [op, (lo : Int), (hi : Int), (N : Int), (r : Int), (lo2 : Int), (hi2 : Int), (M : Int), (q : Int), (n : Int), (m : Int), i11, i12, i13, i14, i15, i16, i17, i18] [b0, b1, b2, b3] = _
      refine st_lb fun b4 hb4 => ?_
      replace hb4 : b4 = (!(((i11 == 0) && (i12 == 0)) && ((i13 == 0) && (i14 == 0)))) := hb4
      show T.den _ _ [op, (lo : Int), (hi : Int), (N : Int), (r : Int), (lo2 : Int), (hi2 : Int), (M : Int), (q : Int), (n : Int), (m : Int), i11, i12, i13, i14, i15, i16, i17, i18] [b0, b1, b2, b3, b4] = _
      refine st_lb fun b5 hb5 => ?_
      replace hb5 : b5 = (!(((i15 == 0) && (i16 == 0)) && ((i17 == 0) && (i18 == 0)))) := hb5
      show T.den _ _ [op, (lo : Int), (hi : Int), (N : Int), (r : Int), (lo2 : Int), (hi2 : Int), (M : Int), (q : Int), (n : Int), (m : Int), i11, i12, i13, i14, i15, i16, i17, i18] [b0, b1, b2, b3, b4, b5] = _
      refine st_0_1 (e3_11) (g := ((!((!b3) && (b4 || b5))) && b3)) rfl (l := [i11, i12, i13, i14]) rfl (m := []) rfl (cl_b (q11 i11 i12 i13 i14)) fun b6 hb6 => ?_
      show T.den _ _ [op, (lo : Int), (hi : Int), (N : Int), (r : Int), (lo2 : Int), (hi2 : Int), (M : Int), (q : Int), (n : Int), (m : Int), i11, i12, i13, i14, i15, i16, i17, i18] [b0, b1, b2, b3, b4, b5, b6] = _
      refine st_0_1 (e3_11) (g := (((!((!b3) && (b4 || b5))) && b3) && b6)) rfl (l := [i15, i16, i17, i18]) rfl (m := []) rfl (cl_b (q11 i15 i16 i17 i18)) fun b7 hb7 => ?_
      show T.den _ _ [op, (lo : Int), (hi : Int), (N : Int), (r : Int), (lo2 : Int), (hi2 : Int), (M : Int), (q : Int), (n : Int), (m : Int), i11, i12, i13, i14, i15, i16, i17, i18] [b0, b1, b2, b3, b4, b5, b6, b7] = _
      refine st_lb fun b8 hb8 => ?_
      replace hb8 : b8 = (b3 && ((!b6) || (!b7))) := hb8
      show T.den _ _ [op, (lo : Int), (hi : Int), (N : Int), (r : Int), (lo2 : Int), (hi2 : Int), (M : Int), (q : Int), (n : Int), (m : Int), i11, i12, i13, i14, i15, i16, i17, i18] [b0, b1, b2, b3, b4, b5, b6, b7, b8] = _
      refine st_lb fun b9 hb9 => ?_
      replace hb9 : b9 = (((!b3) && (b4 || b5)) || b8) := hb9
      show T.den _ _ [op, (lo : Int), (hi : Int), (N : Int), (r : Int), (lo2 : Int), (hi2 : Int), (M : Int), (q : Int), (n : Int), (m : Int), i11, i12, i13, i14, i15, i16, i17, i18] [b0, b1, b2, b3, b4, b5, b6, b7, b8, b9] = _
      refine st_ite (fun hc => ?_) (fun hc => ?_)
      · replace hc : b9 = true := hc
        have c5 := hc
        clear hc
        exact absurd (l3 hb4 hb5 hb6 hb7 hb8 hb9 (by rw [hb3, hi11, hi12, hi13, hi14, hi15, hi16, hi17, hi18]; exact hz) (by rw [hb3, hi11, hi12, hi13, hi14, hi15, hi16, hi17, hi18]; exact hr)) (by rw [c5]; decide)
      · replace hc : b9 = false := hc
        have c6 := hc
        clear hc
        refine st_4_1 (e3_13) (g := true) rfl (l := [op]) rfl (m := []) rfl (cl_t hT) fun i19 i20 i21 i22 b10 hi19 hi20 hi21 hi22 hb10 => ?_
        show T.den _ _ [op, (lo : Int), (hi : Int), (N : Int), (r : Int), (lo2 : Int), (hi2 : Int), (M : Int), (q : Int), (n : Int), (m : Int), i11, i12, i13, i14, i15, i16, i17, i18, i19, i20, i21, i22] [b0, b1, b2, b3, b4, b5, b6, b7, b8, b9, b10] = _
        refine st_ite (fun hc => ?_) (fun hc => ?_)
        · replace hc : (i19 == 0) = true := hc
          have c7 := hc
          clear hc
          refine st_lb fun b11 hb11 => ?_
          replace hb11 : b11 = (((i11 == (lo : Int)) && (i12 == (hi : Int))) && ((i13 == (N : Int)) && (i14 == (r : Int)))) := hb11
          show T.den _ _ [op, (lo : Int), (hi : Int), (N : Int), (r : Int), (lo2 : Int), (hi2 : Int), (M : Int), (q : Int), (n : Int), (m : Int), i11, i12, i13, i14, i15, i16, i17, i18, i19, i20, i21, i22] [b0, b1, b2, b3, b4, b5, b6, b7, b8, b9, b10, b11] = _
          refine st_lb fun b12 hb12 => ?_
          replace hb12 : b12 = (((i15 == (lo2 : Int)) && (i16 == (hi2 : Int))) && ((i17 == (M : Int)) && (i18 == (q : Int)))) := hb12
          show T.den _ _ [op, (lo : Int), (hi : Int), (N : Int), (r : Int), (lo2 : Int), (hi2 : Int), (M : Int), (q : Int), (n : Int), (m : Int), i11, i12, i13, i14, i15, i16, i17, i18, i19, i20, i21, i22] [b0, b1, b2, b3, b4, b5, b6, b7, b8, b9, b10, b11, b12] = _
          refine st_ret ?_
          show some ([], [((b11 && b12) && b3)]) = _
          refine rb ?_
          rw [hb11, hb12, hb3, hi11, hi12, hi13, hi14, hi15, hi16, hi17, hi18]; simp
        · replace hc : (i19 == 0) = false := hc
          have c8 := hc
          clear hc
          exact (len_no hi19 c8 rfl).elim

set_option maxHeartbeats 4000000 in
theorem law_u (op : Int) (lo hi N r lo2 hi2 M q n m : Nat) (h : Rt lo hi N r) (h2 : Rt lo2 hi2 M q) (hn : n < 2 ^ 64) (hm : m < 2 ^ 64) (hp : F31 [op] [] = some ([0, 0], [false])) (hU : U op) : F3 [op, (lo : Int), (hi : Int), (N : Int), (r : Int), (lo2 : Int), (hi2 : Int), (M : Int), (q : Int), (n : Int), (m : Int)] [] = some ([], [true]) := by
  obtain ⟨i, o, hT⟩ := hU
  have hF := q12_o op lo hi N r lo2 hi2 M q hp
  have hz : true = false → ((lo : Int) = 0 ∧ (hi : Int) = 0 ∧ (N : Int) = 0 ∧ (r : Int) = 0) ∧ ((lo2 : Int) = 0 ∧ (hi2 : Int) = 0 ∧ (M : Int) = 0 ∧ (q : Int) = 0) := fun h => by cases h
  have hr := fun (_ : true = true) => (⟨rt_rA h, rt_rA h2⟩ : rA lo hi N r = true ∧ rA lo2 hi2 M q = true)
  refine Eq.trans (Fd_of (n := 11) (m := 0) (t := XTransLimit.t3) (C := Tab.fn a3) rfl rfl) ?_
  rw [XTransLimit.t3]
  refine st_0_1 (e3_10) (g := true) rfl (l := []) rfl (m := []) rfl (cl_t q10) fun b0 hb0 => ?_
  show T.den _ _ [op, (lo : Int), (hi : Int), (N : Int), (r : Int), (lo2 : Int), (hi2 : Int), (M : Int), (q : Int), (n : Int), (m : Int)] [b0] = _
  refine st_ite (fun hc => ?_) (fun hc => ?_)
  · replace hc : (!b0) = true := hc
    have c1 := hc
    clear hc
    rw [hb0] at c1; cases c1
  · replace hc : (!b0) = false := hc
    have c2 := hc
    clear hc
    refine st_0_1 (e3_11) (g := true) rfl (l := [(lo : Int), (hi : Int), (N : Int), (r : Int)]) rfl (m := []) rfl (cl_t (q11 (lo : Int) (hi : Int) (N : Int) (r : Int))) fun b1 hb1 => ?_
    show T.den _ _ [op, (lo : Int), (hi : Int), (N : Int), (r : Int), (lo2 : Int), (hi2 : Int), (M : Int), (q : Int), (n : Int), (m : Int)] [b0, b1] = _
    refine st_0_1 (e3_11) (g := b1) rfl (l := [(lo2 : Int), (hi2 : Int), (M : Int), (q : Int)]) rfl (m := []) rfl (cl_b (q11 (lo2 : Int) (hi2 : Int) (M : Int) (q : Int))) fun b2 hb2 => ?_
    show T.den _ _ [op, (lo : Int), (hi : Int), (N : Int), (r : Int), (lo2 : Int), (hi2 : Int), (M : Int), (q : Int), (n : Int), (m : Int)] [b0, b1, b2] = _
    refine st_ite (fun hc => ?_) (fun hc => ?_)
    · replace hc : ((!b1) || (!b2)) = true := hc
      have c3 := hc
      clear hc
      rw [hb2, hb1, rt_rA h, rt_rA h2] at c3; cases c3
    · replace hc : ((!b1) || (!b2)) = false := hc
      have c4 := hc
      clear hc
      refine st_8_1 (e3_12) (g := true) rfl (l := [op, (lo : Int), (hi : Int), (N : Int), (r : Int), (lo2 : Int), (hi2 : Int), (M : Int), (q : Int)]) rfl (m := []) rfl (cl_t hF) fun i11 i12 i13 i14 i15 i16 i17 i18 b3 hi11 hi12 hi13 hi14 hi15 hi16 hi17 hi18 hb3 => ?_
      show T.den _ _ [op, (lo : Int), (hi : Int), (N : Int), (r : Int), (lo2 : Int), (hi2 : Int), (M : Int), (q : Int), (n : Int), (m : Int), i11, i12, i13, i14, i15, i16, i17, i18] [b0, b1, b2, b3] = _
      refine st_lb fun b4 hb4 => ?_
      replace hb4 : b4 = (!(((i11 == 0) && (i12 == 0)) && ((i13 == 0) && (i14 == 0)))) := hb4
      show T.den _ _ [op, (lo : Int), (hi : Int), (N : Int), (r : Int), (lo2 : Int), (hi2 : Int), (M : Int), (q : Int), (n : Int), (m : Int), i11, i12, i13, i14, i15, i16, i17, i18] [b0, b1, b2, b3, b4] = _
      refine st_lb fun b5 hb5 => ?_
      replace hb5 : b5 = (!(((i15 == 0) && (i16 == 0)) && ((i17 == 0) && (i18 == 0)))) := hb5
      show T.den _ _ [op, (lo : Int), (hi : Int), (N : Int), (r : Int), (lo2 : Int), (hi2 : Int), (M : Int), (q : Int), (n : Int), (m : Int), i11, i12, i13, i14, i15, i16, i17, i18] [b0, b1, b2, b3, b4, b5] = _
      refine st_0_1 (e3_11) (g := ((!((!b3) && (b4 || b5))) && b3)) rfl (l := [i11, i12, i13, i14]) rfl (m := []) rfl (cl_b (q11 i11 i12 i13 i14)) fun b6 hb6 => ?_
      show T.den _ _ [op, (lo : Int), (hi : Int), (N : Int), (r : Int), (lo2 : Int), (hi2 : Int), (M : Int), (q : Int), (n : Int), (m : Int), i11, i12, i13, i14, i15, i16, i17, i18] [b0, b1, b2, b3, b4, b5, b6] = _
      refine st_0_1 (e3_11) (g := (((!((!b3) && (b4 || b5))) && b3) && b6)) rfl (l := [i15, i16, i17, i18]) rfl (m := []) rfl (cl_b (q11 i15 i16 i17 i18)) fun b7 hb7 => ?_
      show T.den _ _ [op, (lo : Int), (hi : Int), (N : Int), (r : Int), (lo2 : Int), (hi2 : Int), (M : Int), (q : Int), (n : Int), (m : Int), i11, i12, i13, i14, i15, i16, i17, i18] [b0, b1, b2, b3, b4, b5, b6, b7] = _
      refine st_lb fun b8 hb8 => ?_
      replace hb8 : b8 = (b3 && ((!b6) || (!b7))) := hb8
      show T.den _ _ [op, (lo : Int), (hi : Int), (N : Int), (r : Int), (lo2 : Int), (hi2 : Int), (M : Int), (q : Int), (n : Int), (m : Int), i11, i12, i13, i14, i15, i16, i17, i18] [b0, b1, b2, b3, b4, b5, b6, b7, b8] = _
      refine st_lb fun b9 hb9 => ?_
      replace hb9 : b9 = (((!b3) && (b4 || b5)) || b8) := hb9
      show T.den _ _ [op, (lo : Int), (hi : Int), (N : Int), (r : Int), (lo2 : Int), (hi2 : Int), (M : Int), (q : Int), (n : Int), (m : Int), i11, i12, i13, i14, i15, i16, i17, i18] [b0, b1, b2, b3, b4, b5, b6, b7, b8, b9] = _
      refine st_ite (fun hc => ?_) (fun hc => ?_)
      · replace hc : b9 = true := hc
        have c5 := hc
        clear hc
        exact absurd (l3 hb4 hb5 hb6 hb7 hb8 hb9 (by rw [hb3, hi11, hi12, hi13, hi14, hi15, hi16, hi17, hi18]; exact hz) (by rw [hb3, hi11, hi12, hi13, hi14, hi15, hi16, hi17, hi18]; exact hr)) (by rw [c5]; decide)
      · replace hc : b9 = false := hc
        have c6 := hc
        clear hc
        refine st_4_1 (e3_13) (g := true) rfl (l := [op]) rfl (m := []) rfl (cl_t hT) fun i19 i20 i21 i22 b10 hi19 hi20 hi21 hi22 hb10 => ?_
        show T.den _ _ [op, (lo : Int), (hi : Int), (N : Int), (r : Int), (lo2 : Int), (hi2 : Int), (M : Int), (q : Int), (n : Int), (m : Int), i11, i12, i13, i14, i15, i16, i17, i18, i19, i20, i21, i22] [b0, b1, b2, b3, b4, b5, b6, b7, b8, b9, b10] = _
        refine st_ite (fun hc => ?_) (fun hc => ?_)
        · replace hc : (i19 == 0) = true := hc
          have c7 := hc
          clear hc
          exact (len_ne hi19 c7 (by decide)).elim
        · replace hc : (i19 == 0) = false := hc
          have c8 := hc
          clear hc
          refine st_ite (fun hc => ?_) (fun hc => ?_)
          · replace hc : (i19 == 1) = true := hc
            have c9 := hc
            clear hc
            refine st_lb fun b11 hb11 => ?_
            replace hb11 : b11 = (((i11 == (lo : Int)) && (i12 == (hi : Int))) && ((i13 == (N : Int)) && (i14 == (r : Int)))) := hb11
            show T.den _ _ [op, (lo : Int), (hi : Int), (N : Int), (r : Int), (lo2 : Int), (hi2 : Int), (M : Int), (q : Int), (n : Int), (m : Int), i11, i12, i13, i14, i15, i16, i17, i18, i19, i20, i21, i22] [b0, b1, b2, b3, b4, b5, b6, b7, b8, b9, b10, b11] = _
            refine st_lb fun b12 hb12 => ?_
            replace hb12 : b12 = (((i15 == (lo2 : Int)) && (i16 == (hi2 : Int))) && ((i17 == (M : Int)) && (i18 == (q : Int)))) := hb12
            show T.den _ _ [op, (lo : Int), (hi : Int), (N : Int), (r : Int), (lo2 : Int), (hi2 : Int), (M : Int), (q : Int), (n : Int), (m : Int), i11, i12, i13, i14, i15, i16, i17, i18, i19, i20, i21, i22] [b0, b1, b2, b3, b4, b5, b6, b7, b8, b9, b10, b11, b12] = _
            refine st_ret ?_
            show some ([], [((b11 && b12) && b3)]) = _
            refine rb ?_
            rw [hb11, hb12, hb3, hi11, hi12, hi13, hi14, hi15, hi16, hi17, hi18]; simp
          · replace hc : (i19 == 1) = false := hc
            have c10 := hc
            clear hc
            exact (len_no hi19 c10 rfl).elim

set_option maxHeartbeats 4000000 in
theorem law_b (op : Int) (lo hi N r lo2 hi2 M q n m : Nat) (h : Rt lo hi N r) (h2 : Rt lo2 hi2 M q) (hn : n < 2 ^ 64) (hm : m < 2 ^ 64) (hp : F31 [op] [] = some ([0, 0], [false])) (hB : B op) (ho : op < 70 ∨ op > 90) : F3 [op, (lo : Int), (hi : Int), (N : Int), (r : Int), (lo2 : Int), (hi2 : Int), (M : Int), (q : Int), (n : Int), (m : Int)] [] = some ([], [true]) := by
  obtain ⟨i, o, hT, _⟩ := hB
  have hF := q12_o op lo hi N r lo2 hi2 M q hp
  have hz : true = false → ((lo : Int) = 0 ∧ (hi : Int) = 0 ∧ (N : Int) = 0 ∧ (r : Int) = 0) ∧ ((lo2 : Int) = 0 ∧ (hi2 : Int) = 0 ∧ (M : Int) = 0 ∧ (q : Int) = 0) := fun h => by cases h
  have hr := fun (_ : true = true) => (⟨rt_rA h, rt_rA h2⟩ : rA lo hi N r = true ∧ rA lo2 hi2 M q = true)
  refine Eq.trans (Fd_of (n := 11) (m := 0) (t := XTransLimit.t3) (C := Tab.fn a3) rfl rfl) ?_
  rw [XTransLimit.t3]
  refine st_0_1 (e3_10) (g := true) rfl (l := []) rfl (m := []) rfl (cl_t q10) fun b0 hb0 => ?_
  show T.den _ _ [op, (lo : Int), (hi : Int), (N : Int), (r : Int), (lo2 : Int), (hi2 : Int), (M : Int), (q : Int), (n : Int), (m : Int)] [b0] = _
  refine st_ite (fun hc => ?_) (fun hc => ?_)
  · replace hc : (!b0) = true := hc
    have c1 := hc
    clear hc
    rw [hb0] at c1; cases c1
  · replace hc : (!b0) = false := hc
    have c2 := hc
    clear hc
    refine st_0_1 (e3_11) (g := true) rfl (l := [(lo : Int), (hi : Int), (N : Int), (r : Int)]) rfl (m := []) rfl (cl_t (q11 (lo : Int) (hi : Int) (N : Int) (r : Int))) fun b1 hb1 => ?_
    show T.den _ _ [op, (lo : Int), (hi : Int), (N : Int), (r : Int), (lo2 : Int), (hi2 : Int), (M : Int), (q : Int), (n : Int), (m : Int)] [b0, b1] = _
    refine st_0_1 (e3_11) (g := b1) rfl (l := [(lo2 : Int), (hi2 : Int), (M : Int), (q : Int)]) rfl (m := []) rfl (cl_b (q11 (lo2 : Int) (hi2 : Int) (M : Int) (q : Int))) fun b2 hb2 => ?_
    show T.den _ _ [op, (lo : Int), (hi : Int), (N : Int), (r : Int), (lo2 : Int), (hi2 : Int), (M : Int), (q : Int), (n : Int), (m : Int)] [b0, b1, b2] = _
    refine st_ite (fun hc => ?_) (fun hc => ?_)
    · replace hc : ((!b1) || (!b2)) = true := hc
      have c3 := hc
      clear hc
      rw [hb2, hb1, rt_rA h, rt_rA h2] at c3; cases c3
    · replace hc : ((!b1) || (!b2)) = false := hc
      have c4 := hc
      clear hc
      refine st_8_1 (e3_12) (g := true) rfl (l := [op, (lo : Int), (hi : Int), (N : Int), (r : Int), (lo2 : Int), (hi2 : Int), (M : Int), (q : Int)]) rfl (m := []) rfl (cl_t hF) fun i11 i12 i13 i14 i15 i16 i17 i18 b3 hi11 hi12 hi13 hi14 hi15 hi16 hi17 hi18 hb3 => ?_
      show T.den _ _ [op, (lo : Int), (hi : Int), (N : Int), (r : Int), (lo2 : Int), (hi2 : Int), (M : Int), (q : Int), (n : Int), (m : Int), i11, i12, i13, i14, i15, i16, i17, i18] [b0, b1, b2, b3] = _
      refine st_lb fun b4 hb4 => ?_
      replace hb4 : b4 = (!(((i11 == 0) && (i12 == 0)) && ((i13 == 0) && (i14 == 0)))) := hb4
      show T.den _ _ [op, (lo : Int), (hi : Int), (N : Int), (r : Int), (lo2 : Int), (hi2 : Int), (M : Int), (q : Int), (n : Int), (m : Int), i11, i12, i13, i14, i15, i16, i17, i18] [b0, b1, b2, b3, b4] = _
      refine st_lb fun b5 hb5 => ?_
      replace hb5 : b5 = (!(((i15 == 0) && (i16 == 0)) && ((i17 == 0) && (i18 == 0)))) := hb5
      show T.den _ _ [op, (lo : Int), (hi : Int), (N : Int), (r : Int), (lo2 : Int), (hi2 : Int), (M : Int), (q : Int), (n : Int), (m : Int), i11, i12, i13, i14, i15, i16, i17, i18] [b0, b1, b2, b3, b4, b5] = _
      refine st_0_1 (e3_11) (g := ((!((!b3) && (b4 || b5))) && b3)) rfl (l := [i11, i12, i13, i14]) rfl (m := []) rfl (cl_b (q11 i11 i12 i13 i14)) fun b6 hb6 => ?_
      show T.den _ _ [op, (lo : Int), (hi : Int), (N : Int), (r : Int), (lo2 : Int), (hi2 : Int), (M : Int), (q : Int), (n : Int), (m : Int), i11, i12, i13, i14, i15, i16, i17, i18] [b0, b1, b2, b3, b4, b5, b6] = _
      refine st_0_1 (e3_11) (g := (((!((!b3) && (b4 || b5))) && b3) && b6)) rfl (l := [i15, i16, i17, i18]) rfl (m := []) rfl (cl_b (q11 i15 i16 i17 i18)) fun b7 hb7 => ?_
      show T.den _ _ [op, (lo : Int), (hi : Int), (N : Int), (r : Int), (lo2 : Int), (hi2 : Int), (M : Int), (q : Int), (n : Int), (m : Int), i11, i12, i13, i14, i15, i16, i17, i18] [b0, b1, b2, b3, b4, b5, b6, b7] = _
      refine st_lb fun b8 hb8 => ?_
      replace hb8 : b8 = (b3 && ((!b6) || (!b7))) := hb8
      show T.den _ _ [op, (lo : Int), (hi : Int), (N : Int), (r : Int), (lo2 : Int), (hi2 : Int), (M : Int), (q : Int), (n : Int), (m : Int), i11, i12, i13, i14, i15, i16, i17, i18] [b0, b1, b2, b3, b4, b5, b6, b7, b8] = _
      refine st_lb fun b9 hb9 => ?_
      replace hb9 : b9 = (((!b3) && (b4 || b5)) || b8) := hb9
      show T.den _ _ [op, (lo : Int), (hi : Int), (N : Int), (r : Int), (lo2 : Int), (hi2 : Int), (M : Int), (q : Int), (n : Int), (m : Int), i11, i12, i13, i14, i15, i16, i17, i18] [b0, b1, b2, b3, b4, b5, b6, b7, b8, b9] = _
      refine st_ite (fun hc => ?_) (fun hc => ?_)
      · replace hc : b9 = true := hc
        have c5 := hc
        clear hc
        exact absurd (l3 hb4 hb5 hb6 hb7 hb8 hb9 (by rw [hb3, hi11, hi12, hi13, hi14, hi15, hi16, hi17, hi18]; exact hz) (by rw [hb3, hi11, hi12, hi13, hi14, hi15, hi16, hi17, hi18]; exact hr)) (by rw [c5]; decide)
      · replace hc : b9 = false := hc
        have c6 := hc
        clear hc
        refine st_4_1 (e3_13) (g := true) rfl (l := [op]) rfl (m := []) rfl (cl_t hT) fun i19 i20 i21 i22 b10 hi19 hi20 hi21 hi22 hb10 => ?_
        show T.den _ _ [op, (lo : Int), (hi : Int), (N : Int), (r : Int), (lo2 : Int), (hi2 : Int), (M : Int), (q : Int), (n : Int), (m : Int), i11, i12, i13, i14, i15, i16, i17, i18, i19, i20, i21, i22] [b0, b1, b2, b3, b4, b5, b6, b7, b8, b9, b10] = _
        refine st_ite (fun hc => ?_) (fun hc => ?_)
        · replace hc : (i19 == 0) = true := hc
          have c7 := hc
          clear hc
          exact (len_ne hi19 c7 (by decide)).elim
        · replace hc : (i19 == 0) = false := hc
          have c8 := hc
          clear hc
          refine st_ite (fun hc => ?_) (fun hc => ?_)
          · replace hc : (i19 == 1) = true := hc
            have c9 := hc
            clear hc
            exact (len_ne hi19 c9 (by decide)).elim
          · replace hc : (i19 == 1) = false := hc
            have c10 := hc
            clear hc
            refine st_ite (fun hc => ?_) (fun hc => ?_)
            · replace hc : (i19 == 2) = true := hc
              have c11 := hc
              clear hc
              refine st_lb fun b11 hb11 => ?_
              replace hb11 : b11 = (((!b10) || (decide (op < 70))) || (decide (op > 90))) := hb11
              show T.den _ _ [op, (lo : Int), (hi : Int), (N : Int), (r : Int), (lo2 : Int), (hi2 : Int), (M : Int), (q : Int), (n : Int), (m : Int), i11, i12, i13, i14, i15, i16, i17, i18, i19, i20, i21, i22] [b0, b1, b2, b3, b4, b5, b6, b7, b8, b9, b10, b11] = _
              refine st_ite (fun hc => ?_) (fun hc => ?_)
              · replace hc : b11 = true := hc
                have c12 := hc
                clear hc
                refine st_lb fun b12 hb12 => ?_
                replace hb12 : b12 = (((i11 == (lo : Int)) && (i12 == (hi : Int))) && ((i13 == (N : Int)) && (i14 == (r : Int)))) := hb12
                show T.den _ _ [op, (lo : Int), (hi : Int), (N : Int), (r : Int), (lo2 : Int), (hi2 : Int), (M : Int), (q : Int), (n : Int), (m : Int), i11, i12, i13, i14, i15, i16, i17, i18, i19, i20, i21, i22] [b0, b1, b2, b3, b4, b5, b6, b7, b8, b9, b10, b11, b12] = _
                refine st_lb fun b13 hb13 => ?_
                replace hb13 : b13 = (((i15 == (lo2 : Int)) && (i16 == (hi2 : Int))) && ((i17 == (M : Int)) && (i18 == (q : Int)))) := hb13
                show T.den _ _ [op, (lo : Int), (hi : Int), (N : Int), (r : Int), (lo2 : Int), (hi2 : Int), (M : Int), (q : Int), (n : Int), (m : Int), i11, i12, i13, i14, i15, i16, i17, i18, i19, i20, i21, i22] [b0, b1, b2, b3, b4, b5, b6, b7, b8, b9, b10, b11, b12, b13] = _
                refine st_ret ?_
                show some ([], [((b12 && b13) && b3)]) = _
                refine rb ?_
                rw [hb12, hb13, hb3, hi11, hi12, hi13, hi14, hi15, hi16, hi17, hi18]; simp
              · replace hc : b11 = false := hc
                have c13 := hc
                clear hc
                rw [hb11] at c13; simp only [Bool.or_eq_false_iff, decide_eq_false_iff_not] at c13; omega
            · replace hc : (i19 == 2) = false := hc
              have c14 := hc
              clear hc
              exact (len_no hi19 c14 rfl).elim

set_option maxHeartbeats 4000000 in
theorem q31_o (op : Int) (h : ¬ (70 ≤ op ∧ op ≤ 79) ∧ ¬ (81 ≤ op ∧ op ≤ 90)) : F31 [op] [] = some ([0, 0], [false]) := by
  refine Eq.trans (Fd_of (n := 1) (m := 0) (t := XTransLimit.t31) (C := Tab.fn a31) rfl rfl) ?_
  rw [XTransLimit.t31]
  refine st_lb fun b0 hb0 => ?_
  replace hb0 : b0 = ((decide (op ≥ 70)) && (decide (op ≤ 79))) := hb0
  show T.den _ _ [op] [b0] = _
  refine st_ite (fun hc => ?_) (fun hc => ?_)
  · replace hc : b0 = true := hc
    have c1 := hc
    clear hc
    rw [hb0] at c1; simp only [Bool.and_eq_true, decide_eq_true_eq] at c1; omega
  · replace hc : b0 = false := hc
    have c2 := hc
    clear hc
    refine st_lb fun b1 hb1 => ?_
    replace hb1 : b1 = ((decide (op ≥ 81)) && (decide (op ≤ 90))) := hb1
    show T.den _ _ [op] [b0, b1] = _
    refine st_ite (fun hc => ?_) (fun hc => ?_)
    · replace hc : b1 = true := hc
      have c3 := hc
      clear hc
      rw [hb1] at c3; simp only [Bool.and_eq_true, decide_eq_true_eq] at c3; omega
    · replace hc : b1 = false := hc
      have c4 := hc
      clear hc
      refine st_ret ?_
      show some ([0, 0], [false]) = _
      rfl

theorem law_nat (op : Int) (lo hi N r lo2 hi2 M q n m : Nat) (h : Rt lo hi N r) (h2 : Rt lo2 hi2 M q) (hn : n < 2 ^ 64) (hm : m < 2 ^ 64) : F3 [op, (lo : Int), (hi : Int), (N : Int), (r : Int), (lo2 : Int), (hi2 : Int), (M : Int), (q : Int), (n : Int), (m : Int)] [] = some ([], [true]) := by
  by_cases e70 : op = 70
  · subst e70; exact law_c 70 lo hi N r lo2 hi2 M q n m h h2 hn hm 127 127 _ (by decide) q14_70 cmp_70 (lim_0 h h2 h31_70)
  by_cases e71 : op = 71
  · subst e71; exact law_c 71 lo hi N r lo2 hi2 M q n m h h2 hn hm 127 127 _ (by decide) q14_71 cmp_71 (lim_1 h h2 h31_71)
  by_cases e72 : op = 72
  · subst e72; exact law_c 72 lo hi N r lo2 hi2 M q n m h h2 hn hm 127 127 _ (by decide) q14_72 cmp_72 (lim_2 h h2 h31_72)
  by_cases e73 : op = 73
  · subst e73; exact law_c 73 lo hi N r lo2 hi2 M q n m h h2 hn hm 127 127 _ (by decide) q14_73 cmp_73 (lim_3 h h2 h31_73)
  by_cases e74 : op = 74
  · subst e74; exact law_c 74 lo hi N r lo2 hi2 M q n m h h2 hn hm 127 127 _ (by decide) q14_74 cmp_74 (lim_4 h h2 h31_74)
  by_cases e75 : op = 75
  · subst e75; exact law_c 75 lo hi N r lo2 hi2 M q n m h h2 hn hm 127 127 _ (by decide) q14_75 cmp_75 (lim_5 h h2 h31_75)
  by_cases e76 : op = 76
  · subst e76; exact law_c 76 lo hi N r lo2 hi2 M q n m h h2 hn hm 127 127 _ (by decide) q14_76 cmp_76 (lim_6 h h2 h31_76)
  by_cases e77 : op = 77
  · subst e77; exact law_c 77 lo hi N r lo2 hi2 M q n m h h2 hn hm 127 127 _ (by decide) q14_77 cmp_77 (lim_7 h h2 h31_77)
  by_cases e78 : op = 78
  · subst e78; exact law_c 78 lo hi N r lo2 hi2 M q n m h h2 hn hm 127 127 _ (by decide) q14_78 cmp_78 (lim_8 h h2 h31_78)
  by_cases e79 : op = 79
  · subst e79; exact law_c 79 lo hi N r lo2 hi2 M q n m h h2 hn hm 127 127 _ (by decide) q14_79 cmp_79 (lim_9 h h2 h31_79)
  by_cases e81 : op = 81
  · subst e81; exact law_c 81 lo hi N r lo2 hi2 M q n m h h2 hn hm 126 127 _ (by decide) q14_81 cmp_81 (lim_0 h h2 h31_81)
  by_cases e82 : op = 82
  · subst e82; exact law_c 82 lo hi N r lo2 hi2 M q n m h h2 hn hm 126 127 _ (by decide) q14_82 cmp_82 (lim_1 h h2 h31_82)
  by_cases e83 : op = 83
  · subst e83; exact law_c 83 lo hi N r lo2 hi2 M q n m h h2 hn hm 126 127 _ (by decide) q14_83 cmp_83 (lim_2 h h2 h31_83)
  by_cases e84 : op = 84
  · subst e84; exact law_c 84 lo hi N r lo2 hi2 M q n m h h2 hn hm 126 127 _ (by decide) q14_84 cmp_84 (lim_3 h h2 h31_84)
  by_cases e85 : op = 85
  · subst e85; exact law_c 85 lo hi N r lo2 hi2 M q n m h h2 hn hm 126 127 _ (by decide) q14_85 cmp_85 (lim_4 h h2 h31_85)
  by_cases e86 : op = 86
  · subst e86; exact law_c 86 lo hi N r lo2 hi2 M q n m h h2 hn hm 126 127 _ (by decide) q14_86 cmp_86 (lim_5 h h2 h31_86)
  by_cases e87 : op = 87
  · subst e87; exact law_c 87 lo hi N r lo2 hi2 M q n m h h2 hn hm 126 127 _ (by decide) q14_87 cmp_87 (lim_6 h h2 h31_87)
  by_cases e88 : op = 88
  · subst e88; exact law_c 88 lo hi N r lo2 hi2 M q n m h h2 hn hm 126 127 _ (by decide) q14_88 cmp_88 (lim_7 h h2 h31_88)
  by_cases e89 : op = 89
  · subst e89; exact law_c 89 lo hi N r lo2 hi2 M q n m h h2 hn hm 126 127 _ (by decide) q14_89 cmp_89 (lim_8 h h2 h31_89)
  by_cases e90 : op = 90
  · subst e90; exact law_c 90 lo hi N r lo2 hi2 M q n m h h2 hn hm 126 127 _ (by decide) q14_90 cmp_90 (lim_9 h h2 h31_90)
  have hp := q31_o op (by omega)
  by_cases e80 : op = 80
  · subst e80; exact law_u 80 lo hi N r lo2 hi2 M q n m h h2 hn hm hp U_80
  rcases cases op with h3 | h3 | h3
  · exact law_o op lo hi N r lo2 hi2 M q n m h h2 hn hm hp h3
  · exact law_u op lo hi N r lo2 hi2 M q n m h h2 hn hm hp h3
  · exact law_b op lo hi N r lo2 hi2 M q n m h h2 hn hm hp h3 (by omega)

set_option maxHeartbeats 4000000 in
theorem law_x (op a b N r c d M q n m : Int) (h : ¬ (rA a b N r = true ∧ rA c d M q = true)) : F3 [op, a, b, N, r, c, d, M, q, n, m] [] = some ([], [true]) := by
  refine Eq.trans (Fd_of (n := 11) (m := 0) (t := XTransLimit.t3) (C := Tab.fn a3) rfl rfl) ?_
  rw [XTransLimit.t3]
  refine st_0_1 (e3_10) (g := true) rfl (l := []) rfl (m := []) rfl (cl_t q10) fun b0 hb0 => ?_
  show T.den _ _ [op, a, b, N, r, c, d, M, q, n, m] [b0] = _
  refine st_ite (fun hc => ?_) (fun hc => ?_)
  · replace hc : (!b0) = true := hc
    have c1 := hc
    clear hc
    rw [hb0] at c1; cases c1
  · replace hc : (!b0) = false := hc
    have c2 := hc
    clear hc
    refine st_0_1 (e3_11) (g := true) rfl (l := [a, b, N, r]) rfl (m := []) rfl (cl_t (q11 a b N r)) fun b1 hb1 => ?_
    show T.den _ _ [op, a, b, N, r, c, d, M, q, n, m] [b0, b1] = _
    refine st_0_1 (e3_11) (g := b1) rfl (l := [c, d, M, q]) rfl (m := []) rfl (cl_b (q11 c d M q)) fun b2 hb2 => ?_
    show T.den _ _ [op, a, b, N, r, c, d, M, q, n, m] [b0, b1, b2] = _
    refine st_ite (fun hc => ?_) (fun hc => ?_)
    · replace hc : ((!b1) || (!b2)) = true := hc
      have c3 := hc
      clear hc
      refine st_ret ?_
      show some ([], [true]) = _
      rfl
    · replace hc : ((!b1) || (!b2)) = false := hc
      have c4 := hc
      clear hc
      exfalso; apply h; rw [hb2, hb1] at c4; revert c4; cases rA a b N r <;> cases rA c d M q <;> simp

theorem law (op a b N r c d M q n m : Int) (wop : (Lit.int .i64 op).wf = true) (wa : (Lit.int .u64 a).wf = true) (wb : (Lit.int .u64 b).wf = true) (wN : (Lit.int .i64 N).wf = true) (wr : (Lit.int .u64 r).wf = true) (wc : (Lit.int .u64 c).wf = true) (wd : (Lit.int .u64 d).wf = true) (wM : (Lit.int .i64 M).wf = true) (wq : (Lit.int .u64 q).wf = true) (wn : (Lit.int .u64 n).wf = true) (wm : (Lit.int .u64 m).wf = true) : F3 [op, a, b, N, r, c, d, M, q, n, m] [] = some ([], [true]) := by
  by_cases hR : rA a b N r = true ∧ rA c d M q = true
  · obtain ⟨h1, h2⟩ := hR
    have ia := wf_u64 wa
    have ib := wf_u64 wb
    have ic := wf_u64 wc
    have id := wf_u64 wd
    have in_ := wf_u64 wn
    have im := wf_u64 wm
    obtain ⟨k1, N, r, rfl, rfl, hN, hr, hrl⟩ := rA_true h1 (wf_u64 wr)
    obtain ⟨k2, M, q, rfl, rfl, hM, hq, hql⟩ := rA_true h2 (wf_u64 wq)
    obtain ⟨a, rfl⟩ := nats ia.1
    obtain ⟨b, rfl⟩ := nats ib.1
    obtain ⟨c, rfl⟩ := nats ic.1
    obtain ⟨d, rfl⟩ := nats id.1
    obtain ⟨n, rfl⟩ := nats in_.1
    obtain ⟨m, rfl⟩ := nats im.1
    exact law_nat op a b N r c d M q n m ⟨by omega, by omega, hN, hrl⟩ ⟨by omega, by omega, hM, hql⟩ (by omega) (by omega)
  · exact law_x op a b N r c d M q n m hR
end Go.Proofs.YtlnikilodakjmaaDoor.YTransLimit
