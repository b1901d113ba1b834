/-
  A quotient, and what is left: the plain law of NumDivides.
-/
import Derived.Test.YtghekmcdokgkkaaDoorXNumDivides
import Derived.Test.YtghekmcdokgkkaaDoorSn
namespace Go.Proofs.YtghekmcdokgkkaaDoor.YNumDivides
open Go.Proofs.YtghekmcdokgkkaaDoor.Sx Go.Proofs.YtghekmcdokgkkaaDoor.Sn Go.Proofs.YtghekmcdokgkkaaDoor.XNumDivides Go.Proofs.YtghekmcdokgkkaaDoor.ENumDivides
set_option linter.unusedSimpArgs false
set_option linter.unusedVariables false
theorem st_0_1 {C : Nat → Sx.Fn} {is : List Int} {bs : List Bool} {r : Option (List Int × List Bool)} {G : E} {f : Nat} {ii bb : List E} {k : Sx.T} {c0 : Bool} {F : Sx.Fn} {g : Bool} {l : List Int} {m : List Bool} (hC : C f = F) (hG : G.B is bs = g) (hl : ii.map (E.I is bs) = l) (hm : bb.map (E.B is bs) = m)
    (h : (bif g then F l m else some (List.replicate 0 0, List.replicate 1 false)) = some ([], [c0]))
    (hk : ∀ (y0 : Bool), y0 = c0 → k.den C (is ++ []) (bs ++ [y0]) = r) : (Sx.T.call G f ii bb 0 1 k).den C is bs = r := st_call _ _ (by rw [hC, hG, hl, hm]; exact h) rfl rfl (hk _ rfl)

theorem st_2_0 {C : Nat → Sx.Fn} {is : List Int} {bs : List Bool} {r : Option (List Int × List Bool)} {G : E} {f : Nat} {ii bb : List E} {k : Sx.T} {a0 a1 : Int} {F : Sx.Fn} {g : Bool} {l : List Int} {m : List Bool} (hC : C f = F) (hG : G.B is bs = g) (hl : ii.map (E.I is bs) = l) (hm : bb.map (E.B is bs) = m)
    (h : (bif g then F l m else some (List.replicate 2 0, List.replicate 0 false)) = some ([a0, a1], []))
    (hk : ∀ (x0 x1 : Int), x0 = a0 → x1 = a1 → k.den C (is ++ [x0, x1]) (bs ++ []) = r) : (Sx.T.call G f ii bb 2 0 k).den C is bs = r := st_call _ _ (by rw [hC, hG, hl, hm]; exact h) rfl rfl (hk _ _ rfl rfl)

theorem st_2_1 {C : Nat → Sx.Fn} {is : List Int} {bs : List Bool} {r : Option (List Int × List Bool)} {G : E} {f : Nat} {ii bb : List E} {k : Sx.T} {a0 a1 : Int} {c0 : Bool} {F : Sx.Fn} {g : Bool} {l : List Int} {m : List Bool} (hC : C f = F) (hG : G.B is bs = g) (hl : ii.map (E.I is bs) = l) (hm : bb.map (E.B is bs) = m)
    (h : (bif g then F l m else some (List.replicate 2 0, List.replicate 1 false)) = some ([a0, a1], [c0]))
    (hk : ∀ (x0 x1 : Int) (y0 : Bool), x0 = a0 → x1 = a1 → y0 = c0 → k.den C (is ++ [x0, x1]) (bs ++ [y0]) = r) : (Sx.T.call G f ii bb 2 1 k).den C is bs = r := st_call _ _ (by rw [hC, hG, hl, hm]; exact h) rfl rfl (hk _ _ _ rfl rfl rfl)
theorem e10_17 : Tab.fn a10 17 = F17 := Tab.fn_hd
theorem e10_16 : Tab.fn a10 16 = F16 := ((Tab.fn_tl rfl).trans Tab.fn_hd)
theorem e10_18 : Tab.fn a10 18 = F18 := ((Tab.fn_tl rfl).trans ((Tab.fn_tl rfl).trans Tab.fn_hd))
theorem e18_36 : Tab.fn a18 36 = F36 := Tab.fn_hd

theorem rem_ge (b : Int) (w : Int) (h : 0 ≤ b) : (decide (arI .rem .u64 b w ≥ 0)) = true := by
  rw [arRem _ _ h, decide_eq_true_eq]
  by_cases hw : w = 0
  · subst hw; rw [Int.emod_zero]; exact h
  · exact Int.emod_nonneg _ hw

theorem sub_ge (x y : Int) : (decide (arI .sub .u64 x y ≥ 0)) = true := by rw [arSub, decide_eq_true_eq]; omega

theorem q16 (b : Bool) : F16 [] [b] = some ([bif b then 1 else 0], []) := by cases b <;> rfl

theorem u32_ge (x : Int) : 0 ≤ IntKind.wrap .u64 (IntKind.wrap .u32 x) := by rw [wrap_u64]; omega
theorem shlN (a s : Nat) (hs : s ≤ 64) : arI .shl .u64 (a : Int) (s : Int) = ((a * 2 ^ s % 2 ^ 64 : Nat) : Int) := by
  rw [arShl _ _ (by omega) (by omega), Int.toNat_natCast, Int.natCast_emod, Int.natCast_mul, Int.natCast_pow]; rfl
theorem shrN (a s : Nat) (hs : s ≤ 64) : arI .shr .u64 (a : Int) (s : Int) = ((a / 2 ^ s : Nat) : Int) := by
  rw [arShr _ _ (by omega) (by omega), Int.toNat_natCast, Int.natCast_ediv, Int.natCast_pow]; rfl
theorem remN (a w : Nat) : arI .rem .u64 (a : Int) (w : Int) = ((a % w : Nat) : Int) := by
  rw [arRem _ _ (by omega), Int.natCast_emod]
theorem subN (a b : Nat) (h : b ≤ a) (ha : a < 2 ^ 64) : arI .sub .u64 (a : Int) (b : Int) = ((a - b : Nat) : Int) := by
  rw [arSub]; omega
theorem shl_lt (a s : Nat) : a * 2 ^ s % 2 ^ 64 < 2 ^ 64 := Nat.mod_lt _ (by decide)
theorem shr_lt (a s : Nat) (h : a < 2 ^ 64) : a / 2 ^ s < 2 ^ 64 := Nat.lt_of_le_of_lt (Nat.div_le_self _ _) h
/-! Turned left by s, of 64 bits. -/
def rl (a s : Nat) : Nat := (a % 2 ^ (64 - s)) * 2 ^ s + a / 2 ^ (64 - s)
theorem rl_or (a s : Nat) (ha : a < 2 ^ 64) (hs : s ≤ 64) : (a * 2 ^ s % 2 ^ 64) ||| (a / 2 ^ (64 - s)) = rl a s := by
  have e : 2 ^ 64 = 2 ^ (64 - s) * 2 ^ s := by rw [← Nat.pow_add, Nat.sub_add_cancel hs]
  have h : a / 2 ^ (64 - s) < 2 ^ s := Nat.div_lt_of_lt_mul (by rw [← e]; exact ha)
  rw [e, Nat.mul_mod_mul_right, Nat.mul_comm _ (2 ^ s), ← Nat.two_pow_add_eq_or_of_lt h, Nat.mul_comm (2 ^ s)]
  rfl
theorem rl_lt (a s : Nat) (ha : a < 2 ^ 64) (hs : s ≤ 64) : rl a s < 2 ^ 64 := by
  rw [← rl_or a s ha hs]
  exact Nat.or_lt_two_pow (shl_lt a s) (shr_lt a _ ha)
theorem rl_back (a s : Nat) (ha : a < 2 ^ 64) (hs : s ≤ 64) : rl (rl a s) (64 - s) = a := by
  have e : 2 ^ 64 = 2 ^ (64 - s) * 2 ^ s := by rw [← Nat.pow_add, Nat.sub_add_cancel hs]
  have h : a / 2 ^ (64 - s) < 2 ^ s := Nat.div_lt_of_lt_mul (by rw [← e]; exact ha)
  unfold rl
  rw [show 64 - (64 - s) = s from by omega, Nat.mul_comm _ (2 ^ s), Nat.mul_add_mod, Nat.mod_eq_of_lt h, Nat.mul_add_div (Nat.two_pow_pos s), Nat.div_eq_of_lt h, Nat.add_zero, Nat.mul_comm, Nat.add_comm, Nat.mod_add_div]
theorem nats {a : Int} (h : 0 ≤ a) : ∃ n : Nat, a = n := Int.eq_ofNat_of_zero_le h


def dt (b x y l : Int) : Int := if b = 0 then 6 else if x = l ∧ y = -1 then 7 else 0
def dq (b x y l : Int) : Int := if b = 0 then 0 else if x = l ∧ y = -1 then 0 else IntKind.wrap .u64 (arI .quo .i64 x y)
def dz (b : Int) : Int := if b = 0 then 6 else 0
def uq (a b : Int) : Int := if b = 0 then 0 else arI .quo .u64 a b
def dr (b x y : Int) : Int := if b = 0 then 0 else if y = -1 then 0 else IntKind.wrap .u64 (arI .rem .i64 x y)
def ur (a b : Int) : Int := if b = 0 then 0 else arI .rem .u64 a b
theorem i32_ne (b : Int) (h : 0 ≤ b) (h1 : b < 4294967296) : b ≠ 0 → IntKind.wrap .i64 (IntKind.wrap .i32 b) ≠ 0 := by
  simp only [IntKind.wrap, IntKind.bits, IntKind.signed]; omega
theorem i64_ne (b : Int) (h : 0 ≤ b) (h1 : b < 18446744073709551616) : b ≠ 0 → IntKind.wrap .i64 b ≠ 0 := by
  simp only [IntKind.wrap, IntKind.bits, IntKind.signed]; omega
theorem u32_lt (x : Int) : IntKind.wrap .u64 (IntKind.wrap .u32 x) < 4294967296 := by
  have h : IntKind.u32.wrap x = x % 4294967296 := by simp [IntKind.wrap, IntKind.bits, IntKind.signed]
  rw [wrap_u64, h]; omega

theorem q36_0 (a b x y l : Int) (hy : b ≠ 0 → y ≠ 0) : F36 [(0 : Int), a, b, x, y, l] [] = some ([dq b x y l, dt b x y l], []) := by
  refine Eq.trans (Fd_of (n := 6) (m := 0) (t := t36) (C := Tab.fn a36) rfl rfl) ?_
  rw [t36]
  refine st_ite (fun hc => ?_) (fun hc => ?_)
  · replace hc : (b == 0) = true := hc
    have c1 := hc
    clear hc
    refine st_ret ?_
    show some ([0, 6], []) = _
    unfold dq dt
    refine r2 ?_ ?_ <;> simp_all
  · replace hc : (b == 0) = false := hc
    have c2 := hc
    clear hc
    refine st_lb fun b0 hb0 => ?_
    replace hb0 : b0 = (((0 : Int) == 0) && (x == l)) := hb0
    show T.den _ _ [(0 : Int), a, b, x, y, l] [b0] = _
    refine st_ite (fun hc => ?_) (fun hc => ?_)
    · replace hc : (b0 && (y == (-1))) = true := hc
      have c3 := hc
      clear hc
      refine st_ret ?_
      show some ([0, 7], []) = _
      unfold dq dt
      refine r2 ?_ ?_ <;> simp_all
    · replace hc : (b0 && (y == (-1))) = false := hc
      have c4 := hc
      clear hc
      refine st_itt (show ((0 : Int) == 0) = true from by kernel_rfl) ?_
      refine st_rq (show (y != 0) = true from ?_) ?_
      · simp_all
      refine st_ret ?_
      show some ([(IntKind.wrap .u64 (arI .quo .i64 x y)), 0], []) = _
      unfold dq dt
      refine r2 ?_ ?_ <;> simp_all

theorem q36_1 (a b x y l : Int) (hy : b ≠ 0 → y ≠ 0) : F36 [(1 : Int), a, b, x, y, l] [] = some ([uq a b, dz b], []) := by
  refine Eq.trans (Fd_of (n := 6) (m := 0) (t := t36) (C := Tab.fn a36) rfl rfl) ?_
  rw [t36]
  refine st_ite (fun hc => ?_) (fun hc => ?_)
  · replace hc : (b == 0) = true := hc
    have c1 := hc
    clear hc
    refine st_ret ?_
    show some ([0, 6], []) = _
    unfold uq dz
    refine r2 ?_ ?_ <;> simp_all
  · replace hc : (b == 0) = false := hc
    have c2 := hc
    clear hc
    refine st_lbc (show (((1 : Int) == 0) && (x == l)) = false from by kernel_rfl) ?_
    show T.den _ _ [(1 : Int), a, b, x, y, l] [false] = _
    refine st_itf (show (false && (y == (-1))) = false from by kernel_rfl) ?_
    refine st_itf (show ((1 : Int) == 0) = false from by kernel_rfl) ?_
    refine st_itt (show ((1 : Int) == 1) = true from by kernel_rfl) ?_
    refine st_rq (show (b != 0) = true from ?_) ?_
    · simp_all
    refine st_ret ?_
    show some ([(arI .quo .u64 a b), 0], []) = _
    unfold uq dz
    refine r2 ?_ ?_ <;> simp_all

theorem q36_2 (a b x y l : Int) (hy : b ≠ 0 → y ≠ 0) : F36 [(2 : Int), a, b, x, y, l] [] = some ([dr b x y, dz b], []) := by
  refine Eq.trans (Fd_of (n := 6) (m := 0) (t := t36) (C := Tab.fn a36) rfl rfl) ?_
  rw [t36]
  refine st_ite (fun hc => ?_) (fun hc => ?_)
  · replace hc : (b == 0) = true := hc
    have c1 := hc
    clear hc
    refine st_ret ?_
    show some ([0, 6], []) = _
    unfold dr dz
    refine r2 ?_ ?_ <;> simp_all
  · replace hc : (b == 0) = false := hc
    have c2 := hc
    clear hc
    refine st_lbc (show (((2 : Int) == 0) && (x == l)) = false from by kernel_rfl) ?_
    show T.den _ _ [(2 : Int), a, b, x, y, l] [false] = _
    refine st_itf (show (false && (y == (-1))) = false from by kernel_rfl) ?_
    refine st_itf (show ((2 : Int) == 0) = false from by kernel_rfl) ?_
    refine st_itf (show ((2 : Int) == 1) = false from by kernel_rfl) ?_
    refine st_lb fun b1 hb1 => ?_
    replace hb1 : b1 = (((2 : Int) == 2) && (y == (-1))) := hb1
    show T.den _ _ [(2 : Int), a, b, x, y, l] [false, b1] = _
    refine st_ite (fun hc => ?_) (fun hc => ?_)
    · replace hc : b1 = true := hc
      have c3 := hc
      clear hc
      refine st_ret ?_
      show some ([0, 0], []) = _
      unfold dr dz
      refine r2 ?_ ?_ <;> simp_all
    · replace hc : b1 = false := hc
      have c4 := hc
      clear hc
      refine st_itt (show ((2 : Int) == 2) = true from by kernel_rfl) ?_
      refine st_rq (show (y != 0) = true from ?_) ?_
      · simp_all
      refine st_ret ?_
      show some ([(IntKind.wrap .u64 (arI .rem .i64 x y)), 0], []) = _
      unfold dr dz
      refine r2 ?_ ?_ <;> simp_all

theorem q36_3 (a b x y l : Int) (hy : b ≠ 0 → y ≠ 0) : F36 [(3 : Int), a, b, x, y, l] [] = some ([ur a b, dz b], []) := by
  refine Eq.trans (Fd_of (n := 6) (m := 0) (t := t36) (C := Tab.fn a36) rfl rfl) ?_
  rw [t36]
  refine st_ite (fun hc => ?_) (fun hc => ?_)
  · replace hc : (b == 0) = true := hc
    have c1 := hc
    clear hc
    refine st_ret ?_
    show some ([0, 6], []) = _
    unfold ur dz
    refine r2 ?_ ?_ <;> simp_all
  · replace hc : (b == 0) = false := hc
    have c2 := hc
    clear hc
    refine st_lbc (show (((3 : Int) == 0) && (x == l)) = false from by kernel_rfl) ?_
    show T.den _ _ [(3 : Int), a, b, x, y, l] [false] = _
    refine st_itf (show (false && (y == (-1))) = false from by kernel_rfl) ?_
    refine st_itf (show ((3 : Int) == 0) = false from by kernel_rfl) ?_
    refine st_itf (show ((3 : Int) == 1) = false from by kernel_rfl) ?_
    refine st_lbc (show (((3 : Int) == 2) && (y == (-1))) = false from by kernel_rfl) ?_
    show T.den _ _ [(3 : Int), a, b, x, y, l] [false, false] = _
    refine st_itf (show false = false from by kernel_rfl) ?_
    refine st_itf (show ((3 : Int) == 2) = false from by kernel_rfl) ?_
    refine st_rq (show (b != 0) = true from ?_) ?_
    · simp_all
    refine st_ret ?_
    show some ([(arI .rem .u64 a b), 0], []) = _
    unfold ur dz
    refine r2 ?_ ?_ <;> simp_all

set_option maxHeartbeats 4000000 in
theorem q18_3_32 (a b : Int) (hb : 0 ≤ b) (hb2 : b < 4294967296) : F18 [(3 : Int), a, b, (32 : Int)] [] = some ([(dq b (IntKind.wrap .i64 (IntKind.wrap .i32 a)) (IntKind.wrap .i64 (IntKind.wrap .i32 b)) (-2147483648)), (dt b (IntKind.wrap .i64 (IntKind.wrap .i32 a)) (IntKind.wrap .i64 (IntKind.wrap .i32 b)) (-2147483648))], []) := by
  refine Eq.trans (Fd_of (n := 4) (m := 0) (t := t18) (C := Tab.fn a18) rfl rfl) ?_
  rw [t18]
  refine st_itt (show ((32 : Int) == 32) = true from by kernel_rfl) ?_
  refine st_rq (show ((32 : Int) != 0) = true from by kernel_rfl) ?_
  refine st_itf (show ((3 : Int) == 0) = false from by kernel_rfl) ?_
  refine st_itf (show ((3 : Int) == 1) = false from by kernel_rfl) ?_
  refine st_itf (show ((3 : Int) == 2) = false from by kernel_rfl) ?_
  refine st_itt (show ((3 : Int) == 3) = true from by kernel_rfl) ?_
  refine st_itt (show ((3 : Int) == 3) = true from by kernel_rfl) ?_
  refine st_2_0 (e18_36) (g := true) rfl (l := [0, a, b, (IntKind.wrap .i64 (IntKind.wrap .i32 a)), (IntKind.wrap .i64 (IntKind.wrap .i32 b)), (-2147483648)]) rfl (m := []) rfl (cl_t (q36_0 (a) (b) ((IntKind.wrap .i64 (IntKind.wrap .i32 a))) ((IntKind.wrap .i64 (IntKind.wrap .i32 b))) ((-2147483648)) (i32_ne b hb hb2))) fun i4 i5 hi4 hi5 => ?_
  show T.den _ _ [(3 : Int), a, b, (32 : Int), i4, i5] [] = _
  refine st_ret ?_
  show some ([i4, i5], []) = _
  subst hi4 hi5
  rfl

set_option maxHeartbeats 4000000 in
theorem q10_109 (a b : Int) : F10 [(109 : Int), a, b] [] = some ([(IntKind.wrap .u64 (IntKind.wrap .u32 (dq (IntKind.wrap .u64 (IntKind.wrap .u32 b)) (IntKind.wrap .i64 (IntKind.wrap .i32 (IntKind.wrap .u64 (IntKind.wrap .u32 a)))) (IntKind.wrap .i64 (IntKind.wrap .i32 (IntKind.wrap .u64 (IntKind.wrap .u32 b)))) (-2147483648)))), (dt (IntKind.wrap .u64 (IntKind.wrap .u32 b)) (IntKind.wrap .i64 (IntKind.wrap .i32 (IntKind.wrap .u64 (IntKind.wrap .u32 a)))) (IntKind.wrap .i64 (IntKind.wrap .i32 (IntKind.wrap .u64 (IntKind.wrap .u32 b)))) (-2147483648))], [true]) := by
  refine Eq.trans (Fd_of (n := 3) (m := 0) (t := t10) (C := Tab.fn a10) rfl rfl) ?_
  rw [t10]
  refine st_lbc (show ((decide ((109 : Int) ≥ 70)) && (decide ((109 : Int) ≤ 79))) = false from by kernel_rfl) ?_
  show T.den _ _ [(109 : Int), a, b] [false] = _
  refine st_itf (show false = false from by kernel_rfl) ?_
  refine st_lbc (show ((decide ((109 : Int) ≥ 81)) && (decide ((109 : Int) ≤ 90))) = false from by kernel_rfl) ?_
  show T.den _ _ [(109 : Int), a, b] [false, false] = _
  refine st_itf (show false = false from by kernel_rfl) ?_
  refine st_lbc (show ((decide ((109 : Int) ≥ 106)) && (decide ((109 : Int) ≤ 120))) = true from by kernel_rfl) ?_
  show T.den _ _ [(109 : Int), a, b] [false, false, true] = _
  refine st_itt (show true = true from by kernel_rfl) ?_
  refine st_2_0 (e10_18) (g := true) rfl (l := [3, (IntKind.wrap .u64 (IntKind.wrap .u32 a)), (IntKind.wrap .u64 (IntKind.wrap .u32 b)), 32]) rfl (m := []) rfl (cl_t (q18_3_32 (IntKind.wrap .u64 (IntKind.wrap .u32 a)) (IntKind.wrap .u64 (IntKind.wrap .u32 b)) (u32_ge _) (u32_lt _))) fun i3 i4 hi3 hi4 => ?_
  show T.den _ _ [(109 : Int), a, b, i3, i4] [false, false, true] = _
  refine st_ret ?_
  show some ([(IntKind.wrap .u64 (IntKind.wrap .u32 i3)), i4], [true]) = _
  subst hi3 hi4
  rfl

set_option maxHeartbeats 4000000 in
theorem q18_5_32 (a b : Int) (hb : 0 ≤ b) (hb2 : b < 4294967296) : F18 [(5 : Int), a, b, (32 : Int)] [] = some ([(dr b (IntKind.wrap .i64 (IntKind.wrap .i32 a)) (IntKind.wrap .i64 (IntKind.wrap .i32 b))), (dz b)], []) := by
  refine Eq.trans (Fd_of (n := 4) (m := 0) (t := t18) (C := Tab.fn a18) rfl rfl) ?_
  rw [t18]
  refine st_itt (show ((32 : Int) == 32) = true from by kernel_rfl) ?_
  refine st_rq (show ((32 : Int) != 0) = true from by kernel_rfl) ?_
  refine st_itf (show ((5 : Int) == 0) = false from by kernel_rfl) ?_
  refine st_itf (show ((5 : Int) == 1) = false from by kernel_rfl) ?_
  refine st_itf (show ((5 : Int) == 2) = false from by kernel_rfl) ?_
  refine st_itf (show ((5 : Int) == 3) = false from by kernel_rfl) ?_
  refine st_itf (show ((5 : Int) == 4) = false from by kernel_rfl) ?_
  refine st_itt (show ((5 : Int) == 5) = true from by kernel_rfl) ?_
  refine st_itt (show ((5 : Int) == 5) = true from by kernel_rfl) ?_
  refine st_2_0 (e18_36) (g := true) rfl (l := [2, a, b, (IntKind.wrap .i64 (IntKind.wrap .i32 a)), (IntKind.wrap .i64 (IntKind.wrap .i32 b)), (-2147483648)]) rfl (m := []) rfl (cl_t (q36_2 (a) (b) ((IntKind.wrap .i64 (IntKind.wrap .i32 a))) ((IntKind.wrap .i64 (IntKind.wrap .i32 b))) ((-2147483648)) (i32_ne b hb hb2))) fun i4 i5 hi4 hi5 => ?_
  show T.den _ _ [(5 : Int), a, b, (32 : Int), i4, i5] [] = _
  refine st_ret ?_
  show some ([i4, i5], []) = _
  subst hi4 hi5
  rfl

set_option maxHeartbeats 4000000 in
theorem q10_111 (a b : Int) : F10 [(111 : Int), a, b] [] = some ([(IntKind.wrap .u64 (IntKind.wrap .u32 (dr (IntKind.wrap .u64 (IntKind.wrap .u32 b)) (IntKind.wrap .i64 (IntKind.wrap .i32 (IntKind.wrap .u64 (IntKind.wrap .u32 a)))) (IntKind.wrap .i64 (IntKind.wrap .i32 (IntKind.wrap .u64 (IntKind.wrap .u32 b))))))), (dz (IntKind.wrap .u64 (IntKind.wrap .u32 b)))], [true]) := by
  refine Eq.trans (Fd_of (n := 3) (m := 0) (t := t10) (C := Tab.fn a10) rfl rfl) ?_
  rw [t10]
  refine st_lbc (show ((decide ((111 : Int) ≥ 70)) && (decide ((111 : Int) ≤ 79))) = false from by kernel_rfl) ?_
  show T.den _ _ [(111 : Int), a, b] [false] = _
  refine st_itf (show false = false from by kernel_rfl) ?_
  refine st_lbc (show ((decide ((111 : Int) ≥ 81)) && (decide ((111 : Int) ≤ 90))) = false from by kernel_rfl) ?_
  show T.den _ _ [(111 : Int), a, b] [false, false] = _
  refine st_itf (show false = false from by kernel_rfl) ?_
  refine st_lbc (show ((decide ((111 : Int) ≥ 106)) && (decide ((111 : Int) ≤ 120))) = true from by kernel_rfl) ?_
  show T.den _ _ [(111 : Int), a, b] [false, false, true] = _
  refine st_itt (show true = true from by kernel_rfl) ?_
  refine st_2_0 (e10_18) (g := true) rfl (l := [5, (IntKind.wrap .u64 (IntKind.wrap .u32 a)), (IntKind.wrap .u64 (IntKind.wrap .u32 b)), 32]) rfl (m := []) rfl (cl_t (q18_5_32 (IntKind.wrap .u64 (IntKind.wrap .u32 a)) (IntKind.wrap .u64 (IntKind.wrap .u32 b)) (u32_ge _) (u32_lt _))) fun i3 i4 hi3 hi4 => ?_
  show T.den _ _ [(111 : Int), a, b, i3, i4] [false, false, true] = _
  refine st_ret ?_
  show some ([(IntKind.wrap .u64 (IntKind.wrap .u32 i3)), i4], [true]) = _
  subst hi3 hi4
  rfl

set_option maxHeartbeats 4000000 in
theorem q18_4_32 (a b : Int) (hb : 0 ≤ b) (hb2 : b < 4294967296) : F18 [(4 : Int), a, b, (32 : Int)] [] = some ([(uq a b), (dz b)], []) := by
  refine Eq.trans (Fd_of (n := 4) (m := 0) (t := t18) (C := Tab.fn a18) rfl rfl) ?_
  rw [t18]
  refine st_itt (show ((32 : Int) == 32) = true from by kernel_rfl) ?_
  refine st_rq (show ((32 : Int) != 0) = true from by kernel_rfl) ?_
  refine st_itf (show ((4 : Int) == 0) = false from by kernel_rfl) ?_
  refine st_itf (show ((4 : Int) == 1) = false from by kernel_rfl) ?_
  refine st_itf (show ((4 : Int) == 2) = false from by kernel_rfl) ?_
  refine st_itf (show ((4 : Int) == 3) = false from by kernel_rfl) ?_
  refine st_itt (show ((4 : Int) == 4) = true from by kernel_rfl) ?_
  refine st_itt (show ((4 : Int) == 4) = true from by kernel_rfl) ?_
  refine st_2_0 (e18_36) (g := true) rfl (l := [1, a, b, (IntKind.wrap .i64 (IntKind.wrap .i32 a)), (IntKind.wrap .i64 (IntKind.wrap .i32 b)), (-2147483648)]) rfl (m := []) rfl (cl_t (q36_1 (a) (b) ((IntKind.wrap .i64 (IntKind.wrap .i32 a))) ((IntKind.wrap .i64 (IntKind.wrap .i32 b))) ((-2147483648)) (i32_ne b hb hb2))) fun i4 i5 hi4 hi5 => ?_
  show T.den _ _ [(4 : Int), a, b, (32 : Int), i4, i5] [] = _
  refine st_ret ?_
  show some ([i4, i5], []) = _
  subst hi4 hi5
  rfl

set_option maxHeartbeats 4000000 in
theorem q10_110 (a b : Int) : F10 [(110 : Int), a, b] [] = some ([(IntKind.wrap .u64 (IntKind.wrap .u32 (uq (IntKind.wrap .u64 (IntKind.wrap .u32 a)) (IntKind.wrap .u64 (IntKind.wrap .u32 b))))), (dz (IntKind.wrap .u64 (IntKind.wrap .u32 b)))], [true]) := by
  refine Eq.trans (Fd_of (n := 3) (m := 0) (t := t10) (C := Tab.fn a10) rfl rfl) ?_
  rw [t10]
  refine st_lbc (show ((decide ((110 : Int) ≥ 70)) && (decide ((110 : Int) ≤ 79))) = false from by kernel_rfl) ?_
  show T.den _ _ [(110 : Int), a, b] [false] = _
  refine st_itf (show false = false from by kernel_rfl) ?_
  refine st_lbc (show ((decide ((110 : Int) ≥ 81)) && (decide ((110 : Int) ≤ 90))) = false from by kernel_rfl) ?_
  show T.den _ _ [(110 : Int), a, b] [false, false] = _
  refine st_itf (show false = false from by kernel_rfl) ?_
  refine st_lbc (show ((decide ((110 : Int) ≥ 106)) && (decide ((110 : Int) ≤ 120))) = true from by kernel_rfl) ?_
  show T.den _ _ [(110 : Int), a, b] [false, false, true] = _
  refine st_itt (show true = true from by kernel_rfl) ?_
  refine st_2_0 (e10_18) (g := true) rfl (l := [4, (IntKind.wrap .u64 (IntKind.wrap .u32 a)), (IntKind.wrap .u64 (IntKind.wrap .u32 b)), 32]) rfl (m := []) rfl (cl_t (q18_4_32 (IntKind.wrap .u64 (IntKind.wrap .u32 a)) (IntKind.wrap .u64 (IntKind.wrap .u32 b)) (u32_ge _) (u32_lt _))) fun i3 i4 hi3 hi4 => ?_
  show T.den _ _ [(110 : Int), a, b, i3, i4] [false, false, true] = _
  refine st_ret ?_
  show some ([(IntKind.wrap .u64 (IntKind.wrap .u32 i3)), i4], [true]) = _
  subst hi3 hi4
  rfl

set_option maxHeartbeats 4000000 in
theorem q18_6_32 (a b : Int) (hb : 0 ≤ b) (hb2 : b < 4294967296) : F18 [(6 : Int), a, b, (32 : Int)] [] = some ([(ur a b), (dz b)], []) := by
  refine Eq.trans (Fd_of (n := 4) (m := 0) (t := t18) (C := Tab.fn a18) rfl rfl) ?_
  rw [t18]
  refine st_itt (show ((32 : Int) == 32) = true from by kernel_rfl) ?_
  refine st_rq (show ((32 : Int) != 0) = true from by kernel_rfl) ?_
  refine st_itf (show ((6 : Int) == 0) = false from by kernel_rfl) ?_
  refine st_itf (show ((6 : Int) == 1) = false from by kernel_rfl) ?_
  refine st_itf (show ((6 : Int) == 2) = false from by kernel_rfl) ?_
  refine st_itf (show ((6 : Int) == 3) = false from by kernel_rfl) ?_
  refine st_itf (show ((6 : Int) == 4) = false from by kernel_rfl) ?_
  refine st_itf (show ((6 : Int) == 5) = false from by kernel_rfl) ?_
  refine st_itt (show ((6 : Int) == 6) = true from by kernel_rfl) ?_
  refine st_2_0 (e18_36) (g := true) rfl (l := [3, a, b, (IntKind.wrap .i64 (IntKind.wrap .i32 a)), (IntKind.wrap .i64 (IntKind.wrap .i32 b)), (-2147483648)]) rfl (m := []) rfl (cl_t (q36_3 (a) (b) ((IntKind.wrap .i64 (IntKind.wrap .i32 a))) ((IntKind.wrap .i64 (IntKind.wrap .i32 b))) ((-2147483648)) (i32_ne b hb hb2))) fun i4 i5 hi4 hi5 => ?_
  show T.den _ _ [(6 : Int), a, b, (32 : Int), i4, i5] [] = _
  refine st_ret ?_
  show some ([i4, i5], []) = _
  subst hi4 hi5
  rfl

set_option maxHeartbeats 4000000 in
theorem q10_112 (a b : Int) : F10 [(112 : Int), a, b] [] = some ([(IntKind.wrap .u64 (IntKind.wrap .u32 (ur (IntKind.wrap .u64 (IntKind.wrap .u32 a)) (IntKind.wrap .u64 (IntKind.wrap .u32 b))))), (dz (IntKind.wrap .u64 (IntKind.wrap .u32 b)))], [true]) := by
  refine Eq.trans (Fd_of (n := 3) (m := 0) (t := t10) (C := Tab.fn a10) rfl rfl) ?_
  rw [t10]
  refine st_lbc (show ((decide ((112 : Int) ≥ 70)) && (decide ((112 : Int) ≤ 79))) = false from by kernel_rfl) ?_
  show T.den _ _ [(112 : Int), a, b] [false] = _
  refine st_itf (show false = false from by kernel_rfl) ?_
  refine st_lbc (show ((decide ((112 : Int) ≥ 81)) && (decide ((112 : Int) ≤ 90))) = false from by kernel_rfl) ?_
  show T.den _ _ [(112 : Int), a, b] [false, false] = _
  refine st_itf (show false = false from by kernel_rfl) ?_
  refine st_lbc (show ((decide ((112 : Int) ≥ 106)) && (decide ((112 : Int) ≤ 120))) = true from by kernel_rfl) ?_
  show T.den _ _ [(112 : Int), a, b] [false, false, true] = _
  refine st_itt (show true = true from by kernel_rfl) ?_
  refine st_2_0 (e10_18) (g := true) rfl (l := [6, (IntKind.wrap .u64 (IntKind.wrap .u32 a)), (IntKind.wrap .u64 (IntKind.wrap .u32 b)), 32]) rfl (m := []) rfl (cl_t (q18_6_32 (IntKind.wrap .u64 (IntKind.wrap .u32 a)) (IntKind.wrap .u64 (IntKind.wrap .u32 b)) (u32_ge _) (u32_lt _))) fun i3 i4 hi3 hi4 => ?_
  show T.den _ _ [(112 : Int), a, b, i3, i4] [false, false, true] = _
  refine st_ret ?_
  show some ([(IntKind.wrap .u64 (IntKind.wrap .u32 i3)), i4], [true]) = _
  subst hi3 hi4
  rfl

set_option maxHeartbeats 4000000 in
theorem q18_3_64 (a b : Int) (hb : 0 ≤ b) (hb2 : b < 18446744073709551616) : F18 [(3 : Int), a, b, (64 : Int)] [] = some ([(dq b (IntKind.wrap .i64 a) (IntKind.wrap .i64 b) (-9223372036854775808)), (dt b (IntKind.wrap .i64 a) (IntKind.wrap .i64 b) (-9223372036854775808))], []) := by
  refine Eq.trans (Fd_of (n := 4) (m := 0) (t := t18) (C := Tab.fn a18) rfl rfl) ?_
  rw [t18]
  refine st_itf (show ((64 : Int) == 32) = false from by kernel_rfl) ?_
  refine st_rq (show ((64 : Int) != 0) = true from by kernel_rfl) ?_
  refine st_itf (show ((3 : Int) == 0) = false from by kernel_rfl) ?_
  refine st_itf (show ((3 : Int) == 1) = false from by kernel_rfl) ?_
  refine st_itf (show ((3 : Int) == 2) = false from by kernel_rfl) ?_
  refine st_itt (show ((3 : Int) == 3) = true from by kernel_rfl) ?_
  refine st_itt (show ((3 : Int) == 3) = true from by kernel_rfl) ?_
  refine st_2_0 (e18_36) (g := true) rfl (l := [0, a, b, (IntKind.wrap .i64 a), (IntKind.wrap .i64 b), (-9223372036854775808)]) rfl (m := []) rfl (cl_t (q36_0 (a) (b) ((IntKind.wrap .i64 a)) ((IntKind.wrap .i64 b)) ((-9223372036854775808)) (i64_ne b hb hb2))) fun i4 i5 hi4 hi5 => ?_
  show T.den _ _ [(3 : Int), a, b, (64 : Int), i4, i5] [] = _
  refine st_ret ?_
  show some ([i4, i5], []) = _
  subst hi4 hi5
  rfl

set_option maxHeartbeats 4000000 in
theorem q10_127 (a b : Int) (hb : 0 ≤ b) (hb2 : b < 18446744073709551616) : F10 [(127 : Int), a, b] [] = some ([(dq b (IntKind.wrap .i64 a) (IntKind.wrap .i64 b) (-9223372036854775808)), (dt b (IntKind.wrap .i64 a) (IntKind.wrap .i64 b) (-9223372036854775808))], [true]) := by
  refine Eq.trans (Fd_of (n := 3) (m := 0) (t := t10) (C := Tab.fn a10) rfl rfl) ?_
  rw [t10]
  refine st_lbc (show ((decide ((127 : Int) ≥ 70)) && (decide ((127 : Int) ≤ 79))) = false from by kernel_rfl) ?_
  show T.den _ _ [(127 : Int), a, b] [false] = _
  refine st_itf (show false = false from by kernel_rfl) ?_
  refine st_lbc (show ((decide ((127 : Int) ≥ 81)) && (decide ((127 : Int) ≤ 90))) = false from by kernel_rfl) ?_
  show T.den _ _ [(127 : Int), a, b] [false, false] = _
  refine st_itf (show false = false from by kernel_rfl) ?_
  refine st_lbc (show ((decide ((127 : Int) ≥ 106)) && (decide ((127 : Int) ≤ 120))) = false from by kernel_rfl) ?_
  show T.den _ _ [(127 : Int), a, b] [false, false, false] = _
  refine st_itf (show false = false from by kernel_rfl) ?_
  refine st_lbc (show ((decide ((127 : Int) ≥ 124)) && (decide ((127 : Int) ≤ 138))) = true from by kernel_rfl) ?_
  show T.den _ _ [(127 : Int), a, b] [false, false, false, true] = _
  refine st_itt (show true = true from by kernel_rfl) ?_
  refine st_2_0 (e10_18) (g := true) rfl (l := [3, a, b, 64]) rfl (m := []) rfl (cl_t (q18_3_64 a b hb hb2)) fun i3 i4 hi3 hi4 => ?_
  show T.den _ _ [(127 : Int), a, b, i3, i4] [false, false, false, true] = _
  refine st_ret ?_
  show some ([i3, i4], [true]) = _
  subst hi3 hi4
  rfl

set_option maxHeartbeats 4000000 in
theorem q18_5_64 (a b : Int) (hb : 0 ≤ b) (hb2 : b < 18446744073709551616) : F18 [(5 : Int), a, b, (64 : Int)] [] = some ([(dr b (IntKind.wrap .i64 a) (IntKind.wrap .i64 b)), (dz b)], []) := by
  refine Eq.trans (Fd_of (n := 4) (m := 0) (t := t18) (C := Tab.fn a18) rfl rfl) ?_
  rw [t18]
  refine st_itf (show ((64 : Int) == 32) = false from by kernel_rfl) ?_
  refine st_rq (show ((64 : Int) != 0) = true from by kernel_rfl) ?_
  refine st_itf (show ((5 : Int) == 0) = false from by kernel_rfl) ?_
  refine st_itf (show ((5 : Int) == 1) = false from by kernel_rfl) ?_
  refine st_itf (show ((5 : Int) == 2) = false from by kernel_rfl) ?_
  refine st_itf (show ((5 : Int) == 3) = false from by kernel_rfl) ?_
  refine st_itf (show ((5 : Int) == 4) = false from by kernel_rfl) ?_
  refine st_itt (show ((5 : Int) == 5) = true from by kernel_rfl) ?_
  refine st_itt (show ((5 : Int) == 5) = true from by kernel_rfl) ?_
  refine st_2_0 (e18_36) (g := true) rfl (l := [2, a, b, (IntKind.wrap .i64 a), (IntKind.wrap .i64 b), (-9223372036854775808)]) rfl (m := []) rfl (cl_t (q36_2 (a) (b) ((IntKind.wrap .i64 a)) ((IntKind.wrap .i64 b)) ((-9223372036854775808)) (i64_ne b hb hb2))) fun i4 i5 hi4 hi5 => ?_
  show T.den _ _ [(5 : Int), a, b, (64 : Int), i4, i5] [] = _
  refine st_ret ?_
  show some ([i4, i5], []) = _
  subst hi4 hi5
  rfl

set_option maxHeartbeats 4000000 in
theorem q10_129 (a b : Int) (hb : 0 ≤ b) (hb2 : b < 18446744073709551616) : F10 [(129 : Int), a, b] [] = some ([(dr b (IntKind.wrap .i64 a) (IntKind.wrap .i64 b)), (dz b)], [true]) := by
  refine Eq.trans (Fd_of (n := 3) (m := 0) (t := t10) (C := Tab.fn a10) rfl rfl) ?_
  rw [t10]
  refine st_lbc (show ((decide ((129 : Int) ≥ 70)) && (decide ((129 : Int) ≤ 79))) = false from by kernel_rfl) ?_
  show T.den _ _ [(129 : Int), a, b] [false] = _
  refine st_itf (show false = false from by kernel_rfl) ?_
  refine st_lbc (show ((decide ((129 : Int) ≥ 81)) && (decide ((129 : Int) ≤ 90))) = false from by kernel_rfl) ?_
  show T.den _ _ [(129 : Int), a, b] [false, false] = _
  refine st_itf (show false = false from by kernel_rfl) ?_
  refine st_lbc (show ((decide ((129 : Int) ≥ 106)) && (decide ((129 : Int) ≤ 120))) = false from by kernel_rfl) ?_
  show T.den _ _ [(129 : Int), a, b] [false, false, false] = _
  refine st_itf (show false = false from by kernel_rfl) ?_
  refine st_lbc (show ((decide ((129 : Int) ≥ 124)) && (decide ((129 : Int) ≤ 138))) = true from by kernel_rfl) ?_
  show T.den _ _ [(129 : Int), a, b] [false, false, false, true] = _
  refine st_itt (show true = true from by kernel_rfl) ?_
  refine st_2_0 (e10_18) (g := true) rfl (l := [5, a, b, 64]) rfl (m := []) rfl (cl_t (q18_5_64 a b hb hb2)) fun i3 i4 hi3 hi4 => ?_
  show T.den _ _ [(129 : Int), a, b, i3, i4] [false, false, false, true] = _
  refine st_ret ?_
  show some ([i3, i4], [true]) = _
  subst hi3 hi4
  rfl

set_option maxHeartbeats 4000000 in
theorem q18_4_64 (a b : Int) (hb : 0 ≤ b) (hb2 : b < 18446744073709551616) : F18 [(4 : Int), a, b, (64 : Int)] [] = some ([(uq a b), (dz b)], []) := by
  refine Eq.trans (Fd_of (n := 4) (m := 0) (t := t18) (C := Tab.fn a18) rfl rfl) ?_
  rw [t18]
  refine st_itf (show ((64 : Int) == 32) = false from by kernel_rfl) ?_
  refine st_rq (show ((64 : Int) != 0) = true from by kernel_rfl) ?_
  refine st_itf (show ((4 : Int) == 0) = false from by kernel_rfl) ?_
  refine st_itf (show ((4 : Int) == 1) = false from by kernel_rfl) ?_
  refine st_itf (show ((4 : Int) == 2) = false from by kernel_rfl) ?_
  refine st_itf (show ((4 : Int) == 3) = false from by kernel_rfl) ?_
  refine st_itt (show ((4 : Int) == 4) = true from by kernel_rfl) ?_
  refine st_itt (show ((4 : Int) == 4) = true from by kernel_rfl) ?_
  refine st_2_0 (e18_36) (g := true) rfl (l := [1, a, b, (IntKind.wrap .i64 a), (IntKind.wrap .i64 b), (-9223372036854775808)]) rfl (m := []) rfl (cl_t (q36_1 (a) (b) ((IntKind.wrap .i64 a)) ((IntKind.wrap .i64 b)) ((-9223372036854775808)) (i64_ne b hb hb2))) fun i4 i5 hi4 hi5 => ?_
  show T.den _ _ [(4 : Int), a, b, (64 : Int), i4, i5] [] = _
  refine st_ret ?_
  show some ([i4, i5], []) = _
  subst hi4 hi5
  rfl

set_option maxHeartbeats 4000000 in
theorem q10_128 (a b : Int) (hb : 0 ≤ b) (hb2 : b < 18446744073709551616) : F10 [(128 : Int), a, b] [] = some ([(uq a b), (dz b)], [true]) := by
  refine Eq.trans (Fd_of (n := 3) (m := 0) (t := t10) (C := Tab.fn a10) rfl rfl) ?_
  rw [t10]
  refine st_lbc (show ((decide ((128 : Int) ≥ 70)) && (decide ((128 : Int) ≤ 79))) = false from by kernel_rfl) ?_
  show T.den _ _ [(128 : Int), a, b] [false] = _
  refine st_itf (show false = false from by kernel_rfl) ?_
  refine st_lbc (show ((decide ((128 : Int) ≥ 81)) && (decide ((128 : Int) ≤ 90))) = false from by kernel_rfl) ?_
  show T.den _ _ [(128 : Int), a, b] [false, false] = _
  refine st_itf (show false = false from by kernel_rfl) ?_
  refine st_lbc (show ((decide ((128 : Int) ≥ 106)) && (decide ((128 : Int) ≤ 120))) = false from by kernel_rfl) ?_
  show T.den _ _ [(128 : Int), a, b] [false, false, false] = _
  refine st_itf (show false = false from by kernel_rfl) ?_
  refine st_lbc (show ((decide ((128 : Int) ≥ 124)) && (decide ((128 : Int) ≤ 138))) = true from by kernel_rfl) ?_
  show T.den _ _ [(128 : Int), a, b] [false, false, false, true] = _
  refine st_itt (show true = true from by kernel_rfl) ?_
  refine st_2_0 (e10_18) (g := true) rfl (l := [4, a, b, 64]) rfl (m := []) rfl (cl_t (q18_4_64 a b hb hb2)) fun i3 i4 hi3 hi4 => ?_
  show T.den _ _ [(128 : Int), a, b, i3, i4] [false, false, false, true] = _
  refine st_ret ?_
  show some ([i3, i4], [true]) = _
  subst hi3 hi4
  rfl

set_option maxHeartbeats 4000000 in
theorem q18_6_64 (a b : Int) (hb : 0 ≤ b) (hb2 : b < 18446744073709551616) : F18 [(6 : Int), a, b, (64 : Int)] [] = some ([(ur a b), (dz b)], []) := by
  refine Eq.trans (Fd_of (n := 4) (m := 0) (t := t18) (C := Tab.fn a18) rfl rfl) ?_
  rw [t18]
  refine st_itf (show ((64 : Int) == 32) = false from by kernel_rfl) ?_
  refine st_rq (show ((64 : Int) != 0) = true from by kernel_rfl) ?_
  refine st_itf (show ((6 : Int) == 0) = false from by kernel_rfl) ?_
  refine st_itf (show ((6 : Int) == 1) = false from by kernel_rfl) ?_
  refine st_itf (show ((6 : Int) == 2) = false from by kernel_rfl) ?_
  refine st_itf (show ((6 : Int) == 3) = false from by kernel_rfl) ?_
  refine st_itf (show ((6 : Int) == 4) = false from by kernel_rfl) ?_
  refine st_itf (show ((6 : Int) == 5) = false from by kernel_rfl) ?_
  refine st_itt (show ((6 : Int) == 6) = true from by kernel_rfl) ?_
  refine st_2_0 (e18_36) (g := true) rfl (l := [3, a, b, (IntKind.wrap .i64 a), (IntKind.wrap .i64 b), (-9223372036854775808)]) rfl (m := []) rfl (cl_t (q36_3 (a) (b) ((IntKind.wrap .i64 a)) ((IntKind.wrap .i64 b)) ((-9223372036854775808)) (i64_ne b hb hb2))) fun i4 i5 hi4 hi5 => ?_
  show T.den _ _ [(6 : Int), a, b, (64 : Int), i4, i5] [] = _
  refine st_ret ?_
  show some ([i4, i5], []) = _
  subst hi4 hi5
  rfl

set_option maxHeartbeats 4000000 in
theorem q10_130 (a b : Int) (hb : 0 ≤ b) (hb2 : b < 18446744073709551616) : F10 [(130 : Int), a, b] [] = some ([(ur a b), (dz b)], [true]) := by
  refine Eq.trans (Fd_of (n := 3) (m := 0) (t := t10) (C := Tab.fn a10) rfl rfl) ?_
  rw [t10]
  refine st_lbc (show ((decide ((130 : Int) ≥ 70)) && (decide ((130 : Int) ≤ 79))) = false from by kernel_rfl) ?_
  show T.den _ _ [(130 : Int), a, b] [false] = _
  refine st_itf (show false = false from by kernel_rfl) ?_
  refine st_lbc (show ((decide ((130 : Int) ≥ 81)) && (decide ((130 : Int) ≤ 90))) = false from by kernel_rfl) ?_
  show T.den _ _ [(130 : Int), a, b] [false, false] = _
  refine st_itf (show false = false from by kernel_rfl) ?_
  refine st_lbc (show ((decide ((130 : Int) ≥ 106)) && (decide ((130 : Int) ≤ 120))) = false from by kernel_rfl) ?_
  show T.den _ _ [(130 : Int), a, b] [false, false, false] = _
  refine st_itf (show false = false from by kernel_rfl) ?_
  refine st_lbc (show ((decide ((130 : Int) ≥ 124)) && (decide ((130 : Int) ≤ 138))) = true from by kernel_rfl) ?_
  show T.den _ _ [(130 : Int), a, b] [false, false, false, true] = _
  refine st_itt (show true = true from by kernel_rfl) ?_
  refine st_2_0 (e10_18) (g := true) rfl (l := [6, a, b, 64]) rfl (m := []) rfl (cl_t (q18_6_64 a b hb hb2)) fun i3 i4 hi3 hi4 => ?_
  show T.den _ _ [(130 : Int), a, b, i3, i4] [false, false, false, true] = _
  refine st_ret ?_
  show some ([i3, i4], [true]) = _
  subst hi3 hi4
  rfl

set_option maxHeartbeats 4000000 in
theorem q18_2_32 (a b : Int) : F18 [(2 : Int), a, b, (32 : Int)] [] = some ([(arI .mul .u64 a b), 0], []) := by
  refine Eq.trans (Fd_of (n := 4) (m := 0) (t := t18) (C := Tab.fn a18) rfl rfl) ?_
  rw [t18]
  refine st_itt (show ((32 : Int) == 32) = true from by kernel_rfl) ?_
  refine st_rq (show ((32 : Int) != 0) = true from by kernel_rfl) ?_
  refine st_itf (show ((2 : Int) == 0) = false from by kernel_rfl) ?_
  refine st_itf (show ((2 : Int) == 1) = false from by kernel_rfl) ?_
  refine st_itt (show ((2 : Int) == 2) = true from by kernel_rfl) ?_
  refine st_ret ?_
  show some ([(arI .mul .u64 a b), 0], []) = _
  rfl

set_option maxHeartbeats 4000000 in
theorem q10_108 (a b : Int) : F10 [(108 : Int), a, b] [] = some ([(IntKind.wrap .u64 (IntKind.wrap .u32 (arI .mul .u64 (IntKind.wrap .u64 (IntKind.wrap .u32 a)) (IntKind.wrap .u64 (IntKind.wrap .u32 b))))), 0], [true]) := by
  refine Eq.trans (Fd_of (n := 3) (m := 0) (t := t10) (C := Tab.fn a10) rfl rfl) ?_
  rw [t10]
  refine st_lbc (show ((decide ((108 : Int) ≥ 70)) && (decide ((108 : Int) ≤ 79))) = false from by kernel_rfl) ?_
  show T.den _ _ [(108 : Int), a, b] [false] = _
  refine st_itf (show false = false from by kernel_rfl) ?_
  refine st_lbc (show ((decide ((108 : Int) ≥ 81)) && (decide ((108 : Int) ≤ 90))) = false from by kernel_rfl) ?_
  show T.den _ _ [(108 : Int), a, b] [false, false] = _
  refine st_itf (show false = false from by kernel_rfl) ?_
  refine st_lbc (show ((decide ((108 : Int) ≥ 106)) && (decide ((108 : Int) ≤ 120))) = true from by kernel_rfl) ?_
  show T.den _ _ [(108 : Int), a, b] [false, false, true] = _
  refine st_itt (show true = true from by kernel_rfl) ?_
  refine st_2_0 (e10_18) (g := true) rfl (l := [2, (IntKind.wrap .u64 (IntKind.wrap .u32 a)), (IntKind.wrap .u64 (IntKind.wrap .u32 b)), 32]) rfl (m := []) rfl (cl_t (q18_2_32 (IntKind.wrap .u64 (IntKind.wrap .u32 a)) (IntKind.wrap .u64 (IntKind.wrap .u32 b)) )) fun i3 i4 hi3 hi4 => ?_
  show T.den _ _ [(108 : Int), a, b, i3, i4] [false, false, true] = _
  refine st_ret ?_
  show some ([(IntKind.wrap .u64 (IntKind.wrap .u32 i3)), i4], [true]) = _
  subst hi3 hi4
  rfl

set_option maxHeartbeats 4000000 in
theorem q18_0_32 (a b : Int) : F18 [(0 : Int), a, b, (32 : Int)] [] = some ([(arI .add .u64 a b), 0], []) := by
  refine Eq.trans (Fd_of (n := 4) (m := 0) (t := t18) (C := Tab.fn a18) rfl rfl) ?_
  rw [t18]
  refine st_itt (show ((32 : Int) == 32) = true from by kernel_rfl) ?_
  refine st_rq (show ((32 : Int) != 0) = true from by kernel_rfl) ?_
  refine st_itt (show ((0 : Int) == 0) = true from by kernel_rfl) ?_
  refine st_ret ?_
  show some ([(arI .add .u64 a b), 0], []) = _
  rfl

set_option maxHeartbeats 4000000 in
theorem q10_106 (a b : Int) : F10 [(106 : Int), a, b] [] = some ([(IntKind.wrap .u64 (IntKind.wrap .u32 (arI .add .u64 (IntKind.wrap .u64 (IntKind.wrap .u32 a)) (IntKind.wrap .u64 (IntKind.wrap .u32 b))))), 0], [true]) := by
  refine Eq.trans (Fd_of (n := 3) (m := 0) (t := t10) (C := Tab.fn a10) rfl rfl) ?_
  rw [t10]
  refine st_lbc (show ((decide ((106 : Int) ≥ 70)) && (decide ((106 : Int) ≤ 79))) = false from by kernel_rfl) ?_
  show T.den _ _ [(106 : Int), a, b] [false] = _
  refine st_itf (show false = false from by kernel_rfl) ?_
  refine st_lbc (show ((decide ((106 : Int) ≥ 81)) && (decide ((106 : Int) ≤ 90))) = false from by kernel_rfl) ?_
  show T.den _ _ [(106 : Int), a, b] [false, false] = _
  refine st_itf (show false = false from by kernel_rfl) ?_
  refine st_lbc (show ((decide ((106 : Int) ≥ 106)) && (decide ((106 : Int) ≤ 120))) = true from by kernel_rfl) ?_
  show T.den _ _ [(106 : Int), a, b] [false, false, true] = _
  refine st_itt (show true = true from by kernel_rfl) ?_
  refine st_2_0 (e10_18) (g := true) rfl (l := [0, (IntKind.wrap .u64 (IntKind.wrap .u32 a)), (IntKind.wrap .u64 (IntKind.wrap .u32 b)), 32]) rfl (m := []) rfl (cl_t (q18_0_32 (IntKind.wrap .u64 (IntKind.wrap .u32 a)) (IntKind.wrap .u64 (IntKind.wrap .u32 b)) )) fun i3 i4 hi3 hi4 => ?_
  show T.den _ _ [(106 : Int), a, b, i3, i4] [false, false, true] = _
  refine st_ret ?_
  show some ([(IntKind.wrap .u64 (IntKind.wrap .u32 i3)), i4], [true]) = _
  subst hi3 hi4
  rfl

set_option maxHeartbeats 4000000 in
theorem q18_2_64 (a b : Int) : F18 [(2 : Int), a, b, (64 : Int)] [] = some ([(arI .mul .u64 a b), 0], []) := by
  refine Eq.trans (Fd_of (n := 4) (m := 0) (t := t18) (C := Tab.fn a18) rfl rfl) ?_
  rw [t18]
  refine st_itf (show ((64 : Int) == 32) = false from by kernel_rfl) ?_
  refine st_rq (show ((64 : Int) != 0) = true from by kernel_rfl) ?_
  refine st_itf (show ((2 : Int) == 0) = false from by kernel_rfl) ?_
  refine st_itf (show ((2 : Int) == 1) = false from by kernel_rfl) ?_
  refine st_itt (show ((2 : Int) == 2) = true from by kernel_rfl) ?_
  refine st_ret ?_
  show some ([(arI .mul .u64 a b), 0], []) = _
  rfl

set_option maxHeartbeats 4000000 in
theorem q10_126 (a b : Int) : F10 [(126 : Int), a, b] [] = some ([(arI .mul .u64 a b), 0], [true]) := by
  refine Eq.trans (Fd_of (n := 3) (m := 0) (t := t10) (C := Tab.fn a10) rfl rfl) ?_
  rw [t10]
  refine st_lbc (show ((decide ((126 : Int) ≥ 70)) && (decide ((126 : Int) ≤ 79))) = false from by kernel_rfl) ?_
  show T.den _ _ [(126 : Int), a, b] [false] = _
  refine st_itf (show false = false from by kernel_rfl) ?_
  refine st_lbc (show ((decide ((126 : Int) ≥ 81)) && (decide ((126 : Int) ≤ 90))) = false from by kernel_rfl) ?_
  show T.den _ _ [(126 : Int), a, b] [false, false] = _
  refine st_itf (show false = false from by kernel_rfl) ?_
  refine st_lbc (show ((decide ((126 : Int) ≥ 106)) && (decide ((126 : Int) ≤ 120))) = false from by kernel_rfl) ?_
  show T.den _ _ [(126 : Int), a, b] [false, false, false] = _
  refine st_itf (show false = false from by kernel_rfl) ?_
  refine st_lbc (show ((decide ((126 : Int) ≥ 124)) && (decide ((126 : Int) ≤ 138))) = true from by kernel_rfl) ?_
  show T.den _ _ [(126 : Int), a, b] [false, false, false, true] = _
  refine st_itt (show true = true from by kernel_rfl) ?_
  refine st_2_0 (e10_18) (g := true) rfl (l := [2, a, b, 64]) rfl (m := []) rfl (cl_t (q18_2_64 a b )) fun i3 i4 hi3 hi4 => ?_
  show T.den _ _ [(126 : Int), a, b, i3, i4] [false, false, false, true] = _
  refine st_ret ?_
  show some ([i3, i4], [true]) = _
  subst hi3 hi4
  rfl

set_option maxHeartbeats 4000000 in
theorem q18_0_64 (a b : Int) : F18 [(0 : Int), a, b, (64 : Int)] [] = some ([(arI .add .u64 a b), 0], []) := by
  refine Eq.trans (Fd_of (n := 4) (m := 0) (t := t18) (C := Tab.fn a18) rfl rfl) ?_
  rw [t18]
  refine st_itf (show ((64 : Int) == 32) = false from by kernel_rfl) ?_
  refine st_rq (show ((64 : Int) != 0) = true from by kernel_rfl) ?_
  refine st_itt (show ((0 : Int) == 0) = true from by kernel_rfl) ?_
  refine st_ret ?_
  show some ([(arI .add .u64 a b), 0], []) = _
  rfl

set_option maxHeartbeats 4000000 in
theorem q10_124 (a b : Int) : F10 [(124 : Int), a, b] [] = some ([(arI .add .u64 a b), 0], [true]) := by
  refine Eq.trans (Fd_of (n := 3) (m := 0) (t := t10) (C := Tab.fn a10) rfl rfl) ?_
  rw [t10]
  refine st_lbc (show ((decide ((124 : Int) ≥ 70)) && (decide ((124 : Int) ≤ 79))) = false from by kernel_rfl) ?_
  show T.den _ _ [(124 : Int), a, b] [false] = _
  refine st_itf (show false = false from by kernel_rfl) ?_
  refine st_lbc (show ((decide ((124 : Int) ≥ 81)) && (decide ((124 : Int) ≤ 90))) = false from by kernel_rfl) ?_
  show T.den _ _ [(124 : Int), a, b] [false, false] = _
  refine st_itf (show false = false from by kernel_rfl) ?_
  refine st_lbc (show ((decide ((124 : Int) ≥ 106)) && (decide ((124 : Int) ≤ 120))) = false from by kernel_rfl) ?_
  show T.den _ _ [(124 : Int), a, b] [false, false, false] = _
  refine st_itf (show false = false from by kernel_rfl) ?_
  refine st_lbc (show ((decide ((124 : Int) ≥ 124)) && (decide ((124 : Int) ≤ 138))) = true from by kernel_rfl) ?_
  show T.den _ _ [(124 : Int), a, b] [false, false, false, true] = _
  refine st_itt (show true = true from by kernel_rfl) ?_
  refine st_2_0 (e10_18) (g := true) rfl (l := [0, a, b, 64]) rfl (m := []) rfl (cl_t (q18_0_64 a b )) fun i3 i4 hi3 hi4 => ?_
  show T.den _ _ [(124 : Int), a, b, i3, i4] [false, false, false, true] = _
  refine st_ret ?_
  show some ([i3, i4], [true]) = _
  subst hi3 hi4
  rfl

/-! What a quotient and what is left have to do with each other: of the traps t, u and M, 2 to the power of the width. -/
def RD (q t r u a b M : Int) : Prop := (t = 7 ∧ r = 0 ∧ u = 0) ∨ (t = 6 ∧ u = 6) ∨ (t = 0 ∧ u = 0 ∧ (q * b + r) % M = a % M)
theorem muladd {q b r q' b' r' M : Int} (h1 : q % M = q' % M) (h2 : b % M = b' % M) (h3 : r % M = r' % M) : (q * b + r) % M = (q' * b' + r') % M := by
  rw [Int.add_emod, Int.mul_emod, h1, h2, h3, ← Int.mul_emod, ← Int.add_emod]
theorem rd7 {q t r u a b M : Int} (h : RD q t r u a b M) (h7 : (t == 7) = true) : r = 0 ∧ u = 0 := by
  rw [beq_iff_eq] at h7
  rcases h with h | h | h
  · exact h.2
  · omega
  · omega
theorem rdt {q t r u a b M : Int} (h : RD q t r u a b M) (h7 : (t == 7) = false) : t = u := by
  rw [beq_eq_false_iff_ne] at h7
  rcases h with h | h | h
  · exact absurd h.1 h7
  · omega
  · omega
theorem rde {q t r u a b M : Int} (h : RD q t r u a b M) (h7 : (t == 7) = false) (h0 : (t != 0) = false) : (q * b + r) % M = a % M := by
  rw [beq_eq_false_iff_ne] at h7
  rw [bne_eq_false_iff_eq] at h0
  rcases h with h | h | h
  · exact absurd h.1 h7
  · omega
  · exact h.2.2
theorem wrap_u32 (n : Int) : IntKind.u32.wrap n = n % 4294967296 := by simp [IntKind.wrap, IntKind.bits, IntKind.signed]
theorem wrap_i64 (n : Int) : IntKind.i64.wrap n = (n + 9223372036854775808) % 18446744073709551616 - 9223372036854775808 := by simp [IntKind.wrap, IntKind.bits, IntKind.signed]; split <;> omega
theorem wrap_i32 (n : Int) : IntKind.i32.wrap n = (n + 2147483648) % 4294967296 - 2147483648 := by simp [IntKind.wrap, IntKind.bits, IntKind.signed]; split <;> omega
theorem sround (B X Y l a b M : Int) (f : Int → Int) (hf : ∀ n, f n % M = n % M) (hX : X % M = a % M) (hY : Y % M = b % M) (hw : ∀ n, IntKind.wrap .u64 (IntKind.wrap .i64 n) % M = n % M) (hw2 : ∀ n, IntKind.wrap .u64 n % M = n % M) (h0 : f 0 = 0)
    (q t r u : Int) (hq : q = f (dq B X Y l)) (ht : t = dt B X Y l) (hr : r = f (dr B X Y)) (hu : u = dz B) : RD q t r u a b M := by
  unfold dq at hq
  unfold dt at ht
  unfold dr at hr
  unfold dz at hu
  by_cases hB : B = 0
  · rw [if_pos hB] at ht hu
    exact .inr (.inl ⟨ht, hu⟩)
  · rw [if_neg hB] at hq ht hr hu
    by_cases h1 : X = l ∧ Y = -1
    · rw [if_pos h1] at ht
      rw [if_pos h1.2, h0] at hr
      exact .inl ⟨ht, hr, hu⟩
    · rw [if_neg h1] at hq ht
      refine .inr (.inr ⟨ht, hu, ?_⟩)
      have e1 : q % M = (X.tdiv Y) % M := by rw [hq, hf]; exact hw _
      have e2 : r % M = (X.tmod Y) % M := by
        by_cases h2 : Y = -1
        · rw [if_pos h2, h0] at hr
          rw [hr, h2, show X.tmod (-1) = 0 from by rw [Int.tmod_neg, Int.tmod_one]]
        · rw [if_neg h2] at hr
          rw [hr, hf]; exact hw2 _
      rw [muladd e1 hY.symm e2, Int.mul_comm, Int.mul_tdiv_add_tmod, hX]
theorem uround (A B a b M : Int) (f : Int → Int) (hf : ∀ n, 0 ≤ n → n < M → f n = n) (hA : A % M = a % M) (hB : B % M = b % M) (hA0 : 0 ≤ A) (hA1 : A < M) (hB0 : 0 ≤ B) (hB1 : B < M) (hM : M ≤ 18446744073709551616)
    (q t r u : Int) (hq : q = f (uq A B)) (ht : t = dz B) (hr : r = f (ur A B)) (hu : u = dz B) : RD q t r u a b M ∧ ((t != 0) = false → r < B) := by
  unfold uq at hq
  unfold ur at hr
  unfold dz at ht hu
  by_cases hz : B = 0
  · rw [if_pos hz] at ht hu
    exact ⟨.inr (.inl ⟨ht, hu⟩), fun h => by rw [bne_eq_false_iff_eq] at h; omega⟩
  · rw [if_neg hz] at hq ht hr hu
    have h1 : 0 ≤ A / B := Int.ediv_nonneg hA0 hB0
    have h2 : A / B ≤ A := Int.ediv_le_self B hA0
    have h3 := Int.emod_nonneg A hz
    have h4 := Int.emod_lt_of_pos A (show 0 < B from by omega)
    rw [arQuo _ _ hA0 (by omega) (by omega), hf _ h1 (by omega)] at hq
    rw [arRem _ _ hA0, hf _ h3 (by omega)] at hr
    refine ⟨.inr (.inr ⟨ht, hu, ?_⟩), fun _ => by rw [hr]; exact h4⟩
    rw [muladd (q' := A / B) (b' := B) (r' := A % B) (by rw [hq]) hB.symm (by rw [hr]), Int.mul_comm, Int.mul_ediv_add_emod, hA]
theorem cut32 (b : Int) : arI .and .u64 b 4294967295 = b % 4294967296 := by
  show IntKind.u64.wrap ((BitVec.ofInt 64 b &&& BitVec.ofInt 64 4294967295).toNat : Int) = _
  rw [BitVec.toNat_and, BitVec.toNat_ofInt, show (BitVec.ofInt 64 4294967295).toNat = 2 ^ 32 - 1 from by decide, Nat.and_two_pow_sub_one_eq_mod, wrap_u64]
  omega

theorem round_109 (a b q t r u : Int) (ha : 0 ≤ a ∧ a < 18446744073709551616) (hb : 0 ≤ b ∧ b < 18446744073709551616) (hq : q = (IntKind.wrap .u64 (IntKind.wrap .u32 (dq (IntKind.wrap .u64 (IntKind.wrap .u32 b)) (IntKind.wrap .i64 (IntKind.wrap .i32 (IntKind.wrap .u64 (IntKind.wrap .u32 a)))) (IntKind.wrap .i64 (IntKind.wrap .i32 (IntKind.wrap .u64 (IntKind.wrap .u32 b)))) (-2147483648))))) (ht : t = (dt (IntKind.wrap .u64 (IntKind.wrap .u32 b)) (IntKind.wrap .i64 (IntKind.wrap .i32 (IntKind.wrap .u64 (IntKind.wrap .u32 a)))) (IntKind.wrap .i64 (IntKind.wrap .i32 (IntKind.wrap .u64 (IntKind.wrap .u32 b)))) (-2147483648))) (hr : r = (IntKind.wrap .u64 (IntKind.wrap .u32 (dr (IntKind.wrap .u64 (IntKind.wrap .u32 b)) (IntKind.wrap .i64 (IntKind.wrap .i32 (IntKind.wrap .u64 (IntKind.wrap .u32 a)))) (IntKind.wrap .i64 (IntKind.wrap .i32 (IntKind.wrap .u64 (IntKind.wrap .u32 b)))))))) (hu : u = (dz (IntKind.wrap .u64 (IntKind.wrap .u32 b)))) : RD q t r u a b 4294967296 :=
  sround (IntKind.wrap .u64 (IntKind.wrap .u32 b)) (IntKind.wrap .i64 (IntKind.wrap .i32 (IntKind.wrap .u64 (IntKind.wrap .u32 a)))) (IntKind.wrap .i64 (IntKind.wrap .i32 (IntKind.wrap .u64 (IntKind.wrap .u32 b)))) (-2147483648) a b 4294967296 (fun n => IntKind.wrap .u64 (IntKind.wrap .u32 n)) (fun n => by simp only [wrap_u64, wrap_u32]; omega) (by simp only [wrap_u64, wrap_u32, wrap_i64, wrap_i32]; omega) (by simp only [wrap_u64, wrap_u32, wrap_i64, wrap_i32]; omega) (fun n => by simp only [wrap_u64, wrap_i64]; omega) (fun n => by simp only [wrap_u64]; omega) rfl q t r u hq ht hr hu

theorem round_110 (a b q t r u : Int) (ha : 0 ≤ a ∧ a < 18446744073709551616) (hb : 0 ≤ b ∧ b < 18446744073709551616) (hq : q = (IntKind.wrap .u64 (IntKind.wrap .u32 (uq (IntKind.wrap .u64 (IntKind.wrap .u32 a)) (IntKind.wrap .u64 (IntKind.wrap .u32 b)))))) (ht : t = (dz (IntKind.wrap .u64 (IntKind.wrap .u32 b)))) (hr : r = (IntKind.wrap .u64 (IntKind.wrap .u32 (ur (IntKind.wrap .u64 (IntKind.wrap .u32 a)) (IntKind.wrap .u64 (IntKind.wrap .u32 b)))))) (hu : u = (dz (IntKind.wrap .u64 (IntKind.wrap .u32 b)))) : RD q t r u a b 4294967296 ∧ ((t != 0) = false → r < arI .and .u64 b 4294967295) := by
  have h := uround (IntKind.wrap .u64 (IntKind.wrap .u32 a)) (IntKind.wrap .u64 (IntKind.wrap .u32 b)) a b 4294967296 (fun n => IntKind.wrap .u64 (IntKind.wrap .u32 n)) (fun n h1 h2 => by simp only [wrap_u64, wrap_u32]; omega) (by simp only [wrap_u64, wrap_u32]; omega) (by simp only [wrap_u64, wrap_u32]; omega) (u32_ge _) (u32_lt _) (u32_ge _) (u32_lt _) (by decide) q t r u hq ht hr hu
  refine ⟨h.1, fun h0 => ?_⟩
  have h2 := h.2 h0
  rw [cut32]; simp only [wrap_u64, wrap_u32] at h2; omega

theorem round_127 (a b q t r u : Int) (ha : 0 ≤ a ∧ a < 18446744073709551616) (hb : 0 ≤ b ∧ b < 18446744073709551616) (hq : q = (dq b (IntKind.wrap .i64 a) (IntKind.wrap .i64 b) (-9223372036854775808))) (ht : t = (dt b (IntKind.wrap .i64 a) (IntKind.wrap .i64 b) (-9223372036854775808))) (hr : r = (dr b (IntKind.wrap .i64 a) (IntKind.wrap .i64 b))) (hu : u = (dz b)) : RD q t r u a b 18446744073709551616 :=
  sround b (IntKind.wrap .i64 a) (IntKind.wrap .i64 b) (-9223372036854775808) a b 18446744073709551616 (fun n => n) (fun n => rfl) (by simp only [wrap_i64]; omega) (by simp only [wrap_i64]; omega) (fun n => by simp only [wrap_u64, wrap_i64]; omega) (fun n => by simp only [wrap_u64]; omega) rfl q t r u hq ht hr hu

theorem round_128 (a b q t r u : Int) (ha : 0 ≤ a ∧ a < 18446744073709551616) (hb : 0 ≤ b ∧ b < 18446744073709551616) (hq : q = (uq a b)) (ht : t = (dz b)) (hr : r = (ur a b)) (hu : u = (dz b)) : RD q t r u a b 18446744073709551616 ∧ ((t != 0) = false → r < b) :=
  uround a b a b 18446744073709551616 (fun n => n) (fun n _ _ => rfl) rfl rfl ha.1 ha.2 hb.1 hb.2 (by decide) q t r u hq ht hr hu

theorem back32 {q b r a x y : Int} (h : (q * b + r) % 4294967296 = a % 4294967296) (hx : x = (IntKind.wrap .u64 (IntKind.wrap .u32 (arI .mul .u64 (IntKind.wrap .u64 (IntKind.wrap .u32 q)) (IntKind.wrap .u64 (IntKind.wrap .u32 b)))))) (hy : y = (IntKind.wrap .u64 (IntKind.wrap .u32 (arI .add .u64 (IntKind.wrap .u64 (IntKind.wrap .u32 x)) (IntKind.wrap .u64 (IntKind.wrap .u32 r)))))) : IntKind.wrap .u32 y = IntKind.wrap .u32 a := by
  rw [wrap_u32, wrap_u32, ← h, hy, hx]
  simp only [wrap_u64, wrap_u32, arAdd, arMul]
  have e : (q % 4294967296 % 18446744073709551616 * (b % 4294967296 % 18446744073709551616)) % 4294967296 = (q * b) % 4294967296 := by
    rw [Int.emod_eq_of_lt (a := q % 4294967296) (by omega) (by omega), Int.emod_eq_of_lt (a := b % 4294967296) (by omega) (by omega), ← Int.mul_emod]
  generalize q % 4294967296 % 18446744073709551616 * (b % 4294967296 % 18446744073709551616) = z at e ⊢
  generalize q * b = v at e ⊢
  omega
theorem back64 {q b r a x y : Int} (h : (q * b + r) % 18446744073709551616 = a % 18446744073709551616) (ha : 0 ≤ a ∧ a < 18446744073709551616) (hx : x = (arI .mul .u64 q b)) (hy : y = (arI .add .u64 x r)) : y = a := by
  rw [hy, hx]
  simp only [arAdd, arMul]
  generalize q * b = v at h ⊢
  omega

theorem e4_9 : Tab.fn a4 9 = F9 := Tab.fn_hd
theorem e4_10 : Tab.fn a4 10 = F10 := ((Tab.fn_tl rfl).trans Tab.fn_hd)

theorem q9 : F9 [] [] = some ([], [true]) := by decide +kernel

set_option maxHeartbeats 4000000 in
theorem law (a b : Int) (wa : (Lit.int .u64 a).wf = true) (wb : (Lit.int .u64 b).wf = true) : F4 [a, b] [] = some ([], [true]) := by
  have ha := wf_u64 wa
  have hb := wf_u64 wb
  refine Eq.trans (Fd_of (n := 2) (m := 0) (t := t4) (C := Tab.fn a4) rfl rfl) ?_
  rw [t4]
  refine st_0_1 (e4_9) (g := true) rfl (l := []) rfl (m := []) rfl (cl_t q9) fun b0 hb0 => ?_
  show T.den _ _ [a, b] [b0] = _
  refine st_ite (fun hc => ?_) (fun hc => ?_)
  · replace hc : (!b0) = true := hc
    have c1 := hc
    clear hc
    refine st_ret ?_
    show some ([], [false]) = _
    rw [hb0] at c1; cases c1
  · replace hc : (!b0) = false := hc
    have c2 := hc
    clear hc
    refine st_2_1 (e4_10) (g := true) rfl (l := [109, a, b]) rfl (m := []) rfl (cl_t (q10_109 a b)) fun i2 i3 b1 hi2 hi3 hb1 => ?_
    show T.den _ _ [a, b, i2, i3] [b0, b1] = _
    refine st_2_1 (e4_10) (g := true) rfl (l := [111, a, b]) rfl (m := []) rfl (cl_t (q10_111 a b)) fun i4 i5 b2 hi4 hi5 hb2 => ?_
    show T.den _ _ [a, b, i2, i3, i4, i5] [b0, b1, b2] = _
    have R := round_109 a b _ _ _ _ ha hb hi2 hi3 hi4 hi5
    refine st_ite (fun hc => ?_) (fun hc => ?_)
    · replace hc : (i3 == 7) = true := hc
      have c3 := hc
      clear hc
      refine st_lb fun b3 hb3 => ?_
      replace hb3 : b3 = ((i4 != 0) || (i5 != 0)) := hb3
      show T.den _ _ [a, b, i2, i3, i4, i5] [b0, b1, b2, b3] = _
      refine st_ite (fun hc => ?_) (fun hc => ?_)
      · replace hc : b3 = true := hc
        have c4 := hc
        clear hc
        refine st_ret ?_
        show some ([], [false]) = _
        obtain ⟨e1, e2⟩ := rd7 R c3
        rw [hb3, e1, e2] at c4; cases c4
      · replace hc : b3 = false := hc
        have c5 := hc
        clear hc
        refine st_2_1 (e4_10) (g := true) rfl (l := [110, a, b]) rfl (m := []) rfl (cl_t (q10_110 a b)) fun i6 i7 b4 hi6 hi7 hb4 => ?_
        show T.den _ _ [a, b, i2, i3, i4, i5, i6, i7] [b0, b1, b2, b3, b4] = _
        refine st_2_1 (e4_10) (g := true) rfl (l := [112, a, b]) rfl (m := []) rfl (cl_t (q10_112 a b)) fun i8 i9 b5 hi8 hi9 hb5 => ?_
        show T.den _ _ [a, b, i2, i3, i4, i5, i6, i7, i8, i9] [b0, b1, b2, b3, b4, b5] = _
        have R := (round_110 a b _ _ _ _ ha hb hi6 hi7 hi8 hi9).1
        have V := (round_110 a b _ _ _ _ ha hb hi6 hi7 hi8 hi9).2
        refine st_ite (fun hc => ?_) (fun hc => ?_)
        · replace hc : (i7 == 7) = true := hc
          have c6 := hc
          clear hc
          refine st_lb fun b6 hb6 => ?_
          replace hb6 : b6 = ((i8 != 0) || (i9 != 0)) := hb6
          show T.den _ _ [a, b, i2, i3, i4, i5, i6, i7, i8, i9] [b0, b1, b2, b3, b4, b5, b6] = _
          refine st_ite (fun hc => ?_) (fun hc => ?_)
          · replace hc : b6 = true := hc
            have c7 := hc
            clear hc
            refine st_ret ?_
            show some ([], [false]) = _
            obtain ⟨e1, e2⟩ := rd7 R c6
            rw [hb6, e1, e2] at c7; cases c7
          · replace hc : b6 = false := hc
            have c8 := hc
            clear hc
            refine st_2_1 (e4_10) (g := true) rfl (l := [127, a, b]) rfl (m := []) rfl (cl_t (q10_127 a b hb.1 hb.2)) fun i10 i11 b7 hi10 hi11 hb7 => ?_
            show T.den _ _ [a, b, i2, i3, i4, i5, i6, i7, i8, i9, i10, i11] [b0, b1, b2, b3, b4, b5, b6, b7] = _
            refine st_2_1 (e4_10) (g := true) rfl (l := [129, a, b]) rfl (m := []) rfl (cl_t (q10_129 a b hb.1 hb.2)) fun i12 i13 b8 hi12 hi13 hb8 => ?_
            show T.den _ _ [a, b, i2, i3, i4, i5, i6, i7, i8, i9, i10, i11, i12, i13] [b0, b1, b2, b3, b4, b5, b6, b7, b8] = _
            have R := round_127 a b _ _ _ _ ha hb hi10 hi11 hi12 hi13
            refine st_ite (fun hc => ?_) (fun hc => ?_)
            · replace hc : (i11 == 7) = true := hc
              have c9 := hc
              clear hc
              refine st_lb fun b9 hb9 => ?_
              replace hb9 : b9 = ((i12 != 0) || (i13 != 0)) := hb9
              show T.den _ _ [a, b, i2, i3, i4, i5, i6, i7, i8, i9, i10, i11, i12, i13] [b0, b1, b2, b3, b4, b5, b6, b7, b8, b9] = _
              refine st_ite (fun hc => ?_) (fun hc => ?_)
              · replace hc : b9 = true := hc
                have c10 := hc
                clear hc
                refine st_ret ?_
                show some ([], [false]) = _
                obtain ⟨e1, e2⟩ := rd7 R c9
                rw [hb9, e1, e2] at c10; cases c10
              · replace hc : b9 = false := hc
                have c11 := hc
                clear hc
                refine st_2_1 (e4_10) (g := true) rfl (l := [128, a, b]) rfl (m := []) rfl (cl_t (q10_128 a b hb.1 hb.2)) fun i14 i15 b10 hi14 hi15 hb10 => ?_
                show T.den _ _ [a, b, i2, i3, i4, i5, i6, i7, i8, i9, i10, i11, i12, i13, i14, i15] [b0, b1, b2, b3, b4, b5, b6, b7, b8, b9, b10] = _
                refine st_2_1 (e4_10) (g := true) rfl (l := [130, a, b]) rfl (m := []) rfl (cl_t (q10_130 a b hb.1 hb.2)) fun i16 i17 b11 hi16 hi17 hb11 => ?_
                show T.den _ _ [a, b, i2, i3, i4, i5, i6, i7, i8, i9, i10, i11, i12, i13, i14, i15, i16, i17] [b0, b1, b2, b3, b4, b5, b6, b7, b8, b9, b10, b11] = _
                have R := (round_128 a b _ _ _ _ ha hb hi14 hi15 hi16 hi17).1
                have V := (round_128 a b _ _ _ _ ha hb hi14 hi15 hi16 hi17).2
                refine st_ite (fun hc => ?_) (fun hc => ?_)
                · replace hc : (i15 == 7) = true := hc
                  have c12 := hc
                  clear hc
                  refine st_lb fun b12 hb12 => ?_
                  replace hb12 : b12 = ((i16 != 0) || (i17 != 0)) := hb12
                  show T.den _ _ [a, b, i2, i3, i4, i5, i6, i7, i8, i9, i10, i11, i12, i13, i14, i15, i16, i17] [b0, b1, b2, b3, b4, b5, b6, b7, b8, b9, b10, b11, b12] = _
                  refine st_ite (fun hc => ?_) (fun hc => ?_)
                  · replace hc : b12 = true := hc
                    have c13 := hc
                    clear hc
                    refine st_ret ?_
                    show some ([], [false]) = _
                    obtain ⟨e1, e2⟩ := rd7 R c12
                    rw [hb12, e1, e2] at c13; cases c13
                  · replace hc : b12 = false := hc
                    have c14 := hc
                    clear hc
                    refine st_ret ?_
                    show some ([], [true]) = _
                    rfl
                · replace hc : (i15 == 7) = false := hc
                  have c15 := hc
                  clear hc
                  refine st_ite (fun hc => ?_) (fun hc => ?_)
                  · replace hc : (i15 != i17) = true := hc
                    have c16 := hc
                    clear hc
                    refine st_ret ?_
                    show some ([], [false]) = _
                    rw [rdt R c15] at c16; simp at c16
                  · replace hc : (i15 != i17) = false := hc
                    have c17 := hc
                    clear hc
                    refine st_ite (fun hc => ?_) (fun hc => ?_)
                    · replace hc : (i15 != 0) = true := hc
                      have c18 := hc
                      clear hc
                      refine st_ret ?_
                      show some ([], [true]) = _
                      rfl
                    · replace hc : (i15 != 0) = false := hc
                      have c19 := hc
                      clear hc
                      refine st_2_1 (e4_10) (g := true) rfl (l := [126, i14, b]) rfl (m := []) rfl (cl_t (q10_126 i14 b)) fun i18 i19 b12 hi18 hi19 hb12 => ?_
                      show T.den _ _ [a, b, i2, i3, i4, i5, i6, i7, i8, i9, i10, i11, i12, i13, i14, i15, i16, i17, i18, i19] [b0, b1, b2, b3, b4, b5, b6, b7, b8, b9, b10, b11, b12] = _
                      refine st_2_1 (e4_10) (g := true) rfl (l := [124, i18, i16]) rfl (m := []) rfl (cl_t (q10_124 i18 i16)) fun i20 i21 b13 hi20 hi21 hb13 => ?_
                      show T.den _ _ [a, b, i2, i3, i4, i5, i6, i7, i8, i9, i10, i11, i12, i13, i14, i15, i16, i17, i18, i19, i20, i21] [b0, b1, b2, b3, b4, b5, b6, b7, b8, b9, b10, b11, b12, b13] = _
                      have e := back64 (rde R c15 c19) ha hi18 hi20
                      refine st_ite (fun hc => ?_) (fun hc => ?_)
                      · replace hc : (i20 != a) = true := hc
                        have c20 := hc
                        clear hc
                        refine st_ret ?_
                        show some ([], [false]) = _
                        rw [e] at c20; simp at c20
                      · replace hc : (i20 != a) = false := hc
                        have c21 := hc
                        clear hc
                        refine st_ite (fun hc => ?_) (fun hc => ?_)
                        · replace hc : (decide (i16 ≥ b)) = true := hc
                          have c22 := hc
                          clear hc
                          refine st_ret ?_
                          show some ([], [false]) = _
                          have h1 := V c19; rw [decide_eq_true_eq] at c22; omega
                        · replace hc : (decide (i16 ≥ b)) = false := hc
                          have c23 := hc
                          clear hc
                          refine st_ret ?_
                          show some ([], [true]) = _
                          rfl
            · replace hc : (i11 == 7) = false := hc
              have c24 := hc
              clear hc
              refine st_ite (fun hc => ?_) (fun hc => ?_)
              · replace hc : (i11 != i13) = true := hc
                have c25 := hc
                clear hc
                refine st_ret ?_
                show some ([], [false]) = _
                rw [rdt R c24] at c25; simp at c25
              · replace hc : (i11 != i13) = false := hc
                have c26 := hc
                clear hc
                refine st_ite (fun hc => ?_) (fun hc => ?_)
                · replace hc : (i11 != 0) = true := hc
                  have c27 := hc
                  clear hc
                  refine st_2_1 (e4_10) (g := true) rfl (l := [128, a, b]) rfl (m := []) rfl (cl_t (q10_128 a b hb.1 hb.2)) fun i14 i15 b9 hi14 hi15 hb9 => ?_
                  show T.den _ _ [a, b, i2, i3, i4, i5, i6, i7, i8, i9, i10, i11, i12, i13, i14, i15] [b0, b1, b2, b3, b4, b5, b6, b7, b8, b9] = _
                  refine st_2_1 (e4_10) (g := true) rfl (l := [130, a, b]) rfl (m := []) rfl (cl_t (q10_130 a b hb.1 hb.2)) fun i16 i17 b10 hi16 hi17 hb10 => ?_
                  show T.den _ _ [a, b, i2, i3, i4, i5, i6, i7, i8, i9, i10, i11, i12, i13, i14, i15, i16, i17] [b0, b1, b2, b3, b4, b5, b6, b7, b8, b9, b10] = _
                  have R := (round_128 a b _ _ _ _ ha hb hi14 hi15 hi16 hi17).1
                  have V := (round_128 a b _ _ _ _ ha hb hi14 hi15 hi16 hi17).2
                  refine st_ite (fun hc => ?_) (fun hc => ?_)
                  · replace hc : (i15 == 7) = true := hc
                    have c28 := hc
                    clear hc
                    refine st_lb fun b11 hb11 => ?_
                    replace hb11 : b11 = ((i16 != 0) || (i17 != 0)) := hb11
                    show T.den _ _ [a, b, i2, i3, i4, i5, i6, i7, i8, i9, i10, i11, i12, i13, i14, i15, i16, i17] [b0, b1, b2, b3, b4, b5, b6, b7, b8, b9, b10, b11] = _
                    refine st_ite (fun hc => ?_) (fun hc => ?_)
                    · replace hc : b11 = true := hc
                      have c29 := hc
                      clear hc
                      refine st_ret ?_
                      show some ([], [false]) = _
                      obtain ⟨e1, e2⟩ := rd7 R c28
                      rw [hb11, e1, e2] at c29; cases c29
                    · replace hc : b11 = false := hc
                      have c30 := hc
                      clear hc
                      refine st_ret ?_
                      show some ([], [true]) = _
                      rfl
                  · replace hc : (i15 == 7) = false := hc
                    have c31 := hc
                    clear hc
                    refine st_ite (fun hc => ?_) (fun hc => ?_)
                    · replace hc : (i15 != i17) = true := hc
                      have c32 := hc
                      clear hc
                      refine st_ret ?_
                      show some ([], [false]) = _
                      rw [rdt R c31] at c32; simp at c32
                    · replace hc : (i15 != i17) = false := hc
                      have c33 := hc
                      clear hc
                      refine st_ite (fun hc => ?_) (fun hc => ?_)
                      · replace hc : (i15 != 0) = true := hc
                        have c34 := hc
                        clear hc
                        refine st_ret ?_
                        show some ([], [true]) = _
                        rfl
                      · replace hc : (i15 != 0) = false := hc
                        have c35 := hc
                        clear hc
                        refine st_2_1 (e4_10) (g := true) rfl (l := [126, i14, b]) rfl (m := []) rfl (cl_t (q10_126 i14 b)) fun i18 i19 b11 hi18 hi19 hb11 => ?_
                        show T.den _ _ [a, b, i2, i3, i4, i5, i6, i7, i8, i9, i10, i11, i12, i13, i14, i15, i16, i17, i18, i19] [b0, b1, b2, b3, b4, b5, b6, b7, b8, b9, b10, b11] = _
                        refine st_2_1 (e4_10) (g := true) rfl (l := [124, i18, i16]) rfl (m := []) rfl (cl_t (q10_124 i18 i16)) fun i20 i21 b12 hi20 hi21 hb12 => ?_
                        show T.den _ _ [a, b, i2, i3, i4, i5, i6, i7, i8, i9, i10, i11, i12, i13, i14, i15, i16, i17, i18, i19, i20, i21] [b0, b1, b2, b3, b4, b5, b6, b7, b8, b9, b10, b11, b12] = _
                        have e := back64 (rde R c31 c35) ha hi18 hi20
                        refine st_ite (fun hc => ?_) (fun hc => ?_)
                        · replace hc : (i20 != a) = true := hc
                          have c36 := hc
                          clear hc
                          refine st_ret ?_
                          show some ([], [false]) = _
                          rw [e] at c36; simp at c36
                        · replace hc : (i20 != a) = false := hc
                          have c37 := hc
                          clear hc
                          refine st_ite (fun hc => ?_) (fun hc => ?_)
                          · replace hc : (decide (i16 ≥ b)) = true := hc
                            have c38 := hc
                            clear hc
                            refine st_ret ?_
                            show some ([], [false]) = _
                            have h1 := V c35; rw [decide_eq_true_eq] at c38; omega
                          · replace hc : (decide (i16 ≥ b)) = false := hc
                            have c39 := hc
                            clear hc
                            refine st_ret ?_
                            show some ([], [true]) = _
                            rfl
                · replace hc : (i11 != 0) = false := hc
                  have c40 := hc
                  clear hc
                  refine st_2_1 (e4_10) (g := true) rfl (l := [126, i10, b]) rfl (m := []) rfl (cl_t (q10_126 i10 b)) fun i14 i15 b9 hi14 hi15 hb9 => ?_
                  show T.den _ _ [a, b, i2, i3, i4, i5, i6, i7, i8, i9, i10, i11, i12, i13, i14, i15] [b0, b1, b2, b3, b4, b5, b6, b7, b8, b9] = _
                  refine st_2_1 (e4_10) (g := true) rfl (l := [124, i14, i12]) rfl (m := []) rfl (cl_t (q10_124 i14 i12)) fun i16 i17 b10 hi16 hi17 hb10 => ?_
                  show T.den _ _ [a, b, i2, i3, i4, i5, i6, i7, i8, i9, i10, i11, i12, i13, i14, i15, i16, i17] [b0, b1, b2, b3, b4, b5, b6, b7, b8, b9, b10] = _
                  have e := back64 (rde R c24 c40) ha hi14 hi16
                  refine st_ite (fun hc => ?_) (fun hc => ?_)
                  · replace hc : (i16 != a) = true := hc
                    have c41 := hc
                    clear hc
                    refine st_ret ?_
                    show some ([], [false]) = _
                    rw [e] at c41; simp at c41
                  · replace hc : (i16 != a) = false := hc
                    have c42 := hc
                    clear hc
                    refine st_2_1 (e4_10) (g := true) rfl (l := [128, a, b]) rfl (m := []) rfl (cl_t (q10_128 a b hb.1 hb.2)) fun i18 i19 b11 hi18 hi19 hb11 => ?_
                    show T.den _ _ [a, b, i2, i3, i4, i5, i6, i7, i8, i9, i10, i11, i12, i13, i14, i15, i16, i17, i18, i19] [b0, b1, b2, b3, b4, b5, b6, b7, b8, b9, b10, b11] = _
                    refine st_2_1 (e4_10) (g := true) rfl (l := [130, a, b]) rfl (m := []) rfl (cl_t (q10_130 a b hb.1 hb.2)) fun i20 i21 b12 hi20 hi21 hb12 => ?_
                    show T.den _ _ [a, b, i2, i3, i4, i5, i6, i7, i8, i9, i10, i11, i12, i13, i14, i15, i16, i17, i18, i19, i20, i21] [b0, b1, b2, b3, b4, b5, b6, b7, b8, b9, b10, b11, b12] = _
                    have R := (round_128 a b _ _ _ _ ha hb hi18 hi19 hi20 hi21).1
                    have V := (round_128 a b _ _ _ _ ha hb hi18 hi19 hi20 hi21).2
                    refine st_ite (fun hc => ?_) (fun hc => ?_)
                    · replace hc : (i19 == 7) = true := hc
                      have c43 := hc
                      clear hc
                      refine st_lb fun b13 hb13 => ?_
                      replace hb13 : b13 = ((i20 != 0) || (i21 != 0)) := hb13
                      show T.den _ _ [a, b, i2, i3, i4, i5, i6, i7, i8, i9, i10, i11, i12, i13, i14, i15, i16, i17, i18, i19, i20, i21] [b0, b1, b2, b3, b4, b5, b6, b7, b8, b9, b10, b11, b12, b13] = _
                      refine st_ite (fun hc => ?_) (fun hc => ?_)
                      · replace hc : b13 = true := hc
                        have c44 := hc
                        clear hc
                        refine st_ret ?_
                        show some ([], [false]) = _
                        obtain ⟨e1, e2⟩ := rd7 R c43
                        rw [hb13, e1, e2] at c44; cases c44
                      · replace hc : b13 = false := hc
                        have c45 := hc
                        clear hc
                        refine st_ret ?_
                        show some ([], [true]) = _
                        rfl
                    · replace hc : (i19 == 7) = false := hc
                      have c46 := hc
                      clear hc
                      refine st_ite (fun hc => ?_) (fun hc => ?_)
                      · replace hc : (i19 != i21) = true := hc
                        have c47 := hc
                        clear hc
                        refine st_ret ?_
                        show some ([], [false]) = _
                        rw [rdt R c46] at c47; simp at c47
                      · replace hc : (i19 != i21) = false := hc
                        have c48 := hc
                        clear hc
                        refine st_ite (fun hc => ?_) (fun hc => ?_)
                        · replace hc : (i19 != 0) = true := hc
                          have c49 := hc
                          clear hc
                          refine st_ret ?_
                          show some ([], [true]) = _
                          rfl
                        · replace hc : (i19 != 0) = false := hc
                          have c50 := hc
                          clear hc
                          refine st_2_1 (e4_10) (g := true) rfl (l := [126, i18, b]) rfl (m := []) rfl (cl_t (q10_126 i18 b)) fun i22 i23 b13 hi22 hi23 hb13 => ?_
                          show T.den _ _ [a, b, i2, i3, i4, i5, i6, i7, i8, i9, i10, i11, i12, i13, i14, i15, i16, i17, i18, i19, i20, i21, i22, i23] [b0, b1, b2, b3, b4, b5, b6, b7, b8, b9, b10, b11, b12, b13] = _
                          refine st_2_1 (e4_10) (g := true) rfl (l := [124, i22, i20]) rfl (m := []) rfl (cl_t (q10_124 i22 i20)) fun i24 i25 b14 hi24 hi25 hb14 => ?_
                          show T.den _ _ [a, b, i2, i3, i4, i5, i6, i7, i8, i9, i10, i11, i12, i13, i14, i15, i16, i17, i18, i19, i20, i21, i22, i23, i24, i25] [b0, b1, b2, b3, b4, b5, b6, b7, b8, b9, b10, b11, b12, b13, b14] = _
                          have e := back64 (rde R c46 c50) ha hi22 hi24
                          refine st_ite (fun hc => ?_) (fun hc => ?_)
                          · replace hc : (i24 != a) = true := hc
                            have c51 := hc
                            clear hc
                            refine st_ret ?_
                            show some ([], [false]) = _
                            rw [e] at c51; simp at c51
                          · replace hc : (i24 != a) = false := hc
                            have c52 := hc
                            clear hc
                            refine st_ite (fun hc => ?_) (fun hc => ?_)
                            · replace hc : (decide (i20 ≥ b)) = true := hc
                              have c53 := hc
                              clear hc
                              refine st_ret ?_
                              show some ([], [false]) = _
                              have h1 := V c50; rw [decide_eq_true_eq] at c53; omega
                            · replace hc : (decide (i20 ≥ b)) = false := hc
                              have c54 := hc
                              clear hc
                              refine st_ret ?_
                              show some ([], [true]) = _
                              rfl
        · replace hc : (i7 == 7) = false := hc
          have c55 := hc
          clear hc
          refine st_ite (fun hc => ?_) (fun hc => ?_)
          · replace hc : (i7 != i9) = true := hc
            have c56 := hc
            clear hc
            refine st_ret ?_
            show some ([], [false]) = _
            rw [rdt R c55] at c56; simp at c56
          · replace hc : (i7 != i9) = false := hc
            have c57 := hc
            clear hc
            refine st_ite (fun hc => ?_) (fun hc => ?_)
            · replace hc : (i7 != 0) = true := hc
              have c58 := hc
              clear hc
              refine st_2_1 (e4_10) (g := true) rfl (l := [127, a, b]) rfl (m := []) rfl (cl_t (q10_127 a b hb.1 hb.2)) fun i10 i11 b6 hi10 hi11 hb6 => ?_
              show T.den _ _ [a, b, i2, i3, i4, i5, i6, i7, i8, i9, i10, i11] [b0, b1, b2, b3, b4, b5, b6] = _
              refine st_2_1 (e4_10) (g := true) rfl (l := [129, a, b]) rfl (m := []) rfl (cl_t (q10_129 a b hb.1 hb.2)) fun i12 i13 b7 hi12 hi13 hb7 => ?_
              show T.den _ _ [a, b, i2, i3, i4, i5, i6, i7, i8, i9, i10, i11, i12, i13] [b0, b1, b2, b3, b4, b5, b6, b7] = _
              have R := round_127 a b _ _ _ _ ha hb hi10 hi11 hi12 hi13
              refine st_ite (fun hc => ?_) (fun hc => ?_)
              · replace hc : (i11 == 7) = true := hc
                have c59 := hc
                clear hc
                refine st_lb fun b8 hb8 => ?_
                replace hb8 : b8 = ((i12 != 0) || (i13 != 0)) := hb8
                show T.den _ _ [a, b, i2, i3, i4, i5, i6, i7, i8, i9, i10, i11, i12, i13] [b0, b1, b2, b3, b4, b5, b6, b7, b8] = _
                refine st_ite (fun hc => ?_) (fun hc => ?_)
                · replace hc : b8 = true := hc
                  have c60 := hc
                  clear hc
                  refine st_ret ?_
                  show some ([], [false]) = _
                  obtain ⟨e1, e2⟩ := rd7 R c59
                  rw [hb8, e1, e2] at c60; cases c60
                · replace hc : b8 = false := hc
                  have c61 := hc
                  clear hc
                  refine st_2_1 (e4_10) (g := true) rfl (l := [128, a, b]) rfl (m := []) rfl (cl_t (q10_128 a b hb.1 hb.2)) fun i14 i15 b9 hi14 hi15 hb9 => ?_
                  show T.den _ _ [a, b, i2, i3, i4, i5, i6, i7, i8, i9, i10, i11, i12, i13, i14, i15] [b0, b1, b2, b3, b4, b5, b6, b7, b8, b9] = _
                  refine st_2_1 (e4_10) (g := true) rfl (l := [130, a, b]) rfl (m := []) rfl (cl_t (q10_130 a b hb.1 hb.2)) fun i16 i17 b10 hi16 hi17 hb10 => ?_
                  show T.den _ _ [a, b, i2, i3, i4, i5, i6, i7, i8, i9, i10, i11, i12, i13, i14, i15, i16, i17] [b0, b1, b2, b3, b4, b5, b6, b7, b8, b9, b10] = _
                  have R := (round_128 a b _ _ _ _ ha hb hi14 hi15 hi16 hi17).1
                  have V := (round_128 a b _ _ _ _ ha hb hi14 hi15 hi16 hi17).2
                  refine st_ite (fun hc => ?_) (fun hc => ?_)
                  · replace hc : (i15 == 7) = true := hc
                    have c62 := hc
                    clear hc
                    refine st_lb fun b11 hb11 => ?_
                    replace hb11 : b11 = ((i16 != 0) || (i17 != 0)) := hb11
                    show T.den _ _ [a, b, i2, i3, i4, i5, i6, i7, i8, i9, i10, i11, i12, i13, i14, i15, i16, i17] [b0, b1, b2, b3, b4, b5, b6, b7, b8, b9, b10, b11] = _
                    refine st_ite (fun hc => ?_) (fun hc => ?_)
                    · replace hc : b11 = true := hc
                      have c63 := hc
                      clear hc
                      refine st_ret ?_
                      show some ([], [false]) = _
                      obtain ⟨e1, e2⟩ := rd7 R c62
                      rw [hb11, e1, e2] at c63; cases c63
                    · replace hc : b11 = false := hc
                      have c64 := hc
                      clear hc
                      refine st_ret ?_
                      show some ([], [true]) = _
                      rfl
                  · replace hc : (i15 == 7) = false := hc
                    have c65 := hc
                    clear hc
                    refine st_ite (fun hc => ?_) (fun hc => ?_)
                    · replace hc : (i15 != i17) = true := hc
                      have c66 := hc
                      clear hc
                      refine st_ret ?_
                      show some ([], [false]) = _
                      rw [rdt R c65] at c66; simp at c66
                    · replace hc : (i15 != i17) = false := hc
                      have c67 := hc
                      clear hc
                      refine st_ite (fun hc => ?_) (fun hc => ?_)
                      · replace hc : (i15 != 0) = true := hc
                        have c68 := hc
                        clear hc
                        refine st_ret ?_
                        show some ([], [true]) = _
                        rfl
                      · replace hc : (i15 != 0) = false := hc
                        have c69 := hc
                        clear hc
                        refine st_2_1 (e4_10) (g := true) rfl (l := [126, i14, b]) rfl (m := []) rfl (cl_t (q10_126 i14 b)) fun i18 i19 b11 hi18 hi19 hb11 => ?_
                        show T.den _ _ [a, b, i2, i3, i4, i5, i6, i7, i8, i9, i10, i11, i12, i13, i14, i15, i16, i17, i18, i19] [b0, b1, b2, b3, b4, b5, b6, b7, b8, b9, b10, b11] = _
                        refine st_2_1 (e4_10) (g := true) rfl (l := [124, i18, i16]) rfl (m := []) rfl (cl_t (q10_124 i18 i16)) fun i20 i21 b12 hi20 hi21 hb12 => ?_
                        show T.den _ _ [a, b, i2, i3, i4, i5, i6, i7, i8, i9, i10, i11, i12, i13, i14, i15, i16, i17, i18, i19, i20, i21] [b0, b1, b2, b3, b4, b5, b6, b7, b8, b9, b10, b11, b12] = _
                        have e := back64 (rde R c65 c69) ha hi18 hi20
                        refine st_ite (fun hc => ?_) (fun hc => ?_)
                        · replace hc : (i20 != a) = true := hc
                          have c70 := hc
                          clear hc
                          refine st_ret ?_
                          show some ([], [false]) = _
                          rw [e] at c70; simp at c70
                        · replace hc : (i20 != a) = false := hc
                          have c71 := hc
                          clear hc
                          refine st_ite (fun hc => ?_) (fun hc => ?_)
                          · replace hc : (decide (i16 ≥ b)) = true := hc
                            have c72 := hc
                            clear hc
                            refine st_ret ?_
                            show some ([], [false]) = _
                            have h1 := V c69; rw [decide_eq_true_eq] at c72; omega
                          · replace hc : (decide (i16 ≥ b)) = false := hc
                            have c73 := hc
                            clear hc
                            refine st_ret ?_
                            show some ([], [true]) = _
                            rfl
              · replace hc : (i11 == 7) = false := hc
                have c74 := hc
                clear hc
                refine st_ite (fun hc => ?_) (fun hc => ?_)
                · replace hc : (i11 != i13) = true := hc
                  have c75 := hc
                  clear hc
                  refine st_ret ?_
                  show some ([], [false]) = _
                  rw [rdt R c74] at c75; simp at c75
                · replace hc : (i11 != i13) = false := hc
                  have c76 := hc
                  clear hc
                  refine st_ite (fun hc => ?_) (fun hc => ?_)
                  · replace hc : (i11 != 0) = true := hc
                    have c77 := hc
                    clear hc
                    refine st_2_1 (e4_10) (g := true) rfl (l := [128, a, b]) rfl (m := []) rfl (cl_t (q10_128 a b hb.1 hb.2)) fun i14 i15 b8 hi14 hi15 hb8 => ?_
                    show T.den _ _ [a, b, i2, i3, i4, i5, i6, i7, i8, i9, i10, i11, i12, i13, i14, i15] [b0, b1, b2, b3, b4, b5, b6, b7, b8] = _
                    refine st_2_1 (e4_10) (g := true) rfl (l := [130, a, b]) rfl (m := []) rfl (cl_t (q10_130 a b hb.1 hb.2)) fun i16 i17 b9 hi16 hi17 hb9 => ?_
                    show T.den _ _ [a, b, i2, i3, i4, i5, i6, i7, i8, i9, i10, i11, i12, i13, i14, i15, i16, i17] [b0, b1, b2, b3, b4, b5, b6, b7, b8, b9] = _
                    have R := (round_128 a b _ _ _ _ ha hb hi14 hi15 hi16 hi17).1
                    have V := (round_128 a b _ _ _ _ ha hb hi14 hi15 hi16 hi17).2
                    refine st_ite (fun hc => ?_) (fun hc => ?_)
                    · replace hc : (i15 == 7) = true := hc
                      have c78 := hc
                      clear hc
                      refine st_lb fun b10 hb10 => ?_
                      replace hb10 : b10 = ((i16 != 0) || (i17 != 0)) := hb10
                      show T.den _ _ [a, b, i2, i3, i4, i5, i6, i7, i8, i9, i10, i11, i12, i13, i14, i15, i16, i17] [b0, b1, b2, b3, b4, b5, b6, b7, b8, b9, b10] = _
                      refine st_ite (fun hc => ?_) (fun hc => ?_)
                      · replace hc : b10 = true := hc
                        have c79 := hc
                        clear hc
                        refine st_ret ?_
                        show some ([], [false]) = _
                        obtain ⟨e1, e2⟩ := rd7 R c78
                        rw [hb10, e1, e2] at c79; cases c79
                      · replace hc : b10 = false := hc
                        have c80 := hc
                        clear hc
                        refine st_ret ?_
                        show some ([], [true]) = _
                        rfl
                    · replace hc : (i15 == 7) = false := hc
                      have c81 := hc
                      clear hc
                      refine st_ite (fun hc => ?_) (fun hc => ?_)
                      · replace hc : (i15 != i17) = true := hc
                        have c82 := hc
                        clear hc
                        refine st_ret ?_
                        show some ([], [false]) = _
                        rw [rdt R c81] at c82; simp at c82
                      · replace hc : (i15 != i17) = false := hc
                        have c83 := hc
                        clear hc
                        refine st_ite (fun hc => ?_) (fun hc => ?_)
                        · replace hc : (i15 != 0) = true := hc
                          have c84 := hc
                          clear hc
                          refine st_ret ?_
                          show some ([], [true]) = _
                          rfl
                        · replace hc : (i15 != 0) = false := hc
                          have c85 := hc
                          clear hc
                          refine st_2_1 (e4_10) (g := true) rfl (l := [126, i14, b]) rfl (m := []) rfl (cl_t (q10_126 i14 b)) fun i18 i19 b10 hi18 hi19 hb10 => ?_
                          show T.den _ _ [a, b, i2, i3, i4, i5, i6, i7, i8, i9, i10, i11, i12, i13, i14, i15, i16, i17, i18, i19] [b0, b1, b2, b3, b4, b5, b6, b7, b8, b9, b10] = _
                          refine st_2_1 (e4_10) (g := true) rfl (l := [124, i18, i16]) rfl (m := []) rfl (cl_t (q10_124 i18 i16)) fun i20 i21 b11 hi20 hi21 hb11 => ?_
                          show T.den _ _ [a, b, i2, i3, i4, i5, i6, i7, i8, i9, i10, i11, i12, i13, i14, i15, i16, i17, i18, i19, i20, i21] [b0, b1, b2, b3, b4, b5, b6, b7, b8, b9, b10, b11] = _
                          have e := back64 (rde R c81 c85) ha hi18 hi20
                          refine st_ite (fun hc => ?_) (fun hc => ?_)
                          · replace hc : (i20 != a) = true := hc
                            have c86 := hc
                            clear hc
                            refine st_ret ?_
                            show some ([], [false]) = _
                            rw [e] at c86; simp at c86
                          · replace hc : (i20 != a) = false := hc
                            have c87 := hc
                            clear hc
                            refine st_ite (fun hc => ?_) (fun hc => ?_)
                            · replace hc : (decide (i16 ≥ b)) = true := hc
                              have c88 := hc
                              clear hc
                              refine st_ret ?_
                              show some ([], [false]) = _
                              have h1 := V c85; rw [decide_eq_true_eq] at c88; omega
                            · replace hc : (decide (i16 ≥ b)) = false := hc
                              have c89 := hc
                              clear hc
                              refine st_ret ?_
                              show some ([], [true]) = _
                              rfl
                  · replace hc : (i11 != 0) = false := hc
                    have c90 := hc
                    clear hc
                    refine st_2_1 (e4_10) (g := true) rfl (l := [126, i10, b]) rfl (m := []) rfl (cl_t (q10_126 i10 b)) fun i14 i15 b8 hi14 hi15 hb8 => ?_
                    show T.den _ _ [a, b, i2, i3, i4, i5, i6, i7, i8, i9, i10, i11, i12, i13, i14, i15] [b0, b1, b2, b3, b4, b5, b6, b7, b8] = _
                    refine st_2_1 (e4_10) (g := true) rfl (l := [124, i14, i12]) rfl (m := []) rfl (cl_t (q10_124 i14 i12)) fun i16 i17 b9 hi16 hi17 hb9 => ?_
                    show T.den _ _ [a, b, i2, i3, i4, i5, i6, i7, i8, i9, i10, i11, i12, i13, i14, i15, i16, i17] [b0, b1, b2, b3, b4, b5, b6, b7, b8, b9] = _
                    have e := back64 (rde R c74 c90) ha hi14 hi16
                    refine st_ite (fun hc => ?_) (fun hc => ?_)
                    · replace hc : (i16 != a) = true := hc
                      have c91 := hc
                      clear hc
                      refine st_ret ?_
                      show some ([], [false]) = _
                      rw [e] at c91; simp at c91
                    · replace hc : (i16 != a) = false := hc
                      have c92 := hc
                      clear hc
                      refine st_2_1 (e4_10) (g := true) rfl (l := [128, a, b]) rfl (m := []) rfl (cl_t (q10_128 a b hb.1 hb.2)) fun i18 i19 b10 hi18 hi19 hb10 => ?_
                      show T.den _ _ [a, b, i2, i3, i4, i5, i6, i7, i8, i9, i10, i11, i12, i13, i14, i15, i16, i17, i18, i19] [b0, b1, b2, b3, b4, b5, b6, b7, b8, b9, b10] = _
                      refine st_2_1 (e4_10) (g := true) rfl (l := [130, a, b]) rfl (m := []) rfl (cl_t (q10_130 a b hb.1 hb.2)) fun i20 i21 b11 hi20 hi21 hb11 => ?_
                      show T.den _ _ [a, b, i2, i3, i4, i5, i6, i7, i8, i9, i10, i11, i12, i13, i14, i15, i16, i17, i18, i19, i20, i21] [b0, b1, b2, b3, b4, b5, b6, b7, b8, b9, b10, b11] = _
                      have R := (round_128 a b _ _ _ _ ha hb hi18 hi19 hi20 hi21).1
                      have V := (round_128 a b _ _ _ _ ha hb hi18 hi19 hi20 hi21).2
                      refine st_ite (fun hc => ?_) (fun hc => ?_)
                      · replace hc : (i19 == 7) = true := hc
                        have c93 := hc
                        clear hc
                        refine st_lb fun b12 hb12 => ?_
                        replace hb12 : b12 = ((i20 != 0) || (i21 != 0)) := hb12
                        show T.den _ _ [a, b, i2, i3, i4, i5, i6, i7, i8, i9, i10, i11, i12, i13, i14, i15, i16, i17, i18, i19, i20, i21] [b0, b1, b2, b3, b4, b5, b6, b7, b8, b9, b10, b11, b12] = _
                        refine st_ite (fun hc => ?_) (fun hc => ?_)
                        · replace hc : b12 = true := hc
                          have c94 := hc
                          clear hc
                          refine st_ret ?_
                          show some ([], [false]) = _
                          obtain ⟨e1, e2⟩ := rd7 R c93
                          rw [hb12, e1, e2] at c94; cases c94
                        · replace hc : b12 = false := hc
                          have c95 := hc
                          clear hc
                          refine st_ret ?_
                          show some ([], [true]) = _
                          rfl
                      · replace hc : (i19 == 7) = false := hc
                        have c96 := hc
                        clear hc
                        refine st_ite (fun hc => ?_) (fun hc => ?_)
                        · replace hc : (i19 != i21) = true := hc
                          have c97 := hc
                          clear hc
                          refine st_ret ?_
                          show some ([], [false]) = _
                          rw [rdt R c96] at c97; simp at c97
                        · replace hc : (i19 != i21) = false := hc
                          have c98 := hc
                          clear hc
                          refine st_ite (fun hc => ?_) (fun hc => ?_)
                          · replace hc : (i19 != 0) = true := hc
                            have c99 := hc
                            clear hc
                            refine st_ret ?_
                            show some ([], [true]) = _
                            rfl
                          · replace hc : (i19 != 0) = false := hc
                            have c100 := hc
                            clear hc
                            refine st_2_1 (e4_10) (g := true) rfl (l := [126, i18, b]) rfl (m := []) rfl (cl_t (q10_126 i18 b)) fun i22 i23 b12 hi22 hi23 hb12 => ?_
                            show T.den _ _ [a, b, i2, i3, i4, i5, i6, i7, i8, i9, i10, i11, i12, i13, i14, i15, i16, i17, i18, i19, i20, i21, i22, i23] [b0, b1, b2, b3, b4, b5, b6, b7, b8, b9, b10, b11, b12] = _
                            refine st_2_1 (e4_10) (g := true) rfl (l := [124, i22, i20]) rfl (m := []) rfl (cl_t (q10_124 i22 i20)) fun i24 i25 b13 hi24 hi25 hb13 => ?_
                            show T.den _ _ [a, b, i2, i3, i4, i5, i6, i7, i8, i9, i10, i11, i12, i13, i14, i15, i16, i17, i18, i19, i20, i21, i22, i23, i24, i25] [b0, b1, b2, b3, b4, b5, b6, b7, b8, b9, b10, b11, b12, b13] = _
                            have e := back64 (rde R c96 c100) ha hi22 hi24
                            refine st_ite (fun hc => ?_) (fun hc => ?_)
                            · replace hc : (i24 != a) = true := hc
                              have c101 := hc
                              clear hc
                              refine st_ret ?_
                              show some ([], [false]) = _
                              rw [e] at c101; simp at c101
                            · replace hc : (i24 != a) = false := hc
                              have c102 := hc
                              clear hc
                              refine st_ite (fun hc => ?_) (fun hc => ?_)
                              · replace hc : (decide (i20 ≥ b)) = true := hc
                                have c103 := hc
                                clear hc
                                refine st_ret ?_
                                show some ([], [false]) = _
                                have h1 := V c100; rw [decide_eq_true_eq] at c103; omega
                              · replace hc : (decide (i20 ≥ b)) = false := hc
                                have c104 := hc
                                clear hc
                                refine st_ret ?_
                                show some ([], [true]) = _
                                rfl
            · replace hc : (i7 != 0) = false := hc
              have c105 := hc
              clear hc
              refine st_2_1 (e4_10) (g := true) rfl (l := [108, i6, b]) rfl (m := []) rfl (cl_t (q10_108 i6 b)) fun i10 i11 b6 hi10 hi11 hb6 => ?_
              show T.den _ _ [a, b, i2, i3, i4, i5, i6, i7, i8, i9, i10, i11] [b0, b1, b2, b3, b4, b5, b6] = _
              refine st_2_1 (e4_10) (g := true) rfl (l := [106, i10, i8]) rfl (m := []) rfl (cl_t (q10_106 i10 i8)) fun i12 i13 b7 hi12 hi13 hb7 => ?_
              show T.den _ _ [a, b, i2, i3, i4, i5, i6, i7, i8, i9, i10, i11, i12, i13] [b0, b1, b2, b3, b4, b5, b6, b7] = _
              have e := back32 (rde R c55 c105) hi10 hi12
              refine st_ite (fun hc => ?_) (fun hc => ?_)
              · replace hc : ((IntKind.wrap .u32 i12) != (IntKind.wrap .u32 a)) = true := hc
                have c106 := hc
                clear hc
                refine st_ret ?_
                show some ([], [false]) = _
                rw [e] at c106; simp at c106
              · replace hc : ((IntKind.wrap .u32 i12) != (IntKind.wrap .u32 a)) = false := hc
                have c107 := hc
                clear hc
                refine st_ite (fun hc => ?_) (fun hc => ?_)
                · replace hc : (decide (i8 ≥ (arI .and .u64 b 4294967295))) = true := hc
                  have c108 := hc
                  clear hc
                  refine st_ret ?_
                  show some ([], [false]) = _
                  have h1 := V c105; rw [decide_eq_true_eq] at c108; omega
                · replace hc : (decide (i8 ≥ (arI .and .u64 b 4294967295))) = false := hc
                  have c109 := hc
                  clear hc
                  refine st_2_1 (e4_10) (g := true) rfl (l := [127, a, b]) rfl (m := []) rfl (cl_t (q10_127 a b hb.1 hb.2)) fun i14 i15 b8 hi14 hi15 hb8 => ?_
                  show T.den _ _ [a, b, i2, i3, i4, i5, i6, i7, i8, i9, i10, i11, i12, i13, i14, i15] [b0, b1, b2, b3, b4, b5, b6, b7, b8] = _
                  refine st_2_1 (e4_10) (g := true) rfl (l := [129, a, b]) rfl (m := []) rfl (cl_t (q10_129 a b hb.1 hb.2)) fun i16 i17 b9 hi16 hi17 hb9 => ?_
                  show T.den _ _ [a, b, i2, i3, i4, i5, i6, i7, i8, i9, i10, i11, i12, i13, i14, i15, i16, i17] [b0, b1, b2, b3, b4, b5, b6, b7, b8, b9] = _
                  have R := round_127 a b _ _ _ _ ha hb hi14 hi15 hi16 hi17
                  refine st_ite (fun hc => ?_) (fun hc => ?_)
                  · replace hc : (i15 == 7) = true := hc
                    have c110 := hc
                    clear hc
                    refine st_lb fun b10 hb10 => ?_
                    replace hb10 : b10 = ((i16 != 0) || (i17 != 0)) := hb10
                    show T.den _ _ [a, b, i2, i3, i4, i5, i6, i7, i8, i9, i10, i11, i12, i13, i14, i15, i16, i17] [b0, b1, b2, b3, b4, b5, b6, b7, b8, b9, b10] = _
                    refine st_ite (fun hc => ?_) (fun hc => ?_)
                    · replace hc : b10 = true := hc
                      have c111 := hc
                      clear hc
                      refine st_ret ?_
                      show some ([], [false]) = _
                      obtain ⟨e1, e2⟩ := rd7 R c110
                      rw [hb10, e1, e2] at c111; cases c111
                    · replace hc : b10 = false := hc
                      have c112 := hc
                      clear hc
                      refine st_2_1 (e4_10) (g := true) rfl (l := [128, a, b]) rfl (m := []) rfl (cl_t (q10_128 a b hb.1 hb.2)) fun i18 i19 b11 hi18 hi19 hb11 => ?_
                      show T.den _ _ [a, b, i2, i3, i4, i5, i6, i7, i8, i9, i10, i11, i12, i13, i14, i15, i16, i17, i18, i19] [b0, b1, b2, b3, b4, b5, b6, b7, b8, b9, b10, b11] = _
                      refine st_2_1 (e4_10) (g := true) rfl (l := [130, a, b]) rfl (m := []) rfl (cl_t (q10_130 a b hb.1 hb.2)) fun i20 i21 b12 hi20 hi21 hb12 => ?_
                      show T.den _ _ [a, b, i2, i3, i4, i5, i6, i7, i8, i9, i10, i11, i12, i13, i14, i15, i16, i17, i18, i19, i20, i21] [b0, b1, b2, b3, b4, b5, b6, b7, b8, b9, b10, b11, b12] = _
                      have R := (round_128 a b _ _ _ _ ha hb hi18 hi19 hi20 hi21).1
                      have V := (round_128 a b _ _ _ _ ha hb hi18 hi19 hi20 hi21).2
                      refine st_ite (fun hc => ?_) (fun hc => ?_)
                      · replace hc : (i19 == 7) = true := hc
                        have c113 := hc
                        clear hc
                        refine st_lb fun b13 hb13 => ?_
                        replace hb13 : b13 = ((i20 != 0) || (i21 != 0)) := hb13
                        show T.den _ _ [a, b, i2, i3, i4, i5, i6, i7, i8, i9, i10, i11, i12, i13, i14, i15, i16, i17, i18, i19, i20, i21] [b0, b1, b2, b3, b4, b5, b6, b7, b8, b9, b10, b11, b12, b13] = _
                        refine st_ite (fun hc => ?_) (fun hc => ?_)
                        · replace hc : b13 = true := hc
                          have c114 := hc
                          clear hc
                          refine st_ret ?_
                          show some ([], [false]) = _
                          obtain ⟨e1, e2⟩ := rd7 R c113
                          rw [hb13, e1, e2] at c114; cases c114
                        · replace hc : b13 = false := hc
                          have c115 := hc
                          clear hc
                          refine st_ret ?_
                          show some ([], [true]) = _
                          rfl
                      · replace hc : (i19 == 7) = false := hc
                        have c116 := hc
                        clear hc
                        refine st_ite (fun hc => ?_) (fun hc => ?_)
                        · replace hc : (i19 != i21) = true := hc
                          have c117 := hc
                          clear hc
                          refine st_ret ?_
                          show some ([], [false]) = _
                          rw [rdt R c116] at c117; simp at c117
                        · replace hc : (i19 != i21) = false := hc
                          have c118 := hc
                          clear hc
                          refine st_ite (fun hc => ?_) (fun hc => ?_)
                          · replace hc : (i19 != 0) = true := hc
                            have c119 := hc
                            clear hc
                            refine st_ret ?_
                            show some ([], [true]) = _
                            rfl
                          · replace hc : (i19 != 0) = false := hc
                            have c120 := hc
                            clear hc
                            refine st_2_1 (e4_10) (g := true) rfl (l := [126, i18, b]) rfl (m := []) rfl (cl_t (q10_126 i18 b)) fun i22 i23 b13 hi22 hi23 hb13 => ?_
                            show T.den _ _ [a, b, i2, i3, i4, i5, i6, i7, i8, i9, i10, i11, i12, i13, i14, i15, i16, i17, i18, i19, i20, i21, i22, i23] [b0, b1, b2, b3, b4, b5, b6, b7, b8, b9, b10, b11, b12, b13] = _
                            refine st_2_1 (e4_10) (g := true) rfl (l := [124, i22, i20]) rfl (m := []) rfl (cl_t (q10_124 i22 i20)) fun i24 i25 b14 hi24 hi25 hb14 => ?_
                            show T.den _ _ [a, b, i2, i3, i4, i5, i6, i7, i8, i9, i10, i11, i12, i13, i14, i15, i16, i17, i18, i19, i20, i21, i22, i23, i24, i25] [b0, b1, b2, b3, b4, b5, b6, b7, b8, b9, b10, b11, b12, b13, b14] = _
                            have e := back64 (rde R c116 c120) ha hi22 hi24
                            refine st_ite (fun hc => ?_) (fun hc => ?_)
                            · replace hc : (i24 != a) = true := hc
                              have c121 := hc
                              clear hc
                              refine st_ret ?_
                              show some ([], [false]) = _
                              rw [e] at c121; simp at c121
                            · replace hc : (i24 != a) = false := hc
                              have c122 := hc
                              clear hc
                              refine st_ite (fun hc => ?_) (fun hc => ?_)
                              · replace hc : (decide (i20 ≥ b)) = true := hc
                                have c123 := hc
                                clear hc
                                refine st_ret ?_
                                show some ([], [false]) = _
                                have h1 := V c120; rw [decide_eq_true_eq] at c123; omega
                              · replace hc : (decide (i20 ≥ b)) = false := hc
                                have c124 := hc
                                clear hc
                                refine st_ret ?_
                                show some ([], [true]) = _
                                rfl
                  · replace hc : (i15 == 7) = false := hc
                    have c125 := hc
                    clear hc
                    refine st_ite (fun hc => ?_) (fun hc => ?_)
                    · replace hc : (i15 != i17) = true := hc
                      have c126 := hc
                      clear hc
                      refine st_ret ?_
                      show some ([], [false]) = _
                      rw [rdt R c125] at c126; simp at c126
                    · replace hc : (i15 != i17) = false := hc
                      have c127 := hc
                      clear hc
                      refine st_ite (fun hc => ?_) (fun hc => ?_)
                      · replace hc : (i15 != 0) = true := hc
                        have c128 := hc
                        clear hc
                        refine st_2_1 (e4_10) (g := true) rfl (l := [128, a, b]) rfl (m := []) rfl (cl_t (q10_128 a b hb.1 hb.2)) fun i18 i19 b10 hi18 hi19 hb10 => ?_
                        show T.den _ _ [a, b, i2, i3, i4, i5, i6, i7, i8, i9, i10, i11, i12, i13, i14, i15, i16, i17, i18, i19] [b0, b1, b2, b3, b4, b5, b6, b7, b8, b9, b10] = _
                        refine st_2_1 (e4_10) (g := true) rfl (l := [130, a, b]) rfl (m := []) rfl (cl_t (q10_130 a b hb.1 hb.2)) fun i20 i21 b11 hi20 hi21 hb11 => ?_
                        show T.den _ _ [a, b, i2, i3, i4, i5, i6, i7, i8, i9, i10, i11, i12, i13, i14, i15, i16, i17, i18, i19, i20, i21] [b0, b1, b2, b3, b4, b5, b6, b7, b8, b9, b10, b11] = _
                        have R := (round_128 a b _ _ _ _ ha hb hi18 hi19 hi20 hi21).1
                        have V := (round_128 a b _ _ _ _ ha hb hi18 hi19 hi20 hi21).2
                        refine st_ite (fun hc => ?_) (fun hc => ?_)
                        · replace hc : (i19 == 7) = true := hc
                          have c129 := hc
                          clear hc
                          refine st_lb fun b12 hb12 => ?_
                          replace hb12 : b12 = ((i20 != 0) || (i21 != 0)) := hb12
                          show T.den _ _ [a, b, i2, i3, i4, i5, i6, i7, i8, i9, i10, i11, i12, i13, i14, i15, i16, i17, i18, i19, i20, i21] [b0, b1, b2, b3, b4, b5, b6, b7, b8, b9, b10, b11, b12] = _
                          refine st_ite (fun hc => ?_) (fun hc => ?_)
                          · replace hc : b12 = true := hc
                            have c130 := hc
                            clear hc
                            refine st_ret ?_
                            show some ([], [false]) = _
                            obtain ⟨e1, e2⟩ := rd7 R c129
                            rw [hb12, e1, e2] at c130; cases c130
                          · replace hc : b12 = false := hc
                            have c131 := hc
                            clear hc
                            refine st_ret ?_
                            show some ([], [true]) = _
                            rfl
                        · replace hc : (i19 == 7) = false := hc
                          have c132 := hc
                          clear hc
                          refine st_ite (fun hc => ?_) (fun hc => ?_)
                          · replace hc : (i19 != i21) = true := hc
                            have c133 := hc
                            clear hc
                            refine st_ret ?_
                            show some ([], [false]) = _
                            rw [rdt R c132] at c133; simp at c133
                          · replace hc : (i19 != i21) = false := hc
                            have c134 := hc
                            clear hc
                            refine st_ite (fun hc => ?_) (fun hc => ?_)
                            · replace hc : (i19 != 0) = true := hc
                              have c135 := hc
                              clear hc
                              refine st_ret ?_
                              show some ([], [true]) = _
                              rfl
                            · replace hc : (i19 != 0) = false := hc
                              have c136 := hc
                              clear hc
                              refine st_2_1 (e4_10) (g := true) rfl (l := [126, i18, b]) rfl (m := []) rfl (cl_t (q10_126 i18 b)) fun i22 i23 b12 hi22 hi23 hb12 => ?_
                              show T.den _ _ [a, b, i2, i3, i4, i5, i6, i7, i8, i9, i10, i11, i12, i13, i14, i15, i16, i17, i18, i19, i20, i21, i22, i23] [b0, b1, b2, b3, b4, b5, b6, b7, b8, b9, b10, b11, b12] = _
                              refine st_2_1 (e4_10) (g := true) rfl (l := [124, i22, i20]) rfl (m := []) rfl (cl_t (q10_124 i22 i20)) fun i24 i25 b13 hi24 hi25 hb13 => ?_
                              show T.den _ _ [a, b, i2, i3, i4, i5, i6, i7, i8, i9, i10, i11, i12, i13, i14, i15, i16, i17, i18, i19, i20, i21, i22, i23, i24, i25] [b0, b1, b2, b3, b4, b5, b6, b7, b8, b9, b10, b11, b12, b13] = _
                              have e := back64 (rde R c132 c136) ha hi22 hi24
                              refine st_ite (fun hc => ?_) (fun hc => ?_)
                              · replace hc : (i24 != a) = true := hc
                                have c137 := hc
                                clear hc
                                refine st_ret ?_
                                show some ([], [false]) = _
                                rw [e] at c137; simp at c137
                              · replace hc : (i24 != a) = false := hc
                                have c138 := hc
                                clear hc
                                refine st_ite (fun hc => ?_) (fun hc => ?_)
                                · replace hc : (decide (i20 ≥ b)) = true := hc
                                  have c139 := hc
                                  clear hc
                                  refine st_ret ?_
                                  show some ([], [false]) = _
                                  have h1 := V c136; rw [decide_eq_true_eq] at c139; omega
                                · replace hc : (decide (i20 ≥ b)) = false := hc
                                  have c140 := hc
                                  clear hc
                                  refine st_ret ?_
                                  show some ([], [true]) = _
                                  rfl
                      · replace hc : (i15 != 0) = false := hc
                        have c141 := hc
                        clear hc
                        refine st_2_1 (e4_10) (g := true) rfl (l := [126, i14, b]) rfl (m := []) rfl (cl_t (q10_126 i14 b)) fun i18 i19 b10 hi18 hi19 hb10 => ?_
                        show T.den _ _ [a, b, i2, i3, i4, i5, i6, i7, i8, i9, i10, i11, i12, i13, i14, i15, i16, i17, i18, i19] [b0, b1, b2, b3, b4, b5, b6, b7, b8, b9, b10] = _
                        refine st_2_1 (e4_10) (g := true) rfl (l := [124, i18, i16]) rfl (m := []) rfl (cl_t (q10_124 i18 i16)) fun i20 i21 b11 hi20 hi21 hb11 => ?_
                        show T.den _ _ [a, b, i2, i3, i4, i5, i6, i7, i8, i9, i10, i11, i12, i13, i14, i15, i16, i17, i18, i19, i20, i21] [b0, b1, b2, b3, b4, b5, b6, b7, b8, b9, b10, b11] = _
                        have e := back64 (rde R c125 c141) ha hi18 hi20
                        refine st_ite (fun hc => ?_) (fun hc => ?_)
                        · replace hc : (i20 != a) = true := hc
                          have c142 := hc
                          clear hc
                          refine st_ret ?_
                          show some ([], [false]) = _
                          rw [e] at c142; simp at c142
                        · replace hc : (i20 != a) = false := hc
                          have c143 := hc
                          clear hc
                          refine st_2_1 (e4_10) (g := true) rfl (l := [128, a, b]) rfl (m := []) rfl (cl_t (q10_128 a b hb.1 hb.2)) fun i22 i23 b12 hi22 hi23 hb12 => ?_
                          show T.den _ _ [a, b, i2, i3, i4, i5, i6, i7, i8, i9, i10, i11, i12, i13, i14, i15, i16, i17, i18, i19, i20, i21, i22, i23] [b0, b1, b2, b3, b4, b5, b6, b7, b8, b9, b10, b11, b12] = _
                          refine st_2_1 (e4_10) (g := true) rfl (l := [130, a, b]) rfl (m := []) rfl (cl_t (q10_130 a b hb.1 hb.2)) fun i24 i25 b13 hi24 hi25 hb13 => ?_
                          show T.den _ _ [a, b, i2, i3, i4, i5, i6, i7, i8, i9, i10, i11, i12, i13, i14, i15, i16, i17, i18, i19, i20, i21, i22, i23, i24, i25] [b0, b1, b2, b3, b4, b5, b6, b7, b8, b9, b10, b11, b12, b13] = _
                          have R := (round_128 a b _ _ _ _ ha hb hi22 hi23 hi24 hi25).1
                          have V := (round_128 a b _ _ _ _ ha hb hi22 hi23 hi24 hi25).2
                          refine st_ite (fun hc => ?_) (fun hc => ?_)
                          · replace hc : (i23 == 7) = true := hc
                            have c144 := hc
                            clear hc
                            refine st_lb fun b14 hb14 => ?_
                            replace hb14 : b14 = ((i24 != 0) || (i25 != 0)) := hb14
                            show T.den _ _ [a, b, i2, i3, i4, i5, i6, i7, i8, i9, i10, i11, i12, i13, i14, i15, i16, i17, i18, i19, i20, i21, i22, i23, i24, i25] [b0, b1, b2, b3, b4, b5, b6, b7, b8, b9, b10, b11, b12, b13, b14] = _
                            refine st_ite (fun hc => ?_) (fun hc => ?_)
                            · replace hc : b14 = true := hc
                              have c145 := hc
                              clear hc
                              refine st_ret ?_
                              show some ([], [false]) = _
                              obtain ⟨e1, e2⟩ := rd7 R c144
                              rw [hb14, e1, e2] at c145; cases c145
                            · replace hc : b14 = false := hc
                              have c146 := hc
                              clear hc
                              refine st_ret ?_
                              show some ([], [true]) = _
                              rfl
                          · replace hc : (i23 == 7) = false := hc
                            have c147 := hc
                            clear hc
                            refine st_ite (fun hc => ?_) (fun hc => ?_)
                            · replace hc : (i23 != i25) = true := hc
                              have c148 := hc
                              clear hc
                              refine st_ret ?_
                              show some ([], [false]) = _
                              rw [rdt R c147] at c148; simp at c148
                            · replace hc : (i23 != i25) = false := hc
                              have c149 := hc
                              clear hc
                              refine st_ite (fun hc => ?_) (fun hc => ?_)
                              · replace hc : (i23 != 0) = true := hc
                                have c150 := hc
                                clear hc
                                refine st_ret ?_
                                show some ([], [true]) = _
                                rfl
                              · replace hc : (i23 != 0) = false := hc
                                have c151 := hc
                                clear hc
                                refine st_2_1 (e4_10) (g := true) rfl (l := [126, i22, b]) rfl (m := []) rfl (cl_t (q10_126 i22 b)) fun i26 i27 b14 hi26 hi27 hb14 => ?_
                                show T.den _ _ [a, b, i2, i3, i4, i5, i6, i7, i8, i9, i10, i11, i12, i13, i14, i15, i16, i17, i18, i19, i20, i21, i22, i23, i24, i25, i26, i27] [b0, b1, b2, b3, b4, b5, b6, b7, b8, b9, b10, b11, b12, b13, b14] = _
                                refine st_2_1 (e4_10) (g := true) rfl (l := [124, i26, i24]) rfl (m := []) rfl (cl_t (q10_124 i26 i24)) fun i28 i29 b15 hi28 hi29 hb15 => ?_
                                show T.den _ _ [a, b, i2, i3, i4, i5, i6, i7, i8, i9, i10, i11, i12, i13, i14, i15, i16, i17, i18, i19, i20, i21, i22, i23, i24, i25, i26, i27, i28, i29] [b0, b1, b2, b3, b4, b5, b6, b7, b8, b9, b10, b11, b12, b13, b14, b15] = _
                                have e := back64 (rde R c147 c151) ha hi26 hi28
                                refine st_ite (fun hc => ?_) (fun hc => ?_)
                                · replace hc : (i28 != a) = true := hc
                                  have c152 := hc
                                  clear hc
                                  refine st_ret ?_
                                  show some ([], [false]) = _
                                  rw [e] at c152; simp at c152
                                · replace hc : (i28 != a) = false := hc
                                  have c153 := hc
                                  clear hc
                                  refine st_ite (fun hc => ?_) (fun hc => ?_)
                                  · replace hc : (decide (i24 ≥ b)) = true := hc
                                    have c154 := hc
                                    clear hc
                                    refine st_ret ?_
                                    show some ([], [false]) = _
                                    have h1 := V c151; rw [decide_eq_true_eq] at c154; omega
                                  · replace hc : (decide (i24 ≥ b)) = false := hc
                                    have c155 := hc
                                    clear hc
                                    refine st_ret ?_
                                    show some ([], [true]) = _
                                    rfl
    · replace hc : (i3 == 7) = false := hc
      have c156 := hc
      clear hc
      refine st_ite (fun hc => ?_) (fun hc => ?_)
      · replace hc : (i3 != i5) = true := hc
        have c157 := hc
        clear hc
        refine st_ret ?_
        show some ([], [false]) = _
        rw [rdt R c156] at c157; simp at c157
      · replace hc : (i3 != i5) = false := hc
        have c158 := hc
        clear hc
        refine st_ite (fun hc => ?_) (fun hc => ?_)
        · replace hc : (i3 != 0) = true := hc
          have c159 := hc
          clear hc
          refine st_2_1 (e4_10) (g := true) rfl (l := [110, a, b]) rfl (m := []) rfl (cl_t (q10_110 a b)) fun i6 i7 b3 hi6 hi7 hb3 => ?_
          show T.den _ _ [a, b, i2, i3, i4, i5, i6, i7] [b0, b1, b2, b3] = _
          refine st_2_1 (e4_10) (g := true) rfl (l := [112, a, b]) rfl (m := []) rfl (cl_t (q10_112 a b)) fun i8 i9 b4 hi8 hi9 hb4 => ?_
          show T.den _ _ [a, b, i2, i3, i4, i5, i6, i7, i8, i9] [b0, b1, b2, b3, b4] = _
          have R := (round_110 a b _ _ _ _ ha hb hi6 hi7 hi8 hi9).1
          have V := (round_110 a b _ _ _ _ ha hb hi6 hi7 hi8 hi9).2
          refine st_ite (fun hc => ?_) (fun hc => ?_)
          · replace hc : (i7 == 7) = true := hc
            have c160 := hc
            clear hc
            refine st_lb fun b5 hb5 => ?_
            replace hb5 : b5 = ((i8 != 0) || (i9 != 0)) := hb5
            show T.den _ _ [a, b, i2, i3, i4, i5, i6, i7, i8, i9] [b0, b1, b2, b3, b4, b5] = _
            refine st_ite (fun hc => ?_) (fun hc => ?_)
            · replace hc : b5 = true := hc
              have c161 := hc
              clear hc
              refine st_ret ?_
              show some ([], [false]) = _
              obtain ⟨e1, e2⟩ := rd7 R c160
              rw [hb5, e1, e2] at c161; cases c161
            · replace hc : b5 = false := hc
              have c162 := hc
              clear hc
              refine st_2_1 (e4_10) (g := true) rfl (l := [127, a, b]) rfl (m := []) rfl (cl_t (q10_127 a b hb.1 hb.2)) fun i10 i11 b6 hi10 hi11 hb6 => ?_
              show T.den _ _ [a, b, i2, i3, i4, i5, i6, i7, i8, i9, i10, i11] [b0, b1, b2, b3, b4, b5, b6] = _
              refine st_2_1 (e4_10) (g := true) rfl (l := [129, a, b]) rfl (m := []) rfl (cl_t (q10_129 a b hb.1 hb.2)) fun i12 i13 b7 hi12 hi13 hb7 => ?_
              show T.den _ _ [a, b, i2, i3, i4, i5, i6, i7, i8, i9, i10, i11, i12, i13] [b0, b1, b2, b3, b4, b5, b6, b7] = _
              have R := round_127 a b _ _ _ _ ha hb hi10 hi11 hi12 hi13
              refine st_ite (fun hc => ?_) (fun hc => ?_)
              · replace hc : (i11 == 7) = true := hc
                have c163 := hc
                clear hc
                refine st_lb fun b8 hb8 => ?_
                replace hb8 : b8 = ((i12 != 0) || (i13 != 0)) := hb8
                show T.den _ _ [a, b, i2, i3, i4, i5, i6, i7, i8, i9, i10, i11, i12, i13] [b0, b1, b2, b3, b4, b5, b6, b7, b8] = _
                refine st_ite (fun hc => ?_) (fun hc => ?_)
                · replace hc : b8 = true := hc
                  have c164 := hc
                  clear hc
                  refine st_ret ?_
                  show some ([], [false]) = _
                  obtain ⟨e1, e2⟩ := rd7 R c163
                  rw [hb8, e1, e2] at c164; cases c164
                · replace hc : b8 = false := hc
                  have c165 := hc
                  clear hc
                  refine st_2_1 (e4_10) (g := true) rfl (l := [128, a, b]) rfl (m := []) rfl (cl_t (q10_128 a b hb.1 hb.2)) fun i14 i15 b9 hi14 hi15 hb9 => ?_
                  show T.den _ _ [a, b, i2, i3, i4, i5, i6, i7, i8, i9, i10, i11, i12, i13, i14, i15] [b0, b1, b2, b3, b4, b5, b6, b7, b8, b9] = _
                  refine st_2_1 (e4_10) (g := true) rfl (l := [130, a, b]) rfl (m := []) rfl (cl_t (q10_130 a b hb.1 hb.2)) fun i16 i17 b10 hi16 hi17 hb10 => ?_
                  show T.den _ _ [a, b, i2, i3, i4, i5, i6, i7, i8, i9, i10, i11, i12, i13, i14, i15, i16, i17] [b0, b1, b2, b3, b4, b5, b6, b7, b8, b9, b10] = _
                  have R := (round_128 a b _ _ _ _ ha hb hi14 hi15 hi16 hi17).1
                  have V := (round_128 a b _ _ _ _ ha hb hi14 hi15 hi16 hi17).2
                  refine st_ite (fun hc => ?_) (fun hc => ?_)
                  · replace hc : (i15 == 7) = true := hc
                    have c166 := hc
                    clear hc
                    refine st_lb fun b11 hb11 => ?_
                    replace hb11 : b11 = ((i16 != 0) || (i17 != 0)) := hb11
                    show T.den _ _ [a, b, i2, i3, i4, i5, i6, i7, i8, i9, i10, i11, i12, i13, i14, i15, i16, i17] [b0, b1, b2, b3, b4, b5, b6, b7, b8, b9, b10, b11] = _
                    refine st_ite (fun hc => ?_) (fun hc => ?_)
                    · replace hc : b11 = true := hc
                      have c167 := hc
                      clear hc
                      refine st_ret ?_
                      show some ([], [false]) = _
                      obtain ⟨e1, e2⟩ := rd7 R c166
                      rw [hb11, e1, e2] at c167; cases c167
                    · replace hc : b11 = false := hc
                      have c168 := hc
                      clear hc
                      refine st_ret ?_
                      show some ([], [true]) = _
                      rfl
                  · replace hc : (i15 == 7) = false := hc
                    have c169 := hc
                    clear hc
                    refine st_ite (fun hc => ?_) (fun hc => ?_)
                    · replace hc : (i15 != i17) = true := hc
                      have c170 := hc
                      clear hc
                      refine st_ret ?_
                      show some ([], [false]) = _
                      rw [rdt R c169] at c170; simp at c170
                    · replace hc : (i15 != i17) = false := hc
                      have c171 := hc
                      clear hc
                      refine st_ite (fun hc => ?_) (fun hc => ?_)
                      · replace hc : (i15 != 0) = true := hc
                        have c172 := hc
                        clear hc
                        refine st_ret ?_
                        show some ([], [true]) = _
                        rfl
                      · replace hc : (i15 != 0) = false := hc
                        have c173 := hc
                        clear hc
                        refine st_2_1 (e4_10) (g := true) rfl (l := [126, i14, b]) rfl (m := []) rfl (cl_t (q10_126 i14 b)) fun i18 i19 b11 hi18 hi19 hb11 => ?_
                        show T.den _ _ [a, b, i2, i3, i4, i5, i6, i7, i8, i9, i10, i11, i12, i13, i14, i15, i16, i17, i18, i19] [b0, b1, b2, b3, b4, b5, b6, b7, b8, b9, b10, b11] = _
                        refine st_2_1 (e4_10) (g := true) rfl (l := [124, i18, i16]) rfl (m := []) rfl (cl_t (q10_124 i18 i16)) fun i20 i21 b12 hi20 hi21 hb12 => ?_
                        show T.den _ _ [a, b, i2, i3, i4, i5, i6, i7, i8, i9, i10, i11, i12, i13, i14, i15, i16, i17, i18, i19, i20, i21] [b0, b1, b2, b3, b4, b5, b6, b7, b8, b9, b10, b11, b12] = _
                        have e := back64 (rde R c169 c173) ha hi18 hi20
                        refine st_ite (fun hc => ?_) (fun hc => ?_)
                        · replace hc : (i20 != a) = true := hc
                          have c174 := hc
                          clear hc
                          refine st_ret ?_
                          show some ([], [false]) = _
                          rw [e] at c174; simp at c174
                        · replace hc : (i20 != a) = false := hc
                          have c175 := hc
                          clear hc
                          refine st_ite (fun hc => ?_) (fun hc => ?_)
                          · replace hc : (decide (i16 ≥ b)) = true := hc
                            have c176 := hc
                            clear hc
                            refine st_ret ?_
                            show some ([], [false]) = _
                            have h1 := V c173; rw [decide_eq_true_eq] at c176; omega
                          · replace hc : (decide (i16 ≥ b)) = false := hc
                            have c177 := hc
                            clear hc
                            refine st_ret ?_
                            show some ([], [true]) = _
                            rfl
              · replace hc : (i11 == 7) = false := hc
                have c178 := hc
                clear hc
                refine st_ite (fun hc => ?_) (fun hc => ?_)
                · replace hc : (i11 != i13) = true := hc
                  have c179 := hc
                  clear hc
                  refine st_ret ?_
                  show some ([], [false]) = _
                  rw [rdt R c178] at c179; simp at c179
                · replace hc : (i11 != i13) = false := hc
                  have c180 := hc
                  clear hc
                  refine st_ite (fun hc => ?_) (fun hc => ?_)
                  · replace hc : (i11 != 0) = true := hc
                    have c181 := hc
                    clear hc
                    refine st_2_1 (e4_10) (g := true) rfl (l := [128, a, b]) rfl (m := []) rfl (cl_t (q10_128 a b hb.1 hb.2)) fun i14 i15 b8 hi14 hi15 hb8 => ?_
                    show T.den _ _ [a, b, i2, i3, i4, i5, i6, i7, i8, i9, i10, i11, i12, i13, i14, i15] [b0, b1, b2, b3, b4, b5, b6, b7, b8] = _
                    refine st_2_1 (e4_10) (g := true) rfl (l := [130, a, b]) rfl (m := []) rfl (cl_t (q10_130 a b hb.1 hb.2)) fun i16 i17 b9 hi16 hi17 hb9 => ?_
                    show T.den _ _ [a, b, i2, i3, i4, i5, i6, i7, i8, i9, i10, i11, i12, i13, i14, i15, i16, i17] [b0, b1, b2, b3, b4, b5, b6, b7, b8, b9] = _
                    have R := (round_128 a b _ _ _ _ ha hb hi14 hi15 hi16 hi17).1
                    have V := (round_128 a b _ _ _ _ ha hb hi14 hi15 hi16 hi17).2
                    refine st_ite (fun hc => ?_) (fun hc => ?_)
                    · replace hc : (i15 == 7) = true := hc
                      have c182 := hc
                      clear hc
                      refine st_lb fun b10 hb10 => ?_
                      replace hb10 : b10 = ((i16 != 0) || (i17 != 0)) := hb10
                      show T.den _ _ [a, b, i2, i3, i4, i5, i6, i7, i8, i9, i10, i11, i12, i13, i14, i15, i16, i17] [b0, b1, b2, b3, b4, b5, b6, b7, b8, b9, b10] = _
                      refine st_ite (fun hc => ?_) (fun hc => ?_)
                      · replace hc : b10 = true := hc
                        have c183 := hc
                        clear hc
                        refine st_ret ?_
                        show some ([], [false]) = _
                        obtain ⟨e1, e2⟩ := rd7 R c182
                        rw [hb10, e1, e2] at c183; cases c183
                      · replace hc : b10 = false := hc
                        have c184 := hc
                        clear hc
                        refine st_ret ?_
                        show some ([], [true]) = _
                        rfl
                    · replace hc : (i15 == 7) = false := hc
                      have c185 := hc
                      clear hc
                      refine st_ite (fun hc => ?_) (fun hc => ?_)
                      · replace hc : (i15 != i17) = true := hc
                        have c186 := hc
                        clear hc
                        refine st_ret ?_
                        show some ([], [false]) = _
                        rw [rdt R c185] at c186; simp at c186
                      · replace hc : (i15 != i17) = false := hc
                        have c187 := hc
                        clear hc
                        refine st_ite (fun hc => ?_) (fun hc => ?_)
                        · replace hc : (i15 != 0) = true := hc
                          have c188 := hc
                          clear hc
                          refine st_ret ?_
                          show some ([], [true]) = _
                          rfl
                        · replace hc : (i15 != 0) = false := hc
                          have c189 := hc
                          clear hc
                          refine st_2_1 (e4_10) (g := true) rfl (l := [126, i14, b]) rfl (m := []) rfl (cl_t (q10_126 i14 b)) fun i18 i19 b10 hi18 hi19 hb10 => ?_
                          show T.den _ _ [a, b, i2, i3, i4, i5, i6, i7, i8, i9, i10, i11, i12, i13, i14, i15, i16, i17, i18, i19] [b0, b1, b2, b3, b4, b5, b6, b7, b8, b9, b10] = _
                          refine st_2_1 (e4_10) (g := true) rfl (l := [124, i18, i16]) rfl (m := []) rfl (cl_t (q10_124 i18 i16)) fun i20 i21 b11 hi20 hi21 hb11 => ?_
                          show T.den _ _ [a, b, i2, i3, i4, i5, i6, i7, i8, i9, i10, i11, i12, i13, i14, i15, i16, i17, i18, i19, i20, i21] [b0, b1, b2, b3, b4, b5, b6, b7, b8, b9, b10, b11] = _
                          have e := back64 (rde R c185 c189) ha hi18 hi20
                          refine st_ite (fun hc => ?_) (fun hc => ?_)
                          · replace hc : (i20 != a) = true := hc
                            have c190 := hc
                            clear hc
                            refine st_ret ?_
                            show some ([], [false]) = _
                            rw [e] at c190; simp at c190
                          · replace hc : (i20 != a) = false := hc
                            have c191 := hc
                            clear hc
                            refine st_ite (fun hc => ?_) (fun hc => ?_)
                            · replace hc : (decide (i16 ≥ b)) = true := hc
                              have c192 := hc
                              clear hc
                              refine st_ret ?_
                              show some ([], [false]) = _
                              have h1 := V c189; rw [decide_eq_true_eq] at c192; omega
                            · replace hc : (decide (i16 ≥ b)) = false := hc
                              have c193 := hc
                              clear hc
                              refine st_ret ?_
                              show some ([], [true]) = _
                              rfl
                  · replace hc : (i11 != 0) = false := hc
                    have c194 := hc
                    clear hc
                    refine st_2_1 (e4_10) (g := true) rfl (l := [126, i10, b]) rfl (m := []) rfl (cl_t (q10_126 i10 b)) fun i14 i15 b8 hi14 hi15 hb8 => ?_
                    show T.den _ _ [a, b, i2, i3, i4, i5, i6, i7, i8, i9, i10, i11, i12, i13, i14, i15] [b0, b1, b2, b3, b4, b5, b6, b7, b8] = _
                    refine st_2_1 (e4_10) (g := true) rfl (l := [124, i14, i12]) rfl (m := []) rfl (cl_t (q10_124 i14 i12)) fun i16 i17 b9 hi16 hi17 hb9 => ?_
                    show T.den _ _ [a, b, i2, i3, i4, i5, i6, i7, i8, i9, i10, i11, i12, i13, i14, i15, i16, i17] [b0, b1, b2, b3, b4, b5, b6, b7, b8, b9] = _
                    have e := back64 (rde R c178 c194) ha hi14 hi16
                    refine st_ite (fun hc => ?_) (fun hc => ?_)
                    · replace hc : (i16 != a) = true := hc
                      have c195 := hc
                      clear hc
                      refine st_ret ?_
                      show some ([], [false]) = _
                      rw [e] at c195; simp at c195
                    · replace hc : (i16 != a) = false := hc
                      have c196 := hc
                      clear hc
                      refine st_2_1 (e4_10) (g := true) rfl (l := [128, a, b]) rfl (m := []) rfl (cl_t (q10_128 a b hb.1 hb.2)) fun i18 i19 b10 hi18 hi19 hb10 => ?_
                      show T.den _ _ [a, b, i2, i3, i4, i5, i6, i7, i8, i9, i10, i11, i12, i13, i14, i15, i16, i17, i18, i19] [b0, b1, b2, b3, b4, b5, b6, b7, b8, b9, b10] = _
                      refine st_2_1 (e4_10) (g := true) rfl (l := [130, a, b]) rfl (m := []) rfl (cl_t (q10_130 a b hb.1 hb.2)) fun i20 i21 b11 hi20 hi21 hb11 => ?_
                      show T.den _ _ [a, b, i2, i3, i4, i5, i6, i7, i8, i9, i10, i11, i12, i13, i14, i15, i16, i17, i18, i19, i20, i21] [b0, b1, b2, b3, b4, b5, b6, b7, b8, b9, b10, b11] = _
                      have R := (round_128 a b _ _ _ _ ha hb hi18 hi19 hi20 hi21).1
                      have V := (round_128 a b _ _ _ _ ha hb hi18 hi19 hi20 hi21).2
                      refine st_ite (fun hc => ?_) (fun hc => ?_)
                      · replace hc : (i19 == 7) = true := hc
                        have c197 := hc
                        clear hc
                        refine st_lb fun b12 hb12 => ?_
                        replace hb12 : b12 = ((i20 != 0) || (i21 != 0)) := hb12
                        show T.den _ _ [a, b, i2, i3, i4, i5, i6, i7, i8, i9, i10, i11, i12, i13, i14, i15, i16, i17, i18, i19, i20, i21] [b0, b1, b2, b3, b4, b5, b6, b7, b8, b9, b10, b11, b12] = _
                        refine st_ite (fun hc => ?_) (fun hc => ?_)
                        · replace hc : b12 = true := hc
                          have c198 := hc
                          clear hc
                          refine st_ret ?_
                          show some ([], [false]) = _
                          obtain ⟨e1, e2⟩ := rd7 R c197
                          rw [hb12, e1, e2] at c198; cases c198
                        · replace hc : b12 = false := hc
                          have c199 := hc
                          clear hc
                          refine st_ret ?_
                          show some ([], [true]) = _
                          rfl
                      · replace hc : (i19 == 7) = false := hc
                        have c200 := hc
                        clear hc
                        refine st_ite (fun hc => ?_) (fun hc => ?_)
                        · replace hc : (i19 != i21) = true := hc
                          have c201 := hc
                          clear hc
                          refine st_ret ?_
                          show some ([], [false]) = _
                          rw [rdt R c200] at c201; simp at c201
                        · replace hc : (i19 != i21) = false := hc
                          have c202 := hc
                          clear hc
                          refine st_ite (fun hc => ?_) (fun hc => ?_)
                          · replace hc : (i19 != 0) = true := hc
                            have c203 := hc
                            clear hc
                            refine st_ret ?_
                            show some ([], [true]) = _
                            rfl
                          · replace hc : (i19 != 0) = false := hc
                            have c204 := hc
                            clear hc
                            refine st_2_1 (e4_10) (g := true) rfl (l := [126, i18, b]) rfl (m := []) rfl (cl_t (q10_126 i18 b)) fun i22 i23 b12 hi22 hi23 hb12 => ?_
                            show T.den _ _ [a, b, i2, i3, i4, i5, i6, i7, i8, i9, i10, i11, i12, i13, i14, i15, i16, i17, i18, i19, i20, i21, i22, i23] [b0, b1, b2, b3, b4, b5, b6, b7, b8, b9, b10, b11, b12] = _
                            refine st_2_1 (e4_10) (g := true) rfl (l := [124, i22, i20]) rfl (m := []) rfl (cl_t (q10_124 i22 i20)) fun i24 i25 b13 hi24 hi25 hb13 => ?_
                            show T.den _ _ [a, b, i2, i3, i4, i5, i6, i7, i8, i9, i10, i11, i12, i13, i14, i15, i16, i17, i18, i19, i20, i21, i22, i23, i24, i25] [b0, b1, b2, b3, b4, b5, b6, b7, b8, b9, b10, b11, b12, b13] = _
                            have e := back64 (rde R c200 c204) ha hi22 hi24
                            refine st_ite (fun hc => ?_) (fun hc => ?_)
                            · replace hc : (i24 != a) = true := hc
                              have c205 := hc
                              clear hc
                              refine st_ret ?_
                              show some ([], [false]) = _
                              rw [e] at c205; simp at c205
                            · replace hc : (i24 != a) = false := hc
                              have c206 := hc
                              clear hc
                              refine st_ite (fun hc => ?_) (fun hc => ?_)
                              · replace hc : (decide (i20 ≥ b)) = true := hc
                                have c207 := hc
                                clear hc
                                refine st_ret ?_
                                show some ([], [false]) = _
                                have h1 := V c204; rw [decide_eq_true_eq] at c207; omega
                              · replace hc : (decide (i20 ≥ b)) = false := hc
                                have c208 := hc
                                clear hc
                                refine st_ret ?_
                                show some ([], [true]) = _
                                rfl
          · replace hc : (i7 == 7) = false := hc
            have c209 := hc
            clear hc
            refine st_ite (fun hc => ?_) (fun hc => ?_)
            · replace hc : (i7 != i9) = true := hc
              have c210 := hc
              clear hc
              refine st_ret ?_
              show some ([], [false]) = _
              rw [rdt R c209] at c210; simp at c210
            · replace hc : (i7 != i9) = false := hc
              have c211 := hc
              clear hc
              refine st_ite (fun hc => ?_) (fun hc => ?_)
              · replace hc : (i7 != 0) = true := hc
                have c212 := hc
                clear hc
                refine st_2_1 (e4_10) (g := true) rfl (l := [127, a, b]) rfl (m := []) rfl (cl_t (q10_127 a b hb.1 hb.2)) fun i10 i11 b5 hi10 hi11 hb5 => ?_
                show T.den _ _ [a, b, i2, i3, i4, i5, i6, i7, i8, i9, i10, i11] [b0, b1, b2, b3, b4, b5] = _
                refine st_2_1 (e4_10) (g := true) rfl (l := [129, a, b]) rfl (m := []) rfl (cl_t (q10_129 a b hb.1 hb.2)) fun i12 i13 b6 hi12 hi13 hb6 => ?_
                show T.den _ _ [a, b, i2, i3, i4, i5, i6, i7, i8, i9, i10, i11, i12, i13] [b0, b1, b2, b3, b4, b5, b6] = _
                have R := round_127 a b _ _ _ _ ha hb hi10 hi11 hi12 hi13
                refine st_ite (fun hc => ?_) (fun hc => ?_)
                · replace hc : (i11 == 7) = true := hc
                  have c213 := hc
                  clear hc
                  refine st_lb fun b7 hb7 => ?_
                  replace hb7 : b7 = ((i12 != 0) || (i13 != 0)) := hb7
                  show T.den _ _ [a, b, i2, i3, i4, i5, i6, i7, i8, i9, i10, i11, i12, i13] [b0, b1, b2, b3, b4, b5, b6, b7] = _
                  refine st_ite (fun hc => ?_) (fun hc => ?_)
                  · replace hc : b7 = true := hc
                    have c214 := hc
                    clear hc
                    refine st_ret ?_
                    show some ([], [false]) = _
                    obtain ⟨e1, e2⟩ := rd7 R c213
                    rw [hb7, e1, e2] at c214; cases c214
                  · replace hc : b7 = false := hc
                    have c215 := hc
                    clear hc
                    refine st_2_1 (e4_10) (g := true) rfl (l := [128, a, b]) rfl (m := []) rfl (cl_t (q10_128 a b hb.1 hb.2)) fun i14 i15 b8 hi14 hi15 hb8 => ?_
                    show T.den _ _ [a, b, i2, i3, i4, i5, i6, i7, i8, i9, i10, i11, i12, i13, i14, i15] [b0, b1, b2, b3, b4, b5, b6, b7, b8] = _
                    refine st_2_1 (e4_10) (g := true) rfl (l := [130, a, b]) rfl (m := []) rfl (cl_t (q10_130 a b hb.1 hb.2)) fun i16 i17 b9 hi16 hi17 hb9 => ?_
                    show T.den _ _ [a, b, i2, i3, i4, i5, i6, i7, i8, i9, i10, i11, i12, i13, i14, i15, i16, i17] [b0, b1, b2, b3, b4, b5, b6, b7, b8, b9] = _
                    have R := (round_128 a b _ _ _ _ ha hb hi14 hi15 hi16 hi17).1
                    have V := (round_128 a b _ _ _ _ ha hb hi14 hi15 hi16 hi17).2
                    refine st_ite (fun hc => ?_) (fun hc => ?_)
                    · replace hc : (i15 == 7) = true := hc
                      have c216 := hc
                      clear hc
                      refine st_lb fun b10 hb10 => ?_
                      replace hb10 : b10 = ((i16 != 0) || (i17 != 0)) := hb10
                      show T.den _ _ [a, b, i2, i3, i4, i5, i6, i7, i8, i9, i10, i11, i12, i13, i14, i15, i16, i17] [b0, b1, b2, b3, b4, b5, b6, b7, b8, b9, b10] = _
                      refine st_ite (fun hc => ?_) (fun hc => ?_)
                      · replace hc : b10 = true := hc
                        have c217 := hc
                        clear hc
                        refine st_ret ?_
                        show some ([], [false]) = _
                        obtain ⟨e1, e2⟩ := rd7 R c216
                        rw [hb10, e1, e2] at c217; cases c217
                      · replace hc : b10 = false := hc
                        have c218 := hc
                        clear hc
                        refine st_ret ?_
                        show some ([], [true]) = _
                        rfl
                    · replace hc : (i15 == 7) = false := hc
                      have c219 := hc
                      clear hc
                      refine st_ite (fun hc => ?_) (fun hc => ?_)
                      · replace hc : (i15 != i17) = true := hc
                        have c220 := hc
                        clear hc
                        refine st_ret ?_
                        show some ([], [false]) = _
                        rw [rdt R c219] at c220; simp at c220
                      · replace hc : (i15 != i17) = false := hc
                        have c221 := hc
                        clear hc
                        refine st_ite (fun hc => ?_) (fun hc => ?_)
                        · replace hc : (i15 != 0) = true := hc
                          have c222 := hc
                          clear hc
                          refine st_ret ?_
                          show some ([], [true]) = _
                          rfl
                        · replace hc : (i15 != 0) = false := hc
                          have c223 := hc
                          clear hc
                          refine st_2_1 (e4_10) (g := true) rfl (l := [126, i14, b]) rfl (m := []) rfl (cl_t (q10_126 i14 b)) fun i18 i19 b10 hi18 hi19 hb10 => ?_
                          show T.den _ _ [a, b, i2, i3, i4, i5, i6, i7, i8, i9, i10, i11, i12, i13, i14, i15, i16, i17, i18, i19] [b0, b1, b2, b3, b4, b5, b6, b7, b8, b9, b10] = _
                          refine st_2_1 (e4_10) (g := true) rfl (l := [124, i18, i16]) rfl (m := []) rfl (cl_t (q10_124 i18 i16)) fun i20 i21 b11 hi20 hi21 hb11 => ?_
                          show T.den _ _ [a, b, i2, i3, i4, i5, i6, i7, i8, i9, i10, i11, i12, i13, i14, i15, i16, i17, i18, i19, i20, i21] [b0, b1, b2, b3, b4, b5, b6, b7, b8, b9, b10, b11] = _
                          have e := back64 (rde R c219 c223) ha hi18 hi20
                          refine st_ite (fun hc => ?_) (fun hc => ?_)
                          · replace hc : (i20 != a) = true := hc
                            have c224 := hc
                            clear hc
                            refine st_ret ?_
                            show some ([], [false]) = _
                            rw [e] at c224; simp at c224
                          · replace hc : (i20 != a) = false := hc
                            have c225 := hc
                            clear hc
                            refine st_ite (fun hc => ?_) (fun hc => ?_)
                            · replace hc : (decide (i16 ≥ b)) = true := hc
                              have c226 := hc
                              clear hc
                              refine st_ret ?_
                              show some ([], [false]) = _
                              have h1 := V c223; rw [decide_eq_true_eq] at c226; omega
                            · replace hc : (decide (i16 ≥ b)) = false := hc
                              have c227 := hc
                              clear hc
                              refine st_ret ?_
                              show some ([], [true]) = _
                              rfl
                · replace hc : (i11 == 7) = false := hc
                  have c228 := hc
                  clear hc
                  refine st_ite (fun hc => ?_) (fun hc => ?_)
                  · replace hc : (i11 != i13) = true := hc
                    have c229 := hc
                    clear hc
                    refine st_ret ?_
                    show some ([], [false]) = _
                    rw [rdt R c228] at c229; simp at c229
                  · replace hc : (i11 != i13) = false := hc
                    have c230 := hc
                    clear hc
                    refine st_ite (fun hc => ?_) (fun hc => ?_)
                    · replace hc : (i11 != 0) = true := hc
                      have c231 := hc
                      clear hc
                      refine st_2_1 (e4_10) (g := true) rfl (l := [128, a, b]) rfl (m := []) rfl (cl_t (q10_128 a b hb.1 hb.2)) fun i14 i15 b7 hi14 hi15 hb7 => ?_
                      show T.den _ _ [a, b, i2, i3, i4, i5, i6, i7, i8, i9, i10, i11, i12, i13, i14, i15] [b0, b1, b2, b3, b4, b5, b6, b7] = _
                      refine st_2_1 (e4_10) (g := true) rfl (l := [130, a, b]) rfl (m := []) rfl (cl_t (q10_130 a b hb.1 hb.2)) fun i16 i17 b8 hi16 hi17 hb8 => ?_
                      show T.den _ _ [a, b, i2, i3, i4, i5, i6, i7, i8, i9, i10, i11, i12, i13, i14, i15, i16, i17] [b0, b1, b2, b3, b4, b5, b6, b7, b8] = _
                      have R := (round_128 a b _ _ _ _ ha hb hi14 hi15 hi16 hi17).1
                      have V := (round_128 a b _ _ _ _ ha hb hi14 hi15 hi16 hi17).2
                      refine st_ite (fun hc => ?_) (fun hc => ?_)
                      · replace hc : (i15 == 7) = true := hc
                        have c232 := hc
                        clear hc
                        refine st_lb fun b9 hb9 => ?_
                        replace hb9 : b9 = ((i16 != 0) || (i17 != 0)) := hb9
                        show T.den _ _ [a, b, i2, i3, i4, i5, i6, i7, i8, i9, i10, i11, i12, i13, i14, i15, i16, i17] [b0, b1, b2, b3, b4, b5, b6, b7, b8, b9] = _
                        refine st_ite (fun hc => ?_) (fun hc => ?_)
                        · replace hc : b9 = true := hc
                          have c233 := hc
                          clear hc
                          refine st_ret ?_
                          show some ([], [false]) = _
                          obtain ⟨e1, e2⟩ := rd7 R c232
                          rw [hb9, e1, e2] at c233; cases c233
                        · replace hc : b9 = false := hc
                          have c234 := hc
                          clear hc
                          refine st_ret ?_
                          show some ([], [true]) = _
                          rfl
                      · replace hc : (i15 == 7) = false := hc
                        have c235 := hc
                        clear hc
                        refine st_ite (fun hc => ?_) (fun hc => ?_)
                        · replace hc : (i15 != i17) = true := hc
                          have c236 := hc
                          clear hc
                          refine st_ret ?_
                          show some ([], [false]) = _
                          rw [rdt R c235] at c236; simp at c236
                        · replace hc : (i15 != i17) = false := hc
                          have c237 := hc
                          clear hc
                          refine st_ite (fun hc => ?_) (fun hc => ?_)
                          · replace hc : (i15 != 0) = true := hc
                            have c238 := hc
                            clear hc
                            refine st_ret ?_
                            show some ([], [true]) = _
                            rfl
                          · replace hc : (i15 != 0) = false := hc
                            have c239 := hc
                            clear hc
                            refine st_2_1 (e4_10) (g := true) rfl (l := [126, i14, b]) rfl (m := []) rfl (cl_t (q10_126 i14 b)) fun i18 i19 b9 hi18 hi19 hb9 => ?_
                            show T.den _ _ [a, b, i2, i3, i4, i5, i6, i7, i8, i9, i10, i11, i12, i13, i14, i15, i16, i17, i18, i19] [b0, b1, b2, b3, b4, b5, b6, b7, b8, b9] = _
                            refine st_2_1 (e4_10) (g := true) rfl (l := [124, i18, i16]) rfl (m := []) rfl (cl_t (q10_124 i18 i16)) fun i20 i21 b10 hi20 hi21 hb10 => ?_
                            show T.den _ _ [a, b, i2, i3, i4, i5, i6, i7, i8, i9, i10, i11, i12, i13, i14, i15, i16, i17, i18, i19, i20, i21] [b0, b1, b2, b3, b4, b5, b6, b7, b8, b9, b10] = _
                            have e := back64 (rde R c235 c239) ha hi18 hi20
                            refine st_ite (fun hc => ?_) (fun hc => ?_)
                            · replace hc : (i20 != a) = true := hc
                              have c240 := hc
                              clear hc
                              refine st_ret ?_
                              show some ([], [false]) = _
                              rw [e] at c240; simp at c240
                            · replace hc : (i20 != a) = false := hc
                              have c241 := hc
                              clear hc
                              refine st_ite (fun hc => ?_) (fun hc => ?_)
                              · replace hc : (decide (i16 ≥ b)) = true := hc
                                have c242 := hc
                                clear hc
                                refine st_ret ?_
                                show some ([], [false]) = _
                                have h1 := V c239; rw [decide_eq_true_eq] at c242; omega
                              · replace hc : (decide (i16 ≥ b)) = false := hc
                                have c243 := hc
                                clear hc
                                refine st_ret ?_
                                show some ([], [true]) = _
                                rfl
                    · replace hc : (i11 != 0) = false := hc
                      have c244 := hc
                      clear hc
                      refine st_2_1 (e4_10) (g := true) rfl (l := [126, i10, b]) rfl (m := []) rfl (cl_t (q10_126 i10 b)) fun i14 i15 b7 hi14 hi15 hb7 => ?_
                      show T.den _ _ [a, b, i2, i3, i4, i5, i6, i7, i8, i9, i10, i11, i12, i13, i14, i15] [b0, b1, b2, b3, b4, b5, b6, b7] = _
                      refine st_2_1 (e4_10) (g := true) rfl (l := [124, i14, i12]) rfl (m := []) rfl (cl_t (q10_124 i14 i12)) fun i16 i17 b8 hi16 hi17 hb8 => ?_
                      show T.den _ _ [a, b, i2, i3, i4, i5, i6, i7, i8, i9, i10, i11, i12, i13, i14, i15, i16, i17] [b0, b1, b2, b3, b4, b5, b6, b7, b8] = _
                      have e := back64 (rde R c228 c244) ha hi14 hi16
                      refine st_ite (fun hc => ?_) (fun hc => ?_)
                      · replace hc : (i16 != a) = true := hc
                        have c245 := hc
                        clear hc
                        refine st_ret ?_
                        show some ([], [false]) = _
                        rw [e] at c245; simp at c245
                      · replace hc : (i16 != a) = false := hc
                        have c246 := hc
                        clear hc
                        refine st_2_1 (e4_10) (g := true) rfl (l := [128, a, b]) rfl (m := []) rfl (cl_t (q10_128 a b hb.1 hb.2)) fun i18 i19 b9 hi18 hi19 hb9 => ?_
                        show T.den _ _ [a, b, i2, i3, i4, i5, i6, i7, i8, i9, i10, i11, i12, i13, i14, i15, i16, i17, i18, i19] [b0, b1, b2, b3, b4, b5, b6, b7, b8, b9] = _
                        refine st_2_1 (e4_10) (g := true) rfl (l := [130, a, b]) rfl (m := []) rfl (cl_t (q10_130 a b hb.1 hb.2)) fun i20 i21 b10 hi20 hi21 hb10 => ?_
                        show T.den _ _ [a, b, i2, i3, i4, i5, i6, i7, i8, i9, i10, i11, i12, i13, i14, i15, i16, i17, i18, i19, i20, i21] [b0, b1, b2, b3, b4, b5, b6, b7, b8, b9, b10] = _
                        have R := (round_128 a b _ _ _ _ ha hb hi18 hi19 hi20 hi21).1
                        have V := (round_128 a b _ _ _ _ ha hb hi18 hi19 hi20 hi21).2
                        refine st_ite (fun hc => ?_) (fun hc => ?_)
                        · replace hc : (i19 == 7) = true := hc
                          have c247 := hc
                          clear hc
                          refine st_lb fun b11 hb11 => ?_
                          replace hb11 : b11 = ((i20 != 0) || (i21 != 0)) := hb11
                          show T.den _ _ [a, b, i2, i3, i4, i5, i6, i7, i8, i9, i10, i11, i12, i13, i14, i15, i16, i17, i18, i19, i20, i21] [b0, b1, b2, b3, b4, b5, b6, b7, b8, b9, b10, b11] = _
                          refine st_ite (fun hc => ?_) (fun hc => ?_)
                          · replace hc : b11 = true := hc
                            have c248 := hc
                            clear hc
                            refine st_ret ?_
                            show some ([], [false]) = _
                            obtain ⟨e1, e2⟩ := rd7 R c247
                            rw [hb11, e1, e2] at c248; cases c248
                          · replace hc : b11 = false := hc
                            have c249 := hc
                            clear hc
                            refine st_ret ?_
                            show some ([], [true]) = _
                            rfl
                        · replace hc : (i19 == 7) = false := hc
                          have c250 := hc
                          clear hc
                          refine st_ite (fun hc => ?_) (fun hc => ?_)
                          · replace hc : (i19 != i21) = true := hc
                            have c251 := hc
                            clear hc
                            refine st_ret ?_
                            show some ([], [false]) = _
                            rw [rdt R c250] at c251; simp at c251
                          · replace hc : (i19 != i21) = false := hc
                            have c252 := hc
                            clear hc
                            refine st_ite (fun hc => ?_) (fun hc => ?_)
                            · replace hc : (i19 != 0) = true := hc
                              have c253 := hc
                              clear hc
                              refine st_ret ?_
                              show some ([], [true]) = _
                              rfl
                            · replace hc : (i19 != 0) = false := hc
                              have c254 := hc
                              clear hc
                              refine st_2_1 (e4_10) (g := true) rfl (l := [126, i18, b]) rfl (m := []) rfl (cl_t (q10_126 i18 b)) fun i22 i23 b11 hi22 hi23 hb11 => ?_
                              show T.den _ _ [a, b, i2, i3, i4, i5, i6, i7, i8, i9, i10, i11, i12, i13, i14, i15, i16, i17, i18, i19, i20, i21, i22, i23] [b0, b1, b2, b3, b4, b5, b6, b7, b8, b9, b10, b11] = _
                              refine st_2_1 (e4_10) (g := true) rfl (l := [124, i22, i20]) rfl (m := []) rfl (cl_t (q10_124 i22 i20)) fun i24 i25 b12 hi24 hi25 hb12 => ?_
                              show T.den _ _ [a, b, i2, i3, i4, i5, i6, i7, i8, i9, i10, i11, i12, i13, i14, i15, i16, i17, i18, i19, i20, i21, i22, i23, i24, i25] [b0, b1, b2, b3, b4, b5, b6, b7, b8, b9, b10, b11, b12] = _
                              have e := back64 (rde R c250 c254) ha hi22 hi24
                              refine st_ite (fun hc => ?_) (fun hc => ?_)
                              · replace hc : (i24 != a) = true := hc
                                have c255 := hc
                                clear hc
                                refine st_ret ?_
                                show some ([], [false]) = _
                                rw [e] at c255; simp at c255
                              · replace hc : (i24 != a) = false := hc
                                have c256 := hc
                                clear hc
                                refine st_ite (fun hc => ?_) (fun hc => ?_)
                                · replace hc : (decide (i20 ≥ b)) = true := hc
                                  have c257 := hc
                                  clear hc
                                  refine st_ret ?_
                                  show some ([], [false]) = _
                                  have h1 := V c254; rw [decide_eq_true_eq] at c257; omega
                                · replace hc : (decide (i20 ≥ b)) = false := hc
                                  have c258 := hc
                                  clear hc
                                  refine st_ret ?_
                                  show some ([], [true]) = _
                                  rfl
              · replace hc : (i7 != 0) = false := hc
                have c259 := hc
                clear hc
                refine st_2_1 (e4_10) (g := true) rfl (l := [108, i6, b]) rfl (m := []) rfl (cl_t (q10_108 i6 b)) fun i10 i11 b5 hi10 hi11 hb5 => ?_
                show T.den _ _ [a, b, i2, i3, i4, i5, i6, i7, i8, i9, i10, i11] [b0, b1, b2, b3, b4, b5] = _
                refine st_2_1 (e4_10) (g := true) rfl (l := [106, i10, i8]) rfl (m := []) rfl (cl_t (q10_106 i10 i8)) fun i12 i13 b6 hi12 hi13 hb6 => ?_
                show T.den _ _ [a, b, i2, i3, i4, i5, i6, i7, i8, i9, i10, i11, i12, i13] [b0, b1, b2, b3, b4, b5, b6] = _
                have e := back32 (rde R c209 c259) hi10 hi12
                refine st_ite (fun hc => ?_) (fun hc => ?_)
                · replace hc : ((IntKind.wrap .u32 i12) != (IntKind.wrap .u32 a)) = true := hc
                  have c260 := hc
                  clear hc
                  refine st_ret ?_
                  show some ([], [false]) = _
                  rw [e] at c260; simp at c260
                · replace hc : ((IntKind.wrap .u32 i12) != (IntKind.wrap .u32 a)) = false := hc
                  have c261 := hc
                  clear hc
                  refine st_ite (fun hc => ?_) (fun hc => ?_)
                  · replace hc : (decide (i8 ≥ (arI .and .u64 b 4294967295))) = true := hc
                    have c262 := hc
                    clear hc
                    refine st_ret ?_
                    show some ([], [false]) = _
                    have h1 := V c259; rw [decide_eq_true_eq] at c262; omega
                  · replace hc : (decide (i8 ≥ (arI .and .u64 b 4294967295))) = false := hc
                    have c263 := hc
                    clear hc
                    refine st_2_1 (e4_10) (g := true) rfl (l := [127, a, b]) rfl (m := []) rfl (cl_t (q10_127 a b hb.1 hb.2)) fun i14 i15 b7 hi14 hi15 hb7 => ?_
                    show T.den _ _ [a, b, i2, i3, i4, i5, i6, i7, i8, i9, i10, i11, i12, i13, i14, i15] [b0, b1, b2, b3, b4, b5, b6, b7] = _
                    refine st_2_1 (e4_10) (g := true) rfl (l := [129, a, b]) rfl (m := []) rfl (cl_t (q10_129 a b hb.1 hb.2)) fun i16 i17 b8 hi16 hi17 hb8 => ?_
                    show T.den _ _ [a, b, i2, i3, i4, i5, i6, i7, i8, i9, i10, i11, i12, i13, i14, i15, i16, i17] [b0, b1, b2, b3, b4, b5, b6, b7, b8] = _
                    have R := round_127 a b _ _ _ _ ha hb hi14 hi15 hi16 hi17
                    refine st_ite (fun hc => ?_) (fun hc => ?_)
                    · replace hc : (i15 == 7) = true := hc
                      have c264 := hc
                      clear hc
                      refine st_lb fun b9 hb9 => ?_
                      replace hb9 : b9 = ((i16 != 0) || (i17 != 0)) := hb9
                      show T.den _ _ [a, b, i2, i3, i4, i5, i6, i7, i8, i9, i10, i11, i12, i13, i14, i15, i16, i17] [b0, b1, b2, b3, b4, b5, b6, b7, b8, b9] = _
                      refine st_ite (fun hc => ?_) (fun hc => ?_)
                      · replace hc : b9 = true := hc
                        have c265 := hc
                        clear hc
                        refine st_ret ?_
                        show some ([], [false]) = _
                        obtain ⟨e1, e2⟩ := rd7 R c264
                        rw [hb9, e1, e2] at c265; cases c265
                      · replace hc : b9 = false := hc
                        have c266 := hc
                        clear hc
                        refine st_2_1 (e4_10) (g := true) rfl (l := [128, a, b]) rfl (m := []) rfl (cl_t (q10_128 a b hb.1 hb.2)) fun i18 i19 b10 hi18 hi19 hb10 => ?_
                        show T.den _ _ [a, b, i2, i3, i4, i5, i6, i7, i8, i9, i10, i11, i12, i13, i14, i15, i16, i17, i18, i19] [b0, b1, b2, b3, b4, b5, b6, b7, b8, b9, b10] = _
                        refine st_2_1 (e4_10) (g := true) rfl (l := [130, a, b]) rfl (m := []) rfl (cl_t (q10_130 a b hb.1 hb.2)) fun i20 i21 b11 hi20 hi21 hb11 => ?_
                        show T.den _ _ [a, b, i2, i3, i4, i5, i6, i7, i8, i9, i10, i11, i12, i13, i14, i15, i16, i17, i18, i19, i20, i21] [b0, b1, b2, b3, b4, b5, b6, b7, b8, b9, b10, b11] = _
                        have R := (round_128 a b _ _ _ _ ha hb hi18 hi19 hi20 hi21).1
                        have V := (round_128 a b _ _ _ _ ha hb hi18 hi19 hi20 hi21).2
                        refine st_ite (fun hc => ?_) (fun hc => ?_)
                        · replace hc : (i19 == 7) = true := hc
                          have c267 := hc
                          clear hc
                          refine st_lb fun b12 hb12 => ?_
                          replace hb12 : b12 = ((i20 != 0) || (i21 != 0)) := hb12
                          show T.den _ _ [a, b, i2, i3, i4, i5, i6, i7, i8, i9, i10, i11, i12, i13, i14, i15, i16, i17, i18, i19, i20, i21] [b0, b1, b2, b3, b4, b5, b6, b7, b8, b9, b10, b11, b12] = _
                          refine st_ite (fun hc => ?_) (fun hc => ?_)
                          · replace hc : b12 = true := hc
                            have c268 := hc
                            clear hc
                            refine st_ret ?_
                            show some ([], [false]) = _
                            obtain ⟨e1, e2⟩ := rd7 R c267
                            rw [hb12, e1, e2] at c268; cases c268
                          · replace hc : b12 = false := hc
                            have c269 := hc
                            clear hc
                            refine st_ret ?_
                            show some ([], [true]) = _
                            rfl
                        · replace hc : (i19 == 7) = false := hc
                          have c270 := hc
                          clear hc
                          refine st_ite (fun hc => ?_) (fun hc => ?_)
                          · replace hc : (i19 != i21) = true := hc
                            have c271 := hc
                            clear hc
                            refine st_ret ?_
                            show some ([], [false]) = _
                            rw [rdt R c270] at c271; simp at c271
                          · replace hc : (i19 != i21) = false := hc
                            have c272 := hc
                            clear hc
                            refine st_ite (fun hc => ?_) (fun hc => ?_)
                            · replace hc : (i19 != 0) = true := hc
                              have c273 := hc
                              clear hc
                              refine st_ret ?_
                              show some ([], [true]) = _
                              rfl
                            · replace hc : (i19 != 0) = false := hc
                              have c274 := hc
                              clear hc
                              refine st_2_1 (e4_10) (g := true) rfl (l := [126, i18, b]) rfl (m := []) rfl (cl_t (q10_126 i18 b)) fun i22 i23 b12 hi22 hi23 hb12 => ?_
                              show T.den _ _ [a, b, i2, i3, i4, i5, i6, i7, i8, i9, i10, i11, i12, i13, i14, i15, i16, i17, i18, i19, i20, i21, i22, i23] [b0, b1, b2, b3, b4, b5, b6, b7, b8, b9, b10, b11, b12] = _
                              refine st_2_1 (e4_10) (g := true) rfl (l := [124, i22, i20]) rfl (m := []) rfl (cl_t (q10_124 i22 i20)) fun i24 i25 b13 hi24 hi25 hb13 => ?_
                              show T.den _ _ [a, b, i2, i3, i4, i5, i6, i7, i8, i9, i10, i11, i12, i13, i14, i15, i16, i17, i18, i19, i20, i21, i22, i23, i24, i25] [b0, b1, b2, b3, b4, b5, b6, b7, b8, b9, b10, b11, b12, b13] = _
                              have e := back64 (rde R c270 c274) ha hi22 hi24
                              refine st_ite (fun hc => ?_) (fun hc => ?_)
                              · replace hc : (i24 != a) = true := hc
                                have c275 := hc
                                clear hc
                                refine st_ret ?_
                                show some ([], [false]) = _
                                rw [e] at c275; simp at c275
                              · replace hc : (i24 != a) = false := hc
                                have c276 := hc
                                clear hc
                                refine st_ite (fun hc => ?_) (fun hc => ?_)
                                · replace hc : (decide (i20 ≥ b)) = true := hc
                                  have c277 := hc
                                  clear hc
                                  refine st_ret ?_
                                  show some ([], [false]) = _
                                  have h1 := V c274; rw [decide_eq_true_eq] at c277; omega
                                · replace hc : (decide (i20 ≥ b)) = false := hc
                                  have c278 := hc
                                  clear hc
                                  refine st_ret ?_
                                  show some ([], [true]) = _
                                  rfl
                    · replace hc : (i15 == 7) = false := hc
                      have c279 := hc
                      clear hc
                      refine st_ite (fun hc => ?_) (fun hc => ?_)
                      · replace hc : (i15 != i17) = true := hc
                        have c280 := hc
                        clear hc
                        refine st_ret ?_
                        show some ([], [false]) = _
                        rw [rdt R c279] at c280; simp at c280
                      · replace hc : (i15 != i17) = false := hc
                        have c281 := hc
                        clear hc
                        refine st_ite (fun hc => ?_) (fun hc => ?_)
                        · replace hc : (i15 != 0) = true := hc
                          have c282 := hc
                          clear hc
                          refine st_2_1 (e4_10) (g := true) rfl (l := [128, a, b]) rfl (m := []) rfl (cl_t (q10_128 a b hb.1 hb.2)) fun i18 i19 b9 hi18 hi19 hb9 => ?_
                          show T.den _ _ [a, b, i2, i3, i4, i5, i6, i7, i8, i9, i10, i11, i12, i13, i14, i15, i16, i17, i18, i19] [b0, b1, b2, b3, b4, b5, b6, b7, b8, b9] = _
                          refine st_2_1 (e4_10) (g := true) rfl (l := [130, a, b]) rfl (m := []) rfl (cl_t (q10_130 a b hb.1 hb.2)) fun i20 i21 b10 hi20 hi21 hb10 => ?_
                          show T.den _ _ [a, b, i2, i3, i4, i5, i6, i7, i8, i9, i10, i11, i12, i13, i14, i15, i16, i17, i18, i19, i20, i21] [b0, b1, b2, b3, b4, b5, b6, b7, b8, b9, b10] = _
                          have R := (round_128 a b _ _ _ _ ha hb hi18 hi19 hi20 hi21).1
                          have V := (round_128 a b _ _ _ _ ha hb hi18 hi19 hi20 hi21).2
                          refine st_ite (fun hc => ?_) (fun hc => ?_)
                          · replace hc : (i19 == 7) = true := hc
                            have c283 := hc
                            clear hc
                            refine st_lb fun b11 hb11 => ?_
                            replace hb11 : b11 = ((i20 != 0) || (i21 != 0)) := hb11
                            show T.den _ _ [a, b, i2, i3, i4, i5, i6, i7, i8, i9, i10, i11, i12, i13, i14, i15, i16, i17, i18, i19, i20, i21] [b0, b1, b2, b3, b4, b5, b6, b7, b8, b9, b10, b11] = _
                            refine st_ite (fun hc => ?_) (fun hc => ?_)
                            · replace hc : b11 = true := hc
                              have c284 := hc
                              clear hc
                              refine st_ret ?_
                              show some ([], [false]) = _
                              obtain ⟨e1, e2⟩ := rd7 R c283
                              rw [hb11, e1, e2] at c284; cases c284
                            · replace hc : b11 = false := hc
                              have c285 := hc
                              clear hc
                              refine st_ret ?_
                              show some ([], [true]) = _
                              rfl
                          · replace hc : (i19 == 7) = false := hc
                            have c286 := hc
                            clear hc
                            refine st_ite (fun hc => ?_) (fun hc => ?_)
                            · replace hc : (i19 != i21) = true := hc
                              have c287 := hc
                              clear hc
                              refine st_ret ?_
                              show some ([], [false]) = _
                              rw [rdt R c286] at c287; simp at c287
                            · replace hc : (i19 != i21) = false := hc
                              have c288 := hc
                              clear hc
                              refine st_ite (fun hc => ?_) (fun hc => ?_)
                              · replace hc : (i19 != 0) = true := hc
                                have c289 := hc
                                clear hc
                                refine st_ret ?_
                                show some ([], [true]) = _
                                rfl
                              · replace hc : (i19 != 0) = false := hc
                                have c290 := hc
                                clear hc
                                refine st_2_1 (e4_10) (g := true) rfl (l := [126, i18, b]) rfl (m := []) rfl (cl_t (q10_126 i18 b)) fun i22 i23 b11 hi22 hi23 hb11 => ?_
                                show T.den _ _ [a, b, i2, i3, i4, i5, i6, i7, i8, i9, i10, i11, i12, i13, i14, i15, i16, i17, i18, i19, i20, i21, i22, i23] [b0, b1, b2, b3, b4, b5, b6, b7, b8, b9, b10, b11] = _
                                refine st_2_1 (e4_10) (g := true) rfl (l := [124, i22, i20]) rfl (m := []) rfl (cl_t (q10_124 i22 i20)) fun i24 i25 b12 hi24 hi25 hb12 => ?_
                                show T.den _ _ [a, b, i2, i3, i4, i5, i6, i7, i8, i9, i10, i11, i12, i13, i14, i15, i16, i17, i18, i19, i20, i21, i22, i23, i24, i25] [b0, b1, b2, b3, b4, b5, b6, b7, b8, b9, b10, b11, b12] = _
                                have e := back64 (rde R c286 c290) ha hi22 hi24
                                refine st_ite (fun hc => ?_) (fun hc => ?_)
                                · replace hc : (i24 != a) = true := hc
                                  have c291 := hc
                                  clear hc
                                  refine st_ret ?_
                                  show some ([], [false]) = _
                                  rw [e] at c291; simp at c291
                                · replace hc : (i24 != a) = false := hc
                                  have c292 := hc
                                  clear hc
                                  refine st_ite (fun hc => ?_) (fun hc => ?_)
                                  · replace hc : (decide (i20 ≥ b)) = true := hc
                                    have c293 := hc
                                    clear hc
                                    refine st_ret ?_
                                    show some ([], [false]) = _
                                    have h1 := V c290; rw [decide_eq_true_eq] at c293; omega
                                  · replace hc : (decide (i20 ≥ b)) = false := hc
                                    have c294 := hc
                                    clear hc
                                    refine st_ret ?_
                                    show some ([], [true]) = _
                                    rfl
                        · replace hc : (i15 != 0) = false := hc
                          have c295 := hc
                          clear hc
                          refine st_2_1 (e4_10) (g := true) rfl (l := [126, i14, b]) rfl (m := []) rfl (cl_t (q10_126 i14 b)) fun i18 i19 b9 hi18 hi19 hb9 => ?_
                          show T.den _ _ [a, b, i2, i3, i4, i5, i6, i7, i8, i9, i10, i11, i12, i13, i14, i15, i16, i17, i18, i19] [b0, b1, b2, b3, b4, b5, b6, b7, b8, b9] = _
                          refine st_2_1 (e4_10) (g := true) rfl (l := [124, i18, i16]) rfl (m := []) rfl (cl_t (q10_124 i18 i16)) fun i20 i21 b10 hi20 hi21 hb10 => ?_
                          show T.den _ _ [a, b, i2, i3, i4, i5, i6, i7, i8, i9, i10, i11, i12, i13, i14, i15, i16, i17, i18, i19, i20, i21] [b0, b1, b2, b3, b4, b5, b6, b7, b8, b9, b10] = _
                          have e := back64 (rde R c279 c295) ha hi18 hi20
                          refine st_ite (fun hc => ?_) (fun hc => ?_)
                          · replace hc : (i20 != a) = true := hc
                            have c296 := hc
                            clear hc
                            refine st_ret ?_
                            show some ([], [false]) = _
                            rw [e] at c296; simp at c296
                          · replace hc : (i20 != a) = false := hc
                            have c297 := hc
                            clear hc
                            refine st_2_1 (e4_10) (g := true) rfl (l := [128, a, b]) rfl (m := []) rfl (cl_t (q10_128 a b hb.1 hb.2)) fun i22 i23 b11 hi22 hi23 hb11 => ?_
                            show T.den _ _ [a, b, i2, i3, i4, i5, i6, i7, i8, i9, i10, i11, i12, i13, i14, i15, i16, i17, i18, i19, i20, i21, i22, i23] [b0, b1, b2, b3, b4, b5, b6, b7, b8, b9, b10, b11] = _
                            refine st_2_1 (e4_10) (g := true) rfl (l := [130, a, b]) rfl (m := []) rfl (cl_t (q10_130 a b hb.1 hb.2)) fun i24 i25 b12 hi24 hi25 hb12 => ?_
                            show T.den _ _ [a, b, i2, i3, i4, i5, i6, i7, i8, i9, i10, i11, i12, i13, i14, i15, i16, i17, i18, i19, i20, i21, i22, i23, i24, i25] [b0, b1, b2, b3, b4, b5, b6, b7, b8, b9, b10, b11, b12] = _
                            have R := (round_128 a b _ _ _ _ ha hb hi22 hi23 hi24 hi25).1
                            have V := (round_128 a b _ _ _ _ ha hb hi22 hi23 hi24 hi25).2
                            refine st_ite (fun hc => ?_) (fun hc => ?_)
                            · replace hc : (i23 == 7) = true := hc
                              have c298 := hc
                              clear hc
                              refine st_lb fun b13 hb13 => ?_
                              replace hb13 : b13 = ((i24 != 0) || (i25 != 0)) := hb13
                              show T.den _ _ [a, b, i2, i3, i4, i5, i6, i7, i8, i9, i10, i11, i12, i13, i14, i15, i16, i17, i18, i19, i20, i21, i22, i23, i24, i25] [b0, b1, b2, b3, b4, b5, b6, b7, b8, b9, b10, b11, b12, b13] = _
                              refine st_ite (fun hc => ?_) (fun hc => ?_)
                              · replace hc : b13 = true := hc
                                have c299 := hc
                                clear hc
                                refine st_ret ?_
                                show some ([], [false]) = _
                                obtain ⟨e1, e2⟩ := rd7 R c298
                                rw [hb13, e1, e2] at c299; cases c299
                              · replace hc : b13 = false := hc
                                have c300 := hc
                                clear hc
                                refine st_ret ?_
                                show some ([], [true]) = _
                                rfl
                            · replace hc : (i23 == 7) = false := hc
                              have c301 := hc
                              clear hc
                              refine st_ite (fun hc => ?_) (fun hc => ?_)
                              · replace hc : (i23 != i25) = true := hc
                                have c302 := hc
                                clear hc
                                refine st_ret ?_
                                show some ([], [false]) = _
                                rw [rdt R c301] at c302; simp at c302
                              · replace hc : (i23 != i25) = false := hc
                                have c303 := hc
                                clear hc
                                refine st_ite (fun hc => ?_) (fun hc => ?_)
                                · replace hc : (i23 != 0) = true := hc
                                  have c304 := hc
                                  clear hc
                                  refine st_ret ?_
                                  show some ([], [true]) = _
                                  rfl
                                · replace hc : (i23 != 0) = false := hc
                                  have c305 := hc
                                  clear hc
                                  refine st_2_1 (e4_10) (g := true) rfl (l := [126, i22, b]) rfl (m := []) rfl (cl_t (q10_126 i22 b)) fun i26 i27 b13 hi26 hi27 hb13 => ?_
                                  show T.den _ _ [a, b, i2, i3, i4, i5, i6, i7, i8, i9, i10, i11, i12, i13, i14, i15, i16, i17, i18, i19, i20, i21, i22, i23, i24, i25, i26, i27] [b0, b1, b2, b3, b4, b5, b6, b7, b8, b9, b10, b11, b12, b13] = _
                                  refine st_2_1 (e4_10) (g := true) rfl (l := [124, i26, i24]) rfl (m := []) rfl (cl_t (q10_124 i26 i24)) fun i28 i29 b14 hi28 hi29 hb14 => ?_
                                  show T.den _ _ [a, b, i2, i3, i4, i5, i6, i7, i8, i9, i10, i11, i12, i13, i14, i15, i16, i17, i18, i19, i20, i21, i22, i23, i24, i25, i26, i27, i28, i29] [b0, b1, b2, b3, b4, b5, b6, b7, b8, b9, b10, b11, b12, b13, b14] = _
                                  have e := back64 (rde R c301 c305) ha hi26 hi28
                                  refine st_ite (fun hc => ?_) (fun hc => ?_)
                                  · replace hc : (i28 != a) = true := hc
                                    have c306 := hc
                                    clear hc
                                    refine st_ret ?_
                                    show some ([], [false]) = _
                                    rw [e] at c306; simp at c306
                                  · replace hc : (i28 != a) = false := hc
                                    have c307 := hc
                                    clear hc
                                    refine st_ite (fun hc => ?_) (fun hc => ?_)
                                    · replace hc : (decide (i24 ≥ b)) = true := hc
                                      have c308 := hc
                                      clear hc
                                      refine st_ret ?_
                                      show some ([], [false]) = _
                                      have h1 := V c305; rw [decide_eq_true_eq] at c308; omega
                                    · replace hc : (decide (i24 ≥ b)) = false := hc
                                      have c309 := hc
                                      clear hc
                                      refine st_ret ?_
                                      show some ([], [true]) = _
                                      rfl
        · replace hc : (i3 != 0) = false := hc
          have c310 := hc
          clear hc
          refine st_2_1 (e4_10) (g := true) rfl (l := [108, i2, b]) rfl (m := []) rfl (cl_t (q10_108 i2 b)) fun i6 i7 b3 hi6 hi7 hb3 => ?_
          show T.den _ _ [a, b, i2, i3, i4, i5, i6, i7] [b0, b1, b2, b3] = _
          refine st_2_1 (e4_10) (g := true) rfl (l := [106, i6, i4]) rfl (m := []) rfl (cl_t (q10_106 i6 i4)) fun i8 i9 b4 hi8 hi9 hb4 => ?_
          show T.den _ _ [a, b, i2, i3, i4, i5, i6, i7, i8, i9] [b0, b1, b2, b3, b4] = _
          have e := back32 (rde R c156 c310) hi6 hi8
          refine st_ite (fun hc => ?_) (fun hc => ?_)
          · replace hc : ((IntKind.wrap .u32 i8) != (IntKind.wrap .u32 a)) = true := hc
            have c311 := hc
            clear hc
            refine st_ret ?_
            show some ([], [false]) = _
            rw [e] at c311; simp at c311
          · replace hc : ((IntKind.wrap .u32 i8) != (IntKind.wrap .u32 a)) = false := hc
            have c312 := hc
            clear hc
            refine st_2_1 (e4_10) (g := true) rfl (l := [110, a, b]) rfl (m := []) rfl (cl_t (q10_110 a b)) fun i10 i11 b5 hi10 hi11 hb5 => ?_
            show T.den _ _ [a, b, i2, i3, i4, i5, i6, i7, i8, i9, i10, i11] [b0, b1, b2, b3, b4, b5] = _
            refine st_2_1 (e4_10) (g := true) rfl (l := [112, a, b]) rfl (m := []) rfl (cl_t (q10_112 a b)) fun i12 i13 b6 hi12 hi13 hb6 => ?_
            show T.den _ _ [a, b, i2, i3, i4, i5, i6, i7, i8, i9, i10, i11, i12, i13] [b0, b1, b2, b3, b4, b5, b6] = _
            have R := (round_110 a b _ _ _ _ ha hb hi10 hi11 hi12 hi13).1
            have V := (round_110 a b _ _ _ _ ha hb hi10 hi11 hi12 hi13).2
            refine st_ite (fun hc => ?_) (fun hc => ?_)
            · replace hc : (i11 == 7) = true := hc
              have c313 := hc
              clear hc
              refine st_lb fun b7 hb7 => ?_
              replace hb7 : b7 = ((i12 != 0) || (i13 != 0)) := hb7
              show T.den _ _ [a, b, i2, i3, i4, i5, i6, i7, i8, i9, i10, i11, i12, i13] [b0, b1, b2, b3, b4, b5, b6, b7] = _
              refine st_ite (fun hc => ?_) (fun hc => ?_)
              · replace hc : b7 = true := hc
                have c314 := hc
                clear hc
                refine st_ret ?_
                show some ([], [false]) = _
                obtain ⟨e1, e2⟩ := rd7 R c313
                rw [hb7, e1, e2] at c314; cases c314
              · replace hc : b7 = false := hc
                have c315 := hc
                clear hc
                refine st_2_1 (e4_10) (g := true) rfl (l := [127, a, b]) rfl (m := []) rfl (cl_t (q10_127 a b hb.1 hb.2)) fun i14 i15 b8 hi14 hi15 hb8 => ?_
                show T.den _ _ [a, b, i2, i3, i4, i5, i6, i7, i8, i9, i10, i11, i12, i13, i14, i15] [b0, b1, b2, b3, b4, b5, b6, b7, b8] = _
                refine st_2_1 (e4_10) (g := true) rfl (l := [129, a, b]) rfl (m := []) rfl (cl_t (q10_129 a b hb.1 hb.2)) fun i16 i17 b9 hi16 hi17 hb9 => ?_
                show T.den _ _ [a, b, i2, i3, i4, i5, i6, i7, i8, i9, i10, i11, i12, i13, i14, i15, i16, i17] [b0, b1, b2, b3, b4, b5, b6, b7, b8, b9] = _
                have R := round_127 a b _ _ _ _ ha hb hi14 hi15 hi16 hi17
                refine st_ite (fun hc => ?_) (fun hc => ?_)
                · replace hc : (i15 == 7) = true := hc
                  have c316 := hc
                  clear hc
                  refine st_lb fun b10 hb10 => ?_
                  replace hb10 : b10 = ((i16 != 0) || (i17 != 0)) := hb10
                  show T.den _ _ [a, b, i2, i3, i4, i5, i6, i7, i8, i9, i10, i11, i12, i13, i14, i15, i16, i17] [b0, b1, b2, b3, b4, b5, b6, b7, b8, b9, b10] = _
                  refine st_ite (fun hc => ?_) (fun hc => ?_)
                  · replace hc : b10 = true := hc
                    have c317 := hc
                    clear hc
                    refine st_ret ?_
                    show some ([], [false]) = _
                    obtain ⟨e1, e2⟩ := rd7 R c316
                    rw [hb10, e1, e2] at c317; cases c317
                  · replace hc : b10 = false := hc
                    have c318 := hc
                    clear hc
                    refine st_2_1 (e4_10) (g := true) rfl (l := [128, a, b]) rfl (m := []) rfl (cl_t (q10_128 a b hb.1 hb.2)) fun i18 i19 b11 hi18 hi19 hb11 => ?_
                    show T.den _ _ [a, b, i2, i3, i4, i5, i6, i7, i8, i9, i10, i11, i12, i13, i14, i15, i16, i17, i18, i19] [b0, b1, b2, b3, b4, b5, b6, b7, b8, b9, b10, b11] = _
                    refine st_2_1 (e4_10) (g := true) rfl (l := [130, a, b]) rfl (m := []) rfl (cl_t (q10_130 a b hb.1 hb.2)) fun i20 i21 b12 hi20 hi21 hb12 => ?_
                    show T.den _ _ [a, b, i2, i3, i4, i5, i6, i7, i8, i9, i10, i11, i12, i13, i14, i15, i16, i17, i18, i19, i20, i21] [b0, b1, b2, b3, b4, b5, b6, b7, b8, b9, b10, b11, b12] = _
                    have R := (round_128 a b _ _ _ _ ha hb hi18 hi19 hi20 hi21).1
                    have V := (round_128 a b _ _ _ _ ha hb hi18 hi19 hi20 hi21).2
                    refine st_ite (fun hc => ?_) (fun hc => ?_)
                    · replace hc : (i19 == 7) = true := hc
                      have c319 := hc
                      clear hc
                      refine st_lb fun b13 hb13 => ?_
                      replace hb13 : b13 = ((i20 != 0) || (i21 != 0)) := hb13
                      show T.den _ _ [a, b, i2, i3, i4, i5, i6, i7, i8, i9, i10, i11, i12, i13, i14, i15, i16, i17, i18, i19, i20, i21] [b0, b1, b2, b3, b4, b5, b6, b7, b8, b9, b10, b11, b12, b13] = _
                      refine st_ite (fun hc => ?_) (fun hc => ?_)
                      · replace hc : b13 = true := hc
                        have c320 := hc
                        clear hc
                        refine st_ret ?_
                        show some ([], [false]) = _
                        obtain ⟨e1, e2⟩ := rd7 R c319
                        rw [hb13, e1, e2] at c320; cases c320
                      · replace hc : b13 = false := hc
                        have c321 := hc
                        clear hc
                        refine st_ret ?_
                        show some ([], [true]) = _
                        rfl
                    · replace hc : (i19 == 7) = false := hc
                      have c322 := hc
                      clear hc
                      refine st_ite (fun hc => ?_) (fun hc => ?_)
                      · replace hc : (i19 != i21) = true := hc
                        have c323 := hc
                        clear hc
                        refine st_ret ?_
                        show some ([], [false]) = _
                        rw [rdt R c322] at c323; simp at c323
                      · replace hc : (i19 != i21) = false := hc
                        have c324 := hc
                        clear hc
                        refine st_ite (fun hc => ?_) (fun hc => ?_)
                        · replace hc : (i19 != 0) = true := hc
                          have c325 := hc
                          clear hc
                          refine st_ret ?_
                          show some ([], [true]) = _
                          rfl
                        · replace hc : (i19 != 0) = false := hc
                          have c326 := hc
                          clear hc
                          refine st_2_1 (e4_10) (g := true) rfl (l := [126, i18, b]) rfl (m := []) rfl (cl_t (q10_126 i18 b)) fun i22 i23 b13 hi22 hi23 hb13 => ?_
                          show T.den _ _ [a, b, i2, i3, i4, i5, i6, i7, i8, i9, i10, i11, i12, i13, i14, i15, i16, i17, i18, i19, i20, i21, i22, i23] [b0, b1, b2, b3, b4, b5, b6, b7, b8, b9, b10, b11, b12, b13] = _
                          refine st_2_1 (e4_10) (g := true) rfl (l := [124, i22, i20]) rfl (m := []) rfl (cl_t (q10_124 i22 i20)) fun i24 i25 b14 hi24 hi25 hb14 => ?_
                          show T.den _ _ [a, b, i2, i3, i4, i5, i6, i7, i8, i9, i10, i11, i12, i13, i14, i15, i16, i17, i18, i19, i20, i21, i22, i23, i24, i25] [b0, b1, b2, b3, b4, b5, b6, b7, b8, b9, b10, b11, b12, b13, b14] = _
                          have e := back64 (rde R c322 c326) ha hi22 hi24
                          refine st_ite (fun hc => ?_) (fun hc => ?_)
                          · replace hc : (i24 != a) = true := hc
                            have c327 := hc
                            clear hc
                            refine st_ret ?_
                            show some ([], [false]) = _
                            rw [e] at c327; simp at c327
                          · replace hc : (i24 != a) = false := hc
                            have c328 := hc
                            clear hc
                            refine st_ite (fun hc => ?_) (fun hc => ?_)
                            · replace hc : (decide (i20 ≥ b)) = true := hc
                              have c329 := hc
                              clear hc
                              refine st_ret ?_
                              show some ([], [false]) = _
                              have h1 := V c326; rw [decide_eq_true_eq] at c329; omega
                            · replace hc : (decide (i20 ≥ b)) = false := hc
                              have c330 := hc
                              clear hc
                              refine st_ret ?_
                              show some ([], [true]) = _
                              rfl
                · replace hc : (i15 == 7) = false := hc
                  have c331 := hc
                  clear hc
                  refine st_ite (fun hc => ?_) (fun hc => ?_)
                  · replace hc : (i15 != i17) = true := hc
                    have c332 := hc
                    clear hc
                    refine st_ret ?_
                    show some ([], [false]) = _
                    rw [rdt R c331] at c332; simp at c332
                  · replace hc : (i15 != i17) = false := hc
                    have c333 := hc
                    clear hc
                    refine st_ite (fun hc => ?_) (fun hc => ?_)
                    · replace hc : (i15 != 0) = true := hc
                      have c334 := hc
                      clear hc
                      refine st_2_1 (e4_10) (g := true) rfl (l := [128, a, b]) rfl (m := []) rfl (cl_t (q10_128 a b hb.1 hb.2)) fun i18 i19 b10 hi18 hi19 hb10 => ?_
                      show T.den _ _ [a, b, i2, i3, i4, i5, i6, i7, i8, i9, i10, i11, i12, i13, i14, i15, i16, i17, i18, i19] [b0, b1, b2, b3, b4, b5, b6, b7, b8, b9, b10] = _
                      refine st_2_1 (e4_10) (g := true) rfl (l := [130, a, b]) rfl (m := []) rfl (cl_t (q10_130 a b hb.1 hb.2)) fun i20 i21 b11 hi20 hi21 hb11 => ?_
                      show T.den _ _ [a, b, i2, i3, i4, i5, i6, i7, i8, i9, i10, i11, i12, i13, i14, i15, i16, i17, i18, i19, i20, i21] [b0, b1, b2, b3, b4, b5, b6, b7, b8, b9, b10, b11] = _
                      have R := (round_128 a b _ _ _ _ ha hb hi18 hi19 hi20 hi21).1
                      have V := (round_128 a b _ _ _ _ ha hb hi18 hi19 hi20 hi21).2
                      refine st_ite (fun hc => ?_) (fun hc => ?_)
                      · replace hc : (i19 == 7) = true := hc
                        have c335 := hc
                        clear hc
                        refine st_lb fun b12 hb12 => ?_
                        replace hb12 : b12 = ((i20 != 0) || (i21 != 0)) := hb12
                        show T.den _ _ [a, b, i2, i3, i4, i5, i6, i7, i8, i9, i10, i11, i12, i13, i14, i15, i16, i17, i18, i19, i20, i21] [b0, b1, b2, b3, b4, b5, b6, b7, b8, b9, b10, b11, b12] = _
                        refine st_ite (fun hc => ?_) (fun hc => ?_)
                        · replace hc : b12 = true := hc
                          have c336 := hc
                          clear hc
                          refine st_ret ?_
                          show some ([], [false]) = _
                          obtain ⟨e1, e2⟩ := rd7 R c335
                          rw [hb12, e1, e2] at c336; cases c336
                        · replace hc : b12 = false := hc
                          have c337 := hc
                          clear hc
                          refine st_ret ?_
                          show some ([], [true]) = _
                          rfl
                      · replace hc : (i19 == 7) = false := hc
                        have c338 := hc
                        clear hc
                        refine st_ite (fun hc => ?_) (fun hc => ?_)
                        · replace hc : (i19 != i21) = true := hc
                          have c339 := hc
                          clear hc
                          refine st_ret ?_
                          show some ([], [false]) = _
                          rw [rdt R c338] at c339; simp at c339
                        · replace hc : (i19 != i21) = false := hc
                          have c340 := hc
                          clear hc
                          refine st_ite (fun hc => ?_) (fun hc => ?_)
                          · replace hc : (i19 != 0) = true := hc
                            have c341 := hc
                            clear hc
                            refine st_ret ?_
                            show some ([], [true]) = _
                            rfl
                          · replace hc : (i19 != 0) = false := hc
                            have c342 := hc
                            clear hc
                            refine st_2_1 (e4_10) (g := true) rfl (l := [126, i18, b]) rfl (m := []) rfl (cl_t (q10_126 i18 b)) fun i22 i23 b12 hi22 hi23 hb12 => ?_
                            show T.den _ _ [a, b, i2, i3, i4, i5, i6, i7, i8, i9, i10, i11, i12, i13, i14, i15, i16, i17, i18, i19, i20, i21, i22, i23] [b0, b1, b2, b3, b4, b5, b6, b7, b8, b9, b10, b11, b12] = _
                            refine st_2_1 (e4_10) (g := true) rfl (l := [124, i22, i20]) rfl (m := []) rfl (cl_t (q10_124 i22 i20)) fun i24 i25 b13 hi24 hi25 hb13 => ?_
                            show T.den _ _ [a, b, i2, i3, i4, i5, i6, i7, i8, i9, i10, i11, i12, i13, i14, i15, i16, i17, i18, i19, i20, i21, i22, i23, i24, i25] [b0, b1, b2, b3, b4, b5, b6, b7, b8, b9, b10, b11, b12, b13] = _
                            have e := back64 (rde R c338 c342) ha hi22 hi24
                            refine st_ite (fun hc => ?_) (fun hc => ?_)
                            · replace hc : (i24 != a) = true := hc
                              have c343 := hc
                              clear hc
                              refine st_ret ?_
                              show some ([], [false]) = _
                              rw [e] at c343; simp at c343
                            · replace hc : (i24 != a) = false := hc
                              have c344 := hc
                              clear hc
                              refine st_ite (fun hc => ?_) (fun hc => ?_)
                              · replace hc : (decide (i20 ≥ b)) = true := hc
                                have c345 := hc
                                clear hc
                                refine st_ret ?_
                                show some ([], [false]) = _
                                have h1 := V c342; rw [decide_eq_true_eq] at c345; omega
                              · replace hc : (decide (i20 ≥ b)) = false := hc
                                have c346 := hc
                                clear hc
                                refine st_ret ?_
                                show some ([], [true]) = _
                                rfl
                    · replace hc : (i15 != 0) = false := hc
                      have c347 := hc
                      clear hc
                      refine st_2_1 (e4_10) (g := true) rfl (l := [126, i14, b]) rfl (m := []) rfl (cl_t (q10_126 i14 b)) fun i18 i19 b10 hi18 hi19 hb10 => ?_
                      show T.den _ _ [a, b, i2, i3, i4, i5, i6, i7, i8, i9, i10, i11, i12, i13, i14, i15, i16, i17, i18, i19] [b0, b1, b2, b3, b4, b5, b6, b7, b8, b9, b10] = _
                      refine st_2_1 (e4_10) (g := true) rfl (l := [124, i18, i16]) rfl (m := []) rfl (cl_t (q10_124 i18 i16)) fun i20 i21 b11 hi20 hi21 hb11 => ?_
                      show T.den _ _ [a, b, i2, i3, i4, i5, i6, i7, i8, i9, i10, i11, i12, i13, i14, i15, i16, i17, i18, i19, i20, i21] [b0, b1, b2, b3, b4, b5, b6, b7, b8, b9, b10, b11] = _
                      have e := back64 (rde R c331 c347) ha hi18 hi20
                      refine st_ite (fun hc => ?_) (fun hc => ?_)
                      · replace hc : (i20 != a) = true := hc
                        have c348 := hc
                        clear hc
                        refine st_ret ?_
                        show some ([], [false]) = _
                        rw [e] at c348; simp at c348
                      · replace hc : (i20 != a) = false := hc
                        have c349 := hc
                        clear hc
                        refine st_2_1 (e4_10) (g := true) rfl (l := [128, a, b]) rfl (m := []) rfl (cl_t (q10_128 a b hb.1 hb.2)) fun i22 i23 b12 hi22 hi23 hb12 => ?_
                        show T.den _ _ [a, b, i2, i3, i4, i5, i6, i7, i8, i9, i10, i11, i12, i13, i14, i15, i16, i17, i18, i19, i20, i21, i22, i23] [b0, b1, b2, b3, b4, b5, b6, b7, b8, b9, b10, b11, b12] = _
                        refine st_2_1 (e4_10) (g := true) rfl (l := [130, a, b]) rfl (m := []) rfl (cl_t (q10_130 a b hb.1 hb.2)) fun i24 i25 b13 hi24 hi25 hb13 => ?_
                        show T.den _ _ [a, b, i2, i3, i4, i5, i6, i7, i8, i9, i10, i11, i12, i13, i14, i15, i16, i17, i18, i19, i20, i21, i22, i23, i24, i25] [b0, b1, b2, b3, b4, b5, b6, b7, b8, b9, b10, b11, b12, b13] = _
                        have R := (round_128 a b _ _ _ _ ha hb hi22 hi23 hi24 hi25).1
                        have V := (round_128 a b _ _ _ _ ha hb hi22 hi23 hi24 hi25).2
                        refine st_ite (fun hc => ?_) (fun hc => ?_)
                        · replace hc : (i23 == 7) = true := hc
                          have c350 := hc
                          clear hc
                          refine st_lb fun b14 hb14 => ?_
                          replace hb14 : b14 = ((i24 != 0) || (i25 != 0)) := hb14
                          show T.den _ _ [a, b, i2, i3, i4, i5, i6, i7, i8, i9, i10, i11, i12, i13, i14, i15, i16, i17, i18, i19, i20, i21, i22, i23, i24, i25] [b0, b1, b2, b3, b4, b5, b6, b7, b8, b9, b10, b11, b12, b13, b14] = _
                          refine st_ite (fun hc => ?_) (fun hc => ?_)
                          · replace hc : b14 = true := hc
                            have c351 := hc
                            clear hc
                            refine st_ret ?_
                            show some ([], [false]) = _
                            obtain ⟨e1, e2⟩ := rd7 R c350
                            rw [hb14, e1, e2] at c351; cases c351
                          · replace hc : b14 = false := hc
                            have c352 := hc
                            clear hc
                            refine st_ret ?_
                            show some ([], [true]) = _
                            rfl
                        · replace hc : (i23 == 7) = false := hc
                          have c353 := hc
                          clear hc
                          refine st_ite (fun hc => ?_) (fun hc => ?_)
                          · replace hc : (i23 != i25) = true := hc
                            have c354 := hc
                            clear hc
                            refine st_ret ?_
                            show some ([], [false]) = _
                            rw [rdt R c353] at c354; simp at c354
                          · replace hc : (i23 != i25) = false := hc
                            have c355 := hc
                            clear hc
                            refine st_ite (fun hc => ?_) (fun hc => ?_)
                            · replace hc : (i23 != 0) = true := hc
                              have c356 := hc
                              clear hc
                              refine st_ret ?_
                              show some ([], [true]) = _
                              rfl
                            · replace hc : (i23 != 0) = false := hc
                              have c357 := hc
                              clear hc
                              refine st_2_1 (e4_10) (g := true) rfl (l := [126, i22, b]) rfl (m := []) rfl (cl_t (q10_126 i22 b)) fun i26 i27 b14 hi26 hi27 hb14 => ?_
                              show T.den _ _ [a, b, i2, i3, i4, i5, i6, i7, i8, i9, i10, i11, i12, i13, i14, i15, i16, i17, i18, i19, i20, i21, i22, i23, i24, i25, i26, i27] [b0, b1, b2, b3, b4, b5, b6, b7, b8, b9, b10, b11, b12, b13, b14] = _
                              refine st_2_1 (e4_10) (g := true) rfl (l := [124, i26, i24]) rfl (m := []) rfl (cl_t (q10_124 i26 i24)) fun i28 i29 b15 hi28 hi29 hb15 => ?_
                              show T.den _ _ [a, b, i2, i3, i4, i5, i6, i7, i8, i9, i10, i11, i12, i13, i14, i15, i16, i17, i18, i19, i20, i21, i22, i23, i24, i25, i26, i27, i28, i29] [b0, b1, b2, b3, b4, b5, b6, b7, b8, b9, b10, b11, b12, b13, b14, b15] = _
                              have e := back64 (rde R c353 c357) ha hi26 hi28
                              refine st_ite (fun hc => ?_) (fun hc => ?_)
                              · replace hc : (i28 != a) = true := hc
                                have c358 := hc
                                clear hc
                                refine st_ret ?_
                                show some ([], [false]) = _
                                rw [e] at c358; simp at c358
                              · replace hc : (i28 != a) = false := hc
                                have c359 := hc
                                clear hc
                                refine st_ite (fun hc => ?_) (fun hc => ?_)
                                · replace hc : (decide (i24 ≥ b)) = true := hc
                                  have c360 := hc
                                  clear hc
                                  refine st_ret ?_
                                  show some ([], [false]) = _
                                  have h1 := V c357; rw [decide_eq_true_eq] at c360; omega
                                · replace hc : (decide (i24 ≥ b)) = false := hc
                                  have c361 := hc
                                  clear hc
                                  refine st_ret ?_
                                  show some ([], [true]) = _
                                  rfl
            · replace hc : (i11 == 7) = false := hc
              have c362 := hc
              clear hc
              refine st_ite (fun hc => ?_) (fun hc => ?_)
              · replace hc : (i11 != i13) = true := hc
                have c363 := hc
                clear hc
                refine st_ret ?_
                show some ([], [false]) = _
                rw [rdt R c362] at c363; simp at c363
              · replace hc : (i11 != i13) = false := hc
                have c364 := hc
                clear hc
                refine st_ite (fun hc => ?_) (fun hc => ?_)
                · replace hc : (i11 != 0) = true := hc
                  have c365 := hc
                  clear hc
                  refine st_2_1 (e4_10) (g := true) rfl (l := [127, a, b]) rfl (m := []) rfl (cl_t (q10_127 a b hb.1 hb.2)) fun i14 i15 b7 hi14 hi15 hb7 => ?_
                  show T.den _ _ [a, b, i2, i3, i4, i5, i6, i7, i8, i9, i10, i11, i12, i13, i14, i15] [b0, b1, b2, b3, b4, b5, b6, b7] = _
                  refine st_2_1 (e4_10) (g := true) rfl (l := [129, a, b]) rfl (m := []) rfl (cl_t (q10_129 a b hb.1 hb.2)) fun i16 i17 b8 hi16 hi17 hb8 => ?_
                  show T.den _ _ [a, b, i2, i3, i4, i5, i6, i7, i8, i9, i10, i11, i12, i13, i14, i15, i16, i17] [b0, b1, b2, b3, b4, b5, b6, b7, b8] = _
                  have R := round_127 a b _ _ _ _ ha hb hi14 hi15 hi16 hi17
                  refine st_ite (fun hc => ?_) (fun hc => ?_)
                  · replace hc : (i15 == 7) = true := hc
                    have c366 := hc
                    clear hc
                    refine st_lb fun b9 hb9 => ?_
                    replace hb9 : b9 = ((i16 != 0) || (i17 != 0)) := hb9
                    show T.den _ _ [a, b, i2, i3, i4, i5, i6, i7, i8, i9, i10, i11, i12, i13, i14, i15, i16, i17] [b0, b1, b2, b3, b4, b5, b6, b7, b8, b9] = _
                    refine st_ite (fun hc => ?_) (fun hc => ?_)
                    · replace hc : b9 = true := hc
                      have c367 := hc
                      clear hc
                      refine st_ret ?_
                      show some ([], [false]) = _
                      obtain ⟨e1, e2⟩ := rd7 R c366
                      rw [hb9, e1, e2] at c367; cases c367
                    · replace hc : b9 = false := hc
                      have c368 := hc
                      clear hc
                      refine st_2_1 (e4_10) (g := true) rfl (l := [128, a, b]) rfl (m := []) rfl (cl_t (q10_128 a b hb.1 hb.2)) fun i18 i19 b10 hi18 hi19 hb10 => ?_
                      show T.den _ _ [a, b, i2, i3, i4, i5, i6, i7, i8, i9, i10, i11, i12, i13, i14, i15, i16, i17, i18, i19] [b0, b1, b2, b3, b4, b5, b6, b7, b8, b9, b10] = _
                      refine st_2_1 (e4_10) (g := true) rfl (l := [130, a, b]) rfl (m := []) rfl (cl_t (q10_130 a b hb.1 hb.2)) fun i20 i21 b11 hi20 hi21 hb11 => ?_
                      show T.den _ _ [a, b, i2, i3, i4, i5, i6, i7, i8, i9, i10, i11, i12, i13, i14, i15, i16, i17, i18, i19, i20, i21] [b0, b1, b2, b3, b4, b5, b6, b7, b8, b9, b10, b11] = _
                      have R := (round_128 a b _ _ _ _ ha hb hi18 hi19 hi20 hi21).1
                      have V := (round_128 a b _ _ _ _ ha hb hi18 hi19 hi20 hi21).2
                      refine st_ite (fun hc => ?_) (fun hc => ?_)
                      · replace hc : (i19 == 7) = true := hc
                        have c369 := hc
                        clear hc
                        refine st_lb fun b12 hb12 => ?_
                        replace hb12 : b12 = ((i20 != 0) || (i21 != 0)) := hb12
                        show T.den _ _ [a, b, i2, i3, i4, i5, i6, i7, i8, i9, i10, i11, i12, i13, i14, i15, i16, i17, i18, i19, i20, i21] [b0, b1, b2, b3, b4, b5, b6, b7, b8, b9, b10, b11, b12] = _
                        refine st_ite (fun hc => ?_) (fun hc => ?_)
                        · replace hc : b12 = true := hc
                          have c370 := hc
                          clear hc
                          refine st_ret ?_
                          show some ([], [false]) = _
                          obtain ⟨e1, e2⟩ := rd7 R c369
                          rw [hb12, e1, e2] at c370; cases c370
                        · replace hc : b12 = false := hc
                          have c371 := hc
                          clear hc
                          refine st_ret ?_
                          show some ([], [true]) = _
                          rfl
                      · replace hc : (i19 == 7) = false := hc
                        have c372 := hc
                        clear hc
                        refine st_ite (fun hc => ?_) (fun hc => ?_)
                        · replace hc : (i19 != i21) = true := hc
                          have c373 := hc
                          clear hc
                          refine st_ret ?_
                          show some ([], [false]) = _
                          rw [rdt R c372] at c373; simp at c373
                        · replace hc : (i19 != i21) = false := hc
                          have c374 := hc
                          clear hc
                          refine st_ite (fun hc => ?_) (fun hc => ?_)
                          · replace hc : (i19 != 0) = true := hc
                            have c375 := hc
                            clear hc
                            refine st_ret ?_
                            show some ([], [true]) = _
                            rfl
                          · replace hc : (i19 != 0) = false := hc
                            have c376 := hc
                            clear hc
                            refine st_2_1 (e4_10) (g := true) rfl (l := [126, i18, b]) rfl (m := []) rfl (cl_t (q10_126 i18 b)) fun i22 i23 b12 hi22 hi23 hb12 => ?_
                            show T.den _ _ [a, b, i2, i3, i4, i5, i6, i7, i8, i9, i10, i11, i12, i13, i14, i15, i16, i17, i18, i19, i20, i21, i22, i23] [b0, b1, b2, b3, b4, b5, b6, b7, b8, b9, b10, b11, b12] = _
                            refine st_2_1 (e4_10) (g := true) rfl (l := [124, i22, i20]) rfl (m := []) rfl (cl_t (q10_124 i22 i20)) fun i24 i25 b13 hi24 hi25 hb13 => ?_
                            show T.den _ _ [a, b, i2, i3, i4, i5, i6, i7, i8, i9, i10, i11, i12, i13, i14, i15, i16, i17, i18, i19, i20, i21, i22, i23, i24, i25] [b0, b1, b2, b3, b4, b5, b6, b7, b8, b9, b10, b11, b12, b13] = _
                            have e := back64 (rde R c372 c376) ha hi22 hi24
                            refine st_ite (fun hc => ?_) (fun hc => ?_)
                            · replace hc : (i24 != a) = true := hc
                              have c377 := hc
                              clear hc
                              refine st_ret ?_
                              show some ([], [false]) = _
                              rw [e] at c377; simp at c377
                            · replace hc : (i24 != a) = false := hc
                              have c378 := hc
                              clear hc
                              refine st_ite (fun hc => ?_) (fun hc => ?_)
                              · replace hc : (decide (i20 ≥ b)) = true := hc
                                have c379 := hc
                                clear hc
                                refine st_ret ?_
                                show some ([], [false]) = _
                                have h1 := V c376; rw [decide_eq_true_eq] at c379; omega
                              · replace hc : (decide (i20 ≥ b)) = false := hc
                                have c380 := hc
                                clear hc
                                refine st_ret ?_
                                show some ([], [true]) = _
                                rfl
                  · replace hc : (i15 == 7) = false := hc
                    have c381 := hc
                    clear hc
                    refine st_ite (fun hc => ?_) (fun hc => ?_)
                    · replace hc : (i15 != i17) = true := hc
                      have c382 := hc
                      clear hc
                      refine st_ret ?_
                      show some ([], [false]) = _
                      rw [rdt R c381] at c382; simp at c382
                    · replace hc : (i15 != i17) = false := hc
                      have c383 := hc
                      clear hc
                      refine st_ite (fun hc => ?_) (fun hc => ?_)
                      · replace hc : (i15 != 0) = true := hc
                        have c384 := hc
                        clear hc
                        refine st_2_1 (e4_10) (g := true) rfl (l := [128, a, b]) rfl (m := []) rfl (cl_t (q10_128 a b hb.1 hb.2)) fun i18 i19 b9 hi18 hi19 hb9 => ?_
                        show T.den _ _ [a, b, i2, i3, i4, i5, i6, i7, i8, i9, i10, i11, i12, i13, i14, i15, i16, i17, i18, i19] [b0, b1, b2, b3, b4, b5, b6, b7, b8, b9] = _
                        refine st_2_1 (e4_10) (g := true) rfl (l := [130, a, b]) rfl (m := []) rfl (cl_t (q10_130 a b hb.1 hb.2)) fun i20 i21 b10 hi20 hi21 hb10 => ?_
                        show T.den _ _ [a, b, i2, i3, i4, i5, i6, i7, i8, i9, i10, i11, i12, i13, i14, i15, i16, i17, i18, i19, i20, i21] [b0, b1, b2, b3, b4, b5, b6, b7, b8, b9, b10] = _
                        have R := (round_128 a b _ _ _ _ ha hb hi18 hi19 hi20 hi21).1
                        have V := (round_128 a b _ _ _ _ ha hb hi18 hi19 hi20 hi21).2
                        refine st_ite (fun hc => ?_) (fun hc => ?_)
                        · replace hc : (i19 == 7) = true := hc
                          have c385 := hc
                          clear hc
                          refine st_lb fun b11 hb11 => ?_
                          replace hb11 : b11 = ((i20 != 0) || (i21 != 0)) := hb11
                          show T.den _ _ [a, b, i2, i3, i4, i5, i6, i7, i8, i9, i10, i11, i12, i13, i14, i15, i16, i17, i18, i19, i20, i21] [b0, b1, b2, b3, b4, b5, b6, b7, b8, b9, b10, b11] = _
                          refine st_ite (fun hc => ?_) (fun hc => ?_)
                          · replace hc : b11 = true := hc
                            have c386 := hc
                            clear hc
                            refine st_ret ?_
                            show some ([], [false]) = _
                            obtain ⟨e1, e2⟩ := rd7 R c385
                            rw [hb11, e1, e2] at c386; cases c386
                          · replace hc : b11 = false := hc
                            have c387 := hc
                            clear hc
                            refine st_ret ?_
                            show some ([], [true]) = _
                            rfl
                        · replace hc : (i19 == 7) = false := hc
                          have c388 := hc
                          clear hc
                          refine st_ite (fun hc => ?_) (fun hc => ?_)
                          · replace hc : (i19 != i21) = true := hc
                            have c389 := hc
                            clear hc
                            refine st_ret ?_
                            show some ([], [false]) = _
                            rw [rdt R c388] at c389; simp at c389
                          · replace hc : (i19 != i21) = false := hc
                            have c390 := hc
                            clear hc
                            refine st_ite (fun hc => ?_) (fun hc => ?_)
                            · replace hc : (i19 != 0) = true := hc
                              have c391 := hc
                              clear hc
                              refine st_ret ?_
                              show some ([], [true]) = _
                              rfl
                            · replace hc : (i19 != 0) = false := hc
                              have c392 := hc
                              clear hc
                              refine st_2_1 (e4_10) (g := true) rfl (l := [126, i18, b]) rfl (m := []) rfl (cl_t (q10_126 i18 b)) fun i22 i23 b11 hi22 hi23 hb11 => ?_
                              show T.den _ _ [a, b, i2, i3, i4, i5, i6, i7, i8, i9, i10, i11, i12, i13, i14, i15, i16, i17, i18, i19, i20, i21, i22, i23] [b0, b1, b2, b3, b4, b5, b6, b7, b8, b9, b10, b11] = _
                              refine st_2_1 (e4_10) (g := true) rfl (l := [124, i22, i20]) rfl (m := []) rfl (cl_t (q10_124 i22 i20)) fun i24 i25 b12 hi24 hi25 hb12 => ?_
                              show T.den _ _ [a, b, i2, i3, i4, i5, i6, i7, i8, i9, i10, i11, i12, i13, i14, i15, i16, i17, i18, i19, i20, i21, i22, i23, i24, i25] [b0, b1, b2, b3, b4, b5, b6, b7, b8, b9, b10, b11, b12] = _
                              have e := back64 (rde R c388 c392) ha hi22 hi24
                              refine st_ite (fun hc => ?_) (fun hc => ?_)
                              · replace hc : (i24 != a) = true := hc
                                have c393 := hc
                                clear hc
                                refine st_ret ?_
                                show some ([], [false]) = _
                                rw [e] at c393; simp at c393
                              · replace hc : (i24 != a) = false := hc
                                have c394 := hc
                                clear hc
                                refine st_ite (fun hc => ?_) (fun hc => ?_)
                                · replace hc : (decide (i20 ≥ b)) = true := hc
                                  have c395 := hc
                                  clear hc
                                  refine st_ret ?_
                                  show some ([], [false]) = _
                                  have h1 := V c392; rw [decide_eq_true_eq] at c395; omega
                                · replace hc : (decide (i20 ≥ b)) = false := hc
                                  have c396 := hc
                                  clear hc
                                  refine st_ret ?_
                                  show some ([], [true]) = _
                                  rfl
                      · replace hc : (i15 != 0) = false := hc
                        have c397 := hc
                        clear hc
                        refine st_2_1 (e4_10) (g := true) rfl (l := [126, i14, b]) rfl (m := []) rfl (cl_t (q10_126 i14 b)) fun i18 i19 b9 hi18 hi19 hb9 => ?_
                        show T.den _ _ [a, b, i2, i3, i4, i5, i6, i7, i8, i9, i10, i11, i12, i13, i14, i15, i16, i17, i18, i19] [b0, b1, b2, b3, b4, b5, b6, b7, b8, b9] = _
                        refine st_2_1 (e4_10) (g := true) rfl (l := [124, i18, i16]) rfl (m := []) rfl (cl_t (q10_124 i18 i16)) fun i20 i21 b10 hi20 hi21 hb10 => ?_
                        show T.den _ _ [a, b, i2, i3, i4, i5, i6, i7, i8, i9, i10, i11, i12, i13, i14, i15, i16, i17, i18, i19, i20, i21] [b0, b1, b2, b3, b4, b5, b6, b7, b8, b9, b10] = _
                        have e := back64 (rde R c381 c397) ha hi18 hi20
                        refine st_ite (fun hc => ?_) (fun hc => ?_)
                        · replace hc : (i20 != a) = true := hc
                          have c398 := hc
                          clear hc
                          refine st_ret ?_
                          show some ([], [false]) = _
                          rw [e] at c398; simp at c398
                        · replace hc : (i20 != a) = false := hc
                          have c399 := hc
                          clear hc
                          refine st_2_1 (e4_10) (g := true) rfl (l := [128, a, b]) rfl (m := []) rfl (cl_t (q10_128 a b hb.1 hb.2)) fun i22 i23 b11 hi22 hi23 hb11 => ?_
                          show T.den _ _ [a, b, i2, i3, i4, i5, i6, i7, i8, i9, i10, i11, i12, i13, i14, i15, i16, i17, i18, i19, i20, i21, i22, i23] [b0, b1, b2, b3, b4, b5, b6, b7, b8, b9, b10, b11] = _
                          refine st_2_1 (e4_10) (g := true) rfl (l := [130, a, b]) rfl (m := []) rfl (cl_t (q10_130 a b hb.1 hb.2)) fun i24 i25 b12 hi24 hi25 hb12 => ?_
                          show T.den _ _ [a, b, i2, i3, i4, i5, i6, i7, i8, i9, i10, i11, i12, i13, i14, i15, i16, i17, i18, i19, i20, i21, i22, i23, i24, i25] [b0, b1, b2, b3, b4, b5, b6, b7, b8, b9, b10, b11, b12] = _
                          have R := (round_128 a b _ _ _ _ ha hb hi22 hi23 hi24 hi25).1
                          have V := (round_128 a b _ _ _ _ ha hb hi22 hi23 hi24 hi25).2
                          refine st_ite (fun hc => ?_) (fun hc => ?_)
                          · replace hc : (i23 == 7) = true := hc
                            have c400 := hc
                            clear hc
                            refine st_lb fun b13 hb13 => ?_
                            replace hb13 : b13 = ((i24 != 0) || (i25 != 0)) := hb13
                            show T.den _ _ [a, b, i2, i3, i4, i5, i6, i7, i8, i9, i10, i11, i12, i13, i14, i15, i16, i17, i18, i19, i20, i21, i22, i23, i24, i25] [b0, b1, b2, b3, b4, b5, b6, b7, b8, b9, b10, b11, b12, b13] = _
                            refine st_ite (fun hc => ?_) (fun hc => ?_)
                            · replace hc : b13 = true := hc
                              have c401 := hc
                              clear hc
                              refine st_ret ?_
                              show some ([], [false]) = _
                              obtain ⟨e1, e2⟩ := rd7 R c400
                              rw [hb13, e1, e2] at c401; cases c401
                            · replace hc : b13 = false := hc
                              have c402 := hc
                              clear hc
                              refine st_ret ?_
                              show some ([], [true]) = _
                              rfl
                          · replace hc : (i23 == 7) = false := hc
                            have c403 := hc
                            clear hc
                            refine st_ite (fun hc => ?_) (fun hc => ?_)
                            · replace hc : (i23 != i25) = true := hc
                              have c404 := hc
                              clear hc
                              refine st_ret ?_
                              show some ([], [false]) = _
                              rw [rdt R c403] at c404; simp at c404
                            · replace hc : (i23 != i25) = false := hc
                              have c405 := hc
                              clear hc
                              refine st_ite (fun hc => ?_) (fun hc => ?_)
                              · replace hc : (i23 != 0) = true := hc
                                have c406 := hc
                                clear hc
                                refine st_ret ?_
                                show some ([], [true]) = _
                                rfl
                              · replace hc : (i23 != 0) = false := hc
                                have c407 := hc
                                clear hc
                                refine st_2_1 (e4_10) (g := true) rfl (l := [126, i22, b]) rfl (m := []) rfl (cl_t (q10_126 i22 b)) fun i26 i27 b13 hi26 hi27 hb13 => ?_
                                show T.den _ _ [a, b, i2, i3, i4, i5, i6, i7, i8, i9, i10, i11, i12, i13, i14, i15, i16, i17, i18, i19, i20, i21, i22, i23, i24, i25, i26, i27] [b0, b1, b2, b3, b4, b5, b6, b7, b8, b9, b10, b11, b12, b13] = _
                                refine st_2_1 (e4_10) (g := true) rfl (l := [124, i26, i24]) rfl (m := []) rfl (cl_t (q10_124 i26 i24)) fun i28 i29 b14 hi28 hi29 hb14 => ?_
                                show T.den _ _ [a, b, i2, i3, i4, i5, i6, i7, i8, i9, i10, i11, i12, i13, i14, i15, i16, i17, i18, i19, i20, i21, i22, i23, i24, i25, i26, i27, i28, i29] [b0, b1, b2, b3, b4, b5, b6, b7, b8, b9, b10, b11, b12, b13, b14] = _
                                have e := back64 (rde R c403 c407) ha hi26 hi28
                                refine st_ite (fun hc => ?_) (fun hc => ?_)
                                · replace hc : (i28 != a) = true := hc
                                  have c408 := hc
                                  clear hc
                                  refine st_ret ?_
                                  show some ([], [false]) = _
                                  rw [e] at c408; simp at c408
                                · replace hc : (i28 != a) = false := hc
                                  have c409 := hc
                                  clear hc
                                  refine st_ite (fun hc => ?_) (fun hc => ?_)
                                  · replace hc : (decide (i24 ≥ b)) = true := hc
                                    have c410 := hc
                                    clear hc
                                    refine st_ret ?_
                                    show some ([], [false]) = _
                                    have h1 := V c407; rw [decide_eq_true_eq] at c410; omega
                                  · replace hc : (decide (i24 ≥ b)) = false := hc
                                    have c411 := hc
                                    clear hc
                                    refine st_ret ?_
                                    show some ([], [true]) = _
                                    rfl
                · replace hc : (i11 != 0) = false := hc
                  have c412 := hc
                  clear hc
                  refine st_2_1 (e4_10) (g := true) rfl (l := [108, i10, b]) rfl (m := []) rfl (cl_t (q10_108 i10 b)) fun i14 i15 b7 hi14 hi15 hb7 => ?_
                  show T.den _ _ [a, b, i2, i3, i4, i5, i6, i7, i8, i9, i10, i11, i12, i13, i14, i15] [b0, b1, b2, b3, b4, b5, b6, b7] = _
                  refine st_2_1 (e4_10) (g := true) rfl (l := [106, i14, i12]) rfl (m := []) rfl (cl_t (q10_106 i14 i12)) fun i16 i17 b8 hi16 hi17 hb8 => ?_
                  show T.den _ _ [a, b, i2, i3, i4, i5, i6, i7, i8, i9, i10, i11, i12, i13, i14, i15, i16, i17] [b0, b1, b2, b3, b4, b5, b6, b7, b8] = _
                  have e := back32 (rde R c362 c412) hi14 hi16
                  refine st_ite (fun hc => ?_) (fun hc => ?_)
                  · replace hc : ((IntKind.wrap .u32 i16) != (IntKind.wrap .u32 a)) = true := hc
                    have c413 := hc
                    clear hc
                    refine st_ret ?_
                    show some ([], [false]) = _
                    rw [e] at c413; simp at c413
                  · replace hc : ((IntKind.wrap .u32 i16) != (IntKind.wrap .u32 a)) = false := hc
                    have c414 := hc
                    clear hc
                    refine st_ite (fun hc => ?_) (fun hc => ?_)
                    · replace hc : (decide (i12 ≥ (arI .and .u64 b 4294967295))) = true := hc
                      have c415 := hc
                      clear hc
                      refine st_ret ?_
                      show some ([], [false]) = _
                      have h1 := V c412; rw [decide_eq_true_eq] at c415; omega
                    · replace hc : (decide (i12 ≥ (arI .and .u64 b 4294967295))) = false := hc
                      have c416 := hc
                      clear hc
                      refine st_2_1 (e4_10) (g := true) rfl (l := [127, a, b]) rfl (m := []) rfl (cl_t (q10_127 a b hb.1 hb.2)) fun i18 i19 b9 hi18 hi19 hb9 => ?_
                      show T.den _ _ [a, b, i2, i3, i4, i5, i6, i7, i8, i9, i10, i11, i12, i13, i14, i15, i16, i17, i18, i19] [b0, b1, b2, b3, b4, b5, b6, b7, b8, b9] = _
                      refine st_2_1 (e4_10) (g := true) rfl (l := [129, a, b]) rfl (m := []) rfl (cl_t (q10_129 a b hb.1 hb.2)) fun i20 i21 b10 hi20 hi21 hb10 => ?_
                      show T.den _ _ [a, b, i2, i3, i4, i5, i6, i7, i8, i9, i10, i11, i12, i13, i14, i15, i16, i17, i18, i19, i20, i21] [b0, b1, b2, b3, b4, b5, b6, b7, b8, b9, b10] = _
                      have R := round_127 a b _ _ _ _ ha hb hi18 hi19 hi20 hi21
                      refine st_ite (fun hc => ?_) (fun hc => ?_)
                      · replace hc : (i19 == 7) = true := hc
                        have c417 := hc
                        clear hc
                        refine st_lb fun b11 hb11 => ?_
                        replace hb11 : b11 = ((i20 != 0) || (i21 != 0)) := hb11
                        show T.den _ _ [a, b, i2, i3, i4, i5, i6, i7, i8, i9, i10, i11, i12, i13, i14, i15, i16, i17, i18, i19, i20, i21] [b0, b1, b2, b3, b4, b5, b6, b7, b8, b9, b10, b11] = _
                        refine st_ite (fun hc => ?_) (fun hc => ?_)
                        · replace hc : b11 = true := hc
                          have c418 := hc
                          clear hc
                          refine st_ret ?_
                          show some ([], [false]) = _
                          obtain ⟨e1, e2⟩ := rd7 R c417
                          rw [hb11, e1, e2] at c418; cases c418
                        · replace hc : b11 = false := hc
                          have c419 := hc
                          clear hc
                          refine st_2_1 (e4_10) (g := true) rfl (l := [128, a, b]) rfl (m := []) rfl (cl_t (q10_128 a b hb.1 hb.2)) fun i22 i23 b12 hi22 hi23 hb12 => ?_
                          show T.den _ _ [a, b, i2, i3, i4, i5, i6, i7, i8, i9, i10, i11, i12, i13, i14, i15, i16, i17, i18, i19, i20, i21, i22, i23] [b0, b1, b2, b3, b4, b5, b6, b7, b8, b9, b10, b11, b12] = _
                          refine st_2_1 (e4_10) (g := true) rfl (l := [130, a, b]) rfl (m := []) rfl (cl_t (q10_130 a b hb.1 hb.2)) fun i24 i25 b13 hi24 hi25 hb13 => ?_
                          show T.den _ _ [a, b, i2, i3, i4, i5, i6, i7, i8, i9, i10, i11, i12, i13, i14, i15, i16, i17, i18, i19, i20, i21, i22, i23, i24, i25] [b0, b1, b2, b3, b4, b5, b6, b7, b8, b9, b10, b11, b12, b13] = _
                          have R := (round_128 a b _ _ _ _ ha hb hi22 hi23 hi24 hi25).1
                          have V := (round_128 a b _ _ _ _ ha hb hi22 hi23 hi24 hi25).2
                          refine st_ite (fun hc => ?_) (fun hc => ?_)
                          · replace hc : (i23 == 7) = true := hc
                            have c420 := hc
                            clear hc
                            refine st_lb fun b14 hb14 => ?_
                            replace hb14 : b14 = ((i24 != 0) || (i25 != 0)) := hb14
                            show T.den _ _ [a, b, i2, i3, i4, i5, i6, i7, i8, i9, i10, i11, i12, i13, i14, i15, i16, i17, i18, i19, i20, i21, i22, i23, i24, i25] [b0, b1, b2, b3, b4, b5, b6, b7, b8, b9, b10, b11, b12, b13, b14] = _
                            refine st_ite (fun hc => ?_) (fun hc => ?_)
                            · replace hc : b14 = true := hc
                              have c421 := hc
                              clear hc
                              refine st_ret ?_
                              show some ([], [false]) = _
                              obtain ⟨e1, e2⟩ := rd7 R c420
                              rw [hb14, e1, e2] at c421; cases c421
                            · replace hc : b14 = false := hc
                              have c422 := hc
                              clear hc
                              refine st_ret ?_
                              show some ([], [true]) = _
                              rfl
                          · replace hc : (i23 == 7) = false := hc
                            have c423 := hc
                            clear hc
                            refine st_ite (fun hc => ?_) (fun hc => ?_)
                            · replace hc : (i23 != i25) = true := hc
                              have c424 := hc
                              clear hc
                              refine st_ret ?_
                              show some ([], [false]) = _
                              rw [rdt R c423] at c424; simp at c424
                            · replace hc : (i23 != i25) = false := hc
                              have c425 := hc
                              clear hc
                              refine st_ite (fun hc => ?_) (fun hc => ?_)
                              · replace hc : (i23 != 0) = true := hc
                                have c426 := hc
                                clear hc
                                refine st_ret ?_
                                show some ([], [true]) = _
                                rfl
                              · replace hc : (i23 != 0) = false := hc
                                have c427 := hc
                                clear hc
                                refine st_2_1 (e4_10) (g := true) rfl (l := [126, i22, b]) rfl (m := []) rfl (cl_t (q10_126 i22 b)) fun i26 i27 b14 hi26 hi27 hb14 => ?_
                                show T.den _ _ [a, b, i2, i3, i4, i5, i6, i7, i8, i9, i10, i11, i12, i13, i14, i15, i16, i17, i18, i19, i20, i21, i22, i23, i24, i25, i26, i27] [b0, b1, b2, b3, b4, b5, b6, b7, b8, b9, b10, b11, b12, b13, b14] = _
                                refine st_2_1 (e4_10) (g := true) rfl (l := [124, i26, i24]) rfl (m := []) rfl (cl_t (q10_124 i26 i24)) fun i28 i29 b15 hi28 hi29 hb15 => ?_
                                show T.den _ _ [a, b, i2, i3, i4, i5, i6, i7, i8, i9, i10, i11, i12, i13, i14, i15, i16, i17, i18, i19, i20, i21, i22, i23, i24, i25, i26, i27, i28, i29] [b0, b1, b2, b3, b4, b5, b6, b7, b8, b9, b10, b11, b12, b13, b14, b15] = _
                                have e := back64 (rde R c423 c427) ha hi26 hi28
                                refine st_ite (fun hc => ?_) (fun hc => ?_)
                                · replace hc : (i28 != a) = true := hc
                                  have c428 := hc
                                  clear hc
                                  refine st_ret ?_
                                  show some ([], [false]) = _
                                  rw [e] at c428; simp at c428
                                · replace hc : (i28 != a) = false := hc
                                  have c429 := hc
                                  clear hc
                                  refine st_ite (fun hc => ?_) (fun hc => ?_)
                                  · replace hc : (decide (i24 ≥ b)) = true := hc
                                    have c430 := hc
                                    clear hc
                                    refine st_ret ?_
                                    show some ([], [false]) = _
                                    have h1 := V c427; rw [decide_eq_true_eq] at c430; omega
                                  · replace hc : (decide (i24 ≥ b)) = false := hc
                                    have c431 := hc
                                    clear hc
                                    refine st_ret ?_
                                    show some ([], [true]) = _
                                    rfl
                      · replace hc : (i19 == 7) = false := hc
                        have c432 := hc
                        clear hc
                        refine st_ite (fun hc => ?_) (fun hc => ?_)
                        · replace hc : (i19 != i21) = true := hc
                          have c433 := hc
                          clear hc
                          refine st_ret ?_
                          show some ([], [false]) = _
                          rw [rdt R c432] at c433; simp at c433
                        · replace hc : (i19 != i21) = false := hc
                          have c434 := hc
                          clear hc
                          refine st_ite (fun hc => ?_) (fun hc => ?_)
                          · replace hc : (i19 != 0) = true := hc
                            have c435 := hc
                            clear hc
                            refine st_2_1 (e4_10) (g := true) rfl (l := [128, a, b]) rfl (m := []) rfl (cl_t (q10_128 a b hb.1 hb.2)) fun i22 i23 b11 hi22 hi23 hb11 => ?_
                            show T.den _ _ [a, b, i2, i3, i4, i5, i6, i7, i8, i9, i10, i11, i12, i13, i14, i15, i16, i17, i18, i19, i20, i21, i22, i23] [b0, b1, b2, b3, b4, b5, b6, b7, b8, b9, b10, b11] = _
                            refine st_2_1 (e4_10) (g := true) rfl (l := [130, a, b]) rfl (m := []) rfl (cl_t (q10_130 a b hb.1 hb.2)) fun i24 i25 b12 hi24 hi25 hb12 => ?_
                            show T.den _ _ [a, b, i2, i3, i4, i5, i6, i7, i8, i9, i10, i11, i12, i13, i14, i15, i16, i17, i18, i19, i20, i21, i22, i23, i24, i25] [b0, b1, b2, b3, b4, b5, b6, b7, b8, b9, b10, b11, b12] = _
                            have R := (round_128 a b _ _ _ _ ha hb hi22 hi23 hi24 hi25).1
                            have V := (round_128 a b _ _ _ _ ha hb hi22 hi23 hi24 hi25).2
                            refine st_ite (fun hc => ?_) (fun hc => ?_)
                            · replace hc : (i23 == 7) = true := hc
                              have c436 := hc
                              clear hc
                              refine st_lb fun b13 hb13 => ?_
                              replace hb13 : b13 = ((i24 != 0) || (i25 != 0)) := hb13
                              show T.den _ _ [a, b, i2, i3, i4, i5, i6, i7, i8, i9, i10, i11, i12, i13, i14, i15, i16, i17, i18, i19, i20, i21, i22, i23, i24, i25] [b0, b1, b2, b3, b4, b5, b6, b7, b8, b9, b10, b11, b12, b13] = _
                              refine st_ite (fun hc => ?_) (fun hc => ?_)
                              · replace hc : b13 = true := hc
                                have c437 := hc
                                clear hc
                                refine st_ret ?_
                                show some ([], [false]) = _
                                obtain ⟨e1, e2⟩ := rd7 R c436
                                rw [hb13, e1, e2] at c437; cases c437
                              · replace hc : b13 = false := hc
                                have c438 := hc
                                clear hc
                                refine st_ret ?_
                                show some ([], [true]) = _
                                rfl
                            · replace hc : (i23 == 7) = false := hc
                              have c439 := hc
                              clear hc
                              refine st_ite (fun hc => ?_) (fun hc => ?_)
                              · replace hc : (i23 != i25) = true := hc
                                have c440 := hc
                                clear hc
                                refine st_ret ?_
                                show some ([], [false]) = _
                                rw [rdt R c439] at c440; simp at c440
                              · replace hc : (i23 != i25) = false := hc
                                have c441 := hc
                                clear hc
                                refine st_ite (fun hc => ?_) (fun hc => ?_)
                                · replace hc : (i23 != 0) = true := hc
                                  have c442 := hc
                                  clear hc
                                  refine st_ret ?_
                                  show some ([], [true]) = _
                                  rfl
                                · replace hc : (i23 != 0) = false := hc
                                  have c443 := hc
                                  clear hc
                                  refine st_2_1 (e4_10) (g := true) rfl (l := [126, i22, b]) rfl (m := []) rfl (cl_t (q10_126 i22 b)) fun i26 i27 b13 hi26 hi27 hb13 => ?_
                                  show T.den _ _ [a, b, i2, i3, i4, i5, i6, i7, i8, i9, i10, i11, i12, i13, i14, i15, i16, i17, i18, i19, i20, i21, i22, i23, i24, i25, i26, i27] [b0, b1, b2, b3, b4, b5, b6, b7, b8, b9, b10, b11, b12, b13] = _
                                  refine st_2_1 (e4_10) (g := true) rfl (l := [124, i26, i24]) rfl (m := []) rfl (cl_t (q10_124 i26 i24)) fun i28 i29 b14 hi28 hi29 hb14 => ?_
                                  show T.den _ _ [a, b, i2, i3, i4, i5, i6, i7, i8, i9, i10, i11, i12, i13, i14, i15, i16, i17, i18, i19, i20, i21, i22, i23, i24, i25, i26, i27, i28, i29] [b0, b1, b2, b3, b4, b5, b6, b7, b8, b9, b10, b11, b12, b13, b14] = _
                                  have e := back64 (rde R c439 c443) ha hi26 hi28
                                  refine st_ite (fun hc => ?_) (fun hc => ?_)
                                  · replace hc : (i28 != a) = true := hc
                                    have c444 := hc
                                    clear hc
                                    refine st_ret ?_
                                    show some ([], [false]) = _
                                    rw [e] at c444; simp at c444
                                  · replace hc : (i28 != a) = false := hc
                                    have c445 := hc
                                    clear hc
                                    refine st_ite (fun hc => ?_) (fun hc => ?_)
                                    · replace hc : (decide (i24 ≥ b)) = true := hc
                                      have c446 := hc
                                      clear hc
                                      refine st_ret ?_
                                      show some ([], [false]) = _
                                      have h1 := V c443; rw [decide_eq_true_eq] at c446; omega
                                    · replace hc : (decide (i24 ≥ b)) = false := hc
                                      have c447 := hc
                                      clear hc
                                      refine st_ret ?_
                                      show some ([], [true]) = _
                                      rfl
                          · replace hc : (i19 != 0) = false := hc
                            have c448 := hc
                            clear hc
                            refine st_2_1 (e4_10) (g := true) rfl (l := [126, i18, b]) rfl (m := []) rfl (cl_t (q10_126 i18 b)) fun i22 i23 b11 hi22 hi23 hb11 => ?_
                            show T.den _ _ [a, b, i2, i3, i4, i5, i6, i7, i8, i9, i10, i11, i12, i13, i14, i15, i16, i17, i18, i19, i20, i21, i22, i23] [b0, b1, b2, b3, b4, b5, b6, b7, b8, b9, b10, b11] = _
                            refine st_2_1 (e4_10) (g := true) rfl (l := [124, i22, i20]) rfl (m := []) rfl (cl_t (q10_124 i22 i20)) fun i24 i25 b12 hi24 hi25 hb12 => ?_
                            show T.den _ _ [a, b, i2, i3, i4, i5, i6, i7, i8, i9, i10, i11, i12, i13, i14, i15, i16, i17, i18, i19, i20, i21, i22, i23, i24, i25] [b0, b1, b2, b3, b4, b5, b6, b7, b8, b9, b10, b11, b12] = _
                            have e := back64 (rde R c432 c448) ha hi22 hi24
                            refine st_ite (fun hc => ?_) (fun hc => ?_)
                            · replace hc : (i24 != a) = true := hc
                              have c449 := hc
                              clear hc
                              refine st_ret ?_
                              show some ([], [false]) = _
                              rw [e] at c449; simp at c449
                            · replace hc : (i24 != a) = false := hc
                              have c450 := hc
                              clear hc
                              refine st_2_1 (e4_10) (g := true) rfl (l := [128, a, b]) rfl (m := []) rfl (cl_t (q10_128 a b hb.1 hb.2)) fun i26 i27 b13 hi26 hi27 hb13 => ?_
                              show T.den _ _ [a, b, i2, i3, i4, i5, i6, i7, i8, i9, i10, i11, i12, i13, i14, i15, i16, i17, i18, i19, i20, i21, i22, i23, i24, i25, i26, i27] [b0, b1, b2, b3, b4, b5, b6, b7, b8, b9, b10, b11, b12, b13] = _
                              refine st_2_1 (e4_10) (g := true) rfl (l := [130, a, b]) rfl (m := []) rfl (cl_t (q10_130 a b hb.1 hb.2)) fun i28 i29 b14 hi28 hi29 hb14 => ?_
                              show T.den _ _ [a, b, i2, i3, i4, i5, i6, i7, i8, i9, i10, i11, i12, i13, i14, i15, i16, i17, i18, i19, i20, i21, i22, i23, i24, i25, i26, i27, i28, i29] [b0, b1, b2, b3, b4, b5, b6, b7, b8, b9, b10, b11, b12, b13, b14] = _
                              have R := (round_128 a b _ _ _ _ ha hb hi26 hi27 hi28 hi29).1
                              have V := (round_128 a b _ _ _ _ ha hb hi26 hi27 hi28 hi29).2
                              refine st_ite (fun hc => ?_) (fun hc => ?_)
                              · replace hc : (i27 == 7) = true := hc
                                have c451 := hc
                                clear hc
                                refine st_lb fun b15 hb15 => ?_
                                replace hb15 : b15 = ((i28 != 0) || (i29 != 0)) := hb15
                                show T.den _ _ [a, b, i2, i3, i4, i5, i6, i7, i8, i9, i10, i11, i12, i13, i14, i15, i16, i17, i18, i19, i20, i21, i22, i23, i24, i25, i26, i27, i28, i29] [b0, b1, b2, b3, b4, b5, b6, b7, b8, b9, b10, b11, b12, b13, b14, b15] = _
                                refine st_ite (fun hc => ?_) (fun hc => ?_)
                                · replace hc : b15 = true := hc
                                  have c452 := hc
                                  clear hc
                                  refine st_ret ?_
                                  show some ([], [false]) = _
                                  obtain ⟨e1, e2⟩ := rd7 R c451
                                  rw [hb15, e1, e2] at c452; cases c452
                                · replace hc : b15 = false := hc
                                  have c453 := hc
                                  clear hc
                                  refine st_ret ?_
                                  show some ([], [true]) = _
                                  rfl
                              · replace hc : (i27 == 7) = false := hc
                                have c454 := hc
                                clear hc
                                refine st_ite (fun hc => ?_) (fun hc => ?_)
                                · replace hc : (i27 != i29) = true := hc
                                  have c455 := hc
                                  clear hc
                                  refine st_ret ?_
                                  show some ([], [false]) = _
                                  rw [rdt R c454] at c455; simp at c455
                                · replace hc : (i27 != i29) = false := hc
                                  have c456 := hc
                                  clear hc
                                  refine st_ite (fun hc => ?_) (fun hc => ?_)
                                  · replace hc : (i27 != 0) = true := hc
                                    have c457 := hc
                                    clear hc
                                    refine st_ret ?_
                                    show some ([], [true]) = _
                                    rfl
                                  · replace hc : (i27 != 0) = false := hc
                                    have c458 := hc
                                    clear hc
                                    refine st_2_1 (e4_10) (g := true) rfl (l := [126, i26, b]) rfl (m := []) rfl (cl_t (q10_126 i26 b)) fun i30 i31 b15 hi30 hi31 hb15 => ?_
                                    show T.den _ _ [a, b, i2, i3, i4, i5, i6, i7, i8, i9, i10, i11, i12, i13, i14, i15, i16, i17, i18, i19, i20, i21, i22, i23, i24, i25, i26, i27, i28, i29, i30, i31] [b0, b1, b2, b3, b4, b5, b6, b7, b8, b9, b10, b11, b12, b13, b14, b15] = _
                                    refine st_2_1 (e4_10) (g := true) rfl (l := [124, i30, i28]) rfl (m := []) rfl (cl_t (q10_124 i30 i28)) fun i32 i33 b16 hi32 hi33 hb16 => ?_
                                    show T.den _ _ [a, b, i2, i3, i4, i5, i6, i7, i8, i9, i10, i11, i12, i13, i14, i15, i16, i17, i18, i19, i20, i21, i22, i23, i24, i25, i26, i27, i28, i29, i30, i31, i32, i33] [b0, b1, b2, b3, b4, b5, b6, b7, b8, b9, b10, b11, b12, b13, b14, b15, b16] = _
                                    have e := back64 (rde R c454 c458) ha hi30 hi32
                                    refine st_ite (fun hc => ?_) (fun hc => ?_)
                                    · replace hc : (i32 != a) = true := hc
                                      have c459 := hc
                                      clear hc
                                      refine st_ret ?_
                                      show some ([], [false]) = _
                                      rw [e] at c459; simp at c459
                                    · replace hc : (i32 != a) = false := hc
                                      have c460 := hc
                                      clear hc
                                      refine st_ite (fun hc => ?_) (fun hc => ?_)
                                      · replace hc : (decide (i28 ≥ b)) = true := hc
                                        have c461 := hc
                                        clear hc
                                        refine st_ret ?_
                                        show some ([], [false]) = _
                                        have h1 := V c458; rw [decide_eq_true_eq] at c461; omega
                                      · replace hc : (decide (i28 ≥ b)) = false := hc
                                        have c462 := hc
                                        clear hc
                                        refine st_ret ?_
                                        show some ([], [true]) = _
                                        rfl
end Go.Proofs.YtghekmcdokgkkaaDoor.YNumDivides
