/-
  Sums and what is turned and compared on 64 and 32 bits: the plain law of NumLaws.
-/
import Derived.Test.YtghekmcdokgkkaaDoorXNumLaws
import Derived.Test.YtghekmcdokgkkaaDoorSn
namespace Go.Proofs.YtghekmcdokgkkaaDoor.YNumLaws
open Go.Proofs.YtghekmcdokgkkaaDoor.Sx Go.Proofs.YtghekmcdokgkkaaDoor.Sn Go.Proofs.YtghekmcdokgkkaaDoor.XNumLaws Go.Proofs.YtghekmcdokgkkaaDoor.ENumLaws
set_option linter.unusedSimpArgs false
set_option linter.unusedVariables false
theorem st_0_1 {C : Nat → Sx.Fn} {is : List Int} {bs : List Bool} {r : Option (List Int × List Bool)} {G : E} {f : Nat} {ii bb : List E} {k : Sx.T} {c0 : Bool} {F : Sx.Fn} {g : Bool} {l : List Int} {m : List Bool} (hC : C f = F) (hG : G.B is bs = g) (hl : ii.map (E.I is bs) = l) (hm : bb.map (E.B is bs) = m)
    (h : (bif g then F l m else some (List.replicate 0 0, List.replicate 1 false)) = some ([], [c0]))
    (hk : ∀ (y0 : Bool), y0 = c0 → k.den C (is ++ []) (bs ++ [y0]) = r) : (Sx.T.call G f ii bb 0 1 k).den C is bs = r := st_call _ _ (by rw [hC, hG, hl, hm]; exact h) rfl rfl (hk _ rfl)

theorem st_1_0 {C : Nat → Sx.Fn} {is : List Int} {bs : List Bool} {r : Option (List Int × List Bool)} {G : E} {f : Nat} {ii bb : List E} {k : Sx.T} {a0 : Int} {F : Sx.Fn} {g : Bool} {l : List Int} {m : List Bool} (hC : C f = F) (hG : G.B is bs = g) (hl : ii.map (E.I is bs) = l) (hm : bb.map (E.B is bs) = m)
    (h : (bif g then F l m else some (List.replicate 1 0, List.replicate 0 false)) = some ([a0], []))
    (hk : ∀ (x0 : Int), x0 = a0 → k.den C (is ++ [x0]) (bs ++ []) = r) : (Sx.T.call G f ii bb 1 0 k).den C is bs = r := st_call _ _ (by rw [hC, hG, hl, hm]; exact h) rfl rfl (hk _ rfl)

theorem st_2_0 {C : Nat → Sx.Fn} {is : List Int} {bs : List Bool} {r : Option (List Int × List Bool)} {G : E} {f : Nat} {ii bb : List E} {k : Sx.T} {a0 a1 : Int} {F : Sx.Fn} {g : Bool} {l : List Int} {m : List Bool} (hC : C f = F) (hG : G.B is bs = g) (hl : ii.map (E.I is bs) = l) (hm : bb.map (E.B is bs) = m)
    (h : (bif g then F l m else some (List.replicate 2 0, List.replicate 0 false)) = some ([a0, a1], []))
    (hk : ∀ (x0 x1 : Int), x0 = a0 → x1 = a1 → k.den C (is ++ [x0, x1]) (bs ++ []) = r) : (Sx.T.call G f ii bb 2 0 k).den C is bs = r := st_call _ _ (by rw [hC, hG, hl, hm]; exact h) rfl rfl (hk _ _ rfl rfl)

theorem st_2_1 {C : Nat → Sx.Fn} {is : List Int} {bs : List Bool} {r : Option (List Int × List Bool)} {G : E} {f : Nat} {ii bb : List E} {k : Sx.T} {a0 a1 : Int} {c0 : Bool} {F : Sx.Fn} {g : Bool} {l : List Int} {m : List Bool} (hC : C f = F) (hG : G.B is bs = g) (hl : ii.map (E.I is bs) = l) (hm : bb.map (E.B is bs) = m)
    (h : (bif g then F l m else some (List.replicate 2 0, List.replicate 1 false)) = some ([a0, a1], [c0]))
    (hk : ∀ (x0 x1 : Int) (y0 : Bool), x0 = a0 → x1 = a1 → y0 = c0 → k.den C (is ++ [x0, x1]) (bs ++ [y0]) = r) : (Sx.T.call G f ii bb 2 1 k).den C is bs = r := st_call _ _ (by rw [hC, hG, hl, hm]; exact h) rfl rfl (hk _ _ _ rfl rfl rfl)
theorem e10_17 : Tab.fn a10 17 = F17 := Tab.fn_hd
theorem e10_16 : Tab.fn a10 16 = F16 := ((Tab.fn_tl rfl).trans Tab.fn_hd)
theorem e10_18 : Tab.fn a10 18 = F18 := ((Tab.fn_tl rfl).trans ((Tab.fn_tl rfl).trans Tab.fn_hd))
theorem e18_36 : Tab.fn a18 36 = F36 := Tab.fn_hd

theorem rem_ge (b : Int) (w : Int) (h : 0 ≤ b) : (decide (arI .rem .u64 b w ≥ 0)) = true := by
  rw [arRem _ _ h, decide_eq_true_eq]
  by_cases hw : w = 0
  · subst hw; rw [Int.emod_zero]; exact h
  · exact Int.emod_nonneg _ hw

theorem sub_ge (x y : Int) : (decide (arI .sub .u64 x y ≥ 0)) = true := by rw [arSub, decide_eq_true_eq]; omega

theorem q16 (b : Bool) : F16 [] [b] = some ([bif b then 1 else 0], []) := by cases b <;> rfl

theorem u32_ge (x : Int) : 0 ≤ IntKind.wrap .u64 (IntKind.wrap .u32 x) := by rw [wrap_u64]; omega
theorem shlN (a s : Nat) (hs : s ≤ 64) : arI .shl .u64 (a : Int) (s : Int) = ((a * 2 ^ s % 2 ^ 64 : Nat) : Int) := by
  rw [arShl _ _ (by omega) (by omega), Int.toNat_natCast, Int.natCast_emod, Int.natCast_mul, Int.natCast_pow]; rfl
theorem shrN (a s : Nat) (hs : s ≤ 64) : arI .shr .u64 (a : Int) (s : Int) = ((a / 2 ^ s : Nat) : Int) := by
  rw [arShr _ _ (by omega) (by omega), Int.toNat_natCast, Int.natCast_ediv, Int.natCast_pow]; rfl
theorem remN (a w : Nat) : arI .rem .u64 (a : Int) (w : Int) = ((a % w : Nat) : Int) := by
  rw [arRem _ _ (by omega), Int.natCast_emod]
theorem subN (a b : Nat) (h : b ≤ a) (ha : a < 2 ^ 64) : arI .sub .u64 (a : Int) (b : Int) = ((a - b : Nat) : Int) := by
  rw [arSub]; omega
theorem shl_lt (a s : Nat) : a * 2 ^ s % 2 ^ 64 < 2 ^ 64 := Nat.mod_lt _ (by decide)
theorem shr_lt (a s : Nat) (h : a < 2 ^ 64) : a / 2 ^ s < 2 ^ 64 := Nat.lt_of_le_of_lt (Nat.div_le_self _ _) h
/-! Turned left by s, of 64 bits. -/
def rl (a s : Nat) : Nat := (a % 2 ^ (64 - s)) * 2 ^ s + a / 2 ^ (64 - s)
theorem rl_or (a s : Nat) (ha : a < 2 ^ 64) (hs : s ≤ 64) : (a * 2 ^ s % 2 ^ 64) ||| (a / 2 ^ (64 - s)) = rl a s := by
  have e : 2 ^ 64 = 2 ^ (64 - s) * 2 ^ s := by rw [← Nat.pow_add, Nat.sub_add_cancel hs]
  have h : a / 2 ^ (64 - s) < 2 ^ s := Nat.div_lt_of_lt_mul (by rw [← e]; exact ha)
  rw [e, Nat.mul_mod_mul_right, Nat.mul_comm _ (2 ^ s), ← Nat.two_pow_add_eq_or_of_lt h, Nat.mul_comm (2 ^ s)]
  rfl
theorem rl_lt (a s : Nat) (ha : a < 2 ^ 64) (hs : s ≤ 64) : rl a s < 2 ^ 64 := by
  rw [← rl_or a s ha hs]
  exact Nat.or_lt_two_pow (shl_lt a s) (shr_lt a _ ha)
theorem rl_back (a s : Nat) (ha : a < 2 ^ 64) (hs : s ≤ 64) : rl (rl a s) (64 - s) = a := by
  have e : 2 ^ 64 = 2 ^ (64 - s) * 2 ^ s := by rw [← Nat.pow_add, Nat.sub_add_cancel hs]
  have h : a / 2 ^ (64 - s) < 2 ^ s := Nat.div_lt_of_lt_mul (by rw [← e]; exact ha)
  unfold rl
  rw [show 64 - (64 - s) = s from by omega, Nat.mul_comm _ (2 ^ s), Nat.mul_add_mod, Nat.mod_eq_of_lt h, Nat.mul_add_div (Nat.two_pow_pos s), Nat.div_eq_of_lt h, Nat.add_zero, Nat.mul_comm, Nat.add_comm, Nat.mod_add_div]
theorem nats {a : Int} (h : 0 ≤ a) : ∃ n : Nat, a = n := Int.eq_ofNat_of_zero_le h


set_option maxHeartbeats 4000000 in
theorem q18_0_64 (a b : Int) : F18 [(0 : Int), a, b, (64 : Int)] [] = some ([(arI .add .u64 a b), 0], []) := by
  refine Eq.trans (Fd_of (n := 4) (m := 0) (t := t18) (C := Tab.fn a18) rfl rfl) ?_
  rw [t18]
  refine st_itf (show ((64 : Int) == 32) = false from by kernel_rfl) ?_
  refine st_rq (show ((64 : Int) != 0) = true from by kernel_rfl) ?_
  refine st_itt (show ((0 : Int) == 0) = true from by kernel_rfl) ?_
  refine st_ret ?_
  show some ([(arI .add .u64 a b), 0], []) = _
  rfl

set_option maxHeartbeats 4000000 in
theorem q10_124 (a b : Int) : F10 [(124 : Int), a, b] [] = some ([(arI .add .u64 a b), 0], [true]) := by
  refine Eq.trans (Fd_of (n := 3) (m := 0) (t := t10) (C := Tab.fn a10) rfl rfl) ?_
  rw [t10]
  refine st_lbc (show ((decide ((124 : Int) ≥ 70)) && (decide ((124 : Int) ≤ 79))) = false from by kernel_rfl) ?_
  show T.den _ _ [(124 : Int), a, b] [false] = _
  refine st_itf (show false = false from by kernel_rfl) ?_
  refine st_lbc (show ((decide ((124 : Int) ≥ 81)) && (decide ((124 : Int) ≤ 90))) = false from by kernel_rfl) ?_
  show T.den _ _ [(124 : Int), a, b] [false, false] = _
  refine st_itf (show false = false from by kernel_rfl) ?_
  refine st_lbc (show ((decide ((124 : Int) ≥ 106)) && (decide ((124 : Int) ≤ 120))) = false from by kernel_rfl) ?_
  show T.den _ _ [(124 : Int), a, b] [false, false, false] = _
  refine st_itf (show false = false from by kernel_rfl) ?_
  refine st_lbc (show ((decide ((124 : Int) ≥ 124)) && (decide ((124 : Int) ≤ 138))) = true from by kernel_rfl) ?_
  show T.den _ _ [(124 : Int), a, b] [false, false, false, true] = _
  refine st_itt (show true = true from by kernel_rfl) ?_
  refine st_2_0 (e10_18) (g := true) rfl (l := [0, a, b, 64]) rfl (m := []) rfl (cl_t (q18_0_64 a b )) fun i3 i4 hi3 hi4 => ?_
  show T.den _ _ [(124 : Int), a, b, i3, i4] [false, false, false, true] = _
  refine st_ret ?_
  show some ([i3, i4], [true]) = _
  subst hi3 hi4
  rfl

set_option maxHeartbeats 4000000 in
theorem q18_1_64 (a b : Int) : F18 [(1 : Int), a, b, (64 : Int)] [] = some ([(arI .sub .u64 a b), 0], []) := by
  refine Eq.trans (Fd_of (n := 4) (m := 0) (t := t18) (C := Tab.fn a18) rfl rfl) ?_
  rw [t18]
  refine st_itf (show ((64 : Int) == 32) = false from by kernel_rfl) ?_
  refine st_rq (show ((64 : Int) != 0) = true from by kernel_rfl) ?_
  refine st_itf (show ((1 : Int) == 0) = false from by kernel_rfl) ?_
  refine st_itt (show ((1 : Int) == 1) = true from by kernel_rfl) ?_
  refine st_ret ?_
  show some ([(arI .sub .u64 a b), 0], []) = _
  rfl

set_option maxHeartbeats 4000000 in
theorem q10_125 (a b : Int) : F10 [(125 : Int), a, b] [] = some ([(arI .sub .u64 a b), 0], [true]) := by
  refine Eq.trans (Fd_of (n := 3) (m := 0) (t := t10) (C := Tab.fn a10) rfl rfl) ?_
  rw [t10]
  refine st_lbc (show ((decide ((125 : Int) ≥ 70)) && (decide ((125 : Int) ≤ 79))) = false from by kernel_rfl) ?_
  show T.den _ _ [(125 : Int), a, b] [false] = _
  refine st_itf (show false = false from by kernel_rfl) ?_
  refine st_lbc (show ((decide ((125 : Int) ≥ 81)) && (decide ((125 : Int) ≤ 90))) = false from by kernel_rfl) ?_
  show T.den _ _ [(125 : Int), a, b] [false, false] = _
  refine st_itf (show false = false from by kernel_rfl) ?_
  refine st_lbc (show ((decide ((125 : Int) ≥ 106)) && (decide ((125 : Int) ≤ 120))) = false from by kernel_rfl) ?_
  show T.den _ _ [(125 : Int), a, b] [false, false, false] = _
  refine st_itf (show false = false from by kernel_rfl) ?_
  refine st_lbc (show ((decide ((125 : Int) ≥ 124)) && (decide ((125 : Int) ≤ 138))) = true from by kernel_rfl) ?_
  show T.den _ _ [(125 : Int), a, b] [false, false, false, true] = _
  refine st_itt (show true = true from by kernel_rfl) ?_
  refine st_2_0 (e10_18) (g := true) rfl (l := [1, a, b, 64]) rfl (m := []) rfl (cl_t (q18_1_64 a b )) fun i3 i4 hi3 hi4 => ?_
  show T.den _ _ [(125 : Int), a, b, i3, i4] [false, false, false, true] = _
  refine st_ret ?_
  show some ([i3, i4], [true]) = _
  subst hi3 hi4
  rfl

set_option maxHeartbeats 4000000 in
theorem q18_13_64 (a b : Int) (hb : 0 ≤ b) : F18 [(13 : Int), a, b, (64 : Int)] [] = some ([(arI .or .u64 (arI .shl .u64 a (arI .rem .u64 b (64 : Int))) (arI .shr .u64 a (arI .sub .u64 (64 : Int) (arI .rem .u64 b (64 : Int))))), 0], []) := by
  refine Eq.trans (Fd_of (n := 4) (m := 0) (t := t18) (C := Tab.fn a18) rfl rfl) ?_
  rw [t18]
  refine st_itf (show ((64 : Int) == 32) = false from by kernel_rfl) ?_
  refine st_rq (show ((64 : Int) != 0) = true from by kernel_rfl) ?_
  refine st_itf (show ((13 : Int) == 0) = false from by kernel_rfl) ?_
  refine st_itf (show ((13 : Int) == 1) = false from by kernel_rfl) ?_
  refine st_itf (show ((13 : Int) == 2) = false from by kernel_rfl) ?_
  refine st_itf (show ((13 : Int) == 3) = false from by kernel_rfl) ?_
  refine st_itf (show ((13 : Int) == 4) = false from by kernel_rfl) ?_
  refine st_itf (show ((13 : Int) == 5) = false from by kernel_rfl) ?_
  refine st_itf (show ((13 : Int) == 6) = false from by kernel_rfl) ?_
  refine st_itf (show ((13 : Int) == 7) = false from by kernel_rfl) ?_
  refine st_itf (show ((13 : Int) == 8) = false from by kernel_rfl) ?_
  refine st_itf (show ((13 : Int) == 9) = false from by kernel_rfl) ?_
  refine st_itf (show ((13 : Int) == 10) = false from by kernel_rfl) ?_
  refine st_itf (show ((13 : Int) == 11) = false from by kernel_rfl) ?_
  refine st_itf (show ((13 : Int) == 12) = false from by kernel_rfl) ?_
  refine st_itt (show ((13 : Int) == 13) = true from by kernel_rfl) ?_
  refine st_rq (show (decide ((arI .rem .u64 b (64 : Int)) ≥ 0)) = true from ?_) ?_
  · first | exact rem_ge _ _ (by omega) | exact sub_ge _ _ | (subst_vars; exact sub_ge _ _) | (omega)
  refine st_li fun i4 hi4 => ?_
  replace hi4 : i4 = (arI .sub .u64 (64 : Int) (arI .rem .u64 b (64 : Int))) := hi4
  show T.den _ _ [(13 : Int), a, b, (64 : Int), i4] [] = _
  refine st_rq (show (decide (i4 ≥ 0)) = true from ?_) ?_
  · first | exact rem_ge _ _ (by omega) | exact sub_ge _ _ | (subst_vars; exact sub_ge _ _) | (omega)
  refine st_li fun i5 hi5 => ?_
  replace hi5 : i5 = (arI .or .u64 (arI .shl .u64 a (arI .rem .u64 b (64 : Int))) (arI .shr .u64 a i4)) := hi5
  show T.den _ _ [(13 : Int), a, b, (64 : Int), i4, i5] [] = _
  refine st_ret ?_
  show some ([i5, 0], []) = _
  subst hi4 hi5
  rfl

set_option maxHeartbeats 4000000 in
theorem q10_137 (a b : Int) (hb : 0 ≤ b) : F10 [(137 : Int), a, b] [] = some ([(arI .or .u64 (arI .shl .u64 a (arI .rem .u64 b (64 : Int))) (arI .shr .u64 a (arI .sub .u64 (64 : Int) (arI .rem .u64 b (64 : Int))))), 0], [true]) := by
  refine Eq.trans (Fd_of (n := 3) (m := 0) (t := t10) (C := Tab.fn a10) rfl rfl) ?_
  rw [t10]
  refine st_lbc (show ((decide ((137 : Int) ≥ 70)) && (decide ((137 : Int) ≤ 79))) = false from by kernel_rfl) ?_
  show T.den _ _ [(137 : Int), a, b] [false] = _
  refine st_itf (show false = false from by kernel_rfl) ?_
  refine st_lbc (show ((decide ((137 : Int) ≥ 81)) && (decide ((137 : Int) ≤ 90))) = false from by kernel_rfl) ?_
  show T.den _ _ [(137 : Int), a, b] [false, false] = _
  refine st_itf (show false = false from by kernel_rfl) ?_
  refine st_lbc (show ((decide ((137 : Int) ≥ 106)) && (decide ((137 : Int) ≤ 120))) = false from by kernel_rfl) ?_
  show T.den _ _ [(137 : Int), a, b] [false, false, false] = _
  refine st_itf (show false = false from by kernel_rfl) ?_
  refine st_lbc (show ((decide ((137 : Int) ≥ 124)) && (decide ((137 : Int) ≤ 138))) = true from by kernel_rfl) ?_
  show T.den _ _ [(137 : Int), a, b] [false, false, false, true] = _
  refine st_itt (show true = true from by kernel_rfl) ?_
  refine st_2_0 (e10_18) (g := true) rfl (l := [13, a, b, 64]) rfl (m := []) rfl (cl_t (q18_13_64 a b hb)) fun i3 i4 hi3 hi4 => ?_
  show T.den _ _ [(137 : Int), a, b, i3, i4] [false, false, false, true] = _
  refine st_ret ?_
  show some ([i3, i4], [true]) = _
  subst hi3 hi4
  rfl

set_option maxHeartbeats 4000000 in
theorem q18_14_64 (a b : Int) (hb : 0 ≤ b) : F18 [(14 : Int), a, b, (64 : Int)] [] = some ([(arI .or .u64 (arI .shr .u64 a (arI .rem .u64 b (64 : Int))) (arI .shl .u64 a (arI .sub .u64 (64 : Int) (arI .rem .u64 b (64 : Int))))), 0], []) := by
  refine Eq.trans (Fd_of (n := 4) (m := 0) (t := t18) (C := Tab.fn a18) rfl rfl) ?_
  rw [t18]
  refine st_itf (show ((64 : Int) == 32) = false from by kernel_rfl) ?_
  refine st_rq (show ((64 : Int) != 0) = true from by kernel_rfl) ?_
  refine st_itf (show ((14 : Int) == 0) = false from by kernel_rfl) ?_
  refine st_itf (show ((14 : Int) == 1) = false from by kernel_rfl) ?_
  refine st_itf (show ((14 : Int) == 2) = false from by kernel_rfl) ?_
  refine st_itf (show ((14 : Int) == 3) = false from by kernel_rfl) ?_
  refine st_itf (show ((14 : Int) == 4) = false from by kernel_rfl) ?_
  refine st_itf (show ((14 : Int) == 5) = false from by kernel_rfl) ?_
  refine st_itf (show ((14 : Int) == 6) = false from by kernel_rfl) ?_
  refine st_itf (show ((14 : Int) == 7) = false from by kernel_rfl) ?_
  refine st_itf (show ((14 : Int) == 8) = false from by kernel_rfl) ?_
  refine st_itf (show ((14 : Int) == 9) = false from by kernel_rfl) ?_
  refine st_itf (show ((14 : Int) == 10) = false from by kernel_rfl) ?_
  refine st_itf (show ((14 : Int) == 11) = false from by kernel_rfl) ?_
  refine st_itf (show ((14 : Int) == 12) = false from by kernel_rfl) ?_
  refine st_itf (show ((14 : Int) == 13) = false from by kernel_rfl) ?_
  refine st_rq (show (decide ((arI .rem .u64 b (64 : Int)) ≥ 0)) = true from ?_) ?_
  · first | exact rem_ge _ _ (by omega) | exact sub_ge _ _ | (subst_vars; exact sub_ge _ _) | (omega)
  refine st_li fun i4 hi4 => ?_
  replace hi4 : i4 = (arI .sub .u64 (64 : Int) (arI .rem .u64 b (64 : Int))) := hi4
  show T.den _ _ [(14 : Int), a, b, (64 : Int), i4] [] = _
  refine st_rq (show (decide (i4 ≥ 0)) = true from ?_) ?_
  · first | exact rem_ge _ _ (by omega) | exact sub_ge _ _ | (subst_vars; exact sub_ge _ _) | (omega)
  refine st_li fun i5 hi5 => ?_
  replace hi5 : i5 = (arI .or .u64 (arI .shr .u64 a (arI .rem .u64 b (64 : Int))) (arI .shl .u64 a i4)) := hi5
  show T.den _ _ [(14 : Int), a, b, (64 : Int), i4, i5] [] = _
  refine st_ret ?_
  show some ([i5, 0], []) = _
  subst hi4 hi5
  rfl

set_option maxHeartbeats 4000000 in
theorem q10_138 (a b : Int) (hb : 0 ≤ b) : F10 [(138 : Int), a, b] [] = some ([(arI .or .u64 (arI .shr .u64 a (arI .rem .u64 b (64 : Int))) (arI .shl .u64 a (arI .sub .u64 (64 : Int) (arI .rem .u64 b (64 : Int))))), 0], [true]) := by
  refine Eq.trans (Fd_of (n := 3) (m := 0) (t := t10) (C := Tab.fn a10) rfl rfl) ?_
  rw [t10]
  refine st_lbc (show ((decide ((138 : Int) ≥ 70)) && (decide ((138 : Int) ≤ 79))) = false from by kernel_rfl) ?_
  show T.den _ _ [(138 : Int), a, b] [false] = _
  refine st_itf (show false = false from by kernel_rfl) ?_
  refine st_lbc (show ((decide ((138 : Int) ≥ 81)) && (decide ((138 : Int) ≤ 90))) = false from by kernel_rfl) ?_
  show T.den _ _ [(138 : Int), a, b] [false, false] = _
  refine st_itf (show false = false from by kernel_rfl) ?_
  refine st_lbc (show ((decide ((138 : Int) ≥ 106)) && (decide ((138 : Int) ≤ 120))) = false from by kernel_rfl) ?_
  show T.den _ _ [(138 : Int), a, b] [false, false, false] = _
  refine st_itf (show false = false from by kernel_rfl) ?_
  refine st_lbc (show ((decide ((138 : Int) ≥ 124)) && (decide ((138 : Int) ≤ 138))) = true from by kernel_rfl) ?_
  show T.den _ _ [(138 : Int), a, b] [false, false, false, true] = _
  refine st_itt (show true = true from by kernel_rfl) ?_
  refine st_2_0 (e10_18) (g := true) rfl (l := [14, a, b, 64]) rfl (m := []) rfl (cl_t (q18_14_64 a b hb)) fun i3 i4 hi3 hi4 => ?_
  show T.den _ _ [(138 : Int), a, b, i3, i4] [false, false, false, true] = _
  refine st_ret ?_
  show some ([i3, i4], [true]) = _
  subst hi3 hi4
  rfl

set_option maxHeartbeats 4000000 in
theorem q18_9_64 (a b : Int) : F18 [(9 : Int), a, b, (64 : Int)] [] = some ([(arI .xor .u64 a b), 0], []) := by
  refine Eq.trans (Fd_of (n := 4) (m := 0) (t := t18) (C := Tab.fn a18) rfl rfl) ?_
  rw [t18]
  refine st_itf (show ((64 : Int) == 32) = false from by kernel_rfl) ?_
  refine st_rq (show ((64 : Int) != 0) = true from by kernel_rfl) ?_
  refine st_itf (show ((9 : Int) == 0) = false from by kernel_rfl) ?_
  refine st_itf (show ((9 : Int) == 1) = false from by kernel_rfl) ?_
  refine st_itf (show ((9 : Int) == 2) = false from by kernel_rfl) ?_
  refine st_itf (show ((9 : Int) == 3) = false from by kernel_rfl) ?_
  refine st_itf (show ((9 : Int) == 4) = false from by kernel_rfl) ?_
  refine st_itf (show ((9 : Int) == 5) = false from by kernel_rfl) ?_
  refine st_itf (show ((9 : Int) == 6) = false from by kernel_rfl) ?_
  refine st_itf (show ((9 : Int) == 7) = false from by kernel_rfl) ?_
  refine st_itf (show ((9 : Int) == 8) = false from by kernel_rfl) ?_
  refine st_itt (show ((9 : Int) == 9) = true from by kernel_rfl) ?_
  refine st_ret ?_
  show some ([(arI .xor .u64 a b), 0], []) = _
  rfl

set_option maxHeartbeats 4000000 in
theorem q10_133 (a b : Int) : F10 [(133 : Int), a, b] [] = some ([(arI .xor .u64 a b), 0], [true]) := by
  refine Eq.trans (Fd_of (n := 3) (m := 0) (t := t10) (C := Tab.fn a10) rfl rfl) ?_
  rw [t10]
  refine st_lbc (show ((decide ((133 : Int) ≥ 70)) && (decide ((133 : Int) ≤ 79))) = false from by kernel_rfl) ?_
  show T.den _ _ [(133 : Int), a, b] [false] = _
  refine st_itf (show false = false from by kernel_rfl) ?_
  refine st_lbc (show ((decide ((133 : Int) ≥ 81)) && (decide ((133 : Int) ≤ 90))) = false from by kernel_rfl) ?_
  show T.den _ _ [(133 : Int), a, b] [false, false] = _
  refine st_itf (show false = false from by kernel_rfl) ?_
  refine st_lbc (show ((decide ((133 : Int) ≥ 106)) && (decide ((133 : Int) ≤ 120))) = false from by kernel_rfl) ?_
  show T.den _ _ [(133 : Int), a, b] [false, false, false] = _
  refine st_itf (show false = false from by kernel_rfl) ?_
  refine st_lbc (show ((decide ((133 : Int) ≥ 124)) && (decide ((133 : Int) ≤ 138))) = true from by kernel_rfl) ?_
  show T.den _ _ [(133 : Int), a, b] [false, false, false, true] = _
  refine st_itt (show true = true from by kernel_rfl) ?_
  refine st_2_0 (e10_18) (g := true) rfl (l := [9, a, b, 64]) rfl (m := []) rfl (cl_t (q18_9_64 a b )) fun i3 i4 hi3 hi4 => ?_
  show T.den _ _ [(133 : Int), a, b, i3, i4] [false, false, false, true] = _
  refine st_ret ?_
  show some ([i3, i4], [true]) = _
  subst hi3 hi4
  rfl

theorem q17_0 (a b x y : Int) : F17 [0, a, b, x, y] [] = some ([], [(a == b)]) := by kernel_rfl

set_option maxHeartbeats 4000000 in
theorem q10_81 (a b : Int) : F10 [(81 : Int), a, b] [] = some ([(bif (a == b) then 1 else 0), 0], [true]) := by
  refine Eq.trans (Fd_of (n := 3) (m := 0) (t := t10) (C := Tab.fn a10) rfl rfl) ?_
  rw [t10]
  refine st_lbc (show ((decide ((81 : Int) ≥ 70)) && (decide ((81 : Int) ≤ 79))) = false from by kernel_rfl) ?_
  show T.den _ _ [(81 : Int), a, b] [false] = _
  refine st_itf (show false = false from by kernel_rfl) ?_
  refine st_lbc (show ((decide ((81 : Int) ≥ 81)) && (decide ((81 : Int) ≤ 90))) = true from by kernel_rfl) ?_
  show T.den _ _ [(81 : Int), a, b] [false, true] = _
  refine st_itt (show true = true from by kernel_rfl) ?_
  refine st_0_1 (e10_17) (g := true) rfl (l := [0, a, b, (IntKind.wrap .i64 a), (IntKind.wrap .i64 b)]) rfl (m := []) rfl (cl_t (q17_0 a b (IntKind.wrap .i64 a) (IntKind.wrap .i64 b))) fun b2 hb2 => ?_
  show T.den _ _ [(81 : Int), a, b] [false, true, b2] = _
  refine st_1_0 (e10_16) (g := true) rfl (l := []) rfl (m := [b2]) rfl (cl_t (q16 b2)) fun i3 hi3 => ?_
  show T.den _ _ [(81 : Int), a, b, i3] [false, true, b2] = _
  refine st_ret ?_
  show some ([i3, 0], [true]) = _
  subst hb2 hi3
  rfl

theorem q17_1 (a b x y : Int) : F17 [1, a, b, x, y] [] = some ([], [(a != b)]) := by kernel_rfl

set_option maxHeartbeats 4000000 in
theorem q10_82 (a b : Int) : F10 [(82 : Int), a, b] [] = some ([(bif (a != b) then 1 else 0), 0], [true]) := by
  refine Eq.trans (Fd_of (n := 3) (m := 0) (t := t10) (C := Tab.fn a10) rfl rfl) ?_
  rw [t10]
  refine st_lbc (show ((decide ((82 : Int) ≥ 70)) && (decide ((82 : Int) ≤ 79))) = false from by kernel_rfl) ?_
  show T.den _ _ [(82 : Int), a, b] [false] = _
  refine st_itf (show false = false from by kernel_rfl) ?_
  refine st_lbc (show ((decide ((82 : Int) ≥ 81)) && (decide ((82 : Int) ≤ 90))) = true from by kernel_rfl) ?_
  show T.den _ _ [(82 : Int), a, b] [false, true] = _
  refine st_itt (show true = true from by kernel_rfl) ?_
  refine st_0_1 (e10_17) (g := true) rfl (l := [1, a, b, (IntKind.wrap .i64 a), (IntKind.wrap .i64 b)]) rfl (m := []) rfl (cl_t (q17_1 a b (IntKind.wrap .i64 a) (IntKind.wrap .i64 b))) fun b2 hb2 => ?_
  show T.den _ _ [(82 : Int), a, b] [false, true, b2] = _
  refine st_1_0 (e10_16) (g := true) rfl (l := []) rfl (m := [b2]) rfl (cl_t (q16 b2)) fun i3 hi3 => ?_
  show T.den _ _ [(82 : Int), a, b, i3] [false, true, b2] = _
  refine st_ret ?_
  show some ([i3, 0], [true]) = _
  subst hb2 hi3
  rfl

theorem q17_2 (a b x y : Int) : F17 [2, a, b, x, y] [] = some ([], [(decide (x < y))]) := by kernel_rfl

set_option maxHeartbeats 4000000 in
theorem q10_83 (a b : Int) : F10 [(83 : Int), a, b] [] = some ([(bif (decide ((IntKind.wrap .i64 a) < (IntKind.wrap .i64 b))) then 1 else 0), 0], [true]) := by
  refine Eq.trans (Fd_of (n := 3) (m := 0) (t := t10) (C := Tab.fn a10) rfl rfl) ?_
  rw [t10]
  refine st_lbc (show ((decide ((83 : Int) ≥ 70)) && (decide ((83 : Int) ≤ 79))) = false from by kernel_rfl) ?_
  show T.den _ _ [(83 : Int), a, b] [false] = _
  refine st_itf (show false = false from by kernel_rfl) ?_
  refine st_lbc (show ((decide ((83 : Int) ≥ 81)) && (decide ((83 : Int) ≤ 90))) = true from by kernel_rfl) ?_
  show T.den _ _ [(83 : Int), a, b] [false, true] = _
  refine st_itt (show true = true from by kernel_rfl) ?_
  refine st_0_1 (e10_17) (g := true) rfl (l := [2, a, b, (IntKind.wrap .i64 a), (IntKind.wrap .i64 b)]) rfl (m := []) rfl (cl_t (q17_2 a b (IntKind.wrap .i64 a) (IntKind.wrap .i64 b))) fun b2 hb2 => ?_
  show T.den _ _ [(83 : Int), a, b] [false, true, b2] = _
  refine st_1_0 (e10_16) (g := true) rfl (l := []) rfl (m := [b2]) rfl (cl_t (q16 b2)) fun i3 hi3 => ?_
  show T.den _ _ [(83 : Int), a, b, i3] [false, true, b2] = _
  refine st_ret ?_
  show some ([i3, 0], [true]) = _
  subst hb2 hi3
  rfl

theorem q17_8 (a b x y : Int) : F17 [8, a, b, x, y] [] = some ([], [(decide (x ≥ y))]) := by kernel_rfl

set_option maxHeartbeats 4000000 in
theorem q10_89 (a b : Int) : F10 [(89 : Int), a, b] [] = some ([(bif (decide ((IntKind.wrap .i64 a) ≥ (IntKind.wrap .i64 b))) then 1 else 0), 0], [true]) := by
  refine Eq.trans (Fd_of (n := 3) (m := 0) (t := t10) (C := Tab.fn a10) rfl rfl) ?_
  rw [t10]
  refine st_lbc (show ((decide ((89 : Int) ≥ 70)) && (decide ((89 : Int) ≤ 79))) = false from by kernel_rfl) ?_
  show T.den _ _ [(89 : Int), a, b] [false] = _
  refine st_itf (show false = false from by kernel_rfl) ?_
  refine st_lbc (show ((decide ((89 : Int) ≥ 81)) && (decide ((89 : Int) ≤ 90))) = true from by kernel_rfl) ?_
  show T.den _ _ [(89 : Int), a, b] [false, true] = _
  refine st_itt (show true = true from by kernel_rfl) ?_
  refine st_0_1 (e10_17) (g := true) rfl (l := [8, a, b, (IntKind.wrap .i64 a), (IntKind.wrap .i64 b)]) rfl (m := []) rfl (cl_t (q17_8 a b (IntKind.wrap .i64 a) (IntKind.wrap .i64 b))) fun b2 hb2 => ?_
  show T.den _ _ [(89 : Int), a, b] [false, true, b2] = _
  refine st_1_0 (e10_16) (g := true) rfl (l := []) rfl (m := [b2]) rfl (cl_t (q16 b2)) fun i3 hi3 => ?_
  show T.den _ _ [(89 : Int), a, b, i3] [false, true, b2] = _
  refine st_ret ?_
  show some ([i3, 0], [true]) = _
  subst hb2 hi3
  rfl

theorem q17_3 (a b x y : Int) : F17 [3, a, b, x, y] [] = some ([], [(decide (a < b))]) := by kernel_rfl

set_option maxHeartbeats 4000000 in
theorem q10_84 (a b : Int) : F10 [(84 : Int), a, b] [] = some ([(bif (decide (a < b)) then 1 else 0), 0], [true]) := by
  refine Eq.trans (Fd_of (n := 3) (m := 0) (t := t10) (C := Tab.fn a10) rfl rfl) ?_
  rw [t10]
  refine st_lbc (show ((decide ((84 : Int) ≥ 70)) && (decide ((84 : Int) ≤ 79))) = false from by kernel_rfl) ?_
  show T.den _ _ [(84 : Int), a, b] [false] = _
  refine st_itf (show false = false from by kernel_rfl) ?_
  refine st_lbc (show ((decide ((84 : Int) ≥ 81)) && (decide ((84 : Int) ≤ 90))) = true from by kernel_rfl) ?_
  show T.den _ _ [(84 : Int), a, b] [false, true] = _
  refine st_itt (show true = true from by kernel_rfl) ?_
  refine st_0_1 (e10_17) (g := true) rfl (l := [3, a, b, (IntKind.wrap .i64 a), (IntKind.wrap .i64 b)]) rfl (m := []) rfl (cl_t (q17_3 a b (IntKind.wrap .i64 a) (IntKind.wrap .i64 b))) fun b2 hb2 => ?_
  show T.den _ _ [(84 : Int), a, b] [false, true, b2] = _
  refine st_1_0 (e10_16) (g := true) rfl (l := []) rfl (m := [b2]) rfl (cl_t (q16 b2)) fun i3 hi3 => ?_
  show T.den _ _ [(84 : Int), a, b, i3] [false, true, b2] = _
  refine st_ret ?_
  show some ([i3, 0], [true]) = _
  subst hb2 hi3
  rfl

theorem q17_9 (a b x y : Int) : F17 [9, a, b, x, y] [] = some ([], [(decide (a ≥ b))]) := by kernel_rfl

set_option maxHeartbeats 4000000 in
theorem q10_90 (a b : Int) : F10 [(90 : Int), a, b] [] = some ([(bif (decide (a ≥ b)) then 1 else 0), 0], [true]) := by
  refine Eq.trans (Fd_of (n := 3) (m := 0) (t := t10) (C := Tab.fn a10) rfl rfl) ?_
  rw [t10]
  refine st_lbc (show ((decide ((90 : Int) ≥ 70)) && (decide ((90 : Int) ≤ 79))) = false from by kernel_rfl) ?_
  show T.den _ _ [(90 : Int), a, b] [false] = _
  refine st_itf (show false = false from by kernel_rfl) ?_
  refine st_lbc (show ((decide ((90 : Int) ≥ 81)) && (decide ((90 : Int) ≤ 90))) = true from by kernel_rfl) ?_
  show T.den _ _ [(90 : Int), a, b] [false, true] = _
  refine st_itt (show true = true from by kernel_rfl) ?_
  refine st_0_1 (e10_17) (g := true) rfl (l := [9, a, b, (IntKind.wrap .i64 a), (IntKind.wrap .i64 b)]) rfl (m := []) rfl (cl_t (q17_9 a b (IntKind.wrap .i64 a) (IntKind.wrap .i64 b))) fun b2 hb2 => ?_
  show T.den _ _ [(90 : Int), a, b] [false, true, b2] = _
  refine st_1_0 (e10_16) (g := true) rfl (l := []) rfl (m := [b2]) rfl (cl_t (q16 b2)) fun i3 hi3 => ?_
  show T.den _ _ [(90 : Int), a, b, i3] [false, true, b2] = _
  refine st_ret ?_
  show some ([i3, 0], [true]) = _
  subst hb2 hi3
  rfl

theorem q17_4 (a b x y : Int) : F17 [4, a, b, x, y] [] = some ([], [(decide (x > y))]) := by kernel_rfl

set_option maxHeartbeats 4000000 in
theorem q10_85 (a b : Int) : F10 [(85 : Int), a, b] [] = some ([(bif (decide ((IntKind.wrap .i64 a) > (IntKind.wrap .i64 b))) then 1 else 0), 0], [true]) := by
  refine Eq.trans (Fd_of (n := 3) (m := 0) (t := t10) (C := Tab.fn a10) rfl rfl) ?_
  rw [t10]
  refine st_lbc (show ((decide ((85 : Int) ≥ 70)) && (decide ((85 : Int) ≤ 79))) = false from by kernel_rfl) ?_
  show T.den _ _ [(85 : Int), a, b] [false] = _
  refine st_itf (show false = false from by kernel_rfl) ?_
  refine st_lbc (show ((decide ((85 : Int) ≥ 81)) && (decide ((85 : Int) ≤ 90))) = true from by kernel_rfl) ?_
  show T.den _ _ [(85 : Int), a, b] [false, true] = _
  refine st_itt (show true = true from by kernel_rfl) ?_
  refine st_0_1 (e10_17) (g := true) rfl (l := [4, a, b, (IntKind.wrap .i64 a), (IntKind.wrap .i64 b)]) rfl (m := []) rfl (cl_t (q17_4 a b (IntKind.wrap .i64 a) (IntKind.wrap .i64 b))) fun b2 hb2 => ?_
  show T.den _ _ [(85 : Int), a, b] [false, true, b2] = _
  refine st_1_0 (e10_16) (g := true) rfl (l := []) rfl (m := [b2]) rfl (cl_t (q16 b2)) fun i3 hi3 => ?_
  show T.den _ _ [(85 : Int), a, b, i3] [false, true, b2] = _
  refine st_ret ?_
  show some ([i3, 0], [true]) = _
  subst hb2 hi3
  rfl

theorem q17_6 (a b x y : Int) : F17 [6, a, b, x, y] [] = some ([], [(decide (x ≤ y))]) := by kernel_rfl

set_option maxHeartbeats 4000000 in
theorem q10_87 (a b : Int) : F10 [(87 : Int), a, b] [] = some ([(bif (decide ((IntKind.wrap .i64 a) ≤ (IntKind.wrap .i64 b))) then 1 else 0), 0], [true]) := by
  refine Eq.trans (Fd_of (n := 3) (m := 0) (t := t10) (C := Tab.fn a10) rfl rfl) ?_
  rw [t10]
  refine st_lbc (show ((decide ((87 : Int) ≥ 70)) && (decide ((87 : Int) ≤ 79))) = false from by kernel_rfl) ?_
  show T.den _ _ [(87 : Int), a, b] [false] = _
  refine st_itf (show false = false from by kernel_rfl) ?_
  refine st_lbc (show ((decide ((87 : Int) ≥ 81)) && (decide ((87 : Int) ≤ 90))) = true from by kernel_rfl) ?_
  show T.den _ _ [(87 : Int), a, b] [false, true] = _
  refine st_itt (show true = true from by kernel_rfl) ?_
  refine st_0_1 (e10_17) (g := true) rfl (l := [6, a, b, (IntKind.wrap .i64 a), (IntKind.wrap .i64 b)]) rfl (m := []) rfl (cl_t (q17_6 a b (IntKind.wrap .i64 a) (IntKind.wrap .i64 b))) fun b2 hb2 => ?_
  show T.den _ _ [(87 : Int), a, b] [false, true, b2] = _
  refine st_1_0 (e10_16) (g := true) rfl (l := []) rfl (m := [b2]) rfl (cl_t (q16 b2)) fun i3 hi3 => ?_
  show T.den _ _ [(87 : Int), a, b, i3] [false, true, b2] = _
  refine st_ret ?_
  show some ([i3, 0], [true]) = _
  subst hb2 hi3
  rfl

theorem q17_5 (a b x y : Int) : F17 [5, a, b, x, y] [] = some ([], [(decide (a > b))]) := by kernel_rfl

set_option maxHeartbeats 4000000 in
theorem q10_86 (a b : Int) : F10 [(86 : Int), a, b] [] = some ([(bif (decide (a > b)) then 1 else 0), 0], [true]) := by
  refine Eq.trans (Fd_of (n := 3) (m := 0) (t := t10) (C := Tab.fn a10) rfl rfl) ?_
  rw [t10]
  refine st_lbc (show ((decide ((86 : Int) ≥ 70)) && (decide ((86 : Int) ≤ 79))) = false from by kernel_rfl) ?_
  show T.den _ _ [(86 : Int), a, b] [false] = _
  refine st_itf (show false = false from by kernel_rfl) ?_
  refine st_lbc (show ((decide ((86 : Int) ≥ 81)) && (decide ((86 : Int) ≤ 90))) = true from by kernel_rfl) ?_
  show T.den _ _ [(86 : Int), a, b] [false, true] = _
  refine st_itt (show true = true from by kernel_rfl) ?_
  refine st_0_1 (e10_17) (g := true) rfl (l := [5, a, b, (IntKind.wrap .i64 a), (IntKind.wrap .i64 b)]) rfl (m := []) rfl (cl_t (q17_5 a b (IntKind.wrap .i64 a) (IntKind.wrap .i64 b))) fun b2 hb2 => ?_
  show T.den _ _ [(86 : Int), a, b] [false, true, b2] = _
  refine st_1_0 (e10_16) (g := true) rfl (l := []) rfl (m := [b2]) rfl (cl_t (q16 b2)) fun i3 hi3 => ?_
  show T.den _ _ [(86 : Int), a, b, i3] [false, true, b2] = _
  refine st_ret ?_
  show some ([i3, 0], [true]) = _
  subst hb2 hi3
  rfl

theorem q17_7 (a b x y : Int) : F17 [7, a, b, x, y] [] = some ([], [(decide (a ≤ b))]) := by kernel_rfl

set_option maxHeartbeats 4000000 in
theorem q10_88 (a b : Int) : F10 [(88 : Int), a, b] [] = some ([(bif (decide (a ≤ b)) then 1 else 0), 0], [true]) := by
  refine Eq.trans (Fd_of (n := 3) (m := 0) (t := t10) (C := Tab.fn a10) rfl rfl) ?_
  rw [t10]
  refine st_lbc (show ((decide ((88 : Int) ≥ 70)) && (decide ((88 : Int) ≤ 79))) = false from by kernel_rfl) ?_
  show T.den _ _ [(88 : Int), a, b] [false] = _
  refine st_itf (show false = false from by kernel_rfl) ?_
  refine st_lbc (show ((decide ((88 : Int) ≥ 81)) && (decide ((88 : Int) ≤ 90))) = true from by kernel_rfl) ?_
  show T.den _ _ [(88 : Int), a, b] [false, true] = _
  refine st_itt (show true = true from by kernel_rfl) ?_
  refine st_0_1 (e10_17) (g := true) rfl (l := [7, a, b, (IntKind.wrap .i64 a), (IntKind.wrap .i64 b)]) rfl (m := []) rfl (cl_t (q17_7 a b (IntKind.wrap .i64 a) (IntKind.wrap .i64 b))) fun b2 hb2 => ?_
  show T.den _ _ [(88 : Int), a, b] [false, true, b2] = _
  refine st_1_0 (e10_16) (g := true) rfl (l := []) rfl (m := [b2]) rfl (cl_t (q16 b2)) fun i3 hi3 => ?_
  show T.den _ _ [(88 : Int), a, b, i3] [false, true, b2] = _
  refine st_ret ?_
  show some ([i3, 0], [true]) = _
  subst hb2 hi3
  rfl

set_option maxHeartbeats 4000000 in
theorem q10_70 (a b : Int) : F10 [(70 : Int), a, b] [] = some ([(bif ((IntKind.wrap .u64 (IntKind.wrap .u32 a)) == (IntKind.wrap .u64 (IntKind.wrap .u32 b))) then 1 else 0), 0], [true]) := by
  refine Eq.trans (Fd_of (n := 3) (m := 0) (t := t10) (C := Tab.fn a10) rfl rfl) ?_
  rw [t10]
  refine st_lbc (show ((decide ((70 : Int) ≥ 70)) && (decide ((70 : Int) ≤ 79))) = true from by kernel_rfl) ?_
  show T.den _ _ [(70 : Int), a, b] [true] = _
  refine st_itt (show true = true from by kernel_rfl) ?_
  refine st_0_1 (e10_17) (g := true) rfl (l := [0, (IntKind.wrap .u64 (IntKind.wrap .u32 a)), (IntKind.wrap .u64 (IntKind.wrap .u32 b)), (IntKind.wrap .i64 (IntKind.wrap .i32 (IntKind.wrap .u64 (IntKind.wrap .u32 a)))), (IntKind.wrap .i64 (IntKind.wrap .i32 (IntKind.wrap .u64 (IntKind.wrap .u32 b))))]) rfl (m := []) rfl (cl_t (q17_0 (IntKind.wrap .u64 (IntKind.wrap .u32 a)) (IntKind.wrap .u64 (IntKind.wrap .u32 b)) (IntKind.wrap .i64 (IntKind.wrap .i32 (IntKind.wrap .u64 (IntKind.wrap .u32 a)))) (IntKind.wrap .i64 (IntKind.wrap .i32 (IntKind.wrap .u64 (IntKind.wrap .u32 b)))))) fun b1 hb1 => ?_
  show T.den _ _ [(70 : Int), a, b] [true, b1] = _
  refine st_1_0 (e10_16) (g := true) rfl (l := []) rfl (m := [b1]) rfl (cl_t (q16 b1)) fun i3 hi3 => ?_
  show T.den _ _ [(70 : Int), a, b, i3] [true, b1] = _
  refine st_ret ?_
  show some ([i3, 0], [true]) = _
  subst hb1 hi3
  rfl

set_option maxHeartbeats 4000000 in
theorem q10_71 (a b : Int) : F10 [(71 : Int), a, b] [] = some ([(bif ((IntKind.wrap .u64 (IntKind.wrap .u32 a)) != (IntKind.wrap .u64 (IntKind.wrap .u32 b))) then 1 else 0), 0], [true]) := by
  refine Eq.trans (Fd_of (n := 3) (m := 0) (t := t10) (C := Tab.fn a10) rfl rfl) ?_
  rw [t10]
  refine st_lbc (show ((decide ((71 : Int) ≥ 70)) && (decide ((71 : Int) ≤ 79))) = true from by kernel_rfl) ?_
  show T.den _ _ [(71 : Int), a, b] [true] = _
  refine st_itt (show true = true from by kernel_rfl) ?_
  refine st_0_1 (e10_17) (g := true) rfl (l := [1, (IntKind.wrap .u64 (IntKind.wrap .u32 a)), (IntKind.wrap .u64 (IntKind.wrap .u32 b)), (IntKind.wrap .i64 (IntKind.wrap .i32 (IntKind.wrap .u64 (IntKind.wrap .u32 a)))), (IntKind.wrap .i64 (IntKind.wrap .i32 (IntKind.wrap .u64 (IntKind.wrap .u32 b))))]) rfl (m := []) rfl (cl_t (q17_1 (IntKind.wrap .u64 (IntKind.wrap .u32 a)) (IntKind.wrap .u64 (IntKind.wrap .u32 b)) (IntKind.wrap .i64 (IntKind.wrap .i32 (IntKind.wrap .u64 (IntKind.wrap .u32 a)))) (IntKind.wrap .i64 (IntKind.wrap .i32 (IntKind.wrap .u64 (IntKind.wrap .u32 b)))))) fun b1 hb1 => ?_
  show T.den _ _ [(71 : Int), a, b] [true, b1] = _
  refine st_1_0 (e10_16) (g := true) rfl (l := []) rfl (m := [b1]) rfl (cl_t (q16 b1)) fun i3 hi3 => ?_
  show T.den _ _ [(71 : Int), a, b, i3] [true, b1] = _
  refine st_ret ?_
  show some ([i3, 0], [true]) = _
  subst hb1 hi3
  rfl

set_option maxHeartbeats 4000000 in
theorem q10_72 (a b : Int) : F10 [(72 : Int), a, b] [] = some ([(bif (decide ((IntKind.wrap .i64 (IntKind.wrap .i32 (IntKind.wrap .u64 (IntKind.wrap .u32 a)))) < (IntKind.wrap .i64 (IntKind.wrap .i32 (IntKind.wrap .u64 (IntKind.wrap .u32 b)))))) then 1 else 0), 0], [true]) := by
  refine Eq.trans (Fd_of (n := 3) (m := 0) (t := t10) (C := Tab.fn a10) rfl rfl) ?_
  rw [t10]
  refine st_lbc (show ((decide ((72 : Int) ≥ 70)) && (decide ((72 : Int) ≤ 79))) = true from by kernel_rfl) ?_
  show T.den _ _ [(72 : Int), a, b] [true] = _
  refine st_itt (show true = true from by kernel_rfl) ?_
  refine st_0_1 (e10_17) (g := true) rfl (l := [2, (IntKind.wrap .u64 (IntKind.wrap .u32 a)), (IntKind.wrap .u64 (IntKind.wrap .u32 b)), (IntKind.wrap .i64 (IntKind.wrap .i32 (IntKind.wrap .u64 (IntKind.wrap .u32 a)))), (IntKind.wrap .i64 (IntKind.wrap .i32 (IntKind.wrap .u64 (IntKind.wrap .u32 b))))]) rfl (m := []) rfl (cl_t (q17_2 (IntKind.wrap .u64 (IntKind.wrap .u32 a)) (IntKind.wrap .u64 (IntKind.wrap .u32 b)) (IntKind.wrap .i64 (IntKind.wrap .i32 (IntKind.wrap .u64 (IntKind.wrap .u32 a)))) (IntKind.wrap .i64 (IntKind.wrap .i32 (IntKind.wrap .u64 (IntKind.wrap .u32 b)))))) fun b1 hb1 => ?_
  show T.den _ _ [(72 : Int), a, b] [true, b1] = _
  refine st_1_0 (e10_16) (g := true) rfl (l := []) rfl (m := [b1]) rfl (cl_t (q16 b1)) fun i3 hi3 => ?_
  show T.den _ _ [(72 : Int), a, b, i3] [true, b1] = _
  refine st_ret ?_
  show some ([i3, 0], [true]) = _
  subst hb1 hi3
  rfl

set_option maxHeartbeats 4000000 in
theorem q10_78 (a b : Int) : F10 [(78 : Int), a, b] [] = some ([(bif (decide ((IntKind.wrap .i64 (IntKind.wrap .i32 (IntKind.wrap .u64 (IntKind.wrap .u32 a)))) ≥ (IntKind.wrap .i64 (IntKind.wrap .i32 (IntKind.wrap .u64 (IntKind.wrap .u32 b)))))) then 1 else 0), 0], [true]) := by
  refine Eq.trans (Fd_of (n := 3) (m := 0) (t := t10) (C := Tab.fn a10) rfl rfl) ?_
  rw [t10]
  refine st_lbc (show ((decide ((78 : Int) ≥ 70)) && (decide ((78 : Int) ≤ 79))) = true from by kernel_rfl) ?_
  show T.den _ _ [(78 : Int), a, b] [true] = _
  refine st_itt (show true = true from by kernel_rfl) ?_
  refine st_0_1 (e10_17) (g := true) rfl (l := [8, (IntKind.wrap .u64 (IntKind.wrap .u32 a)), (IntKind.wrap .u64 (IntKind.wrap .u32 b)), (IntKind.wrap .i64 (IntKind.wrap .i32 (IntKind.wrap .u64 (IntKind.wrap .u32 a)))), (IntKind.wrap .i64 (IntKind.wrap .i32 (IntKind.wrap .u64 (IntKind.wrap .u32 b))))]) rfl (m := []) rfl (cl_t (q17_8 (IntKind.wrap .u64 (IntKind.wrap .u32 a)) (IntKind.wrap .u64 (IntKind.wrap .u32 b)) (IntKind.wrap .i64 (IntKind.wrap .i32 (IntKind.wrap .u64 (IntKind.wrap .u32 a)))) (IntKind.wrap .i64 (IntKind.wrap .i32 (IntKind.wrap .u64 (IntKind.wrap .u32 b)))))) fun b1 hb1 => ?_
  show T.den _ _ [(78 : Int), a, b] [true, b1] = _
  refine st_1_0 (e10_16) (g := true) rfl (l := []) rfl (m := [b1]) rfl (cl_t (q16 b1)) fun i3 hi3 => ?_
  show T.den _ _ [(78 : Int), a, b, i3] [true, b1] = _
  refine st_ret ?_
  show some ([i3, 0], [true]) = _
  subst hb1 hi3
  rfl

set_option maxHeartbeats 4000000 in
theorem q10_73 (a b : Int) : F10 [(73 : Int), a, b] [] = some ([(bif (decide ((IntKind.wrap .u64 (IntKind.wrap .u32 a)) < (IntKind.wrap .u64 (IntKind.wrap .u32 b)))) then 1 else 0), 0], [true]) := by
  refine Eq.trans (Fd_of (n := 3) (m := 0) (t := t10) (C := Tab.fn a10) rfl rfl) ?_
  rw [t10]
  refine st_lbc (show ((decide ((73 : Int) ≥ 70)) && (decide ((73 : Int) ≤ 79))) = true from by kernel_rfl) ?_
  show T.den _ _ [(73 : Int), a, b] [true] = _
  refine st_itt (show true = true from by kernel_rfl) ?_
  refine st_0_1 (e10_17) (g := true) rfl (l := [3, (IntKind.wrap .u64 (IntKind.wrap .u32 a)), (IntKind.wrap .u64 (IntKind.wrap .u32 b)), (IntKind.wrap .i64 (IntKind.wrap .i32 (IntKind.wrap .u64 (IntKind.wrap .u32 a)))), (IntKind.wrap .i64 (IntKind.wrap .i32 (IntKind.wrap .u64 (IntKind.wrap .u32 b))))]) rfl (m := []) rfl (cl_t (q17_3 (IntKind.wrap .u64 (IntKind.wrap .u32 a)) (IntKind.wrap .u64 (IntKind.wrap .u32 b)) (IntKind.wrap .i64 (IntKind.wrap .i32 (IntKind.wrap .u64 (IntKind.wrap .u32 a)))) (IntKind.wrap .i64 (IntKind.wrap .i32 (IntKind.wrap .u64 (IntKind.wrap .u32 b)))))) fun b1 hb1 => ?_
  show T.den _ _ [(73 : Int), a, b] [true, b1] = _
  refine st_1_0 (e10_16) (g := true) rfl (l := []) rfl (m := [b1]) rfl (cl_t (q16 b1)) fun i3 hi3 => ?_
  show T.den _ _ [(73 : Int), a, b, i3] [true, b1] = _
  refine st_ret ?_
  show some ([i3, 0], [true]) = _
  subst hb1 hi3
  rfl

set_option maxHeartbeats 4000000 in
theorem q10_79 (a b : Int) : F10 [(79 : Int), a, b] [] = some ([(bif (decide ((IntKind.wrap .u64 (IntKind.wrap .u32 a)) ≥ (IntKind.wrap .u64 (IntKind.wrap .u32 b)))) then 1 else 0), 0], [true]) := by
  refine Eq.trans (Fd_of (n := 3) (m := 0) (t := t10) (C := Tab.fn a10) rfl rfl) ?_
  rw [t10]
  refine st_lbc (show ((decide ((79 : Int) ≥ 70)) && (decide ((79 : Int) ≤ 79))) = true from by kernel_rfl) ?_
  show T.den _ _ [(79 : Int), a, b] [true] = _
  refine st_itt (show true = true from by kernel_rfl) ?_
  refine st_0_1 (e10_17) (g := true) rfl (l := [9, (IntKind.wrap .u64 (IntKind.wrap .u32 a)), (IntKind.wrap .u64 (IntKind.wrap .u32 b)), (IntKind.wrap .i64 (IntKind.wrap .i32 (IntKind.wrap .u64 (IntKind.wrap .u32 a)))), (IntKind.wrap .i64 (IntKind.wrap .i32 (IntKind.wrap .u64 (IntKind.wrap .u32 b))))]) rfl (m := []) rfl (cl_t (q17_9 (IntKind.wrap .u64 (IntKind.wrap .u32 a)) (IntKind.wrap .u64 (IntKind.wrap .u32 b)) (IntKind.wrap .i64 (IntKind.wrap .i32 (IntKind.wrap .u64 (IntKind.wrap .u32 a)))) (IntKind.wrap .i64 (IntKind.wrap .i32 (IntKind.wrap .u64 (IntKind.wrap .u32 b)))))) fun b1 hb1 => ?_
  show T.den _ _ [(79 : Int), a, b] [true, b1] = _
  refine st_1_0 (e10_16) (g := true) rfl (l := []) rfl (m := [b1]) rfl (cl_t (q16 b1)) fun i3 hi3 => ?_
  show T.den _ _ [(79 : Int), a, b, i3] [true, b1] = _
  refine st_ret ?_
  show some ([i3, 0], [true]) = _
  subst hb1 hi3
  rfl

set_option maxHeartbeats 4000000 in
theorem q10_74 (a b : Int) : F10 [(74 : Int), a, b] [] = some ([(bif (decide ((IntKind.wrap .i64 (IntKind.wrap .i32 (IntKind.wrap .u64 (IntKind.wrap .u32 a)))) > (IntKind.wrap .i64 (IntKind.wrap .i32 (IntKind.wrap .u64 (IntKind.wrap .u32 b)))))) then 1 else 0), 0], [true]) := by
  refine Eq.trans (Fd_of (n := 3) (m := 0) (t := t10) (C := Tab.fn a10) rfl rfl) ?_
  rw [t10]
  refine st_lbc (show ((decide ((74 : Int) ≥ 70)) && (decide ((74 : Int) ≤ 79))) = true from by kernel_rfl) ?_
  show T.den _ _ [(74 : Int), a, b] [true] = _
  refine st_itt (show true = true from by kernel_rfl) ?_
  refine st_0_1 (e10_17) (g := true) rfl (l := [4, (IntKind.wrap .u64 (IntKind.wrap .u32 a)), (IntKind.wrap .u64 (IntKind.wrap .u32 b)), (IntKind.wrap .i64 (IntKind.wrap .i32 (IntKind.wrap .u64 (IntKind.wrap .u32 a)))), (IntKind.wrap .i64 (IntKind.wrap .i32 (IntKind.wrap .u64 (IntKind.wrap .u32 b))))]) rfl (m := []) rfl (cl_t (q17_4 (IntKind.wrap .u64 (IntKind.wrap .u32 a)) (IntKind.wrap .u64 (IntKind.wrap .u32 b)) (IntKind.wrap .i64 (IntKind.wrap .i32 (IntKind.wrap .u64 (IntKind.wrap .u32 a)))) (IntKind.wrap .i64 (IntKind.wrap .i32 (IntKind.wrap .u64 (IntKind.wrap .u32 b)))))) fun b1 hb1 => ?_
  show T.den _ _ [(74 : Int), a, b] [true, b1] = _
  refine st_1_0 (e10_16) (g := true) rfl (l := []) rfl (m := [b1]) rfl (cl_t (q16 b1)) fun i3 hi3 => ?_
  show T.den _ _ [(74 : Int), a, b, i3] [true, b1] = _
  refine st_ret ?_
  show some ([i3, 0], [true]) = _
  subst hb1 hi3
  rfl

set_option maxHeartbeats 4000000 in
theorem q10_76 (a b : Int) : F10 [(76 : Int), a, b] [] = some ([(bif (decide ((IntKind.wrap .i64 (IntKind.wrap .i32 (IntKind.wrap .u64 (IntKind.wrap .u32 a)))) ≤ (IntKind.wrap .i64 (IntKind.wrap .i32 (IntKind.wrap .u64 (IntKind.wrap .u32 b)))))) then 1 else 0), 0], [true]) := by
  refine Eq.trans (Fd_of (n := 3) (m := 0) (t := t10) (C := Tab.fn a10) rfl rfl) ?_
  rw [t10]
  refine st_lbc (show ((decide ((76 : Int) ≥ 70)) && (decide ((76 : Int) ≤ 79))) = true from by kernel_rfl) ?_
  show T.den _ _ [(76 : Int), a, b] [true] = _
  refine st_itt (show true = true from by kernel_rfl) ?_
  refine st_0_1 (e10_17) (g := true) rfl (l := [6, (IntKind.wrap .u64 (IntKind.wrap .u32 a)), (IntKind.wrap .u64 (IntKind.wrap .u32 b)), (IntKind.wrap .i64 (IntKind.wrap .i32 (IntKind.wrap .u64 (IntKind.wrap .u32 a)))), (IntKind.wrap .i64 (IntKind.wrap .i32 (IntKind.wrap .u64 (IntKind.wrap .u32 b))))]) rfl (m := []) rfl (cl_t (q17_6 (IntKind.wrap .u64 (IntKind.wrap .u32 a)) (IntKind.wrap .u64 (IntKind.wrap .u32 b)) (IntKind.wrap .i64 (IntKind.wrap .i32 (IntKind.wrap .u64 (IntKind.wrap .u32 a)))) (IntKind.wrap .i64 (IntKind.wrap .i32 (IntKind.wrap .u64 (IntKind.wrap .u32 b)))))) fun b1 hb1 => ?_
  show T.den _ _ [(76 : Int), a, b] [true, b1] = _
  refine st_1_0 (e10_16) (g := true) rfl (l := []) rfl (m := [b1]) rfl (cl_t (q16 b1)) fun i3 hi3 => ?_
  show T.den _ _ [(76 : Int), a, b, i3] [true, b1] = _
  refine st_ret ?_
  show some ([i3, 0], [true]) = _
  subst hb1 hi3
  rfl

set_option maxHeartbeats 4000000 in
theorem q10_75 (a b : Int) : F10 [(75 : Int), a, b] [] = some ([(bif (decide ((IntKind.wrap .u64 (IntKind.wrap .u32 a)) > (IntKind.wrap .u64 (IntKind.wrap .u32 b)))) then 1 else 0), 0], [true]) := by
  refine Eq.trans (Fd_of (n := 3) (m := 0) (t := t10) (C := Tab.fn a10) rfl rfl) ?_
  rw [t10]
  refine st_lbc (show ((decide ((75 : Int) ≥ 70)) && (decide ((75 : Int) ≤ 79))) = true from by kernel_rfl) ?_
  show T.den _ _ [(75 : Int), a, b] [true] = _
  refine st_itt (show true = true from by kernel_rfl) ?_
  refine st_0_1 (e10_17) (g := true) rfl (l := [5, (IntKind.wrap .u64 (IntKind.wrap .u32 a)), (IntKind.wrap .u64 (IntKind.wrap .u32 b)), (IntKind.wrap .i64 (IntKind.wrap .i32 (IntKind.wrap .u64 (IntKind.wrap .u32 a)))), (IntKind.wrap .i64 (IntKind.wrap .i32 (IntKind.wrap .u64 (IntKind.wrap .u32 b))))]) rfl (m := []) rfl (cl_t (q17_5 (IntKind.wrap .u64 (IntKind.wrap .u32 a)) (IntKind.wrap .u64 (IntKind.wrap .u32 b)) (IntKind.wrap .i64 (IntKind.wrap .i32 (IntKind.wrap .u64 (IntKind.wrap .u32 a)))) (IntKind.wrap .i64 (IntKind.wrap .i32 (IntKind.wrap .u64 (IntKind.wrap .u32 b)))))) fun b1 hb1 => ?_
  show T.den _ _ [(75 : Int), a, b] [true, b1] = _
  refine st_1_0 (e10_16) (g := true) rfl (l := []) rfl (m := [b1]) rfl (cl_t (q16 b1)) fun i3 hi3 => ?_
  show T.den _ _ [(75 : Int), a, b, i3] [true, b1] = _
  refine st_ret ?_
  show some ([i3, 0], [true]) = _
  subst hb1 hi3
  rfl

set_option maxHeartbeats 4000000 in
theorem q10_77 (a b : Int) : F10 [(77 : Int), a, b] [] = some ([(bif (decide ((IntKind.wrap .u64 (IntKind.wrap .u32 a)) ≤ (IntKind.wrap .u64 (IntKind.wrap .u32 b)))) then 1 else 0), 0], [true]) := by
  refine Eq.trans (Fd_of (n := 3) (m := 0) (t := t10) (C := Tab.fn a10) rfl rfl) ?_
  rw [t10]
  refine st_lbc (show ((decide ((77 : Int) ≥ 70)) && (decide ((77 : Int) ≤ 79))) = true from by kernel_rfl) ?_
  show T.den _ _ [(77 : Int), a, b] [true] = _
  refine st_itt (show true = true from by kernel_rfl) ?_
  refine st_0_1 (e10_17) (g := true) rfl (l := [7, (IntKind.wrap .u64 (IntKind.wrap .u32 a)), (IntKind.wrap .u64 (IntKind.wrap .u32 b)), (IntKind.wrap .i64 (IntKind.wrap .i32 (IntKind.wrap .u64 (IntKind.wrap .u32 a)))), (IntKind.wrap .i64 (IntKind.wrap .i32 (IntKind.wrap .u64 (IntKind.wrap .u32 b))))]) rfl (m := []) rfl (cl_t (q17_7 (IntKind.wrap .u64 (IntKind.wrap .u32 a)) (IntKind.wrap .u64 (IntKind.wrap .u32 b)) (IntKind.wrap .i64 (IntKind.wrap .i32 (IntKind.wrap .u64 (IntKind.wrap .u32 a)))) (IntKind.wrap .i64 (IntKind.wrap .i32 (IntKind.wrap .u64 (IntKind.wrap .u32 b)))))) fun b1 hb1 => ?_
  show T.den _ _ [(77 : Int), a, b] [true, b1] = _
  refine st_1_0 (e10_16) (g := true) rfl (l := []) rfl (m := [b1]) rfl (cl_t (q16 b1)) fun i3 hi3 => ?_
  show T.den _ _ [(77 : Int), a, b, i3] [true, b1] = _
  refine st_ret ?_
  show some ([i3, 0], [true]) = _
  subst hb1 hi3
  rfl

theorem left_eq (a b : Nat) (ha : a < 2 ^ 64) : ((arI .or .u64 (arI .shl .u64 (a : Int) (arI .rem .u64 (b : Int) (64 : Int))) (arI .shr .u64 (a : Int) (arI .sub .u64 (64 : Int) (arI .rem .u64 (b : Int) (64 : Int)))))) = ((rl a (b % 64) : Nat) : Int) := by
  have h : b % 64 ≤ 64 := by omega
  rw [show (64 : Int) = ((64 : Nat) : Int) from rfl, remN, subN _ _ h (by decide), shlN _ _ h, shrN _ _ (by omega), bor _ _ (shl_lt _ _) (shr_lt _ _ ha), rl_or a _ ha h]

theorem right_eq (c b : Nat) (hc : c < 2 ^ 64) : ((arI .or .u64 (arI .shr .u64 (c : Int) (arI .rem .u64 (b : Int) (64 : Int))) (arI .shl .u64 (c : Int) (arI .sub .u64 (64 : Int) (arI .rem .u64 (b : Int) (64 : Int)))))) = ((rl c (64 - b % 64) : Nat) : Int) := by
  have h : b % 64 ≤ 64 := by omega
  have e := rl_or c (64 - b % 64) hc (by omega)
  rw [show 64 - (64 - b % 64) = b % 64 from by omega] at e
  rw [show (64 : Int) = ((64 : Nat) : Int) from rfl, remN, subN _ _ h (by decide), shlN _ _ (by omega), shrN _ _ h, bor _ _ (shr_lt _ _ hc) (shl_lt _ _), Nat.or_comm, e]

theorem turn_back (a b : Int) (ha : 0 ≤ a ∧ a < 18446744073709551616) (hb : 0 ≤ b) (c d : Int) (hc : c = (arI .or .u64 (arI .shl .u64 a (arI .rem .u64 b (64 : Int))) (arI .shr .u64 a (arI .sub .u64 (64 : Int) (arI .rem .u64 b (64 : Int)))))) (hd : d = (arI .or .u64 (arI .shr .u64 c (arI .rem .u64 b (64 : Int))) (arI .shl .u64 c (arI .sub .u64 (64 : Int) (arI .rem .u64 b (64 : Int)))))) : d = a := by
  obtain ⟨a, rfl⟩ := nats ha.1
  obtain ⟨b, rfl⟩ := nats hb
  have ha' : a < 2 ^ 64 := by omega
  rw [left_eq a b ha'] at hc
  rw [hd, hc, right_eq _ b (rl_lt a _ ha' (by omega)), rl_back a _ ha' (by omega)]
theorem xor_back (a b c d : Int) (ha : 0 ≤ a ∧ a < 18446744073709551616) (hb : 0 ≤ b ∧ b < 18446744073709551616) (hc : c = arI .xor .u64 a b) (hd : d = arI .xor .u64 c b) : d = a := by
  obtain ⟨a, rfl⟩ := nats ha.1
  obtain ⟨b, rfl⟩ := nats hb.1
  have ha' : a < 2 ^ 64 := by omega
  have hb' : b < 2 ^ 64 := by omega
  rw [bxor a b ha' hb'] at hc
  rw [hd, hc, bxor _ _ (Nat.xor_lt_two_pow ha' hb') hb', Nat.xor_assoc, Nat.xor_self, Nat.xor_zero]
theorem sum_back (a b c d : Int) (ha : 0 ≤ a ∧ a < 18446744073709551616) (hb : 0 ≤ b ∧ b < 18446744073709551616) (hc : c = arI .add .u64 a b) (hd : d = arI .sub .u64 c b) : d = a := by
  rw [hd, hc, arSub, arAdd]; omega
theorem cmp_sum (u v : Bool) (i j : Int) (h : v = !u) (hi : i = bif u then 1 else 0) (hj : j = bif v then 1 else 0) : arI .add .u64 i j = 1 := by
  subst h hi hj; cases u <;> rfl
theorem d0 (x y : Int) : (x != y) = !(x == y) := rfl
theorem d1 (x y : Int) : decide (x ≥ y) = !decide (x < y) := by by_cases h : x < y <;> simp [h] <;> omega
theorem d2 (x y : Int) : decide (x ≤ y) = !decide (x > y) := by by_cases h : y < x <;> simp [h] <;> omega

theorem e3_9 : Tab.fn a3 9 = F9 := Tab.fn_hd
theorem e3_10 : Tab.fn a3 10 = F10 := ((Tab.fn_tl rfl).trans Tab.fn_hd)

theorem q9 : F9 [] [] = some ([], [true]) := by decide +kernel

set_option maxHeartbeats 4000000 in
theorem law (a b : Int) (wa : (Lit.int .u64 a).wf = true) (wb : (Lit.int .u64 b).wf = true) : F3 [a, b] [] = some ([], [true]) := by
  have ha := wf_u64 wa
  have hb := wf_u64 wb
  refine Eq.trans (Fd_of (n := 2) (m := 0) (t := t3) (C := Tab.fn a3) rfl rfl) ?_
  rw [t3]
  refine st_0_1 (e3_9) (g := true) rfl (l := []) rfl (m := []) rfl (cl_t q9) fun b0 hb0 => ?_
  show T.den _ _ [a, b] [b0] = _
  refine st_ite (fun hc => ?_) (fun hc => ?_)
  · replace hc : (!b0) = true := hc
    have c1 := hc
    clear hc
    refine st_ret ?_
    show some ([], [false]) = _
    rw [hb0] at c1; cases c1
  · replace hc : (!b0) = false := hc
    have c2 := hc
    clear hc
    refine st_2_1 (e3_10) (g := true) rfl (l := [124, a, b]) rfl (m := []) rfl (cl_t (q10_124 a b)) fun i2 i3 b1 hi2 hi3 hb1 => ?_
    show T.den _ _ [a, b, i2, i3] [b0, b1] = _
    refine st_2_1 (e3_10) (g := true) rfl (l := [125, i2, b]) rfl (m := []) rfl (cl_t (q10_125 i2 b)) fun i4 i5 b2 hi4 hi5 hb2 => ?_
    show T.den _ _ [a, b, i2, i3, i4, i5] [b0, b1, b2] = _
    have e1 := sum_back a b _ _ ha hb hi2 hi4
    refine st_2_1 (e3_10) (g := true) rfl (l := [137, a, b]) rfl (m := []) rfl (cl_t (q10_137 a b hb.1)) fun i6 i7 b3 hi6 hi7 hb3 => ?_
    show T.den _ _ [a, b, i2, i3, i4, i5, i6, i7] [b0, b1, b2, b3] = _
    refine st_2_1 (e3_10) (g := true) rfl (l := [138, i6, b]) rfl (m := []) rfl (cl_t (q10_138 i6 b hb.1)) fun i8 i9 b4 hi8 hi9 hb4 => ?_
    show T.den _ _ [a, b, i2, i3, i4, i5, i6, i7, i8, i9] [b0, b1, b2, b3, b4] = _
    have e2 := turn_back a b ha hb.1 _ _ hi6 hi8
    refine st_2_1 (e3_10) (g := true) rfl (l := [133, a, b]) rfl (m := []) rfl (cl_t (q10_133 a b)) fun i10 i11 b5 hi10 hi11 hb5 => ?_
    show T.den _ _ [a, b, i2, i3, i4, i5, i6, i7, i8, i9, i10, i11] [b0, b1, b2, b3, b4, b5] = _
    refine st_2_1 (e3_10) (g := true) rfl (l := [133, i10, b]) rfl (m := []) rfl (cl_t (q10_133 i10 b)) fun i12 i13 b6 hi12 hi13 hb6 => ?_
    show T.den _ _ [a, b, i2, i3, i4, i5, i6, i7, i8, i9, i10, i11, i12, i13] [b0, b1, b2, b3, b4, b5, b6] = _
    have e3 := xor_back a b _ _ ha hb hi10 hi12
    refine st_lb fun b7 hb7 => ?_
    replace hb7 : b7 = ((i4 != a) || (i8 != a)) := hb7
    show T.den _ _ [a, b, i2, i3, i4, i5, i6, i7, i8, i9, i10, i11, i12, i13] [b0, b1, b2, b3, b4, b5, b6, b7] = _
    refine st_ite (fun hc => ?_) (fun hc => ?_)
    · replace hc : (b7 || (i12 != a)) = true := hc
      have c3 := hc
      clear hc
      refine st_ret ?_
      show some ([], [false]) = _
      rw [hb7, e1, e2, e3] at c3; simp at c3
    · replace hc : (b7 || (i12 != a)) = false := hc
      have c4 := hc
      clear hc
      refine st_2_1 (e3_10) (g := true) rfl (l := [81, a, b]) rfl (m := []) rfl (cl_t (q10_81 a b)) fun i14 i15 b8 hi14 hi15 hb8 => ?_
      show T.den _ _ [a, b, i2, i3, i4, i5, i6, i7, i8, i9, i10, i11, i12, i13, i14, i15] [b0, b1, b2, b3, b4, b5, b6, b7, b8] = _
      refine st_2_1 (e3_10) (g := true) rfl (l := [82, a, b]) rfl (m := []) rfl (cl_t (q10_82 a b)) fun i16 i17 b9 hi16 hi17 hb9 => ?_
      show T.den _ _ [a, b, i2, i3, i4, i5, i6, i7, i8, i9, i10, i11, i12, i13, i14, i15, i16, i17] [b0, b1, b2, b3, b4, b5, b6, b7, b8, b9] = _
      have e := cmp_sum _ _ _ _ (d0 _ _) hi14 hi16
      refine st_ite (fun hc => ?_) (fun hc => ?_)
      · replace hc : ((arI .add .u64 i14 i16) != 1) = true := hc
        have c5 := hc
        clear hc
        refine st_ret ?_
        show some ([], [false]) = _
        rw [e] at c5; cases c5
      · replace hc : ((arI .add .u64 i14 i16) != 1) = false := hc
        have c6 := hc
        clear hc
        refine st_2_1 (e3_10) (g := true) rfl (l := [83, a, b]) rfl (m := []) rfl (cl_t (q10_83 a b)) fun i18 i19 b10 hi18 hi19 hb10 => ?_
        show T.den _ _ [a, b, i2, i3, i4, i5, i6, i7, i8, i9, i10, i11, i12, i13, i14, i15, i16, i17, i18, i19] [b0, b1, b2, b3, b4, b5, b6, b7, b8, b9, b10] = _
        refine st_2_1 (e3_10) (g := true) rfl (l := [89, a, b]) rfl (m := []) rfl (cl_t (q10_89 a b)) fun i20 i21 b11 hi20 hi21 hb11 => ?_
        show T.den _ _ [a, b, i2, i3, i4, i5, i6, i7, i8, i9, i10, i11, i12, i13, i14, i15, i16, i17, i18, i19, i20, i21] [b0, b1, b2, b3, b4, b5, b6, b7, b8, b9, b10, b11] = _
        have e := cmp_sum _ _ _ _ (d1 _ _) hi18 hi20
        refine st_ite (fun hc => ?_) (fun hc => ?_)
        · replace hc : ((arI .add .u64 i18 i20) != 1) = true := hc
          have c7 := hc
          clear hc
          refine st_ret ?_
          show some ([], [false]) = _
          rw [e] at c7; cases c7
        · replace hc : ((arI .add .u64 i18 i20) != 1) = false := hc
          have c8 := hc
          clear hc
          refine st_2_1 (e3_10) (g := true) rfl (l := [84, a, b]) rfl (m := []) rfl (cl_t (q10_84 a b)) fun i22 i23 b12 hi22 hi23 hb12 => ?_
          show T.den _ _ [a, b, i2, i3, i4, i5, i6, i7, i8, i9, i10, i11, i12, i13, i14, i15, i16, i17, i18, i19, i20, i21, i22, i23] [b0, b1, b2, b3, b4, b5, b6, b7, b8, b9, b10, b11, b12] = _
          refine st_2_1 (e3_10) (g := true) rfl (l := [90, a, b]) rfl (m := []) rfl (cl_t (q10_90 a b)) fun i24 i25 b13 hi24 hi25 hb13 => ?_
          show T.den _ _ [a, b, i2, i3, i4, i5, i6, i7, i8, i9, i10, i11, i12, i13, i14, i15, i16, i17, i18, i19, i20, i21, i22, i23, i24, i25] [b0, b1, b2, b3, b4, b5, b6, b7, b8, b9, b10, b11, b12, b13] = _
          have e := cmp_sum _ _ _ _ (d1 _ _) hi22 hi24
          refine st_ite (fun hc => ?_) (fun hc => ?_)
          · replace hc : ((arI .add .u64 i22 i24) != 1) = true := hc
            have c9 := hc
            clear hc
            refine st_ret ?_
            show some ([], [false]) = _
            rw [e] at c9; cases c9
          · replace hc : ((arI .add .u64 i22 i24) != 1) = false := hc
            have c10 := hc
            clear hc
            refine st_2_1 (e3_10) (g := true) rfl (l := [85, a, b]) rfl (m := []) rfl (cl_t (q10_85 a b)) fun i26 i27 b14 hi26 hi27 hb14 => ?_
            show T.den _ _ [a, b, i2, i3, i4, i5, i6, i7, i8, i9, i10, i11, i12, i13, i14, i15, i16, i17, i18, i19, i20, i21, i22, i23, i24, i25, i26, i27] [b0, b1, b2, b3, b4, b5, b6, b7, b8, b9, b10, b11, b12, b13, b14] = _
            refine st_2_1 (e3_10) (g := true) rfl (l := [87, a, b]) rfl (m := []) rfl (cl_t (q10_87 a b)) fun i28 i29 b15 hi28 hi29 hb15 => ?_
            show T.den _ _ [a, b, i2, i3, i4, i5, i6, i7, i8, i9, i10, i11, i12, i13, i14, i15, i16, i17, i18, i19, i20, i21, i22, i23, i24, i25, i26, i27, i28, i29] [b0, b1, b2, b3, b4, b5, b6, b7, b8, b9, b10, b11, b12, b13, b14, b15] = _
            have e := cmp_sum _ _ _ _ (d2 _ _) hi26 hi28
            refine st_ite (fun hc => ?_) (fun hc => ?_)
            · replace hc : ((arI .add .u64 i26 i28) != 1) = true := hc
              have c11 := hc
              clear hc
              refine st_ret ?_
              show some ([], [false]) = _
              rw [e] at c11; cases c11
            · replace hc : ((arI .add .u64 i26 i28) != 1) = false := hc
              have c12 := hc
              clear hc
              refine st_2_1 (e3_10) (g := true) rfl (l := [86, a, b]) rfl (m := []) rfl (cl_t (q10_86 a b)) fun i30 i31 b16 hi30 hi31 hb16 => ?_
              show T.den _ _ [a, b, i2, i3, i4, i5, i6, i7, i8, i9, i10, i11, i12, i13, i14, i15, i16, i17, i18, i19, i20, i21, i22, i23, i24, i25, i26, i27, i28, i29, i30, i31] [b0, b1, b2, b3, b4, b5, b6, b7, b8, b9, b10, b11, b12, b13, b14, b15, b16] = _
              refine st_2_1 (e3_10) (g := true) rfl (l := [88, a, b]) rfl (m := []) rfl (cl_t (q10_88 a b)) fun i32 i33 b17 hi32 hi33 hb17 => ?_
              show T.den _ _ [a, b, i2, i3, i4, i5, i6, i7, i8, i9, i10, i11, i12, i13, i14, i15, i16, i17, i18, i19, i20, i21, i22, i23, i24, i25, i26, i27, i28, i29, i30, i31, i32, i33] [b0, b1, b2, b3, b4, b5, b6, b7, b8, b9, b10, b11, b12, b13, b14, b15, b16, b17] = _
              have e := cmp_sum _ _ _ _ (d2 _ _) hi30 hi32
              refine st_ite (fun hc => ?_) (fun hc => ?_)
              · replace hc : ((arI .add .u64 i30 i32) != 1) = true := hc
                have c13 := hc
                clear hc
                refine st_ret ?_
                show some ([], [false]) = _
                rw [e] at c13; cases c13
              · replace hc : ((arI .add .u64 i30 i32) != 1) = false := hc
                have c14 := hc
                clear hc
                refine st_2_1 (e3_10) (g := true) rfl (l := [70, a, b]) rfl (m := []) rfl (cl_t (q10_70 a b)) fun i34 i35 b18 hi34 hi35 hb18 => ?_
                show T.den _ _ [a, b, i2, i3, i4, i5, i6, i7, i8, i9, i10, i11, i12, i13, i14, i15, i16, i17, i18, i19, i20, i21, i22, i23, i24, i25, i26, i27, i28, i29, i30, i31, i32, i33, i34, i35] [b0, b1, b2, b3, b4, b5, b6, b7, b8, b9, b10, b11, b12, b13, b14, b15, b16, b17, b18] = _
                refine st_2_1 (e3_10) (g := true) rfl (l := [71, a, b]) rfl (m := []) rfl (cl_t (q10_71 a b)) fun i36 i37 b19 hi36 hi37 hb19 => ?_
                show T.den _ _ [a, b, i2, i3, i4, i5, i6, i7, i8, i9, i10, i11, i12, i13, i14, i15, i16, i17, i18, i19, i20, i21, i22, i23, i24, i25, i26, i27, i28, i29, i30, i31, i32, i33, i34, i35, i36, i37] [b0, b1, b2, b3, b4, b5, b6, b7, b8, b9, b10, b11, b12, b13, b14, b15, b16, b17, b18, b19] = _
                have e := cmp_sum _ _ _ _ (d0 _ _) hi34 hi36
                refine st_ite (fun hc => ?_) (fun hc => ?_)
                · replace hc : ((arI .add .u64 i34 i36) != 1) = true := hc
                  have c15 := hc
                  clear hc
                  refine st_ret ?_
                  show some ([], [false]) = _
                  rw [e] at c15; cases c15
                · replace hc : ((arI .add .u64 i34 i36) != 1) = false := hc
                  have c16 := hc
                  clear hc
                  refine st_2_1 (e3_10) (g := true) rfl (l := [72, a, b]) rfl (m := []) rfl (cl_t (q10_72 a b)) fun i38 i39 b20 hi38 hi39 hb20 => ?_
                  show T.den _ _ [a, b, i2, i3, i4, i5, i6, i7, i8, i9, i10, i11, i12, i13, i14, i15, i16, i17, i18, i19, i20, i21, i22, i23, i24, i25, i26, i27, i28, i29, i30, i31, i32, i33, i34, i35, i36, i37, i38, i39] [b0, b1, b2, b3, b4, b5, b6, b7, b8, b9, b10, b11, b12, b13, b14, b15, b16, b17, b18, b19, b20] = _
                  refine st_2_1 (e3_10) (g := true) rfl (l := [78, a, b]) rfl (m := []) rfl (cl_t (q10_78 a b)) fun i40 i41 b21 hi40 hi41 hb21 => ?_
                  show T.den _ _ [a, b, i2, i3, i4, i5, i6, i7, i8, i9, i10, i11, i12, i13, i14, i15, i16, i17, i18, i19, i20, i21, i22, i23, i24, i25, i26, i27, i28, i29, i30, i31, i32, i33, i34, i35, i36, i37, i38, i39, i40, i41] [b0, b1, b2, b3, b4, b5, b6, b7, b8, b9, b10, b11, b12, b13, b14, b15, b16, b17, b18, b19, b20, b21] = _
                  have e := cmp_sum _ _ _ _ (d1 _ _) hi38 hi40
                  refine st_ite (fun hc => ?_) (fun hc => ?_)
                  · replace hc : ((arI .add .u64 i38 i40) != 1) = true := hc
                    have c17 := hc
                    clear hc
                    refine st_ret ?_
                    show some ([], [false]) = _
                    rw [e] at c17; cases c17
                  · replace hc : ((arI .add .u64 i38 i40) != 1) = false := hc
                    have c18 := hc
                    clear hc
                    refine st_2_1 (e3_10) (g := true) rfl (l := [73, a, b]) rfl (m := []) rfl (cl_t (q10_73 a b)) fun i42 i43 b22 hi42 hi43 hb22 => ?_
                    show T.den _ _ [a, b, i2, i3, i4, i5, i6, i7, i8, i9, i10, i11, i12, i13, i14, i15, i16, i17, i18, i19, i20, i21, i22, i23, i24, i25, i26, i27, i28, i29, i30, i31, i32, i33, i34, i35, i36, i37, i38, i39, i40, i41, i42, i43] [b0, b1, b2, b3, b4, b5, b6, b7, b8, b9, b10, b11, b12, b13, b14, b15, b16, b17, b18, b19, b20, b21, b22] = _
                    refine st_2_1 (e3_10) (g := true) rfl (l := [79, a, b]) rfl (m := []) rfl (cl_t (q10_79 a b)) fun i44 i45 b23 hi44 hi45 hb23 => ?_
                    show T.den _ _ [a, b, i2, i3, i4, i5, i6, i7, i8, i9, i10, i11, i12, i13, i14, i15, i16, i17, i18, i19, i20, i21, i22, i23, i24, i25, i26, i27, i28, i29, i30, i31, i32, i33, i34, i35, i36, i37, i38, i39, i40, i41, i42, i43, i44, i45] [b0, b1, b2, b3, b4, b5, b6, b7, b8, b9, b10, b11, b12, b13, b14, b15, b16, b17, b18, b19, b20, b21, b22, b23] = _
                    have e := cmp_sum _ _ _ _ (d1 _ _) hi42 hi44
                    refine st_ite (fun hc => ?_) (fun hc => ?_)
                    · replace hc : ((arI .add .u64 i42 i44) != 1) = true := hc
                      have c19 := hc
                      clear hc
                      refine st_ret ?_
                      show some ([], [false]) = _
                      rw [e] at c19; cases c19
                    · replace hc : ((arI .add .u64 i42 i44) != 1) = false := hc
                      have c20 := hc
                      clear hc
                      refine st_2_1 (e3_10) (g := true) rfl (l := [74, a, b]) rfl (m := []) rfl (cl_t (q10_74 a b)) fun i46 i47 b24 hi46 hi47 hb24 => ?_
                      show T.den _ _ [a, b, i2, i3, i4, i5, i6, i7, i8, i9, i10, i11, i12, i13, i14, i15, i16, i17, i18, i19, i20, i21, i22, i23, i24, i25, i26, i27, i28, i29, i30, i31, i32, i33, i34, i35, i36, i37, i38, i39, i40, i41, i42, i43, i44, i45, i46, i47] [b0, b1, b2, b3, b4, b5, b6, b7, b8, b9, b10, b11, b12, b13, b14, b15, b16, b17, b18, b19, b20, b21, b22, b23, b24] = _
                      refine st_2_1 (e3_10) (g := true) rfl (l := [76, a, b]) rfl (m := []) rfl (cl_t (q10_76 a b)) fun i48 i49 b25 hi48 hi49 hb25 => ?_
                      show T.den _ _ [a, b, i2, i3, i4, i5, i6, i7, i8, i9, i10, i11, i12, i13, i14, i15, i16, i17, i18, i19, i20, i21, i22, i23, i24, i25, i26, i27, i28, i29, i30, i31, i32, i33, i34, i35, i36, i37, i38, i39, i40, i41, i42, i43, i44, i45, i46, i47, i48, i49] [b0, b1, b2, b3, b4, b5, b6, b7, b8, b9, b10, b11, b12, b13, b14, b15, b16, b17, b18, b19, b20, b21, b22, b23, b24, b25] = _
                      have e := cmp_sum _ _ _ _ (d2 _ _) hi46 hi48
                      refine st_ite (fun hc => ?_) (fun hc => ?_)
                      · replace hc : ((arI .add .u64 i46 i48) != 1) = true := hc
                        have c21 := hc
                        clear hc
                        refine st_ret ?_
                        show some ([], [false]) = _
                        rw [e] at c21; cases c21
                      · replace hc : ((arI .add .u64 i46 i48) != 1) = false := hc
                        have c22 := hc
                        clear hc
                        refine st_2_1 (e3_10) (g := true) rfl (l := [75, a, b]) rfl (m := []) rfl (cl_t (q10_75 a b)) fun i50 i51 b26 hi50 hi51 hb26 => ?_
                        show T.den _ _ [a, b, i2, i3, i4, i5, i6, i7, i8, i9, i10, i11, i12, i13, i14, i15, i16, i17, i18, i19, i20, i21, i22, i23, i24, i25, i26, i27, i28, i29, i30, i31, i32, i33, i34, i35, i36, i37, i38, i39, i40, i41, i42, i43, i44, i45, i46, i47, i48, i49, i50, i51] [b0, b1, b2, b3, b4, b5, b6, b7, b8, b9, b10, b11, b12, b13, b14, b15, b16, b17, b18, b19, b20, b21, b22, b23, b24, b25, b26] = _
                        refine st_2_1 (e3_10) (g := true) rfl (l := [77, a, b]) rfl (m := []) rfl (cl_t (q10_77 a b)) fun i52 i53 b27 hi52 hi53 hb27 => ?_
                        show T.den _ _ [a, b, i2, i3, i4, i5, i6, i7, i8, i9, i10, i11, i12, i13, i14, i15, i16, i17, i18, i19, i20, i21, i22, i23, i24, i25, i26, i27, i28, i29, i30, i31, i32, i33, i34, i35, i36, i37, i38, i39, i40, i41, i42, i43, i44, i45, i46, i47, i48, i49, i50, i51, i52, i53] [b0, b1, b2, b3, b4, b5, b6, b7, b8, b9, b10, b11, b12, b13, b14, b15, b16, b17, b18, b19, b20, b21, b22, b23, b24, b25, b26, b27] = _
                        have e := cmp_sum _ _ _ _ (d2 _ _) hi50 hi52
                        refine st_ite (fun hc => ?_) (fun hc => ?_)
                        · replace hc : ((arI .add .u64 i50 i52) != 1) = true := hc
                          have c23 := hc
                          clear hc
                          refine st_ret ?_
                          show some ([], [false]) = _
                          rw [e] at c23; cases c23
                        · replace hc : ((arI .add .u64 i50 i52) != 1) = false := hc
                          have c24 := hc
                          clear hc
                          refine st_ret ?_
                          show some ([], [true]) = _
                          rfl
end Go.Proofs.YtghekmcdokgkkaaDoor.YNumLaws
