/-
  IvlGrows, of numbers alone.
-/
import Derived.Test.YtaajijommogaoaaXIvlGrows
import Derived.Test.YtaajijommogaoaaSn
import Derived.Lib.BitFns
namespace Go.Proofs.Ytaajijommogaoaa.YIvlGrows
open Go.Proofs.Ytaajijommogaoaa.Sx Go.Proofs.Ytaajijommogaoaa.Sn Go.Proofs.Ytaajijommogaoaa.XIvlGrows Go.Proofs.Ytaajijommogaoaa.EIvlGrows
set_option linter.unusedSimpArgs false
set_option linter.unusedVariables false
theorem st_0_1 {C : Nat → Sx.Fn} {is : List Int} {bs : List Bool} {r : Option (List Int × List Bool)} {G : E} {f : Nat} {ii bb : List E} {k : Sx.T} {c0 : Bool} {F : Sx.Fn} {g : Bool} {l : List Int} {m : List Bool} (hC : C f = F) (hG : G.B is bs = g) (hl : ii.map (E.I is bs) = l) (hm : bb.map (E.B is bs) = m)
    (h : (bif g then F l m else some (List.replicate 0 0, List.replicate 1 false)) = some ([], [c0]))
    (hk : ∀ (y0 : Bool), y0 = c0 → k.den C (is ++ []) (bs ++ [y0]) = r) : (Sx.T.call G f ii bb 0 1 k).den C is bs = r := st_call _ _ (by rw [hC, hG, hl, hm]; exact h) rfl rfl (hk _ rfl)

theorem st_1_0 {C : Nat → Sx.Fn} {is : List Int} {bs : List Bool} {r : Option (List Int × List Bool)} {G : E} {f : Nat} {ii bb : List E} {k : Sx.T} {a0 : Int} {F : Sx.Fn} {g : Bool} {l : List Int} {m : List Bool} (hC : C f = F) (hG : G.B is bs = g) (hl : ii.map (E.I is bs) = l) (hm : bb.map (E.B is bs) = m)
    (h : (bif g then F l m else some (List.replicate 1 0, List.replicate 0 false)) = some ([a0], []))
    (hk : ∀ (x0 : Int), x0 = a0 → k.den C (is ++ [x0]) (bs ++ []) = r) : (Sx.T.call G f ii bb 1 0 k).den C is bs = r := st_call _ _ (by rw [hC, hG, hl, hm]; exact h) rfl rfl (hk _ rfl)

theorem st_2_0 {C : Nat → Sx.Fn} {is : List Int} {bs : List Bool} {r : Option (List Int × List Bool)} {G : E} {f : Nat} {ii bb : List E} {k : Sx.T} {a0 a1 : Int} {F : Sx.Fn} {g : Bool} {l : List Int} {m : List Bool} (hC : C f = F) (hG : G.B is bs = g) (hl : ii.map (E.I is bs) = l) (hm : bb.map (E.B is bs) = m)
    (h : (bif g then F l m else some (List.replicate 2 0, List.replicate 0 false)) = some ([a0, a1], []))
    (hk : ∀ (x0 x1 : Int), x0 = a0 → x1 = a1 → k.den C (is ++ [x0, x1]) (bs ++ []) = r) : (Sx.T.call G f ii bb 2 0 k).den C is bs = r := st_call _ _ (by rw [hC, hG, hl, hm]; exact h) rfl rfl (hk _ _ rfl rfl)
theorem q9 : F9 [] [] = some ([], [true]) := by decide +kernel

theorem q13_32 : F13 [32] [] = some ([0, 4294967295], []) := by decide +kernel

theorem q13_64 : F13 [64] [] = some ([0, 18446744073709551615], []) := by decide +kernel

theorem q13 (w : Int) : F13 [w] [] = some ([0, if w = 32 then 4294967295 else 18446744073709551615], []) := by
  by_cases h : w = 32
  · subst h; rw [if_pos rfl]; exact q13_32
  · rw [if_neg h]
    refine Eq.trans (Fd_of (n := 1) (m := 0) (t := t13) (C := Tab.fn a13) rfl rfl) ?_
    rw [t13]
    refine st_ite (fun hc => ?_) (fun hc => ?_)
    · replace hc : (w == 32) = true := hc
      exact absurd (by simpa using hc) h
    · rfl

theorem q10 (a b : Int) : F10 [a, b] [] = some ([min a b, max a b], []) := by rw [min_, max_]; rfl

theorem q12 (a b c d : Int) : F12 [a, b, c, d] [] = some ([min a c, max b d], []) := by rw [min_, max_]; rfl

theorem q11 (a b c d : Int) : F11 [a, b, c, d] [] = some ([], [decide (c ≤ a) && decide (b ≤ d)]) := rfl

theorem q27 (a b c : Int) (h : 0 ≤ a ∧ 0 ≤ b ∧ 0 ≤ c ∧ c ≤ 1) : F27 [a, b, c] [] = some ([(a + b + c) % 18446744073709551616, (a + b + c) / 18446744073709551616], []) := by
  show (if 0 ≤ a ∧ 0 ≤ b ∧ 0 ≤ c ∧ c ≤ 1 then _ else none) = _
  rw [if_pos h]

def tp (w : Int) : Int := if w = 32 then 4294967295 else 18446744073709551615

theorem tp_bd (w : Int) : 0 ≤ tp w ∧ tp w < 18446744073709551616 := by unfold tp; split <;> omega

theorem q13' (w : Int) : F13 [w] [] = some ([0, tp w], []) := q13 w

theorem cl_x (g : Bool) (i j : Int) : (bif g then some ([i, j], []) else some (List.replicate 2 0, List.replicate 0 false)) = some ([bif g then i else 0, bif g then j else 0], ([] : List Bool)) := by cases g <;> rfl

theorem e18_27 : Tab.fn a18 27 = F27 := Tab.fn_hd
theorem e18_13 : Tab.fn a18 13 = F13 := ((Tab.fn_tl rfl).trans Tab.fn_hd)
theorem e19_13 : Tab.fn a19 13 = F13 := Tab.fn_hd

set_option maxHeartbeats 4000000 in
theorem q18 (a b c d w : Int) (h0 : 0 ≤ a) (h1 : a ≤ b) (hb : b < 18446744073709551616) (h2 : 0 ≤ c) (h3 : c ≤ d) (hd : d < 18446744073709551616) : F18 [a, b, c, d, w] [] = some ([if b + d ≤ tp w then a + c else 0, if b + d ≤ tp w then b + d else tp w], []) := by
  refine Eq.trans (Fd_of (n := 5) (m := 0) (t := t18) (C := Tab.fn a18) rfl rfl) ?_
  rw [t18]
  refine st_2_0 (e18_27) (g := true) rfl (l := [b, d, 0]) rfl (m := []) rfl (cl_t (q27 b d 0 (by omega))) fun i5 i6 hi5 hi6 => ?_
  show T.den _ _ [a, b, c, d, w, i5, i6] [] = _
  refine st_2_0 (e18_13) (g := (!(i6 != 0))) rfl (l := [w]) rfl (m := []) rfl (by rw [q13']; exact cl_x _ _ _) fun i7 i8 hi7 hi8 => ?_
  show T.den _ _ [a, b, c, d, w, i5, i6, i7, i8] [] = _
  refine st_lb fun b0 hb0 => ?_
  replace hb0 : b0 = ((i6 != 0) || (decide (i5 > i8))) := hb0
  show T.den _ _ [a, b, c, d, w, i5, i6, i7, i8] [b0] = _
  refine st_ite (fun hc => ?_) (fun hc => ?_)
  · replace hc : b0 = true := hc
    have c1 := hc
    clear hc
    refine st_2_0 (e18_13) (g := true) rfl (l := [w]) rfl (m := []) rfl (by rw [q13']; exact cl_x _ _ _) fun i9 i10 hi9 hi10 => ?_
    show T.den _ _ [a, b, c, d, w, i5, i6, i7, i8, i9, i10] [b0] = _
    refine st_ret ?_
    show some ([i9, i10], []) = _
    have tb := tp_bd w
    cases hz : (i6 != 0)
    · rw [hz] at hi8
      simp only [hz, Bool.not_false, cond_true] at hi8
      simp only [bne_eq_false_iff_eq] at hz
      rw [hb0, hi8] at c1
      simp only [hz, bne_self_eq_false, Bool.false_or, decide_eq_true_eq] at c1
      refine r2 ?_ ?_
      · rw [if_neg (by omega), hi9]; rfl
      · rw [if_neg (by omega), hi10]; rfl
    · have hz' : i6 ≠ 0 := by simpa using hz
      refine r2 ?_ ?_
      · rw [if_neg (by omega), hi9]; rfl
      · rw [if_neg (by omega), hi10]; rfl
  · replace hc : b0 = false := hc
    have c2 := hc
    clear hc
    refine st_ret ?_
    show some ([(arI .add .u64 a c), i5], []) = _
    have tb := tp_bd w
    cases hz : (i6 != 0)
    · rw [hz] at hi8
      simp only [hz, Bool.not_false, cond_true] at hi8
      simp only [bne_eq_false_iff_eq] at hz
      rw [hb0, hi8] at c2
      simp only [hz, bne_self_eq_false, Bool.false_or, decide_eq_false_iff_not] at c2
      refine r2 ?_ ?_
      · rw [if_pos (by omega), arAdd]; omega
      · rw [if_pos (by omega)]; omega
    · have hz' : i6 ≠ 0 := by simpa using hz
      rw [hb0, hz] at c2
      simp at c2

set_option maxHeartbeats 4000000 in
theorem q19 (a b c d w : Int) (h0 : 0 ≤ a) (h1 : a ≤ b) (hb : b < 18446744073709551616) (h2 : 0 ≤ c) (h3 : c ≤ d) (hd : d < 18446744073709551616) : F19 [a, b, c, d, w] [] = some ([if a < d then 0 else a - d, if a < d then tp w else b - c], []) := by
  refine Eq.trans (Fd_of (n := 5) (m := 0) (t := t19) (C := Tab.fn a19) rfl rfl) ?_
  rw [t19]
  refine st_ite (fun hc => ?_) (fun hc => ?_)
  · replace hc : (decide (a < d)) = true := hc
    have c1 := hc
    clear hc
    refine st_2_0 (e19_13) (g := true) rfl (l := [w]) rfl (m := []) rfl (cl_t (q13' w)) fun i5 i6 hi5 hi6 => ?_
    show T.den _ _ [a, b, c, d, w, i5, i6] [] = _
    refine st_ret ?_
    show some ([i5, i6], []) = _
    simp only [decide_eq_true_eq] at c1
    refine r2 ?_ ?_
    · rw [if_pos c1]; exact hi5
    · rw [if_pos c1]; exact hi6
  · replace hc : (decide (a < d)) = false := hc
    have c2 := hc
    clear hc
    refine st_ret ?_
    show some ([(arI .sub .u64 a d), (arI .sub .u64 b c)], []) = _
    simp only [decide_eq_false_iff_not] at c2
    refine r2 ?_ ?_
    · rw [if_neg c2, arSub]; omega
    · rw [if_neg c2, arSub]; omega

theorem mul_parts (a b : Nat) (ha : a < 2 ^ 64) (hb : b < 2 ^ 64) :
    a * b = (a / 4294967296) * (b / 4294967296) * 2 ^ 64 + ((a / 4294967296) * (b % 4294967296) + (a % 4294967296) * (b / 4294967296)) * 4294967296 + (a % 4294967296) * (b % 4294967296) := by
  have h1 := Nat.div_add_mod a 4294967296
  have h2 := Nat.div_add_mod b 4294967296
  generalize a / 4294967296 = a1 at *
  generalize a % 4294967296 = a0 at *
  generalize b / 4294967296 = b1 at *
  generalize b % 4294967296 = b0 at *
  subst h1
  subst h2
  simp only [Nat.add_mul, Nat.mul_add]
  have e1 : 4294967296 * a1 * (4294967296 * b1) = a1 * b1 * 2 ^ 64 := by
    rw [Nat.mul_mul_mul_comm, Nat.mul_comm]
  have e2 : 4294967296 * a1 * b0 = a1 * b0 * 4294967296 := by rw [Nat.mul_assoc, Nat.mul_comm]
  have e3 : a0 * (4294967296 * b1) = a0 * b1 * 4294967296 := by rw [Nat.mul_left_comm, Nat.mul_comm]
  rw [e1, e2, e3]
  omega
theorem prod_lt {x y : Nat} (hx : x ≤ 4294967295) (hy : y ≤ 4294967295) : x * y ≤ 18446744065119617025 := Nat.le_trans (Nat.mul_le_mul hx hy) (by decide)


theorem shr32 (n : Nat) : arI .shr .u64 (n : Int) 32 = ((n / 4294967296 : Nat) : Int) := by
  rw [arShr _ 32 (by decide) (by decide)]
  rw [show (32 : Int).toNat = 32 from rfl]; omega
theorem and32 (n : Nat) (h : n < 2 ^ 64) : arI .and .u64 (n : Int) 4294967295 = ((n % 4294967296 : Nat) : Int) := by
  have := band n 4294967295 h (by decide)
  rw [show ((4294967295 : Nat) : Int) = 4294967295 from rfl] at this
  rw [this, show 4294967295 = 2 ^ 32 - 1 from rfl, and_mask]
theorem mul32 {x y : Nat} (hx : x ≤ 4294967295) (hy : y ≤ 4294967295) : arI .mul .u64 (x : Int) (y : Int) = ((x * y : Nat) : Int) := by
  have := prod_lt hx hy
  rw [arMul, ← Int.natCast_mul]; omega
theorem mul64_num' (p11 p10 p01 p00 : Nat) (h11 : p11 ≤ 18446744065119617025) (h10 : p10 ≤ 18446744065119617025) (h01 : p01 ≤ 18446744065119617025) (h00 : p00 ≤ 18446744065119617025) :
    p11 + (p10 + p00 / 4294967296) / 4294967296 + ((p10 + p00 / 4294967296) % 4294967296 + p01) / 4294967296 = (p11 * 2 ^ 64 + (p10 + p01) * 4294967296 + p00) / 2 ^ 64 ∧ p11 + (p10 + p00 / 4294967296) / 4294967296 + ((p10 + p00 / 4294967296) % 4294967296 + p01) / 4294967296 < 2 ^ 64 := by omega

set_option maxHeartbeats 4000000 in
theorem q28 (a b : Nat) (ha : a < 2 ^ 64) (hb : b < 2 ^ 64) : F28 [(a : Int), (b : Int)] [] = some ([((a * b / 2 ^ 64 : Nat) : Int), ((a * b % 2 ^ 64 : Nat) : Int)], []) := by
  refine Eq.trans (Fd_of (n := 2) (m := 0) (t := t28) (C := Tab.fn a28) rfl rfl) ?_
  rw [t28]
  refine st_li fun i2 hi2 => ?_
  replace hi2 : i2 = (arI .mul .u64 (arI .and .u64 (a : Int) 4294967295) (arI .and .u64 (b : Int) 4294967295)) := hi2
  show T.den _ _ [(a : Int), (b : Int), i2] [] = _
  refine st_li fun i3 hi3 => ?_
  replace hi3 : i3 = (arI .mul .u64 (arI .shr .u64 (a : Int) 32) (arI .and .u64 (b : Int) 4294967295)) := hi3
  show T.den _ _ [(a : Int), (b : Int), i2, i3] [] = _
  refine st_li fun i4 hi4 => ?_
  replace hi4 : i4 = (arI .and .u64 (arI .add .u64 i3 (arI .shr .u64 i2 32)) 4294967295) := hi4
  show T.den _ _ [(a : Int), (b : Int), i2, i3, i4] [] = _
  refine st_li fun i5 hi5 => ?_
  replace hi5 : i5 = (arI .shr .u64 (arI .add .u64 i3 (arI .shr .u64 i2 32)) 32) := hi5
  show T.den _ _ [(a : Int), (b : Int), i2, i3, i4, i5] [] = _
  refine st_li fun i6 hi6 => ?_
  replace hi6 : i6 = (arI .mul .u64 (arI .and .u64 (a : Int) 4294967295) (arI .shr .u64 (b : Int) 32)) := hi6
  show T.den _ _ [(a : Int), (b : Int), i2, i3, i4, i5, i6] [] = _
  refine st_li fun i7 hi7 => ?_
  replace hi7 : i7 = (arI .mul .u64 (arI .shr .u64 (a : Int) 32) (arI .shr .u64 (b : Int) 32)) := hi7
  show T.den _ _ [(a : Int), (b : Int), i2, i3, i4, i5, i6, i7] [] = _
  refine st_li fun i8 hi8 => ?_
  replace hi8 : i8 = (arI .add .u64 (arI .add .u64 i7 i5) (arI .shr .u64 (arI .add .u64 i4 i6) 32)) := hi8
  show T.den _ _ [(a : Int), (b : Int), i2, i3, i4, i5, i6, i7, i8] [] = _
  refine st_ret ?_
  show some ([i8, (arI .mul .u64 (a : Int) (b : Int))], []) = _
  obtain ⟨a0, ha0⟩ : ∃ x, x = a % 4294967296 := ⟨_, rfl⟩
  obtain ⟨a1, ha1⟩ : ∃ x, x = a / 4294967296 := ⟨_, rfl⟩
  obtain ⟨b0, hb0⟩ : ∃ x, x = b % 4294967296 := ⟨_, rfl⟩
  obtain ⟨b1, hb1⟩ : ∃ x, x = b / 4294967296 := ⟨_, rfl⟩
  have hmp := mul_parts a b ha hb
  rw [← ha0, ← ha1, ← hb0, ← hb1] at hmp
  have l1 : a0 ≤ 4294967295 := by omega
  have l2 : a1 ≤ 4294967295 := by omega
  have l3 : b0 ≤ 4294967295 := by omega
  have l4 : b1 ≤ 4294967295 := by omega
  have p00 := prod_lt l1 l3
  have p10 := prod_lt l2 l3
  have p01 := prod_lt l1 l4
  have p11 := prod_lt l2 l4
  rw [and32 a ha, and32 b hb, ← ha0, ← hb0, mul32 l1 l3] at hi2
  rw [shr32 a, and32 b hb, ← ha1, ← hb0, mul32 l2 l3] at hi3
  rw [and32 a ha, shr32 b, ← ha0, ← hb1, mul32 l1 l4] at hi6
  rw [shr32 a, shr32 b, ← ha1, ← hb1, mul32 l2 l4] at hi7
  have hn := mul64_num' (a1 * b1) (a1 * b0) (a0 * b1) (a0 * b0) p11 p10 p01 p00
  rw [← hmp] at hn
  generalize a0 * b0 = q00 at *
  generalize a1 * b0 = q10 at *
  generalize a0 * b1 = q01 at *
  generalize a1 * b1 = q11 at *
  have e34 : arI .add .u64 i3 (arI .shr .u64 i2 32) = ((q10 + q00 / 4294967296 : Nat) : Int) := by
    rw [hi2, shr32, hi3, arAdd]; omega
  rw [e34] at hi4 hi5
  rw [and32 _ (by omega)] at hi4
  rw [shr32] at hi5
  have e46 : arI .add .u64 i4 i6 = (((q10 + q00 / 4294967296) % 4294967296 + q01 : Nat) : Int) := by
    rw [hi4, hi6, arAdd]; omega
  rw [e46, shr32, hi7, hi5, arAdd, arAdd] at hi8
  refine r2 ?_ ?_
  · rw [hi8]; omega
  · rw [arMul, ← Int.natCast_mul]; omega

theorem q28' (a b : Int) (ha : 0 ≤ a ∧ a < 18446744073709551616) (hb : 0 ≤ b ∧ b < 18446744073709551616) : F28 [a, b] [] = some ([(a * b) / 18446744073709551616, (a * b) % 18446744073709551616], []) := by
  obtain ⟨m, rfl⟩ := Int.eq_ofNat_of_zero_le ha.1
  obtain ⟨n, rfl⟩ := Int.eq_ofNat_of_zero_le hb.1
  rw [q28 m n (by omega) (by omega), ← Int.natCast_mul]
  exact r2 (by omega) (by omega)

theorem e20_28 : Tab.fn a20 28 = F28 := Tab.fn_hd
theorem e20_13 : Tab.fn a20 13 = F13 := ((Tab.fn_tl rfl).trans Tab.fn_hd)

set_option maxHeartbeats 4000000 in
theorem q20 (a b c d w : Int) (h0 : 0 ≤ a) (h1 : a ≤ b) (hb : b < 18446744073709551616) (h2 : 0 ≤ c) (h3 : c ≤ d) (hd : d < 18446744073709551616) : F20 [a, b, c, d, w] [] = some ([if b * d ≤ tp w then a * c else 0, if b * d ≤ tp w then b * d else tp w], []) := by
  refine Eq.trans (Fd_of (n := 5) (m := 0) (t := t20) (C := Tab.fn a20) rfl rfl) ?_
  rw [t20]
  refine st_2_0 (e20_28) (g := true) rfl (l := [b, d]) rfl (m := []) rfl (cl_t (q28' b d (by omega) (by omega))) fun i5 i6 hi5 hi6 => ?_
  show T.den _ _ [a, b, c, d, w, i5, i6] [] = _
  refine st_2_0 (e20_13) (g := (!(i5 != 0))) rfl (l := [w]) rfl (m := []) rfl (by rw [q13']; exact cl_x _ _ _) fun i7 i8 hi7 hi8 => ?_
  show T.den _ _ [a, b, c, d, w, i5, i6, i7, i8] [] = _
  refine st_lb fun b0 hb0 => ?_
  replace hb0 : b0 = ((i5 != 0) || (decide (i6 > i8))) := hb0
  show T.den _ _ [a, b, c, d, w, i5, i6, i7, i8] [b0] = _
  refine st_ite (fun hc => ?_) (fun hc => ?_)
  · replace hc : b0 = true := hc
    have c1 := hc
    clear hc
    refine st_2_0 (e20_13) (g := true) rfl (l := [w]) rfl (m := []) rfl (by rw [q13']; exact cl_x _ _ _) fun i9 i10 hi9 hi10 => ?_
    show T.den _ _ [a, b, c, d, w, i5, i6, i7, i8, i9, i10] [b0] = _
    refine st_ret ?_
    show some ([i9, i10], []) = _
    have tb := tp_bd w
    have hP : 0 ≤ b * d := Int.mul_nonneg (by omega) (by omega)
    have hQ0 : 0 ≤ a * c := Int.mul_nonneg (by omega) (by omega)
    have hQ : a * c ≤ b * d := Int.mul_le_mul h1 h3 h2 (by omega)
    generalize b * d = P at *
    generalize a * c = Q at *
    cases hz : (i5 != 0)
    · simp only [hz, Bool.not_false, cond_true] at hi8
      simp only [bne_eq_false_iff_eq] at hz
      rw [hb0, hi8] at c1
      simp only [hz, bne_self_eq_false, Bool.false_or, decide_eq_true_eq] at c1
      refine r2 ?_ ?_
      · rw [if_neg (by omega), hi9]; rfl
      · rw [if_neg (by omega), hi10]; rfl
    · have hz' : i5 ≠ 0 := by simpa using hz
      refine r2 ?_ ?_
      · rw [if_neg (by omega), hi9]; rfl
      · rw [if_neg (by omega), hi10]; rfl
  · replace hc : b0 = false := hc
    have c2 := hc
    clear hc
    refine st_ret ?_
    show some ([(arI .mul .u64 a c), i6], []) = _
    rw [arMul]
    have tb := tp_bd w
    have hP : 0 ≤ b * d := Int.mul_nonneg (by omega) (by omega)
    have hQ0 : 0 ≤ a * c := Int.mul_nonneg (by omega) (by omega)
    have hQ : a * c ≤ b * d := Int.mul_le_mul h1 h3 h2 (by omega)
    generalize b * d = P at *
    generalize a * c = Q at *
    cases hz : (i5 != 0)
    · simp only [hz, Bool.not_false, cond_true] at hi8
      simp only [bne_eq_false_iff_eq] at hz
      rw [hb0, hi8] at c2
      simp only [hz, bne_self_eq_false, Bool.false_or, decide_eq_false_iff_not] at c2
      refine r2 ?_ ?_
      · rw [if_pos (by omega)]; omega
      · rw [if_pos (by omega)]; omega
    · have hz' : i5 ≠ 0 := by simpa using hz
      rw [hb0, hz] at c2
      simp at c2

def LT256 : List Nat := [0, 1, 2, 2, 3, 3, 3, 3, 4, 4, 4, 4, 4, 4, 4, 4, 5, 5, 5, 5, 5, 5, 5, 5, 5, 5, 5, 5, 5, 5, 5, 5, 6, 6, 6, 6, 6, 6, 6, 6, 6, 6, 6, 6, 6, 6, 6, 6, 6, 6, 6, 6, 6, 6, 6, 6, 6, 6, 6, 6, 6, 6, 6, 6, 7, 7, 7, 7, 7, 7, 7, 7, 7, 7, 7, 7, 7, 7, 7, 7, 7, 7, 7, 7, 7, 7, 7, 7, 7, 7, 7, 7, 7, 7, 7, 7, 7, 7, 7, 7, 7, 7, 7, 7, 7, 7, 7, 7, 7, 7, 7, 7, 7, 7, 7, 7, 7, 7, 7, 7, 7, 7, 7, 7, 7, 7, 7, 7, 8, 8, 8, 8, 8, 8, 8, 8, 8, 8, 8, 8, 8, 8, 8, 8, 8, 8, 8, 8, 8, 8, 8, 8, 8, 8, 8, 8, 8, 8, 8, 8, 8, 8, 8, 8, 8, 8, 8, 8, 8, 8, 8, 8, 8, 8, 8, 8, 8, 8, 8, 8, 8, 8, 8, 8, 8, 8, 8, 8, 8, 8, 8, 8, 8, 8, 8, 8, 8, 8, 8, 8, 8, 8, 8, 8, 8, 8, 8, 8, 8, 8, 8, 8, 8, 8, 8, 8, 8, 8, 8, 8, 8, 8, 8, 8, 8, 8, 8, 8, 8, 8, 8, 8, 8, 8, 8, 8, 8, 8, 8, 8, 8, 8, 8, 8, 8, 8, 8, 8, 8, 8, 8, 8, 8, 8, 8, 8]

theorem LT256_of : ∀ n : Fin 256, LT256.getD n.val 0 = Go.Lib.bitLen n.val := by decide +kernel
def len (x : Int) : Int := (Go.Lib.bitLen x.toNat : Int)
theorem sh8 (x : Int) : arI .shr .u64 x 8 = x / 256 := arShr x 8 (by decide) (by decide)
theorem sh16 (x : Int) : arI .shr .u64 x 16 = x / 65536 := arShr x 16 (by decide) (by decide)
theorem sh32 (x : Int) : arI .shr .u64 x 32 = x / 4294967296 := arShr x 32 (by decide) (by decide)
theorem wrap_u8 (n : Int) : IntKind.u8.wrap n = n % 256 := by simp [IntKind.wrap, IntKind.bits, IntKind.signed]
theorem leafL (x y K : Int) (k D : Nat) (hk : k ≤ 56) (hK : K = (k : Int)) (hy : 0 ≤ y ∧ y < 256) (hD : y.toNat = x.toNat / D) (hb : Go.Lib.bitLen x.toNat = k + Go.Lib.bitLen (x.toNat / D)) :
    arI .add .i64 K (IntKind.wrap .i64 ((LT256.getD (IntKind.wrap .u8 y).toNat 0 : Nat) : Int)) = len x := by
  have h1 : IntKind.u8.wrap y = y := by rw [wrap_u8]; omega
  have h2 := LT256_of ⟨y.toNat, by omega⟩
  have h3 := Go.Lib.bitLen_le8 ⟨y.toNat, by omega⟩
  simp only at h2 h3
  unfold len
  rw [h1, h2, hb, ← hD, hK]
  show IntKind.i64.wrap (_ + _) = _
  rw [Go.IntWalk.i64_in (Go.Lib.bitLen y.toNat : Int) (by omega), Go.IntWalk.i64_in _ (by omega)]
  omega
theorem r1 {a b : Int} (h : a = b) : (some ([a], []) : Option (List Int × List Bool)) = some ([b], []) := by rw [h]
theorem sub64 {x : Int} (h : 0 ≤ x ∧ x ≤ 64) : arI .sub .i64 64 x = 64 - x := by
  show IntKind.i64.wrap (64 - x) = _
  exact Go.IntWalk.i64_in _ (by omega)
theorem len_le (x : Int) (_h : 0 ≤ x) (h1 : x < 18446744073709551616) : 0 ≤ len x ∧ len x ≤ 64 := by
  have := Go.Lib.bitLen_le x.toNat 64 (Nat.le_refl _) (by omega)
  unfold len; omega

set_option maxHeartbeats 4000000 in
theorem q30 (i0 : Int) (h0 : 0 ≤ i0) (h1 : i0 < 18446744073709551616) : F30 [i0] [] = some ([len i0], []) := by
  refine Eq.trans (Fd_of (n := 1) (m := 0) (t := t30) (C := Tab.fn a30) rfl rfl) ?_
  rw [t30]
  refine st_ite (fun hc => ?_) (fun hc => ?_)
  · replace hc : (decide (i0 ≥ 4294967296)) = true := hc
    have c1 := hc
    clear hc
    refine st_ite (fun hc => ?_) (fun hc => ?_)
    · replace hc : (decide ((arI .shr .u64 i0 32) ≥ 65536)) = true := hc
      have c2 := hc
      clear hc
      refine st_lb fun b0 hb0 => ?_
      replace hb0 : b0 = (decide ((arI .shr .u64 (arI .shr .u64 i0 32) 16) ≥ 256)) := hb0
      show T.den _ _ [i0] [b0] = _
      refine st_ite (fun hc => ?_) (fun hc => ?_)
      · replace hc : b0 = true := hc
        have c3 := hc
        clear hc
        refine st_li fun i1 hi1 => ?_
        replace hi1 : i1 = (arI .shr .u64 (arI .shr .u64 (arI .shr .u64 i0 32) 16) 8) := hi1
        show T.den _ _ [i0, i1] [b0] = _
        refine st_rq (show ((decide ((IntKind.wrap .u8 i1) ≥ 0)) && (decide ((IntKind.wrap .u8 i1) < 256))) = true from ?_) ?_
        · rw [hb0] at c3
          simp only [sh8, sh16, sh32, ge_iff_le, decide_eq_true_eq, decide_eq_false_iff_not] at c1 c2 c3
          subst hi1
          simp only [Bool.and_eq_true, wrap_u8, sh8, sh16, sh32, ge_iff_le, decide_eq_true_eq, decide_eq_false_iff_not]
          omega
        refine st_ret ?_
        show some ([(arI .add .i64 56 (IntKind.wrap .i64 ((LT256.getD ((IntKind.wrap .u8 i1)).toNat 0 : Nat) : Int)))], []) = _
        subst hi1
        rw [hb0] at c3
        simp only [sh8, sh16, sh32, ge_iff_le, decide_eq_true_eq, decide_eq_false_iff_not] at c1 c2 c3
        simp only [sh8, sh16, sh32]
        exact r1 (leafL i0 _ _ 56 72057594037927936 (by decide) rfl (by omega) (by omega) (Go.Lib.bitLen_shift56 _ (by omega) (by omega)))
      · replace hc : b0 = false := hc
        have c4 := hc
        clear hc
        refine st_rq (show ((decide ((IntKind.wrap .u8 (arI .shr .u64 (arI .shr .u64 i0 32) 16)) ≥ 0)) && (decide ((IntKind.wrap .u8 (arI .shr .u64 (arI .shr .u64 i0 32) 16)) < 256))) = true from ?_) ?_
        · rw [hb0] at c4
          simp only [sh8, sh16, sh32, ge_iff_le, decide_eq_true_eq, decide_eq_false_iff_not] at c1 c2 c4
          simp only [Bool.and_eq_true, wrap_u8, sh8, sh16, sh32, ge_iff_le, decide_eq_true_eq, decide_eq_false_iff_not]
          omega
        refine st_li fun i1 hi1 => ?_
        replace hi1 : i1 = ((LT256.getD ((IntKind.wrap .u8 (arI .shr .u64 (arI .shr .u64 i0 32) 16))).toNat 0 : Nat) : Int) := hi1
        show T.den _ _ [i0, i1] [b0] = _
        refine st_ret ?_
        show some ([(arI .add .i64 48 (IntKind.wrap .i64 i1))], []) = _
        subst hi1
        rw [hb0] at c4
        simp only [sh8, sh16, sh32, ge_iff_le, decide_eq_true_eq, decide_eq_false_iff_not] at c1 c2 c4
        simp only [sh8, sh16, sh32]
        exact r1 (leafL i0 _ _ 48 281474976710656 (by decide) rfl (by omega) (by omega) (Go.Lib.bitLen_shift48 _ (by omega) (by omega)))
    · replace hc : (decide ((arI .shr .u64 i0 32) ≥ 65536)) = false := hc
      have c5 := hc
      clear hc
      refine st_ite (fun hc => ?_) (fun hc => ?_)
      · replace hc : (decide ((arI .shr .u64 i0 32) ≥ 256)) = true := hc
        have c6 := hc
        clear hc
        refine st_rq (show ((decide ((IntKind.wrap .u8 (arI .shr .u64 (arI .shr .u64 i0 32) 8)) ≥ 0)) && (decide ((IntKind.wrap .u8 (arI .shr .u64 (arI .shr .u64 i0 32) 8)) < 256))) = true from ?_) ?_
        · simp only [sh8, sh16, sh32, ge_iff_le, decide_eq_true_eq, decide_eq_false_iff_not] at c1 c5 c6
          simp only [Bool.and_eq_true, wrap_u8, sh8, sh16, sh32, ge_iff_le, decide_eq_true_eq, decide_eq_false_iff_not]
          omega
        refine st_li fun i1 hi1 => ?_
        replace hi1 : i1 = ((LT256.getD ((IntKind.wrap .u8 (arI .shr .u64 (arI .shr .u64 i0 32) 8))).toNat 0 : Nat) : Int) := hi1
        show T.den _ _ [i0, i1] [] = _
        refine st_ret ?_
        show some ([(arI .add .i64 40 (IntKind.wrap .i64 i1))], []) = _
        subst hi1
        simp only [sh8, sh16, sh32, ge_iff_le, decide_eq_true_eq, decide_eq_false_iff_not] at c1 c5 c6
        simp only [sh8, sh16, sh32]
        exact r1 (leafL i0 _ _ 40 1099511627776 (by decide) rfl (by omega) (by omega) (Go.Lib.bitLen_shift40 _ (by omega) (by omega)))
      · replace hc : (decide ((arI .shr .u64 i0 32) ≥ 256)) = false := hc
        have c7 := hc
        clear hc
        refine st_rq (show ((decide ((IntKind.wrap .u8 (arI .shr .u64 i0 32)) ≥ 0)) && (decide ((IntKind.wrap .u8 (arI .shr .u64 i0 32)) < 256))) = true from ?_) ?_
        · simp only [sh8, sh16, sh32, ge_iff_le, decide_eq_true_eq, decide_eq_false_iff_not] at c1 c5 c7
          simp only [Bool.and_eq_true, wrap_u8, sh8, sh16, sh32, ge_iff_le, decide_eq_true_eq, decide_eq_false_iff_not]
          omega
        refine st_li fun i1 hi1 => ?_
        replace hi1 : i1 = (arI .add .i64 32 (IntKind.wrap .i64 ((LT256.getD ((IntKind.wrap .u8 (arI .shr .u64 i0 32))).toNat 0 : Nat) : Int))) := hi1
        show T.den _ _ [i0, i1] [] = _
        refine st_ret ?_
        show some ([i1], []) = _
        subst hi1
        simp only [sh8, sh16, sh32, ge_iff_le, decide_eq_true_eq, decide_eq_false_iff_not] at c1 c5 c7
        simp only [sh8, sh16, sh32]
        exact r1 (leafL i0 _ _ 32 4294967296 (by decide) rfl (by omega) (by omega) (Go.Lib.bitLen_shift32 _ (by omega) (by omega)))
  · replace hc : (decide (i0 ≥ 4294967296)) = false := hc
    have c8 := hc
    clear hc
    refine st_ite (fun hc => ?_) (fun hc => ?_)
    · replace hc : (decide (i0 ≥ 65536)) = true := hc
      have c9 := hc
      clear hc
      refine st_ite (fun hc => ?_) (fun hc => ?_)
      · replace hc : (decide ((arI .shr .u64 i0 16) ≥ 256)) = true := hc
        have c10 := hc
        clear hc
        refine st_rq (show ((decide ((IntKind.wrap .u8 (arI .shr .u64 (arI .shr .u64 i0 16) 8)) ≥ 0)) && (decide ((IntKind.wrap .u8 (arI .shr .u64 (arI .shr .u64 i0 16) 8)) < 256))) = true from ?_) ?_
        · simp only [sh8, sh16, sh32, ge_iff_le, decide_eq_true_eq, decide_eq_false_iff_not] at c8 c9 c10
          simp only [Bool.and_eq_true, wrap_u8, sh8, sh16, sh32, ge_iff_le, decide_eq_true_eq, decide_eq_false_iff_not]
          omega
        refine st_li fun i1 hi1 => ?_
        replace hi1 : i1 = ((LT256.getD ((IntKind.wrap .u8 (arI .shr .u64 (arI .shr .u64 i0 16) 8))).toNat 0 : Nat) : Int) := hi1
        show T.den _ _ [i0, i1] [] = _
        refine st_ret ?_
        show some ([(arI .add .i64 24 (IntKind.wrap .i64 i1))], []) = _
        subst hi1
        simp only [sh8, sh16, sh32, ge_iff_le, decide_eq_true_eq, decide_eq_false_iff_not] at c8 c9 c10
        simp only [sh8, sh16, sh32]
        exact r1 (leafL i0 _ _ 24 16777216 (by decide) rfl (by omega) (by omega) (Go.Lib.bitLen_shift24 _ (by omega) (by omega)))
      · replace hc : (decide ((arI .shr .u64 i0 16) ≥ 256)) = false := hc
        have c11 := hc
        clear hc
        refine st_rq (show ((decide ((IntKind.wrap .u8 (arI .shr .u64 i0 16)) ≥ 0)) && (decide ((IntKind.wrap .u8 (arI .shr .u64 i0 16)) < 256))) = true from ?_) ?_
        · simp only [sh8, sh16, sh32, ge_iff_le, decide_eq_true_eq, decide_eq_false_iff_not] at c8 c9 c11
          simp only [Bool.and_eq_true, wrap_u8, sh8, sh16, sh32, ge_iff_le, decide_eq_true_eq, decide_eq_false_iff_not]
          omega
        refine st_li fun i1 hi1 => ?_
        replace hi1 : i1 = (arI .add .i64 16 (IntKind.wrap .i64 ((LT256.getD ((IntKind.wrap .u8 (arI .shr .u64 i0 16))).toNat 0 : Nat) : Int))) := hi1
        show T.den _ _ [i0, i1] [] = _
        refine st_ret ?_
        show some ([i1], []) = _
        subst hi1
        simp only [sh8, sh16, sh32, ge_iff_le, decide_eq_true_eq, decide_eq_false_iff_not] at c8 c9 c11
        simp only [sh8, sh16, sh32]
        exact r1 (leafL i0 _ _ 16 65536 (by decide) rfl (by omega) (by omega) (Go.Lib.bitLen_shift16 _ (by omega) (by omega)))
    · replace hc : (decide (i0 ≥ 65536)) = false := hc
      have c12 := hc
      clear hc
      refine st_ite (fun hc => ?_) (fun hc => ?_)
      · replace hc : (decide (i0 ≥ 256)) = true := hc
        have c13 := hc
        clear hc
        refine st_rq (show ((decide ((IntKind.wrap .u8 (arI .shr .u64 i0 8)) ≥ 0)) && (decide ((IntKind.wrap .u8 (arI .shr .u64 i0 8)) < 256))) = true from ?_) ?_
        · simp only [sh8, sh16, sh32, ge_iff_le, decide_eq_true_eq, decide_eq_false_iff_not] at c8 c12 c13
          simp only [Bool.and_eq_true, wrap_u8, sh8, sh16, sh32, ge_iff_le, decide_eq_true_eq, decide_eq_false_iff_not]
          omega
        refine st_li fun i1 hi1 => ?_
        replace hi1 : i1 = (arI .add .i64 8 (IntKind.wrap .i64 ((LT256.getD ((IntKind.wrap .u8 (arI .shr .u64 i0 8))).toNat 0 : Nat) : Int))) := hi1
        show T.den _ _ [i0, i1] [] = _
        refine st_ret ?_
        show some ([i1], []) = _
        subst hi1
        simp only [sh8, sh16, sh32, ge_iff_le, decide_eq_true_eq, decide_eq_false_iff_not] at c8 c12 c13
        simp only [sh8, sh16, sh32]
        exact r1 (leafL i0 _ _ 8 256 (by decide) rfl (by omega) (by omega) (Go.Lib.bitLen_shift8 _ (by omega) (by omega)))
      · replace hc : (decide (i0 ≥ 256)) = false := hc
        have c14 := hc
        clear hc
        refine st_rq (show ((decide ((IntKind.wrap .u8 i0) ≥ 0)) && (decide ((IntKind.wrap .u8 i0) < 256))) = true from ?_) ?_
        · simp only [sh8, sh16, sh32, ge_iff_le, decide_eq_true_eq, decide_eq_false_iff_not] at c8 c12 c14
          simp only [Bool.and_eq_true, wrap_u8, sh8, sh16, sh32, ge_iff_le, decide_eq_true_eq, decide_eq_false_iff_not]
          omega
        refine st_ret ?_
        show some ([(arI .add .i64 0 (IntKind.wrap .i64 ((LT256.getD ((IntKind.wrap .u8 i0)).toNat 0 : Nat) : Int)))], []) = _
        simp only [sh8, sh16, sh32, ge_iff_le, decide_eq_true_eq, decide_eq_false_iff_not] at c8 c12 c14
        exact r1 (leafL i0 _ _ 0 1 (by decide) rfl (by omega) (by omega) (by rw [Nat.div_one, Nat.zero_add]))

theorem q29 (a b : Int) : F29 [a, b] [] = some ([], [a == b]) := rfl

theorem one2 {a b c d : Int} {x y : Bool} (hx : x = (a == b)) (hy : y = (x && (c == d))) : (a = b ∧ c = d ∧ (x && y) = true) ∨ (¬ (a = b ∧ c = d) ∧ (x && y) = false) := by
  by_cases h : a = b
  · have hx' : x = true := hx.trans (beq_iff_eq.2 h)
    subst hx'
    by_cases h' : c = d
    · exact .inl ⟨h, h', by rw [hy, beq_iff_eq.2 h']; rfl⟩
    · exact .inr ⟨fun z => h' z.2, by rw [hy, beq_eq_false_iff_ne.2 h']; rfl⟩
  · have hx' : x = false := hx.trans (beq_eq_false_iff_ne.2 h)
    subst hx'
    exact .inr ⟨fun z => h z.1, rfl⟩
def anL (a b c d : Int) : Int := if a = b ∧ c = d then arI .and .u64 a c else 0
def anH (a b c d : Int) : Int := if a = b ∧ c = d then arI .and .u64 a c else min b d
def orT (m : Int) : Int := arI .shr .u64 18446744073709551615 (64 - len m)
def orL (a b c d : Int) : Int := if a = b ∧ c = d then arI .or .u64 a c else max a c
def orH (a b c d : Int) : Int := if a = b ∧ c = d then arI .or .u64 a c else orT (max b d)

theorem e23_29 : Tab.fn a23 29 = F29 := Tab.fn_hd
theorem e24_29 : Tab.fn a24 29 = F29 := Tab.fn_hd
theorem e24_30 : Tab.fn a24 30 = F30 := ((Tab.fn_tl rfl).trans Tab.fn_hd)

set_option maxHeartbeats 4000000 in
theorem q23 (a b c d : Int) : F23 [a, b, c, d] [] = some ([anL a b c d, anH a b c d], []) := by
  refine Eq.trans (Fd_of (n := 4) (m := 0) (t := t23) (C := Tab.fn a23) rfl rfl) ?_
  rw [t23]
  refine st_0_1 (e23_29) (g := true) rfl (l := [a, b]) rfl (m := []) rfl (cl_t (q29 a b)) fun b0 hb0 => ?_
  show T.den _ _ [a, b, c, d] [b0] = _
  refine st_0_1 (e23_29) (g := b0) rfl (l := [c, d]) rfl (m := []) rfl (cl_b (q29 c d)) fun b1 hb1 => ?_
  show T.den _ _ [a, b, c, d] [b0, b1] = _
  refine st_ite (fun hc => ?_) (fun hc => ?_)
  · replace hc : (b0 && b1) = true := hc
    have c1 := hc
    clear hc
    refine st_ret ?_
    show some ([(arI .and .u64 a c), (arI .and .u64 a c)], []) = _
    rcases one2 hb0 hb1 with ⟨h1, h2, h3⟩ | ⟨h1, h3⟩
    · refine r2 ?_ ?_
      · unfold anL; rw [if_pos ⟨h1, h2⟩]
      · unfold anH; rw [if_pos ⟨h1, h2⟩]
    · exact absurd (c1.symm.trans h3) (by decide)
  · replace hc : (b0 && b1) = false := hc
    have c2 := hc
    clear hc
    refine st_ret ?_
    show some ([0, (if d < b then d else b)], []) = _
    rcases one2 hb0 hb1 with ⟨h1, h2, h3⟩ | ⟨h1, h3⟩
    · exact absurd (h3.symm.trans c2) (by decide)
    · refine r2 ?_ ?_
      · unfold anL; rw [if_neg h1]
      · unfold anH; rw [if_neg h1, min_]

set_option maxHeartbeats 4000000 in
theorem q24 (a b c d : Int) (h0 : 0 ≤ a) (h1 : a ≤ b) (hb : b < 18446744073709551616) (h2 : 0 ≤ c) (h3 : c ≤ d) (hd : d < 18446744073709551616) : F24 [a, b, c, d] [] = some ([orL a b c d, orH a b c d], []) := by
  refine Eq.trans (Fd_of (n := 4) (m := 0) (t := t24) (C := Tab.fn a24) rfl rfl) ?_
  rw [t24]
  refine st_0_1 (e24_29) (g := true) rfl (l := [a, b]) rfl (m := []) rfl (cl_t (q29 a b)) fun b0 hb0 => ?_
  show T.den _ _ [a, b, c, d] [b0] = _
  refine st_0_1 (e24_29) (g := b0) rfl (l := [c, d]) rfl (m := []) rfl (cl_b (q29 c d)) fun b1 hb1 => ?_
  show T.den _ _ [a, b, c, d] [b0, b1] = _
  refine st_ite (fun hc => ?_) (fun hc => ?_)
  · replace hc : (b0 && b1) = true := hc
    have c1 := hc
    clear hc
    refine st_ret ?_
    show some ([(arI .or .u64 a c), (arI .or .u64 a c)], []) = _
    rcases one2 hb0 hb1 with ⟨h1, h2, h3⟩ | ⟨h1, h3⟩
    · refine r2 ?_ ?_
      · unfold orL; rw [if_pos ⟨h1, h2⟩]
      · unfold orH; rw [if_pos ⟨h1, h2⟩]
    · exact absurd (c1.symm.trans h3) (by decide)
  · replace hc : (b0 && b1) = false := hc
    have c2 := hc
    clear hc
    refine st_1_0 (e24_30) (g := true) rfl (l := [(if d > b then d else b)]) rfl (m := []) rfl (cl_t (q30 (if d > b then d else b) (by split <;> omega) (by split <;> omega))) fun i4 hi4 => ?_
    show T.den _ _ [a, b, c, d, i4] [b0, b1] = _
    refine st_rq (show (decide ((IntKind.wrap .u64 (arI .sub .i64 64 i4)) ≥ 0)) = true from ?_) ?_
    · rw [decide_eq_true_eq, wrap_u64]
      omega
    refine st_ret ?_
    show some ([(if c > a then c else a), (arI .shr .u64 18446744073709551615 (IntKind.wrap .u64 (arI .sub .i64 64 i4)))], []) = _
    rcases one2 hb0 hb1 with ⟨h1, h2, h3⟩ | ⟨h1, h3⟩
    · exact absurd (h3.symm.trans c2) (by decide)
    · refine r2 ?_ ?_
      · unfold orL; rw [if_neg h1, max_]
      · unfold orH orT; rw [if_neg h1, hi4, max_]
        have hl := len_le (if d > b then d else b) (by split <;> omega) (by split <;> omega)
        rw [sub64 hl, wraps_u64 _ (by omega) (by omega)]

theorem and_co (a b : Int) : arI .and .u64 a b = arI .and .u64 b a := by
  show IntKind.u64.wrap ((BitVec.ofInt 64 a &&& BitVec.ofInt 64 b).toNat : Int) = IntKind.u64.wrap ((BitVec.ofInt 64 b &&& BitVec.ofInt 64 a).toNat : Int)
  rw [BitVec.and_comm]
theorem or_co (a b : Int) : arI .or .u64 a b = arI .or .u64 b a := by
  show IntKind.u64.wrap ((BitVec.ofInt 64 a ||| BitVec.ofInt 64 b).toNat : Int) = IntKind.u64.wrap ((BitVec.ofInt 64 b ||| BitVec.ofInt 64 a).toNat : Int)
  rw [BitVec.or_comm]
theorem if_co {a b c d x y u v : Int} (hx : x = y) (hu : u = v) : (if a = b ∧ c = d then x else u) = if c = d ∧ a = b then y else v := by
  by_cases h : a = b ∧ c = d
  · rw [if_pos h, if_pos ⟨h.2, h.1⟩, hx]
  · rw [if_neg h, if_neg (fun z => h ⟨z.2, z.1⟩), hu]
theorem anL_co (a b c d : Int) : anL c d a b = anL a b c d := if_co (and_co c a) rfl
theorem anH_co (a b c d : Int) : anH c d a b = anH a b c d := if_co (and_co c a) (by omega)
theorem orL_co (a b c d : Int) : orL c d a b = orL a b c d := if_co (or_co c a) (by omega)
theorem orH_co (a b c d : Int) : orH c d a b = orH a b c d := if_co (or_co c a) (by rw [show max d b = max b d from by omega])

theorem e7_9 : Tab.fn a7 9 = F9 := Tab.fn_hd
theorem e7_13 : Tab.fn a7 13 = F13 := ((Tab.fn_tl rfl).trans Tab.fn_hd)
theorem e7_10 : Tab.fn a7 10 = F10 := ((Tab.fn_tl rfl).trans ((Tab.fn_tl rfl).trans Tab.fn_hd))
theorem e7_12 : Tab.fn a7 12 = F12 := ((Tab.fn_tl rfl).trans ((Tab.fn_tl rfl).trans ((Tab.fn_tl rfl).trans Tab.fn_hd)))
theorem e7_18 : Tab.fn a7 18 = F18 := ((Tab.fn_tl rfl).trans ((Tab.fn_tl rfl).trans ((Tab.fn_tl rfl).trans ((Tab.fn_tl rfl).trans Tab.fn_hd))))
theorem e7_11 : Tab.fn a7 11 = F11 := ((Tab.fn_tl rfl).trans ((Tab.fn_tl rfl).trans ((Tab.fn_tl rfl).trans ((Tab.fn_tl rfl).trans ((Tab.fn_tl rfl).trans Tab.fn_hd)))))
theorem e7_19 : Tab.fn a7 19 = F19 := ((Tab.fn_tl rfl).trans ((Tab.fn_tl rfl).trans ((Tab.fn_tl rfl).trans ((Tab.fn_tl rfl).trans ((Tab.fn_tl rfl).trans ((Tab.fn_tl rfl).trans Tab.fn_hd))))))
theorem e7_20 : Tab.fn a7 20 = F20 := ((Tab.fn_tl rfl).trans ((Tab.fn_tl rfl).trans ((Tab.fn_tl rfl).trans ((Tab.fn_tl rfl).trans ((Tab.fn_tl rfl).trans ((Tab.fn_tl rfl).trans ((Tab.fn_tl rfl).trans Tab.fn_hd)))))))
theorem e7_23 : Tab.fn a7 23 = F23 := ((Tab.fn_tl rfl).trans ((Tab.fn_tl rfl).trans ((Tab.fn_tl rfl).trans ((Tab.fn_tl rfl).trans ((Tab.fn_tl rfl).trans ((Tab.fn_tl rfl).trans ((Tab.fn_tl rfl).trans ((Tab.fn_tl rfl).trans Tab.fn_hd))))))))
theorem e7_24 : Tab.fn a7 24 = F24 := ((Tab.fn_tl rfl).trans ((Tab.fn_tl rfl).trans ((Tab.fn_tl rfl).trans ((Tab.fn_tl rfl).trans ((Tab.fn_tl rfl).trans ((Tab.fn_tl rfl).trans ((Tab.fn_tl rfl).trans ((Tab.fn_tl rfl).trans ((Tab.fn_tl rfl).trans Tab.fn_hd)))))))))

theorem tp_64 : (18446744073709551615 : Int) = tp 64 := by decide
theorem tp_32 : (4294967295 : Int) = tp 32 := by decide

theorem eq2 {a b c d a' b' c' d' : Int} {x : Bool} (hx : x = ((a == c) && (b == d))) (ha : a = a') (hb : b = b') (hc : c = c') (hd : d = d') (h1 : a' = c') (h2 : b' = d') : x = true := by
  subst ha hb hc hd; rw [hx, beq_iff_eq.2 h1, beq_iff_eq.2 h2]; rfl
theorem in2 {a b c d : Int} {x : Bool} (hx : x = (decide (c ≤ a) && decide (b ≤ d))) (h : c ≤ a ∧ b ≤ d) : x = true := by rw [hx, decide_eq_true h.1, decide_eq_true h.2]; rfl

theorem in_ad {a b c d x y w p q r s : Int} (hp : p = if b + d ≤ tp w then a + c else 0) (hq : q = if b + d ≤ tp w then b + d else tp w) (hr : r = if y + d ≤ tp w then x + c else 0) (hs : s = if y + d ≤ tp w then y + d else tp w)
    (h1 : x ≤ a ∧ b ≤ y) (h2 : 0 ≤ x ∧ x ≤ y ∧ y < 18446744073709551616) (h3 : 0 ≤ c ∧ c ≤ d ∧ d < 18446744073709551616) : r ≤ p ∧ q ≤ s := by
  rcases ite_or hp hq with h | h <;> rcases ite_or hr hs with h' | h' <;> omega
theorem in_sb {a b c d x y w p q r s : Int} (hp : p = if a < d then 0 else a - d) (hq : q = if a < d then tp w else b - c) (hr : r = if x < d then 0 else x - d) (hs : s = if x < d then tp w else y - c)
    (h1 : x ≤ a ∧ b ≤ y) (h2 : 0 ≤ x ∧ x ≤ y ∧ y < 18446744073709551616) (h3 : 0 ≤ c ∧ c ≤ d ∧ d < 18446744073709551616) (hb : b ≤ tp w) : r ≤ p ∧ q ≤ s := by
  rcases ite_or hp hq with h | h <;> rcases ite_or hr hs with h' | h' <;> omega
theorem in_sb2 {a b c d x y w p q r s : Int} (hp : p = if c < b then 0 else c - b) (hq : q = if c < b then tp w else d - a) (hr : r = if c < y then 0 else c - y) (hs : s = if c < y then tp w else d - x)
    (h1 : x ≤ a ∧ b ≤ y) (h2 : 0 ≤ x ∧ x ≤ y ∧ y < 18446744073709551616) (h3 : 0 ≤ c ∧ c ≤ d ∧ d < 18446744073709551616) (h4 : 0 ≤ a ∧ a ≤ b ∧ b < 18446744073709551616) (hd : d ≤ tp w) : r ≤ p ∧ q ≤ s := by
  rcases ite_or hp hq with h | h <;> rcases ite_or hr hs with h' | h' <;> omega
theorem in_ml {a b c d x y w p q r s : Int} (hp : p = if b * d ≤ tp w then a * c else 0) (hq : q = if b * d ≤ tp w then b * d else tp w) (hr : r = if y * d ≤ tp w then x * c else 0) (hs : s = if y * d ≤ tp w then y * d else tp w)
    (h1 : x ≤ a ∧ b ≤ y) (h2 : 0 ≤ x ∧ x ≤ y ∧ y < 18446744073709551616) (h3 : 0 ≤ c ∧ c ≤ d ∧ d < 18446744073709551616) (h4 : 0 ≤ a ∧ a ≤ b ∧ b < 18446744073709551616) : r ≤ p ∧ q ≤ s := by
  have p1 : x * c ≤ a * c := Int.mul_le_mul_of_nonneg_right h1.1 h3.1
  have p2 : b * d ≤ y * d := Int.mul_le_mul_of_nonneg_right h1.2 (by omega)
  have p3 : 0 ≤ a * c := Int.mul_nonneg (by omega) (by omega)
  generalize x * c = P1 at *
  generalize a * c = P2 at *
  generalize b * d = P3 at *
  generalize y * d = P4 at *
  rcases ite_or hp hq with h | h <;> rcases ite_or hr hs with h' | h' <;> omega

set_option maxHeartbeats 20000000 in
theorem law (i0 i1 i2 i3 i4 i5 : Int) (b0 : Bool) (w0 : (Lit.int .u64 i0).wf = true) (w1 : (Lit.int .u64 i1).wf = true) (w2 : (Lit.int .u64 i2).wf = true) (w3 : (Lit.int .u64 i3).wf = true) (w4 : (Lit.int .u64 i4).wf = true) (w5 : (Lit.int .u64 i5).wf = true) : F7 [i0, i1, i2, i3, i4, i5] [b0] = some ([], [true]) := by
  have v0 := wf_u64 w0
  have v1 := wf_u64 w1
  have v2 := wf_u64 w2
  have v3 := wf_u64 w3
  have v4 := wf_u64 w4
  have v5 := wf_u64 w5
  refine Eq.trans (Fd_of (n := 6) (m := 1) (t := t7) (C := Tab.fn a7) rfl rfl) ?_
  rw [t7]
  refine st_0_1 (e7_9) (g := true) rfl (l := []) rfl (m := []) rfl (cl_t q9) fun b1 hb1 => ?_
  show T.den _ _ [i0, i1, i2, i3, i4, i5] [b0, b1] = _
  refine st_ite (fun hc => ?_) (fun hc => ?_)
  · replace hc : (!b1) = true := hc
    have c1 := hc
    clear hc
    refine st_ret ?_
    show some ([], [false]) = _
    exfalso
    rw [hb1] at c1; cases c1
  · replace hc : (!b1) = false := hc
    have c2 := hc
    clear hc
    refine st_ite (fun hc => ?_) (fun hc => ?_)
    · replace hc : b0 = true := hc
      have c3 := hc
      clear hc
      refine st_2_0 (e7_13) (g := true) rfl (l := [64]) rfl (m := []) rfl (cl_t (q13' 64)) fun i6 i7 hi6 hi7 => ?_
      show T.den _ _ [i0, i1, i2, i3, i4, i5, i6, i7] [b0, b1] = _
      have hT : i7 = tp 64 := hi7
      clear hi6 hi7
      have tb := tp_bd 64
      refine st_2_0 (e7_10) (g := true) rfl (l := [(arI .and .u64 i0 i7), (arI .and .u64 i1 i7)]) rfl (m := []) rfl (cl_t (q10 (arI .and .u64 i0 i7) (arI .and .u64 i1 i7))) fun i8 i9 hi8 hi9 => ?_
      show T.den _ _ [i0, i1, i2, i3, i4, i5, i6, i7, i8, i9] [b0, b1] = _
      have z0 := and_le i0 i7 v0.1 v0.2 (by omega) (by omega)
      have z1 := and_le i1 i7 v1.1 v1.2 (by omega) (by omega)
      have g_i8 : 0 ≤ i8 ∧ i8 ≤ i9 ∧ i9 < 18446744073709551616 := by omega
      have l_i9 : i9 ≤ tp 64 := by omega
      clear z0 z1 hi8 hi9
      refine st_2_0 (e7_10) (g := true) rfl (l := [(arI .and .u64 i2 i7), (arI .and .u64 i3 i7)]) rfl (m := []) rfl (cl_t (q10 (arI .and .u64 i2 i7) (arI .and .u64 i3 i7))) fun i10 i11 hi10 hi11 => ?_
      show T.den _ _ [i0, i1, i2, i3, i4, i5, i6, i7, i8, i9, i10, i11] [b0, b1] = _
      have z2 := and_le i2 i7 v2.1 v2.2 (by omega) (by omega)
      have z3 := and_le i3 i7 v3.1 v3.2 (by omega) (by omega)
      have g_i10 : 0 ≤ i10 ∧ i10 ≤ i11 ∧ i11 < 18446744073709551616 := by omega
      have l_i11 : i11 ≤ tp 64 := by omega
      clear z2 z3 hi10 hi11
      refine st_2_0 (e7_10) (g := true) rfl (l := [(arI .and .u64 i4 i7), (arI .and .u64 i5 i7)]) rfl (m := []) rfl (cl_t (q10 (arI .and .u64 i4 i7) (arI .and .u64 i5 i7))) fun i12 i13 hi12 hi13 => ?_
      show T.den _ _ [i0, i1, i2, i3, i4, i5, i6, i7, i8, i9, i10, i11, i12, i13] [b0, b1] = _
      have z4 := and_le i4 i7 v4.1 v4.2 (by omega) (by omega)
      have z5 := and_le i5 i7 v5.1 v5.2 (by omega) (by omega)
      have g_i12 : 0 ≤ i12 ∧ i12 ≤ i13 ∧ i13 < 18446744073709551616 := by omega
      have l_i13 : i13 ≤ tp 64 := by omega
      clear z4 z5 hi12 hi13
      refine st_2_0 (e7_12) (g := true) rfl (l := [i8, i9, i12, i13]) rfl (m := []) rfl (cl_t (q12 i8 i9 i12 i13)) fun i14 i15 hi14 hi15 => ?_
      show T.den _ _ [i0, i1, i2, i3, i4, i5, i6, i7, i8, i9, i10, i11, i12, i13, i14, i15] [b0, b1] = _
      have e1 : i14 ≤ i8 ∧ i9 ≤ i15 := by omega
      have g_i14 : 0 ≤ i14 ∧ i14 ≤ i15 ∧ i15 < 18446744073709551616 := by omega
      clear hi14 hi15
      refine st_2_0 (e7_18) (g := true) rfl (l := [i8, i9, i10, i11, 64]) rfl (m := []) rfl (cl_t (q18 i8 i9 i10 i11 64 g_i8.1 g_i8.2.1 g_i8.2.2 g_i10.1 g_i10.2.1 g_i10.2.2)) fun i16 i17 hi16 hi17 => ?_
      show T.den _ _ [i0, i1, i2, i3, i4, i5, i6, i7, i8, i9, i10, i11, i12, i13, i14, i15, i16, i17] [b0, b1] = _
      refine st_2_0 (e7_18) (g := true) rfl (l := [i14, i15, i10, i11, 64]) rfl (m := []) rfl (cl_t (q18 i14 i15 i10 i11 64 g_i14.1 g_i14.2.1 g_i14.2.2 g_i10.1 g_i10.2.1 g_i10.2.2)) fun i18 i19 hi18 hi19 => ?_
      show T.den _ _ [i0, i1, i2, i3, i4, i5, i6, i7, i8, i9, i10, i11, i12, i13, i14, i15, i16, i17, i18, i19] [b0, b1] = _
      refine st_0_1 (e7_11) (g := true) rfl (l := [i16, i17, i18, i19]) rfl (m := []) rfl (cl_t (q11 i16 i17 i18 i19)) fun b2 hb2 => ?_
      show T.den _ _ [i0, i1, i2, i3, i4, i5, i6, i7, i8, i9, i10, i11, i12, i13, i14, i15, i16, i17, i18, i19] [b0, b1, b2] = _
      have t2 : b2 = true := in2 hb2 (in_ad hi16 hi17 hi18 hi19 e1 g_i14 g_i10)
      refine st_2_0 (e7_19) (g := b2) rfl (l := [i8, i9, i10, i11, 64]) rfl (m := []) rfl (cl_2 (q19 i8 i9 i10 i11 64 g_i8.1 g_i8.2.1 g_i8.2.2 g_i10.1 g_i10.2.1 g_i10.2.2)) fun i20 i21 hi20 hi21 => ?_
      show T.den _ _ [i0, i1, i2, i3, i4, i5, i6, i7, i8, i9, i10, i11, i12, i13, i14, i15, i16, i17, i18, i19, i20, i21] [b0, b1, b2] = _
      simp only [t2, Bool.and_true, Bool.true_and, cond_true] at hi20 hi21
      refine st_2_0 (e7_19) (g := b2) rfl (l := [i14, i15, i10, i11, 64]) rfl (m := []) rfl (cl_2 (q19 i14 i15 i10 i11 64 g_i14.1 g_i14.2.1 g_i14.2.2 g_i10.1 g_i10.2.1 g_i10.2.2)) fun i22 i23 hi22 hi23 => ?_
      show T.den _ _ [i0, i1, i2, i3, i4, i5, i6, i7, i8, i9, i10, i11, i12, i13, i14, i15, i16, i17, i18, i19, i20, i21, i22, i23] [b0, b1, b2] = _
      simp only [t2, Bool.and_true, Bool.true_and, cond_true] at hi22 hi23
      refine st_0_1 (e7_11) (g := b2) rfl (l := [i20, i21, i22, i23]) rfl (m := []) rfl (cl_b (q11 i20 i21 i22 i23)) fun b3 hb3 => ?_
      show T.den _ _ [i0, i1, i2, i3, i4, i5, i6, i7, i8, i9, i10, i11, i12, i13, i14, i15, i16, i17, i18, i19, i20, i21, i22, i23] [b0, b1, b2, b3] = _
      simp only [t2, Bool.and_true, Bool.true_and, cond_true] at hb3
      have t3 : b3 = true := in2 hb3 (in_sb hi20 hi21 hi22 hi23 e1 g_i14 g_i10 l_i9)
      refine st_2_0 (e7_19) (g := (b2 && b3)) rfl (l := [i10, i11, i8, i9, 64]) rfl (m := []) rfl (cl_2 (q19 i10 i11 i8 i9 64 g_i10.1 g_i10.2.1 g_i10.2.2 g_i8.1 g_i8.2.1 g_i8.2.2)) fun i24 i25 hi24 hi25 => ?_
      show T.den _ _ [i0, i1, i2, i3, i4, i5, i6, i7, i8, i9, i10, i11, i12, i13, i14, i15, i16, i17, i18, i19, i20, i21, i22, i23, i24, i25] [b0, b1, b2, b3] = _
      simp only [t2, t3, Bool.and_true, Bool.true_and, cond_true] at hi24 hi25
      refine st_2_0 (e7_19) (g := (b2 && b3)) rfl (l := [i10, i11, i14, i15, 64]) rfl (m := []) rfl (cl_2 (q19 i10 i11 i14 i15 64 g_i10.1 g_i10.2.1 g_i10.2.2 g_i14.1 g_i14.2.1 g_i14.2.2)) fun i26 i27 hi26 hi27 => ?_
      show T.den _ _ [i0, i1, i2, i3, i4, i5, i6, i7, i8, i9, i10, i11, i12, i13, i14, i15, i16, i17, i18, i19, i20, i21, i22, i23, i24, i25, i26, i27] [b0, b1, b2, b3] = _
      simp only [t2, t3, Bool.and_true, Bool.true_and, cond_true] at hi26 hi27
      refine st_0_1 (e7_11) (g := (b2 && b3)) rfl (l := [i24, i25, i26, i27]) rfl (m := []) rfl (cl_b (q11 i24 i25 i26 i27)) fun b4 hb4 => ?_
      show T.den _ _ [i0, i1, i2, i3, i4, i5, i6, i7, i8, i9, i10, i11, i12, i13, i14, i15, i16, i17, i18, i19, i20, i21, i22, i23, i24, i25, i26, i27] [b0, b1, b2, b3, b4] = _
      simp only [t2, t3, Bool.and_true, Bool.true_and, cond_true] at hb4
      have t4 : b4 = true := in2 hb4 (in_sb2 hi24 hi25 hi26 hi27 e1 g_i14 g_i10 g_i8 l_i11)
      refine st_2_0 (e7_20) (g := ((b2 && b3) && b4)) rfl (l := [i8, i9, i10, i11, 64]) rfl (m := []) rfl (cl_2 (q20 i8 i9 i10 i11 64 g_i8.1 g_i8.2.1 g_i8.2.2 g_i10.1 g_i10.2.1 g_i10.2.2)) fun i28 i29 hi28 hi29 => ?_
      show T.den _ _ [i0, i1, i2, i3, i4, i5, i6, i7, i8, i9, i10, i11, i12, i13, i14, i15, i16, i17, i18, i19, i20, i21, i22, i23, i24, i25, i26, i27, i28, i29] [b0, b1, b2, b3, b4] = _
      simp only [t2, t3, t4, Bool.and_true, Bool.true_and, cond_true] at hi28 hi29
      refine st_2_0 (e7_20) (g := ((b2 && b3) && b4)) rfl (l := [i14, i15, i10, i11, 64]) rfl (m := []) rfl (cl_2 (q20 i14 i15 i10 i11 64 g_i14.1 g_i14.2.1 g_i14.2.2 g_i10.1 g_i10.2.1 g_i10.2.2)) fun i30 i31 hi30 hi31 => ?_
      show T.den _ _ [i0, i1, i2, i3, i4, i5, i6, i7, i8, i9, i10, i11, i12, i13, i14, i15, i16, i17, i18, i19, i20, i21, i22, i23, i24, i25, i26, i27, i28, i29, i30, i31] [b0, b1, b2, b3, b4] = _
      simp only [t2, t3, t4, Bool.and_true, Bool.true_and, cond_true] at hi30 hi31
      refine st_0_1 (e7_11) (g := ((b2 && b3) && b4)) rfl (l := [i28, i29, i30, i31]) rfl (m := []) rfl (cl_b (q11 i28 i29 i30 i31)) fun b5 hb5 => ?_
      show T.den _ _ [i0, i1, i2, i3, i4, i5, i6, i7, i8, i9, i10, i11, i12, i13, i14, i15, i16, i17, i18, i19, i20, i21, i22, i23, i24, i25, i26, i27, i28, i29, i30, i31] [b0, b1, b2, b3, b4, b5] = _
      simp only [t2, t3, t4, Bool.and_true, Bool.true_and, cond_true] at hb5
      have t5 : b5 = true := in2 hb5 (in_ml hi28 hi29 hi30 hi31 e1 g_i14 g_i10 g_i8)
      refine st_lb fun b6 hb6 => ?_
      replace hb6 : b6 = (((b2 && b3) && b4) && b5) := hb6
      show T.den _ _ [i0, i1, i2, i3, i4, i5, i6, i7, i8, i9, i10, i11, i12, i13, i14, i15, i16, i17, i18, i19, i20, i21, i22, i23, i24, i25, i26, i27, i28, i29, i30, i31] [b0, b1, b2, b3, b4, b5, b6] = _
      refine st_2_0 (e7_12) (g := b6) rfl (l := [i8, i9, i10, i11]) rfl (m := []) rfl (cl_2 (q12 i8 i9 i10 i11)) fun i32 i33 hi32 hi33 => ?_
      show T.den _ _ [i0, i1, i2, i3, i4, i5, i6, i7, i8, i9, i10, i11, i12, i13, i14, i15, i16, i17, i18, i19, i20, i21, i22, i23, i24, i25, i26, i27, i28, i29, i30, i31, i32, i33] [b0, b1, b2, b3, b4, b5, b6] = _
      have t6 : b6 = true := by rw [hb6, t2, t3, t4, t5]; rfl
      simp only [t6, Bool.and_true, Bool.true_and, cond_true] at hi32 hi33
      refine st_2_0 (e7_12) (g := b6) rfl (l := [i14, i15, i10, i11]) rfl (m := []) rfl (cl_2 (q12 i14 i15 i10 i11)) fun i34 i35 hi34 hi35 => ?_
      show T.den _ _ [i0, i1, i2, i3, i4, i5, i6, i7, i8, i9, i10, i11, i12, i13, i14, i15, i16, i17, i18, i19, i20, i21, i22, i23, i24, i25, i26, i27, i28, i29, i30, i31, i32, i33, i34, i35] [b0, b1, b2, b3, b4, b5, b6] = _
      simp only [t6, Bool.and_true, Bool.true_and, cond_true] at hi34 hi35
      refine st_0_1 (e7_11) (g := b6) rfl (l := [i32, i33, i34, i35]) rfl (m := []) rfl (cl_b (q11 i32 i33 i34 i35)) fun b7 hb7 => ?_
      show T.den _ _ [i0, i1, i2, i3, i4, i5, i6, i7, i8, i9, i10, i11, i12, i13, i14, i15, i16, i17, i18, i19, i20, i21, i22, i23, i24, i25, i26, i27, i28, i29, i30, i31, i32, i33, i34, i35] [b0, b1, b2, b3, b4, b5, b6, b7] = _
      simp only [t6, Bool.and_true, Bool.true_and, cond_true] at hb7
      have t7 : b7 = true := in2 hb7 (by rw [hi32, hi33, hi34, hi35]; clear hi32 hi33 hi34 hi35; omega)
      refine st_2_0 (e7_18) (g := (b6 && b7)) rfl (l := [i8, i9, i10, i11, 64]) rfl (m := []) rfl (cl_2 (q18 i8 i9 i10 i11 64 g_i8.1 g_i8.2.1 g_i8.2.2 g_i10.1 g_i10.2.1 g_i10.2.2)) fun i36 i37 hi36 hi37 => ?_
      show T.den _ _ [i0, i1, i2, i3, i4, i5, i6, i7, i8, i9, i10, i11, i12, i13, i14, i15, i16, i17, i18, i19, i20, i21, i22, i23, i24, i25, i26, i27, i28, i29, i30, i31, i32, i33, i34, i35, i36, i37] [b0, b1, b2, b3, b4, b5, b6, b7] = _
      simp only [t6, t7, Bool.and_true, Bool.true_and, cond_true] at hi36 hi37
      refine st_2_0 (e7_18) (g := (b6 && b7)) rfl (l := [i10, i11, i8, i9, 64]) rfl (m := []) rfl (cl_2 (q18 i10 i11 i8 i9 64 g_i10.1 g_i10.2.1 g_i10.2.2 g_i8.1 g_i8.2.1 g_i8.2.2)) fun i38 i39 hi38 hi39 => ?_
      show T.den _ _ [i0, i1, i2, i3, i4, i5, i6, i7, i8, i9, i10, i11, i12, i13, i14, i15, i16, i17, i18, i19, i20, i21, i22, i23, i24, i25, i26, i27, i28, i29, i30, i31, i32, i33, i34, i35, i36, i37, i38, i39] [b0, b1, b2, b3, b4, b5, b6, b7] = _
      simp only [t6, t7, Bool.and_true, Bool.true_and, cond_true] at hi38 hi39
      refine st_lb fun b8 hb8 => ?_
      replace hb8 : b8 = ((i36 == i38) && (i37 == i39)) := hb8
      show T.den _ _ [i0, i1, i2, i3, i4, i5, i6, i7, i8, i9, i10, i11, i12, i13, i14, i15, i16, i17, i18, i19, i20, i21, i22, i23, i24, i25, i26, i27, i28, i29, i30, i31, i32, i33, i34, i35, i36, i37, i38, i39] [b0, b1, b2, b3, b4, b5, b6, b7, b8] = _
      refine st_2_0 (e7_20) (g := ((b6 && b7) && b8)) rfl (l := [i8, i9, i10, i11, 64]) rfl (m := []) rfl (cl_2 (q20 i8 i9 i10 i11 64 g_i8.1 g_i8.2.1 g_i8.2.2 g_i10.1 g_i10.2.1 g_i10.2.2)) fun i40 i41 hi40 hi41 => ?_
      show T.den _ _ [i0, i1, i2, i3, i4, i5, i6, i7, i8, i9, i10, i11, i12, i13, i14, i15, i16, i17, i18, i19, i20, i21, i22, i23, i24, i25, i26, i27, i28, i29, i30, i31, i32, i33, i34, i35, i36, i37, i38, i39, i40, i41] [b0, b1, b2, b3, b4, b5, b6, b7, b8] = _
      have t8 : b8 = true := eq2 hb8 hi36 hi37 hi38 hi39 (by rw [Int.add_comm i11 i9, Int.add_comm i10 i8]) (by rw [Int.add_comm i11 i9])
      simp only [t6, t7, t8, Bool.and_true, Bool.true_and, cond_true] at hi40 hi41
      refine st_2_0 (e7_20) (g := ((b6 && b7) && b8)) rfl (l := [i10, i11, i8, i9, 64]) rfl (m := []) rfl (cl_2 (q20 i10 i11 i8 i9 64 g_i10.1 g_i10.2.1 g_i10.2.2 g_i8.1 g_i8.2.1 g_i8.2.2)) fun i42 i43 hi42 hi43 => ?_
      show T.den _ _ [i0, i1, i2, i3, i4, i5, i6, i7, i8, i9, i10, i11, i12, i13, i14, i15, i16, i17, i18, i19, i20, i21, i22, i23, i24, i25, i26, i27, i28, i29, i30, i31, i32, i33, i34, i35, i36, i37, i38, i39, i40, i41, i42, i43] [b0, b1, b2, b3, b4, b5, b6, b7, b8] = _
      simp only [t6, t7, t8, Bool.and_true, Bool.true_and, cond_true] at hi42 hi43
      refine st_lb fun b9 hb9 => ?_
      replace hb9 : b9 = ((i40 == i42) && (i41 == i43)) := hb9
      show T.den _ _ [i0, i1, i2, i3, i4, i5, i6, i7, i8, i9, i10, i11, i12, i13, i14, i15, i16, i17, i18, i19, i20, i21, i22, i23, i24, i25, i26, i27, i28, i29, i30, i31, i32, i33, i34, i35, i36, i37, i38, i39, i40, i41, i42, i43] [b0, b1, b2, b3, b4, b5, b6, b7, b8, b9] = _
      refine st_lb fun b10 hb10 => ?_
      replace hb10 : b10 = (((b6 && b7) && b8) && b9) := hb10
      show T.den _ _ [i0, i1, i2, i3, i4, i5, i6, i7, i8, i9, i10, i11, i12, i13, i14, i15, i16, i17, i18, i19, i20, i21, i22, i23, i24, i25, i26, i27, i28, i29, i30, i31, i32, i33, i34, i35, i36, i37, i38, i39, i40, i41, i42, i43] [b0, b1, b2, b3, b4, b5, b6, b7, b8, b9, b10] = _
      refine st_2_0 (e7_23) (g := b10) rfl (l := [i8, i9, i10, i11]) rfl (m := []) rfl (cl_2 (q23 i8 i9 i10 i11)) fun i44 i45 hi44 hi45 => ?_
      show T.den _ _ [i0, i1, i2, i3, i4, i5, i6, i7, i8, i9, i10, i11, i12, i13, i14, i15, i16, i17, i18, i19, i20, i21, i22, i23, i24, i25, i26, i27, i28, i29, i30, i31, i32, i33, i34, i35, i36, i37, i38, i39, i40, i41, i42, i43, i44, i45] [b0, b1, b2, b3, b4, b5, b6, b7, b8, b9, b10] = _
      have t9 : b9 = true := eq2 hb9 hi40 hi41 hi42 hi43 (by rw [Int.mul_comm i11 i9, Int.mul_comm i10 i8]) (by rw [Int.mul_comm i11 i9])
      have t10 : b10 = true := by rw [hb10, t6, t7, t8, t9]; rfl
      simp only [t10, Bool.and_true, Bool.true_and, cond_true] at hi44 hi45
      refine st_2_0 (e7_23) (g := b10) rfl (l := [i10, i11, i8, i9]) rfl (m := []) rfl (cl_2 (q23 i10 i11 i8 i9)) fun i46 i47 hi46 hi47 => ?_
      show T.den _ _ [i0, i1, i2, i3, i4, i5, i6, i7, i8, i9, i10, i11, i12, i13, i14, i15, i16, i17, i18, i19, i20, i21, i22, i23, i24, i25, i26, i27, i28, i29, i30, i31, i32, i33, i34, i35, i36, i37, i38, i39, i40, i41, i42, i43, i44, i45, i46, i47] [b0, b1, b2, b3, b4, b5, b6, b7, b8, b9, b10] = _
      simp only [t10, Bool.and_true, Bool.true_and, cond_true] at hi46 hi47
      refine st_lb fun b11 hb11 => ?_
      replace hb11 : b11 = ((i44 == i46) && (i45 == i47)) := hb11
      show T.den _ _ [i0, i1, i2, i3, i4, i5, i6, i7, i8, i9, i10, i11, i12, i13, i14, i15, i16, i17, i18, i19, i20, i21, i22, i23, i24, i25, i26, i27, i28, i29, i30, i31, i32, i33, i34, i35, i36, i37, i38, i39, i40, i41, i42, i43, i44, i45, i46, i47] [b0, b1, b2, b3, b4, b5, b6, b7, b8, b9, b10, b11] = _
      refine st_2_0 (e7_24) (g := (b10 && b11)) rfl (l := [i8, i9, i10, i11]) rfl (m := []) rfl (cl_2 (q24 i8 i9 i10 i11 g_i8.1 g_i8.2.1 g_i8.2.2 g_i10.1 g_i10.2.1 g_i10.2.2)) fun i48 i49 hi48 hi49 => ?_
      show T.den _ _ [i0, i1, i2, i3, i4, i5, i6, i7, i8, i9, i10, i11, i12, i13, i14, i15, i16, i17, i18, i19, i20, i21, i22, i23, i24, i25, i26, i27, i28, i29, i30, i31, i32, i33, i34, i35, i36, i37, i38, i39, i40, i41, i42, i43, i44, i45, i46, i47, i48, i49] [b0, b1, b2, b3, b4, b5, b6, b7, b8, b9, b10, b11] = _
      have t11 : b11 = true := eq2 hb11 hi44 hi45 hi46 hi47 (anL_co _ _ _ _).symm (anH_co _ _ _ _).symm
      simp only [t10, t11, Bool.and_true, Bool.true_and, cond_true] at hi48 hi49
      refine st_2_0 (e7_24) (g := (b10 && b11)) rfl (l := [i10, i11, i8, i9]) rfl (m := []) rfl (cl_2 (q24 i10 i11 i8 i9 g_i10.1 g_i10.2.1 g_i10.2.2 g_i8.1 g_i8.2.1 g_i8.2.2)) fun i50 i51 hi50 hi51 => ?_
      show T.den _ _ [i0, i1, i2, i3, i4, i5, i6, i7, i8, i9, i10, i11, i12, i13, i14, i15, i16, i17, i18, i19, i20, i21, i22, i23, i24, i25, i26, i27, i28, i29, i30, i31, i32, i33, i34, i35, i36, i37, i38, i39, i40, i41, i42, i43, i44, i45, i46, i47, i48, i49, i50, i51] [b0, b1, b2, b3, b4, b5, b6, b7, b8, b9, b10, b11] = _
      simp only [t10, t11, Bool.and_true, Bool.true_and, cond_true] at hi50 hi51
      refine st_lb fun b12 hb12 => ?_
      replace hb12 : b12 = ((i48 == i50) && (i49 == i51)) := hb12
      show T.den _ _ [i0, i1, i2, i3, i4, i5, i6, i7, i8, i9, i10, i11, i12, i13, i14, i15, i16, i17, i18, i19, i20, i21, i22, i23, i24, i25, i26, i27, i28, i29, i30, i31, i32, i33, i34, i35, i36, i37, i38, i39, i40, i41, i42, i43, i44, i45, i46, i47, i48, i49, i50, i51] [b0, b1, b2, b3, b4, b5, b6, b7, b8, b9, b10, b11, b12] = _
      refine st_ret ?_
      show some ([], [((b10 && b11) && b12)]) = _
      have t12 : b12 = true := eq2 hb12 hi48 hi49 hi50 hi51 (orL_co _ _ _ _).symm (orH_co _ _ _ _).symm
      rw [t10, t11, t12]; rfl
    · replace hc : b0 = false := hc
      have c4 := hc
      clear hc
      refine st_2_0 (e7_13) (g := true) rfl (l := [32]) rfl (m := []) rfl (cl_t (q13' 32)) fun i6 i7 hi6 hi7 => ?_
      show T.den _ _ [i0, i1, i2, i3, i4, i5, i6, i7] [b0, b1] = _
      have hT : i7 = tp 32 := hi7
      clear hi6 hi7
      have tb := tp_bd 32
      refine st_2_0 (e7_10) (g := true) rfl (l := [(arI .and .u64 i0 i7), (arI .and .u64 i1 i7)]) rfl (m := []) rfl (cl_t (q10 (arI .and .u64 i0 i7) (arI .and .u64 i1 i7))) fun i8 i9 hi8 hi9 => ?_
      show T.den _ _ [i0, i1, i2, i3, i4, i5, i6, i7, i8, i9] [b0, b1] = _
      have z0 := and_le i0 i7 v0.1 v0.2 (by omega) (by omega)
      have z1 := and_le i1 i7 v1.1 v1.2 (by omega) (by omega)
      have g_i8 : 0 ≤ i8 ∧ i8 ≤ i9 ∧ i9 < 18446744073709551616 := by omega
      have l_i9 : i9 ≤ tp 32 := by omega
      clear z0 z1 hi8 hi9
      refine st_2_0 (e7_10) (g := true) rfl (l := [(arI .and .u64 i2 i7), (arI .and .u64 i3 i7)]) rfl (m := []) rfl (cl_t (q10 (arI .and .u64 i2 i7) (arI .and .u64 i3 i7))) fun i10 i11 hi10 hi11 => ?_
      show T.den _ _ [i0, i1, i2, i3, i4, i5, i6, i7, i8, i9, i10, i11] [b0, b1] = _
      have z2 := and_le i2 i7 v2.1 v2.2 (by omega) (by omega)
      have z3 := and_le i3 i7 v3.1 v3.2 (by omega) (by omega)
      have g_i10 : 0 ≤ i10 ∧ i10 ≤ i11 ∧ i11 < 18446744073709551616 := by omega
      have l_i11 : i11 ≤ tp 32 := by omega
      clear z2 z3 hi10 hi11
      refine st_2_0 (e7_10) (g := true) rfl (l := [(arI .and .u64 i4 i7), (arI .and .u64 i5 i7)]) rfl (m := []) rfl (cl_t (q10 (arI .and .u64 i4 i7) (arI .and .u64 i5 i7))) fun i12 i13 hi12 hi13 => ?_
      show T.den _ _ [i0, i1, i2, i3, i4, i5, i6, i7, i8, i9, i10, i11, i12, i13] [b0, b1] = _
      have z4 := and_le i4 i7 v4.1 v4.2 (by omega) (by omega)
      have z5 := and_le i5 i7 v5.1 v5.2 (by omega) (by omega)
      have g_i12 : 0 ≤ i12 ∧ i12 ≤ i13 ∧ i13 < 18446744073709551616 := by omega
      have l_i13 : i13 ≤ tp 32 := by omega
      clear z4 z5 hi12 hi13
      refine st_2_0 (e7_12) (g := true) rfl (l := [i8, i9, i12, i13]) rfl (m := []) rfl (cl_t (q12 i8 i9 i12 i13)) fun i14 i15 hi14 hi15 => ?_
      show T.den _ _ [i0, i1, i2, i3, i4, i5, i6, i7, i8, i9, i10, i11, i12, i13, i14, i15] [b0, b1] = _
      have e1 : i14 ≤ i8 ∧ i9 ≤ i15 := by omega
      have g_i14 : 0 ≤ i14 ∧ i14 ≤ i15 ∧ i15 < 18446744073709551616 := by omega
      clear hi14 hi15
      refine st_2_0 (e7_18) (g := true) rfl (l := [i8, i9, i10, i11, 32]) rfl (m := []) rfl (cl_t (q18 i8 i9 i10 i11 32 g_i8.1 g_i8.2.1 g_i8.2.2 g_i10.1 g_i10.2.1 g_i10.2.2)) fun i16 i17 hi16 hi17 => ?_
      show T.den _ _ [i0, i1, i2, i3, i4, i5, i6, i7, i8, i9, i10, i11, i12, i13, i14, i15, i16, i17] [b0, b1] = _
      refine st_2_0 (e7_18) (g := true) rfl (l := [i14, i15, i10, i11, 32]) rfl (m := []) rfl (cl_t (q18 i14 i15 i10 i11 32 g_i14.1 g_i14.2.1 g_i14.2.2 g_i10.1 g_i10.2.1 g_i10.2.2)) fun i18 i19 hi18 hi19 => ?_
      show T.den _ _ [i0, i1, i2, i3, i4, i5, i6, i7, i8, i9, i10, i11, i12, i13, i14, i15, i16, i17, i18, i19] [b0, b1] = _
      refine st_0_1 (e7_11) (g := true) rfl (l := [i16, i17, i18, i19]) rfl (m := []) rfl (cl_t (q11 i16 i17 i18 i19)) fun b2 hb2 => ?_
      show T.den _ _ [i0, i1, i2, i3, i4, i5, i6, i7, i8, i9, i10, i11, i12, i13, i14, i15, i16, i17, i18, i19] [b0, b1, b2] = _
      have t2 : b2 = true := in2 hb2 (in_ad hi16 hi17 hi18 hi19 e1 g_i14 g_i10)
      refine st_2_0 (e7_19) (g := b2) rfl (l := [i8, i9, i10, i11, 32]) rfl (m := []) rfl (cl_2 (q19 i8 i9 i10 i11 32 g_i8.1 g_i8.2.1 g_i8.2.2 g_i10.1 g_i10.2.1 g_i10.2.2)) fun i20 i21 hi20 hi21 => ?_
      show T.den _ _ [i0, i1, i2, i3, i4, i5, i6, i7, i8, i9, i10, i11, i12, i13, i14, i15, i16, i17, i18, i19, i20, i21] [b0, b1, b2] = _
      simp only [t2, Bool.and_true, Bool.true_and, cond_true] at hi20 hi21
      refine st_2_0 (e7_19) (g := b2) rfl (l := [i14, i15, i10, i11, 32]) rfl (m := []) rfl (cl_2 (q19 i14 i15 i10 i11 32 g_i14.1 g_i14.2.1 g_i14.2.2 g_i10.1 g_i10.2.1 g_i10.2.2)) fun i22 i23 hi22 hi23 => ?_
      show T.den _ _ [i0, i1, i2, i3, i4, i5, i6, i7, i8, i9, i10, i11, i12, i13, i14, i15, i16, i17, i18, i19, i20, i21, i22, i23] [b0, b1, b2] = _
      simp only [t2, Bool.and_true, Bool.true_and, cond_true] at hi22 hi23
      refine st_0_1 (e7_11) (g := b2) rfl (l := [i20, i21, i22, i23]) rfl (m := []) rfl (cl_b (q11 i20 i21 i22 i23)) fun b3 hb3 => ?_
      show T.den _ _ [i0, i1, i2, i3, i4, i5, i6, i7, i8, i9, i10, i11, i12, i13, i14, i15, i16, i17, i18, i19, i20, i21, i22, i23] [b0, b1, b2, b3] = _
      simp only [t2, Bool.and_true, Bool.true_and, cond_true] at hb3
      have t3 : b3 = true := in2 hb3 (in_sb hi20 hi21 hi22 hi23 e1 g_i14 g_i10 l_i9)
      refine st_2_0 (e7_19) (g := (b2 && b3)) rfl (l := [i10, i11, i8, i9, 32]) rfl (m := []) rfl (cl_2 (q19 i10 i11 i8 i9 32 g_i10.1 g_i10.2.1 g_i10.2.2 g_i8.1 g_i8.2.1 g_i8.2.2)) fun i24 i25 hi24 hi25 => ?_
      show T.den _ _ [i0, i1, i2, i3, i4, i5, i6, i7, i8, i9, i10, i11, i12, i13, i14, i15, i16, i17, i18, i19, i20, i21, i22, i23, i24, i25] [b0, b1, b2, b3] = _
      simp only [t2, t3, Bool.and_true, Bool.true_and, cond_true] at hi24 hi25
      refine st_2_0 (e7_19) (g := (b2 && b3)) rfl (l := [i10, i11, i14, i15, 32]) rfl (m := []) rfl (cl_2 (q19 i10 i11 i14 i15 32 g_i10.1 g_i10.2.1 g_i10.2.2 g_i14.1 g_i14.2.1 g_i14.2.2)) fun i26 i27 hi26 hi27 => ?_
      show T.den _ _ [i0, i1, i2, i3, i4, i5, i6, i7, i8, i9, i10, i11, i12, i13, i14, i15, i16, i17, i18, i19, i20, i21, i22, i23, i24, i25, i26, i27] [b0, b1, b2, b3] = _
      simp only [t2, t3, Bool.and_true, Bool.true_and, cond_true] at hi26 hi27
      refine st_0_1 (e7_11) (g := (b2 && b3)) rfl (l := [i24, i25, i26, i27]) rfl (m := []) rfl (cl_b (q11 i24 i25 i26 i27)) fun b4 hb4 => ?_
      show T.den _ _ [i0, i1, i2, i3, i4, i5, i6, i7, i8, i9, i10, i11, i12, i13, i14, i15, i16, i17, i18, i19, i20, i21, i22, i23, i24, i25, i26, i27] [b0, b1, b2, b3, b4] = _
      simp only [t2, t3, Bool.and_true, Bool.true_and, cond_true] at hb4
      have t4 : b4 = true := in2 hb4 (in_sb2 hi24 hi25 hi26 hi27 e1 g_i14 g_i10 g_i8 l_i11)
      refine st_2_0 (e7_20) (g := ((b2 && b3) && b4)) rfl (l := [i8, i9, i10, i11, 32]) rfl (m := []) rfl (cl_2 (q20 i8 i9 i10 i11 32 g_i8.1 g_i8.2.1 g_i8.2.2 g_i10.1 g_i10.2.1 g_i10.2.2)) fun i28 i29 hi28 hi29 => ?_
      show T.den _ _ [i0, i1, i2, i3, i4, i5, i6, i7, i8, i9, i10, i11, i12, i13, i14, i15, i16, i17, i18, i19, i20, i21, i22, i23, i24, i25, i26, i27, i28, i29] [b0, b1, b2, b3, b4] = _
      simp only [t2, t3, t4, Bool.and_true, Bool.true_and, cond_true] at hi28 hi29
      refine st_2_0 (e7_20) (g := ((b2 && b3) && b4)) rfl (l := [i14, i15, i10, i11, 32]) rfl (m := []) rfl (cl_2 (q20 i14 i15 i10 i11 32 g_i14.1 g_i14.2.1 g_i14.2.2 g_i10.1 g_i10.2.1 g_i10.2.2)) fun i30 i31 hi30 hi31 => ?_
      show T.den _ _ [i0, i1, i2, i3, i4, i5, i6, i7, i8, i9, i10, i11, i12, i13, i14, i15, i16, i17, i18, i19, i20, i21, i22, i23, i24, i25, i26, i27, i28, i29, i30, i31] [b0, b1, b2, b3, b4] = _
      simp only [t2, t3, t4, Bool.and_true, Bool.true_and, cond_true] at hi30 hi31
      refine st_0_1 (e7_11) (g := ((b2 && b3) && b4)) rfl (l := [i28, i29, i30, i31]) rfl (m := []) rfl (cl_b (q11 i28 i29 i30 i31)) fun b5 hb5 => ?_
      show T.den _ _ [i0, i1, i2, i3, i4, i5, i6, i7, i8, i9, i10, i11, i12, i13, i14, i15, i16, i17, i18, i19, i20, i21, i22, i23, i24, i25, i26, i27, i28, i29, i30, i31] [b0, b1, b2, b3, b4, b5] = _
      simp only [t2, t3, t4, Bool.and_true, Bool.true_and, cond_true] at hb5
      have t5 : b5 = true := in2 hb5 (in_ml hi28 hi29 hi30 hi31 e1 g_i14 g_i10 g_i8)
      refine st_lb fun b6 hb6 => ?_
      replace hb6 : b6 = (((b2 && b3) && b4) && b5) := hb6
      show T.den _ _ [i0, i1, i2, i3, i4, i5, i6, i7, i8, i9, i10, i11, i12, i13, i14, i15, i16, i17, i18, i19, i20, i21, i22, i23, i24, i25, i26, i27, i28, i29, i30, i31] [b0, b1, b2, b3, b4, b5, b6] = _
      refine st_2_0 (e7_12) (g := b6) rfl (l := [i8, i9, i10, i11]) rfl (m := []) rfl (cl_2 (q12 i8 i9 i10 i11)) fun i32 i33 hi32 hi33 => ?_
      show T.den _ _ [i0, i1, i2, i3, i4, i5, i6, i7, i8, i9, i10, i11, i12, i13, i14, i15, i16, i17, i18, i19, i20, i21, i22, i23, i24, i25, i26, i27, i28, i29, i30, i31, i32, i33] [b0, b1, b2, b3, b4, b5, b6] = _
      have t6 : b6 = true := by rw [hb6, t2, t3, t4, t5]; rfl
      simp only [t6, Bool.and_true, Bool.true_and, cond_true] at hi32 hi33
      refine st_2_0 (e7_12) (g := b6) rfl (l := [i14, i15, i10, i11]) rfl (m := []) rfl (cl_2 (q12 i14 i15 i10 i11)) fun i34 i35 hi34 hi35 => ?_
      show T.den _ _ [i0, i1, i2, i3, i4, i5, i6, i7, i8, i9, i10, i11, i12, i13, i14, i15, i16, i17, i18, i19, i20, i21, i22, i23, i24, i25, i26, i27, i28, i29, i30, i31, i32, i33, i34, i35] [b0, b1, b2, b3, b4, b5, b6] = _
      simp only [t6, Bool.and_true, Bool.true_and, cond_true] at hi34 hi35
      refine st_0_1 (e7_11) (g := b6) rfl (l := [i32, i33, i34, i35]) rfl (m := []) rfl (cl_b (q11 i32 i33 i34 i35)) fun b7 hb7 => ?_
      show T.den _ _ [i0, i1, i2, i3, i4, i5, i6, i7, i8, i9, i10, i11, i12, i13, i14, i15, i16, i17, i18, i19, i20, i21, i22, i23, i24, i25, i26, i27, i28, i29, i30, i31, i32, i33, i34, i35] [b0, b1, b2, b3, b4, b5, b6, b7] = _
      simp only [t6, Bool.and_true, Bool.true_and, cond_true] at hb7
      have t7 : b7 = true := in2 hb7 (by rw [hi32, hi33, hi34, hi35]; clear hi32 hi33 hi34 hi35; omega)
      refine st_2_0 (e7_18) (g := (b6 && b7)) rfl (l := [i8, i9, i10, i11, 32]) rfl (m := []) rfl (cl_2 (q18 i8 i9 i10 i11 32 g_i8.1 g_i8.2.1 g_i8.2.2 g_i10.1 g_i10.2.1 g_i10.2.2)) fun i36 i37 hi36 hi37 => ?_
      show T.den _ _ [i0, i1, i2, i3, i4, i5, i6, i7, i8, i9, i10, i11, i12, i13, i14, i15, i16, i17, i18, i19, i20, i21, i22, i23, i24, i25, i26, i27, i28, i29, i30, i31, i32, i33, i34, i35, i36, i37] [b0, b1, b2, b3, b4, b5, b6, b7] = _
      simp only [t6, t7, Bool.and_true, Bool.true_and, cond_true] at hi36 hi37
      refine st_2_0 (e7_18) (g := (b6 && b7)) rfl (l := [i10, i11, i8, i9, 32]) rfl (m := []) rfl (cl_2 (q18 i10 i11 i8 i9 32 g_i10.1 g_i10.2.1 g_i10.2.2 g_i8.1 g_i8.2.1 g_i8.2.2)) fun i38 i39 hi38 hi39 => ?_
      show T.den _ _ [i0, i1, i2, i3, i4, i5, i6, i7, i8, i9, i10, i11, i12, i13, i14, i15, i16, i17, i18, i19, i20, i21, i22, i23, i24, i25, i26, i27, i28, i29, i30, i31, i32, i33, i34, i35, i36, i37, i38, i39] [b0, b1, b2, b3, b4, b5, b6, b7] = _
      simp only [t6, t7, Bool.and_true, Bool.true_and, cond_true] at hi38 hi39
      refine st_lb fun b8 hb8 => ?_
      replace hb8 : b8 = ((i36 == i38) && (i37 == i39)) := hb8
      show T.den _ _ [i0, i1, i2, i3, i4, i5, i6, i7, i8, i9, i10, i11, i12, i13, i14, i15, i16, i17, i18, i19, i20, i21, i22, i23, i24, i25, i26, i27, i28, i29, i30, i31, i32, i33, i34, i35, i36, i37, i38, i39] [b0, b1, b2, b3, b4, b5, b6, b7, b8] = _
      refine st_2_0 (e7_20) (g := ((b6 && b7) && b8)) rfl (l := [i8, i9, i10, i11, 32]) rfl (m := []) rfl (cl_2 (q20 i8 i9 i10 i11 32 g_i8.1 g_i8.2.1 g_i8.2.2 g_i10.1 g_i10.2.1 g_i10.2.2)) fun i40 i41 hi40 hi41 => ?_
      show T.den _ _ [i0, i1, i2, i3, i4, i5, i6, i7, i8, i9, i10, i11, i12, i13, i14, i15, i16, i17, i18, i19, i20, i21, i22, i23, i24, i25, i26, i27, i28, i29, i30, i31, i32, i33, i34, i35, i36, i37, i38, i39, i40, i41] [b0, b1, b2, b3, b4, b5, b6, b7, b8] = _
      have t8 : b8 = true := eq2 hb8 hi36 hi37 hi38 hi39 (by rw [Int.add_comm i11 i9, Int.add_comm i10 i8]) (by rw [Int.add_comm i11 i9])
      simp only [t6, t7, t8, Bool.and_true, Bool.true_and, cond_true] at hi40 hi41
      refine st_2_0 (e7_20) (g := ((b6 && b7) && b8)) rfl (l := [i10, i11, i8, i9, 32]) rfl (m := []) rfl (cl_2 (q20 i10 i11 i8 i9 32 g_i10.1 g_i10.2.1 g_i10.2.2 g_i8.1 g_i8.2.1 g_i8.2.2)) fun i42 i43 hi42 hi43 => ?_
      show T.den _ _ [i0, i1, i2, i3, i4, i5, i6, i7, i8, i9, i10, i11, i12, i13, i14, i15, i16, i17, i18, i19, i20, i21, i22, i23, i24, i25, i26, i27, i28, i29, i30, i31, i32, i33, i34, i35, i36, i37, i38, i39, i40, i41, i42, i43] [b0, b1, b2, b3, b4, b5, b6, b7, b8] = _
      simp only [t6, t7, t8, Bool.and_true, Bool.true_and, cond_true] at hi42 hi43
      refine st_lb fun b9 hb9 => ?_
      replace hb9 : b9 = ((i40 == i42) && (i41 == i43)) := hb9
      show T.den _ _ [i0, i1, i2, i3, i4, i5, i6, i7, i8, i9, i10, i11, i12, i13, i14, i15, i16, i17, i18, i19, i20, i21, i22, i23, i24, i25, i26, i27, i28, i29, i30, i31, i32, i33, i34, i35, i36, i37, i38, i39, i40, i41, i42, i43] [b0, b1, b2, b3, b4, b5, b6, b7, b8, b9] = _
      refine st_lb fun b10 hb10 => ?_
      replace hb10 : b10 = (((b6 && b7) && b8) && b9) := hb10
      show T.den _ _ [i0, i1, i2, i3, i4, i5, i6, i7, i8, i9, i10, i11, i12, i13, i14, i15, i16, i17, i18, i19, i20, i21, i22, i23, i24, i25, i26, i27, i28, i29, i30, i31, i32, i33, i34, i35, i36, i37, i38, i39, i40, i41, i42, i43] [b0, b1, b2, b3, b4, b5, b6, b7, b8, b9, b10] = _
      refine st_2_0 (e7_23) (g := b10) rfl (l := [i8, i9, i10, i11]) rfl (m := []) rfl (cl_2 (q23 i8 i9 i10 i11)) fun i44 i45 hi44 hi45 => ?_
      show T.den _ _ [i0, i1, i2, i3, i4, i5, i6, i7, i8, i9, i10, i11, i12, i13, i14, i15, i16, i17, i18, i19, i20, i21, i22, i23, i24, i25, i26, i27, i28, i29, i30, i31, i32, i33, i34, i35, i36, i37, i38, i39, i40, i41, i42, i43, i44, i45] [b0, b1, b2, b3, b4, b5, b6, b7, b8, b9, b10] = _
      have t9 : b9 = true := eq2 hb9 hi40 hi41 hi42 hi43 (by rw [Int.mul_comm i11 i9, Int.mul_comm i10 i8]) (by rw [Int.mul_comm i11 i9])
      have t10 : b10 = true := by rw [hb10, t6, t7, t8, t9]; rfl
      simp only [t10, Bool.and_true, Bool.true_and, cond_true] at hi44 hi45
      refine st_2_0 (e7_23) (g := b10) rfl (l := [i10, i11, i8, i9]) rfl (m := []) rfl (cl_2 (q23 i10 i11 i8 i9)) fun i46 i47 hi46 hi47 => ?_
      show T.den _ _ [i0, i1, i2, i3, i4, i5, i6, i7, i8, i9, i10, i11, i12, i13, i14, i15, i16, i17, i18, i19, i20, i21, i22, i23, i24, i25, i26, i27, i28, i29, i30, i31, i32, i33, i34, i35, i36, i37, i38, i39, i40, i41, i42, i43, i44, i45, i46, i47] [b0, b1, b2, b3, b4, b5, b6, b7, b8, b9, b10] = _
      simp only [t10, Bool.and_true, Bool.true_and, cond_true] at hi46 hi47
      refine st_lb fun b11 hb11 => ?_
      replace hb11 : b11 = ((i44 == i46) && (i45 == i47)) := hb11
      show T.den _ _ [i0, i1, i2, i3, i4, i5, i6, i7, i8, i9, i10, i11, i12, i13, i14, i15, i16, i17, i18, i19, i20, i21, i22, i23, i24, i25, i26, i27, i28, i29, i30, i31, i32, i33, i34, i35, i36, i37, i38, i39, i40, i41, i42, i43, i44, i45, i46, i47] [b0, b1, b2, b3, b4, b5, b6, b7, b8, b9, b10, b11] = _
      refine st_2_0 (e7_24) (g := (b10 && b11)) rfl (l := [i8, i9, i10, i11]) rfl (m := []) rfl (cl_2 (q24 i8 i9 i10 i11 g_i8.1 g_i8.2.1 g_i8.2.2 g_i10.1 g_i10.2.1 g_i10.2.2)) fun i48 i49 hi48 hi49 => ?_
      show T.den _ _ [i0, i1, i2, i3, i4, i5, i6, i7, i8, i9, i10, i11, i12, i13, i14, i15, i16, i17, i18, i19, i20, i21, i22, i23, i24, i25, i26, i27, i28, i29, i30, i31, i32, i33, i34, i35, i36, i37, i38, i39, i40, i41, i42, i43, i44, i45, i46, i47, i48, i49] [b0, b1, b2, b3, b4, b5, b6, b7, b8, b9, b10, b11] = _
      have t11 : b11 = true := eq2 hb11 hi44 hi45 hi46 hi47 (anL_co _ _ _ _).symm (anH_co _ _ _ _).symm
      simp only [t10, t11, Bool.and_true, Bool.true_and, cond_true] at hi48 hi49
      refine st_2_0 (e7_24) (g := (b10 && b11)) rfl (l := [i10, i11, i8, i9]) rfl (m := []) rfl (cl_2 (q24 i10 i11 i8 i9 g_i10.1 g_i10.2.1 g_i10.2.2 g_i8.1 g_i8.2.1 g_i8.2.2)) fun i50 i51 hi50 hi51 => ?_
      show T.den _ _ [i0, i1, i2, i3, i4, i5, i6, i7, i8, i9, i10, i11, i12, i13, i14, i15, i16, i17, i18, i19, i20, i21, i22, i23, i24, i25, i26, i27, i28, i29, i30, i31, i32, i33, i34, i35, i36, i37, i38, i39, i40, i41, i42, i43, i44, i45, i46, i47, i48, i49, i50, i51] [b0, b1, b2, b3, b4, b5, b6, b7, b8, b9, b10, b11] = _
      simp only [t10, t11, Bool.and_true, Bool.true_and, cond_true] at hi50 hi51
      refine st_lb fun b12 hb12 => ?_
      replace hb12 : b12 = ((i48 == i50) && (i49 == i51)) := hb12
      show T.den _ _ [i0, i1, i2, i3, i4, i5, i6, i7, i8, i9, i10, i11, i12, i13, i14, i15, i16, i17, i18, i19, i20, i21, i22, i23, i24, i25, i26, i27, i28, i29, i30, i31, i32, i33, i34, i35, i36, i37, i38, i39, i40, i41, i42, i43, i44, i45, i46, i47, i48, i49, i50, i51] [b0, b1, b2, b3, b4, b5, b6, b7, b8, b9, b10, b11, b12] = _
      refine st_ret ?_
      show some ([], [((b10 && b11) && b12)]) = _
      have t12 : b12 = true := eq2 hb12 hi48 hi49 hi50 hi51 (orL_co _ _ _ _).symm (orH_co _ _ _ _).symm
      rw [t10, t11, t12]; rfl
end Go.Proofs.Ytaajijommogaoaa.YIvlGrows
