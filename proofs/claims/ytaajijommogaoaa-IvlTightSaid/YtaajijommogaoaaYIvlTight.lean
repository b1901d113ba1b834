/-
  IvlTight, of numbers alone.
-/
import Derived.Test.YtaajijommogaoaaXIvlTight
import Derived.Test.YtaajijommogaoaaSn
namespace Go.Proofs.Ytaajijommogaoaa.YIvlTight
open Go.Proofs.Ytaajijommogaoaa.Sx Go.Proofs.Ytaajijommogaoaa.Sn Go.Proofs.Ytaajijommogaoaa.XIvlTight Go.Proofs.Ytaajijommogaoaa.EIvlTight
set_option linter.unusedSimpArgs false
set_option linter.unusedVariables false
theorem st_0_1 {C : Nat → Sx.Fn} {is : List Int} {bs : List Bool} {r : Option (List Int × List Bool)} {G : E} {f : Nat} {ii bb : List E} {k : Sx.T} {c0 : Bool} {F : Sx.Fn} {g : Bool} {l : List Int} {m : List Bool} (hC : C f = F) (hG : G.B is bs = g) (hl : ii.map (E.I is bs) = l) (hm : bb.map (E.B is bs) = m)
    (h : (bif g then F l m else some (List.replicate 0 0, List.replicate 1 false)) = some ([], [c0]))
    (hk : ∀ (y0 : Bool), y0 = c0 → k.den C (is ++ []) (bs ++ [y0]) = r) : (Sx.T.call G f ii bb 0 1 k).den C is bs = r := st_call _ _ (by rw [hC, hG, hl, hm]; exact h) rfl rfl (hk _ rfl)

theorem st_2_0 {C : Nat → Sx.Fn} {is : List Int} {bs : List Bool} {r : Option (List Int × List Bool)} {G : E} {f : Nat} {ii bb : List E} {k : Sx.T} {a0 a1 : Int} {F : Sx.Fn} {g : Bool} {l : List Int} {m : List Bool} (hC : C f = F) (hG : G.B is bs = g) (hl : ii.map (E.I is bs) = l) (hm : bb.map (E.B is bs) = m)
    (h : (bif g then F l m else some (List.replicate 2 0, List.replicate 0 false)) = some ([a0, a1], []))
    (hk : ∀ (x0 x1 : Int), x0 = a0 → x1 = a1 → k.den C (is ++ [x0, x1]) (bs ++ []) = r) : (Sx.T.call G f ii bb 2 0 k).den C is bs = r := st_call _ _ (by rw [hC, hG, hl, hm]; exact h) rfl rfl (hk _ _ rfl rfl)

theorem st_2_1 {C : Nat → Sx.Fn} {is : List Int} {bs : List Bool} {r : Option (List Int × List Bool)} {G : E} {f : Nat} {ii bb : List E} {k : Sx.T} {a0 a1 : Int} {c0 : Bool} {F : Sx.Fn} {g : Bool} {l : List Int} {m : List Bool} (hC : C f = F) (hG : G.B is bs = g) (hl : ii.map (E.I is bs) = l) (hm : bb.map (E.B is bs) = m)
    (h : (bif g then F l m else some (List.replicate 2 0, List.replicate 1 false)) = some ([a0, a1], [c0]))
    (hk : ∀ (x0 x1 : Int) (y0 : Bool), x0 = a0 → x1 = a1 → y0 = c0 → k.den C (is ++ [x0, x1]) (bs ++ [y0]) = r) : (Sx.T.call G f ii bb 2 1 k).den C is bs = r := st_call _ _ (by rw [hC, hG, hl, hm]; exact h) rfl rfl (hk _ _ _ rfl rfl rfl)
theorem q9 : F9 [] [] = some ([], [true]) := by decide +kernel

theorem q13_32 : F13 [32] [] = some ([0, 4294967295], []) := by decide +kernel

theorem q13_64 : F13 [64] [] = some ([0, 18446744073709551615], []) := by decide +kernel

theorem q13 (w : Int) : F13 [w] [] = some ([0, if w = 32 then 4294967295 else 18446744073709551615], []) := by
  by_cases h : w = 32
  · subst h; rw [if_pos rfl]; exact q13_32
  · rw [if_neg h]
    refine Eq.trans (Fd_of (n := 1) (m := 0) (t := t13) (C := Tab.fn a13) rfl rfl) ?_
    rw [t13]
    refine st_ite (fun hc => ?_) (fun hc => ?_)
    · replace hc : (w == 32) = true := hc
      exact absurd (by simpa using hc) h
    · rfl

theorem q10 (a b : Int) : F10 [a, b] [] = some ([min a b, max a b], []) := by rw [min_, max_]; rfl

theorem q27 (a b c : Int) (h : 0 ≤ a ∧ 0 ≤ b ∧ 0 ≤ c ∧ c ≤ 1) : F27 [a, b, c] [] = some ([(a + b + c) % 18446744073709551616, (a + b + c) / 18446744073709551616], []) := by
  show (if 0 ≤ a ∧ 0 ≤ b ∧ 0 ≤ c ∧ c ≤ 1 then _ else none) = _
  rw [if_pos h]

def tp (w : Int) : Int := if w = 32 then 4294967295 else 18446744073709551615

theorem tp_bd (w : Int) : 0 ≤ tp w ∧ tp w < 18446744073709551616 := by unfold tp; split <;> omega

theorem q13' (w : Int) : F13 [w] [] = some ([0, tp w], []) := q13 w

theorem cl_x (g : Bool) (i j : Int) : (bif g then some ([i, j], []) else some (List.replicate 2 0, List.replicate 0 false)) = some ([bif g then i else 0, bif g then j else 0], ([] : List Bool)) := by cases g <;> rfl

theorem e18_27 : Tab.fn a18 27 = F27 := Tab.fn_hd
theorem e18_13 : Tab.fn a18 13 = F13 := ((Tab.fn_tl rfl).trans Tab.fn_hd)
theorem e19_13 : Tab.fn a19 13 = F13 := Tab.fn_hd

set_option maxHeartbeats 4000000 in
theorem q18 (a b c d w : Int) (h0 : 0 ≤ a) (h1 : a ≤ b) (hb : b < 18446744073709551616) (h2 : 0 ≤ c) (h3 : c ≤ d) (hd : d < 18446744073709551616) : F18 [a, b, c, d, w] [] = some ([if b + d ≤ tp w then a + c else 0, if b + d ≤ tp w then b + d else tp w], []) := by
  refine Eq.trans (Fd_of (n := 5) (m := 0) (t := t18) (C := Tab.fn a18) rfl rfl) ?_
  rw [t18]
  refine st_2_0 (e18_27) (g := true) rfl (l := [b, d, 0]) rfl (m := []) rfl (cl_t (q27 b d 0 (by omega))) fun i5 i6 hi5 hi6 => ?_
  show T.den _ _ [a, b, c, d, w, i5, i6] [] = _
  refine st_2_0 (e18_13) (g := (!(i6 != 0))) rfl (l := [w]) rfl (m := []) rfl (by rw [q13']; exact cl_x _ _ _) fun i7 i8 hi7 hi8 => ?_
  show T.den _ _ [a, b, c, d, w, i5, i6, i7, i8] [] = _
  refine st_lb fun b0 hb0 => ?_
  replace hb0 : b0 = ((i6 != 0) || (decide (i5 > i8))) := hb0
  show T.den _ _ [a, b, c, d, w, i5, i6, i7, i8] [b0] = _
  refine st_ite (fun hc => ?_) (fun hc => ?_)
  · replace hc : b0 = true := hc
    have c1 := hc
    clear hc
    refine st_2_0 (e18_13) (g := true) rfl (l := [w]) rfl (m := []) rfl (by rw [q13']; exact cl_x _ _ _) fun i9 i10 hi9 hi10 => ?_
    show T.den _ _ [a, b, c, d, w, i5, i6, i7, i8, i9, i10] [b0] = _
    refine st_ret ?_
    show some ([i9, i10], []) = _
    have tb := tp_bd w
    cases hz : (i6 != 0)
    · rw [hz] at hi8
      simp only [hz, Bool.not_false, cond_true] at hi8
      simp only [bne_eq_false_iff_eq] at hz
      rw [hb0, hi8] at c1
      simp only [hz, bne_self_eq_false, Bool.false_or, decide_eq_true_eq] at c1
      refine r2 ?_ ?_
      · rw [if_neg (by omega), hi9]; rfl
      · rw [if_neg (by omega), hi10]; rfl
    · have hz' : i6 ≠ 0 := by simpa using hz
      refine r2 ?_ ?_
      · rw [if_neg (by omega), hi9]; rfl
      · rw [if_neg (by omega), hi10]; rfl
  · replace hc : b0 = false := hc
    have c2 := hc
    clear hc
    refine st_ret ?_
    show some ([(arI .add .u64 a c), i5], []) = _
    have tb := tp_bd w
    cases hz : (i6 != 0)
    · rw [hz] at hi8
      simp only [hz, Bool.not_false, cond_true] at hi8
      simp only [bne_eq_false_iff_eq] at hz
      rw [hb0, hi8] at c2
      simp only [hz, bne_self_eq_false, Bool.false_or, decide_eq_false_iff_not] at c2
      refine r2 ?_ ?_
      · rw [if_pos (by omega), arAdd]; omega
      · rw [if_pos (by omega)]; omega
    · have hz' : i6 ≠ 0 := by simpa using hz
      rw [hb0, hz] at c2
      simp at c2

set_option maxHeartbeats 4000000 in
theorem q19 (a b c d w : Int) (h0 : 0 ≤ a) (h1 : a ≤ b) (hb : b < 18446744073709551616) (h2 : 0 ≤ c) (h3 : c ≤ d) (hd : d < 18446744073709551616) : F19 [a, b, c, d, w] [] = some ([if a < d then 0 else a - d, if a < d then tp w else b - c], []) := by
  refine Eq.trans (Fd_of (n := 5) (m := 0) (t := t19) (C := Tab.fn a19) rfl rfl) ?_
  rw [t19]
  refine st_ite (fun hc => ?_) (fun hc => ?_)
  · replace hc : (decide (a < d)) = true := hc
    have c1 := hc
    clear hc
    refine st_2_0 (e19_13) (g := true) rfl (l := [w]) rfl (m := []) rfl (cl_t (q13' w)) fun i5 i6 hi5 hi6 => ?_
    show T.den _ _ [a, b, c, d, w, i5, i6] [] = _
    refine st_ret ?_
    show some ([i5, i6], []) = _
    simp only [decide_eq_true_eq] at c1
    refine r2 ?_ ?_
    · rw [if_pos c1]; exact hi5
    · rw [if_pos c1]; exact hi6
  · replace hc : (decide (a < d)) = false := hc
    have c2 := hc
    clear hc
    refine st_ret ?_
    show some ([(arI .sub .u64 a d), (arI .sub .u64 b c)], []) = _
    simp only [decide_eq_false_iff_not] at c2
    refine r2 ?_ ?_
    · rw [if_neg c2, arSub]; omega
    · rw [if_neg c2, arSub]; omega

theorem mul_parts (a b : Nat) (ha : a < 2 ^ 64) (hb : b < 2 ^ 64) :
    a * b = (a / 4294967296) * (b / 4294967296) * 2 ^ 64 + ((a / 4294967296) * (b % 4294967296) + (a % 4294967296) * (b / 4294967296)) * 4294967296 + (a % 4294967296) * (b % 4294967296) := by
  have h1 := Nat.div_add_mod a 4294967296
  have h2 := Nat.div_add_mod b 4294967296
  generalize a / 4294967296 = a1 at *
  generalize a % 4294967296 = a0 at *
  generalize b / 4294967296 = b1 at *
  generalize b % 4294967296 = b0 at *
  subst h1
  subst h2
  simp only [Nat.add_mul, Nat.mul_add]
  have e1 : 4294967296 * a1 * (4294967296 * b1) = a1 * b1 * 2 ^ 64 := by
    rw [Nat.mul_mul_mul_comm, Nat.mul_comm]
  have e2 : 4294967296 * a1 * b0 = a1 * b0 * 4294967296 := by rw [Nat.mul_assoc, Nat.mul_comm]
  have e3 : a0 * (4294967296 * b1) = a0 * b1 * 4294967296 := by rw [Nat.mul_left_comm, Nat.mul_comm]
  rw [e1, e2, e3]
  omega
theorem prod_lt {x y : Nat} (hx : x ≤ 4294967295) (hy : y ≤ 4294967295) : x * y ≤ 18446744065119617025 := Nat.le_trans (Nat.mul_le_mul hx hy) (by decide)


theorem shr32 (n : Nat) : arI .shr .u64 (n : Int) 32 = ((n / 4294967296 : Nat) : Int) := by
  rw [arShr _ 32 (by decide) (by decide)]
  rw [show (32 : Int).toNat = 32 from rfl]; omega
theorem and32 (n : Nat) (h : n < 2 ^ 64) : arI .and .u64 (n : Int) 4294967295 = ((n % 4294967296 : Nat) : Int) := by
  have := band n 4294967295 h (by decide)
  rw [show ((4294967295 : Nat) : Int) = 4294967295 from rfl] at this
  rw [this, show 4294967295 = 2 ^ 32 - 1 from rfl, and_mask]
theorem mul32 {x y : Nat} (hx : x ≤ 4294967295) (hy : y ≤ 4294967295) : arI .mul .u64 (x : Int) (y : Int) = ((x * y : Nat) : Int) := by
  have := prod_lt hx hy
  rw [arMul, ← Int.natCast_mul]; omega
theorem mul64_num' (p11 p10 p01 p00 : Nat) (h11 : p11 ≤ 18446744065119617025) (h10 : p10 ≤ 18446744065119617025) (h01 : p01 ≤ 18446744065119617025) (h00 : p00 ≤ 18446744065119617025) :
    p11 + (p10 + p00 / 4294967296) / 4294967296 + ((p10 + p00 / 4294967296) % 4294967296 + p01) / 4294967296 = (p11 * 2 ^ 64 + (p10 + p01) * 4294967296 + p00) / 2 ^ 64 ∧ p11 + (p10 + p00 / 4294967296) / 4294967296 + ((p10 + p00 / 4294967296) % 4294967296 + p01) / 4294967296 < 2 ^ 64 := by omega

set_option maxHeartbeats 4000000 in
theorem q28 (a b : Nat) (ha : a < 2 ^ 64) (hb : b < 2 ^ 64) : F28 [(a : Int), (b : Int)] [] = some ([((a * b / 2 ^ 64 : Nat) : Int), ((a * b % 2 ^ 64 : Nat) : Int)], []) := by
  refine Eq.trans (Fd_of (n := 2) (m := 0) (t := t28) (C := Tab.fn a28) rfl rfl) ?_
  rw [t28]
  refine st_li fun i2 hi2 => ?_
  replace hi2 : i2 = (arI .mul .u64 (arI .and .u64 (a : Int) 4294967295) (arI .and .u64 (b : Int) 4294967295)) := hi2
  show T.den _ _ [(a : Int), (b : Int), i2] [] = _
  refine st_li fun i3 hi3 => ?_
  replace hi3 : i3 = (arI .mul .u64 (arI .shr .u64 (a : Int) 32) (arI .and .u64 (b : Int) 4294967295)) := hi3
  show T.den _ _ [(a : Int), (b : Int), i2, i3] [] = _
  refine st_li fun i4 hi4 => ?_
  replace hi4 : i4 = (arI .and .u64 (arI .add .u64 i3 (arI .shr .u64 i2 32)) 4294967295) := hi4
  show T.den _ _ [(a : Int), (b : Int), i2, i3, i4] [] = _
  refine st_li fun i5 hi5 => ?_
  replace hi5 : i5 = (arI .shr .u64 (arI .add .u64 i3 (arI .shr .u64 i2 32)) 32) := hi5
  show T.den _ _ [(a : Int), (b : Int), i2, i3, i4, i5] [] = _
  refine st_li fun i6 hi6 => ?_
  replace hi6 : i6 = (arI .mul .u64 (arI .and .u64 (a : Int) 4294967295) (arI .shr .u64 (b : Int) 32)) := hi6
  show T.den _ _ [(a : Int), (b : Int), i2, i3, i4, i5, i6] [] = _
  refine st_li fun i7 hi7 => ?_
  replace hi7 : i7 = (arI .mul .u64 (arI .shr .u64 (a : Int) 32) (arI .shr .u64 (b : Int) 32)) := hi7
  show T.den _ _ [(a : Int), (b : Int), i2, i3, i4, i5, i6, i7] [] = _
  refine st_li fun i8 hi8 => ?_
  replace hi8 : i8 = (arI .add .u64 (arI .add .u64 i7 i5) (arI .shr .u64 (arI .add .u64 i4 i6) 32)) := hi8
  show T.den _ _ [(a : Int), (b : Int), i2, i3, i4, i5, i6, i7, i8] [] = _
  refine st_ret ?_
  show some ([i8, (arI .mul .u64 (a : Int) (b : Int))], []) = _
  obtain ⟨a0, ha0⟩ : ∃ x, x = a % 4294967296 := ⟨_, rfl⟩
  obtain ⟨a1, ha1⟩ : ∃ x, x = a / 4294967296 := ⟨_, rfl⟩
  obtain ⟨b0, hb0⟩ : ∃ x, x = b % 4294967296 := ⟨_, rfl⟩
  obtain ⟨b1, hb1⟩ : ∃ x, x = b / 4294967296 := ⟨_, rfl⟩
  have hmp := mul_parts a b ha hb
  rw [← ha0, ← ha1, ← hb0, ← hb1] at hmp
  have l1 : a0 ≤ 4294967295 := by omega
  have l2 : a1 ≤ 4294967295 := by omega
  have l3 : b0 ≤ 4294967295 := by omega
  have l4 : b1 ≤ 4294967295 := by omega
  have p00 := prod_lt l1 l3
  have p10 := prod_lt l2 l3
  have p01 := prod_lt l1 l4
  have p11 := prod_lt l2 l4
  rw [and32 a ha, and32 b hb, ← ha0, ← hb0, mul32 l1 l3] at hi2
  rw [shr32 a, and32 b hb, ← ha1, ← hb0, mul32 l2 l3] at hi3
  rw [and32 a ha, shr32 b, ← ha0, ← hb1, mul32 l1 l4] at hi6
  rw [shr32 a, shr32 b, ← ha1, ← hb1, mul32 l2 l4] at hi7
  have hn := mul64_num' (a1 * b1) (a1 * b0) (a0 * b1) (a0 * b0) p11 p10 p01 p00
  rw [← hmp] at hn
  generalize a0 * b0 = q00 at *
  generalize a1 * b0 = q10 at *
  generalize a0 * b1 = q01 at *
  generalize a1 * b1 = q11 at *
  have e34 : arI .add .u64 i3 (arI .shr .u64 i2 32) = ((q10 + q00 / 4294967296 : Nat) : Int) := by
    rw [hi2, shr32, hi3, arAdd]; omega
  rw [e34] at hi4 hi5
  rw [and32 _ (by omega)] at hi4
  rw [shr32] at hi5
  have e46 : arI .add .u64 i4 i6 = (((q10 + q00 / 4294967296) % 4294967296 + q01 : Nat) : Int) := by
    rw [hi4, hi6, arAdd]; omega
  rw [e46, shr32, hi7, hi5, arAdd, arAdd] at hi8
  refine r2 ?_ ?_
  · rw [hi8]; omega
  · rw [arMul, ← Int.natCast_mul]; omega

theorem q28' (a b : Int) (ha : 0 ≤ a ∧ a < 18446744073709551616) (hb : 0 ≤ b ∧ b < 18446744073709551616) : F28 [a, b] [] = some ([(a * b) / 18446744073709551616, (a * b) % 18446744073709551616], []) := by
  obtain ⟨m, rfl⟩ := Int.eq_ofNat_of_zero_le ha.1
  obtain ⟨n, rfl⟩ := Int.eq_ofNat_of_zero_le hb.1
  rw [q28 m n (by omega) (by omega), ← Int.natCast_mul]
  exact r2 (by omega) (by omega)

theorem e20_28 : Tab.fn a20 28 = F28 := Tab.fn_hd
theorem e20_13 : Tab.fn a20 13 = F13 := ((Tab.fn_tl rfl).trans Tab.fn_hd)

set_option maxHeartbeats 4000000 in
theorem q20 (a b c d w : Int) (h0 : 0 ≤ a) (h1 : a ≤ b) (hb : b < 18446744073709551616) (h2 : 0 ≤ c) (h3 : c ≤ d) (hd : d < 18446744073709551616) : F20 [a, b, c, d, w] [] = some ([if b * d ≤ tp w then a * c else 0, if b * d ≤ tp w then b * d else tp w], []) := by
  refine Eq.trans (Fd_of (n := 5) (m := 0) (t := t20) (C := Tab.fn a20) rfl rfl) ?_
  rw [t20]
  refine st_2_0 (e20_28) (g := true) rfl (l := [b, d]) rfl (m := []) rfl (cl_t (q28' b d (by omega) (by omega))) fun i5 i6 hi5 hi6 => ?_
  show T.den _ _ [a, b, c, d, w, i5, i6] [] = _
  refine st_2_0 (e20_13) (g := (!(i5 != 0))) rfl (l := [w]) rfl (m := []) rfl (by rw [q13']; exact cl_x _ _ _) fun i7 i8 hi7 hi8 => ?_
  show T.den _ _ [a, b, c, d, w, i5, i6, i7, i8] [] = _
  refine st_lb fun b0 hb0 => ?_
  replace hb0 : b0 = ((i5 != 0) || (decide (i6 > i8))) := hb0
  show T.den _ _ [a, b, c, d, w, i5, i6, i7, i8] [b0] = _
  refine st_ite (fun hc => ?_) (fun hc => ?_)
  · replace hc : b0 = true := hc
    have c1 := hc
    clear hc
    refine st_2_0 (e20_13) (g := true) rfl (l := [w]) rfl (m := []) rfl (by rw [q13']; exact cl_x _ _ _) fun i9 i10 hi9 hi10 => ?_
    show T.den _ _ [a, b, c, d, w, i5, i6, i7, i8, i9, i10] [b0] = _
    refine st_ret ?_
    show some ([i9, i10], []) = _
    have tb := tp_bd w
    have hP : 0 ≤ b * d := Int.mul_nonneg (by omega) (by omega)
    have hQ0 : 0 ≤ a * c := Int.mul_nonneg (by omega) (by omega)
    have hQ : a * c ≤ b * d := Int.mul_le_mul h1 h3 h2 (by omega)
    generalize b * d = P at *
    generalize a * c = Q at *
    cases hz : (i5 != 0)
    · simp only [hz, Bool.not_false, cond_true] at hi8
      simp only [bne_eq_false_iff_eq] at hz
      rw [hb0, hi8] at c1
      simp only [hz, bne_self_eq_false, Bool.false_or, decide_eq_true_eq] at c1
      refine r2 ?_ ?_
      · rw [if_neg (by omega), hi9]; rfl
      · rw [if_neg (by omega), hi10]; rfl
    · have hz' : i5 ≠ 0 := by simpa using hz
      refine r2 ?_ ?_
      · rw [if_neg (by omega), hi9]; rfl
      · rw [if_neg (by omega), hi10]; rfl
  · replace hc : b0 = false := hc
    have c2 := hc
    clear hc
    refine st_ret ?_
    show some ([(arI .mul .u64 a c), i6], []) = _
    rw [arMul]
    have tb := tp_bd w
    have hP : 0 ≤ b * d := Int.mul_nonneg (by omega) (by omega)
    have hQ0 : 0 ≤ a * c := Int.mul_nonneg (by omega) (by omega)
    have hQ : a * c ≤ b * d := Int.mul_le_mul h1 h3 h2 (by omega)
    generalize b * d = P at *
    generalize a * c = Q at *
    cases hz : (i5 != 0)
    · simp only [hz, Bool.not_false, cond_true] at hi8
      simp only [bne_eq_false_iff_eq] at hz
      rw [hb0, hi8] at c2
      simp only [hz, bne_self_eq_false, Bool.false_or, decide_eq_false_iff_not] at c2
      refine r2 ?_ ?_
      · rw [if_pos (by omega)]; omega
      · rw [if_pos (by omega)]; omega
    · have hz' : i5 ≠ 0 := by simpa using hz
      rw [hb0, hz] at c2
      simp at c2

set_option maxHeartbeats 4000000 in
theorem q21 (a b c d : Int) : F21 [a, b, c, d] [] = some ([if d = 0 then 0 else arI .quo .u64 a d, if d = 0 then 0 else arI .quo .u64 b (max c 1)], [decide (d ≠ 0)]) := by
  refine Eq.trans (Fd_of (n := 4) (m := 0) (t := t21) (C := Tab.fn a21) rfl rfl) ?_
  rw [t21]
  refine st_ite (fun hc => ?_) (fun hc => ?_)
  · replace hc : (d == 0) = true := hc
    have c1 := hc
    clear hc
    refine st_ret ?_
    show some ([0, 0], [false]) = _
    have h : d = 0 := by simpa using c1
    rw [if_pos h, if_pos h, decide_eq_false (by simpa using h)]
  · replace hc : (d == 0) = false := hc
    have c2 := hc
    clear hc
    refine st_rq (show (d != 0) = true from ?_) ?_
    · have h : ¬ d = 0 := by simpa using c2
      simpa using h
    refine st_rq (show ((if 1 > c then 1 else c) != 0) = true from ?_) ?_
    · rw [bne_iff_ne]
      split <;> omega
    refine st_ret ?_
    show some ([(arI .quo .u64 a d), (arI .quo .u64 b (if 1 > c then 1 else c))], [true]) = _
    have h : ¬ d = 0 := by simpa using c2
    rw [if_neg h, if_neg h, decide_eq_true h, max_ c 1]

set_option maxHeartbeats 4000000 in
theorem q22 (a b c d : Int) : F22 [a, b, c, d] [] = some ([if d = 0 then 0 else if b < c then a else 0, if d = 0 then 0 else if b < c then b else min b (arI .sub .u64 d 1)], [decide (d ≠ 0)]) := by
  refine Eq.trans (Fd_of (n := 4) (m := 0) (t := t22) (C := Tab.fn a22) rfl rfl) ?_
  rw [t22]
  refine st_ite (fun hc => ?_) (fun hc => ?_)
  · replace hc : (d == 0) = true := hc
    have c1 := hc
    clear hc
    refine st_ret ?_
    show some ([0, 0], [false]) = _
    have h : d = 0 := by simpa using c1
    rw [if_pos h, if_pos h, decide_eq_false (by simpa using h)]
  · replace hc : (d == 0) = false := hc
    have c2 := hc
    clear hc
    refine st_ite (fun hc => ?_) (fun hc => ?_)
    · replace hc : (decide (b < c)) = true := hc
      have c3 := hc
      clear hc
      refine st_ret ?_
      show some ([a, b], [true]) = _
      have h : ¬ d = 0 := by simpa using c2
      have h' : b < c := by simpa using c3
      rw [if_neg h, if_neg h, if_pos h', if_pos h', decide_eq_true h]
    · replace hc : (decide (b < c)) = false := hc
      have c4 := hc
      clear hc
      refine st_ret ?_
      show some ([0, (if (arI .sub .u64 d 1) < b then (arI .sub .u64 d 1) else b)], [true]) = _
      have h : ¬ d = 0 := by simpa using c2
      have h' : ¬ b < c := of_decide_eq_false c4
      rw [if_neg h, if_neg h, if_neg h', if_neg h', decide_eq_true h, min_]

theorem e6_9 : Tab.fn a6 9 = F9 := Tab.fn_hd
theorem e6_13 : Tab.fn a6 13 = F13 := ((Tab.fn_tl rfl).trans Tab.fn_hd)
theorem e6_10 : Tab.fn a6 10 = F10 := ((Tab.fn_tl rfl).trans ((Tab.fn_tl rfl).trans Tab.fn_hd))
theorem e6_18 : Tab.fn a6 18 = F18 := ((Tab.fn_tl rfl).trans ((Tab.fn_tl rfl).trans ((Tab.fn_tl rfl).trans Tab.fn_hd)))
theorem e6_19 : Tab.fn a6 19 = F19 := ((Tab.fn_tl rfl).trans ((Tab.fn_tl rfl).trans ((Tab.fn_tl rfl).trans ((Tab.fn_tl rfl).trans Tab.fn_hd))))
theorem e6_20 : Tab.fn a6 20 = F20 := ((Tab.fn_tl rfl).trans ((Tab.fn_tl rfl).trans ((Tab.fn_tl rfl).trans ((Tab.fn_tl rfl).trans ((Tab.fn_tl rfl).trans Tab.fn_hd)))))
theorem e6_21 : Tab.fn a6 21 = F21 := ((Tab.fn_tl rfl).trans ((Tab.fn_tl rfl).trans ((Tab.fn_tl rfl).trans ((Tab.fn_tl rfl).trans ((Tab.fn_tl rfl).trans ((Tab.fn_tl rfl).trans Tab.fn_hd))))))
theorem e6_22 : Tab.fn a6 22 = F22 := ((Tab.fn_tl rfl).trans ((Tab.fn_tl rfl).trans ((Tab.fn_tl rfl).trans ((Tab.fn_tl rfl).trans ((Tab.fn_tl rfl).trans ((Tab.fn_tl rfl).trans ((Tab.fn_tl rfl).trans Tab.fn_hd)))))))

theorem quo_gt (x t y : Int) (ht : 0 ≤ t) (ht1 : t < 18446744073709551616) (hy : 0 < y) : x > arI .quo .u64 t y ↔ x * y > t := by
  rw [arQuo t y ht ht1 hy]
  exact Int.ediv_lt_iff_lt_mul hy
theorem quo_or (x t y : Int) (ht : 0 ≤ t) (ht1 : t < 18446744073709551616) (hy : 0 ≤ y) : (y ≤ 0 ∧ x * y = 0) ∨ (0 < y ∧ x > arI .quo .u64 t y ∧ x * y > t) ∨ (0 < y ∧ ¬ x > arI .quo .u64 t y ∧ ¬ x * y > t) := by
  by_cases h : y = 0
  · subst h; exact .inl ⟨Int.le_refl _, Int.mul_zero x⟩
  · have h1 := quo_gt x t y ht ht1 (by omega)
    by_cases h2 : x > arI .quo .u64 t y
    · exact .inr (.inl ⟨by omega, h2, h1.1 h2⟩)
    · exact .inr (.inr ⟨by omega, h2, fun h3 => h2 (h1.2 h3)⟩)
theorem quo_max (x y : Int) (hx : 0 ≤ x) (hx1 : x < 18446744073709551616) (hy : 0 ≤ y) : (y = 0 ∧ arI .quo .u64 x (max y 1) = x) ∨ (0 < y ∧ arI .quo .u64 x (max y 1) = arI .quo .u64 x y) := by
  by_cases h : y = 0
  · subst h
    left
    exact ⟨rfl, by rw [show max (0 : Int) 1 = 1 from rfl, arQuo x 1 hx hx1 (by decide)]; exact Int.ediv_one x⟩
  · right
    exact ⟨by omega, by rw [show max y 1 = y from by omega]⟩

theorem tp_64 : (18446744073709551615 : Int) = tp 64 := by decide
theorem tp_32 : (4294967295 : Int) = tp 32 := by decide

set_option maxHeartbeats 20000000 in
theorem law (i0 i1 i2 i3 : Int) (b0 : Bool) (w0 : (Lit.int .u64 i0).wf = true) (w1 : (Lit.int .u64 i1).wf = true) (w2 : (Lit.int .u64 i2).wf = true) (w3 : (Lit.int .u64 i3).wf = true) : F6 [i0, i1, i2, i3] [b0] = some ([], [true]) := by
  have v0 := wf_u64 w0
  have v1 := wf_u64 w1
  have v2 := wf_u64 w2
  have v3 := wf_u64 w3
  refine Eq.trans (Fd_of (n := 4) (m := 1) (t := t6) (C := Tab.fn a6) rfl rfl) ?_
  rw [t6]
  refine st_0_1 (e6_9) (g := true) rfl (l := []) rfl (m := []) rfl (cl_t q9) fun b1 hb1 => ?_
  show T.den _ _ [i0, i1, i2, i3] [b0, b1] = _
  refine st_ite (fun hc => ?_) (fun hc => ?_)
  · replace hc : (!b1) = true := hc
    have c1 := hc
    clear hc
    refine st_ret ?_
    show some ([], [false]) = _
    exfalso
    rw [hb1] at c1; cases c1
  · replace hc : (!b1) = false := hc
    have c2 := hc
    clear hc
    refine st_ite (fun hc => ?_) (fun hc => ?_)
    · replace hc : b0 = true := hc
      have c3 := hc
      clear hc
      refine st_2_0 (e6_13) (g := true) rfl (l := [64]) rfl (m := []) rfl (cl_t (q13' 64)) fun i4 i5 hi4 hi5 => ?_
      show T.den _ _ [i0, i1, i2, i3, i4, i5] [b0, b1] = _
      have hT : i5 = 18446744073709551615 := hi5.trans (by decide)
      refine st_2_0 (e6_10) (g := true) rfl (l := [(arI .and .u64 i0 i5), (arI .and .u64 i1 i5)]) rfl (m := []) rfl (cl_t (q10 (arI .and .u64 i0 i5) (arI .and .u64 i1 i5))) fun i6 i7 hi6 hi7 => ?_
      show T.den _ _ [i0, i1, i2, i3, i4, i5, i6, i7] [b0, b1] = _
      have z0 := and_le i0 i5 v0.1 v0.2 (by omega) (by omega)
      have z1 := and_le i1 i5 v1.1 v1.2 (by omega) (by omega)
      have r0 : 0 ≤ i6 ∧ i6 ≤ i7 ∧ i7 ≤ i5 := by omega
      clear z0 z1 hi6 hi7
      refine st_2_0 (e6_10) (g := true) rfl (l := [(arI .and .u64 i2 i5), (arI .and .u64 i3 i5)]) rfl (m := []) rfl (cl_t (q10 (arI .and .u64 i2 i5) (arI .and .u64 i3 i5))) fun i8 i9 hi8 hi9 => ?_
      show T.den _ _ [i0, i1, i2, i3, i4, i5, i6, i7, i8, i9] [b0, b1] = _
      have z2 := and_le i2 i5 v2.1 v2.2 (by omega) (by omega)
      have z3 := and_le i3 i5 v3.1 v3.2 (by omega) (by omega)
      have r2 : 0 ≤ i8 ∧ i8 ≤ i9 ∧ i9 ≤ i5 := by omega
      clear z2 z3 hi8 hi9
      refine st_2_0 (e6_18) (g := true) rfl (l := [i6, i7, i8, i9, 64]) rfl (m := []) rfl (cl_t (q18 i6 i7 i8 i9 64 (by omega) (by omega) (by omega) (by omega) (by omega) (by omega))) fun i10 i11 hi10 hi11 => ?_
      show T.den _ _ [i0, i1, i2, i3, i4, i5, i6, i7, i8, i9, i10, i11] [b0, b1] = _
      have k18 := ite_or hi10 hi11
      rw [← tp_64] at k18
      clear hi10 hi11
      refine st_ite (fun hc => ?_) (fun hc => ?_)
      · replace hc : (decide (i7 > (arI .sub .u64 i5 i9))) = true := hc
        have c4 := hc
        clear hc
        refine st_lb fun b2 hb2 => ?_
        replace hb2 : b2 = (!((i10 == i4) && (i11 == i5))) := hb2
        show T.den _ _ [i0, i1, i2, i3, i4, i5, i6, i7, i8, i9, i10, i11] [b0, b1, b2] = _
        refine st_ite (fun hc => ?_) (fun hc => ?_)
        · replace hc : b2 = true := hc
          have c5 := hc
          clear hc
          refine st_ret ?_
          show some ([], [false]) = _
          exfalso
          have cl := c5
          simp only [hb2, Bool.or_eq_true, Bool.and_eq_true, Bool.or_eq_false_iff, Bool.and_eq_false_iff, Bool.not_eq_true', Bool.not_eq_false', decide_eq_true_eq, decide_eq_false_iff_not, beq_iff_eq, bne_iff_ne, beq_eq_false_iff_ne, bne_eq_false_iff_eq, ne_eq, ge_iff_le, gt_iff_lt, arAdd, arSub, arMul] at cl
          try simp only [hb2, Bool.or_eq_true, Bool.and_eq_true, Bool.or_eq_false_iff, Bool.and_eq_false_iff, Bool.not_eq_true', Bool.not_eq_false', decide_eq_true_eq, decide_eq_false_iff_not, beq_iff_eq, bne_iff_ne, beq_eq_false_iff_ne, bne_eq_false_iff_eq, ne_eq, ge_iff_le, gt_iff_lt, arAdd, arSub, arMul] at c2
          try simp only [hb2, Bool.or_eq_true, Bool.and_eq_true, Bool.or_eq_false_iff, Bool.and_eq_false_iff, Bool.not_eq_true', Bool.not_eq_false', decide_eq_true_eq, decide_eq_false_iff_not, beq_iff_eq, bne_iff_ne, beq_eq_false_iff_ne, bne_eq_false_iff_eq, ne_eq, ge_iff_le, gt_iff_lt, arAdd, arSub, arMul] at c3
          try simp only [hb2, Bool.or_eq_true, Bool.and_eq_true, Bool.or_eq_false_iff, Bool.and_eq_false_iff, Bool.not_eq_true', Bool.not_eq_false', decide_eq_true_eq, decide_eq_false_iff_not, beq_iff_eq, bne_iff_ne, beq_eq_false_iff_ne, bne_eq_false_iff_eq, ne_eq, ge_iff_le, gt_iff_lt, arAdd, arSub, arMul] at c4
          try simp only [hb2, Bool.or_eq_true, Bool.and_eq_true, Bool.or_eq_false_iff, Bool.and_eq_false_iff, Bool.not_eq_true', Bool.not_eq_false', decide_eq_true_eq, decide_eq_false_iff_not, beq_iff_eq, bne_iff_ne, beq_eq_false_iff_ne, bne_eq_false_iff_eq, ne_eq, ge_iff_le, gt_iff_lt, arAdd, arSub, arMul] at c5
          omega
        · replace hc : b2 = false := hc
          have c6 := hc
          clear hc
          refine st_2_0 (e6_19) (g := true) rfl (l := [i6, i7, i8, i9, 64]) rfl (m := []) rfl (cl_t (q19 i6 i7 i8 i9 64 (by omega) (by omega) (by omega) (by omega) (by omega) (by omega))) fun i12 i13 hi12 hi13 => ?_
          show T.den _ _ [i0, i1, i2, i3, i4, i5, i6, i7, i8, i9, i10, i11, i12, i13] [b0, b1, b2] = _
          have k19 := ite_or hi12 hi13
          rw [← tp_64] at k19
          clear hi12 hi13
          refine st_lb fun b3 hb3 => ?_
          replace hb3 : b3 = (!((i12 == i4) && (i13 == i5))) := hb3
          show T.den _ _ [i0, i1, i2, i3, i4, i5, i6, i7, i8, i9, i10, i11, i12, i13] [b0, b1, b2, b3] = _
          refine st_lb fun b4 hb4 => ?_
          replace hb4 : b4 = (!((i12 == (arI .sub .u64 i6 i9)) && (i13 == (arI .sub .u64 i7 i8)))) := hb4
          show T.den _ _ [i0, i1, i2, i3, i4, i5, i6, i7, i8, i9, i10, i11, i12, i13] [b0, b1, b2, b3, b4] = _
          refine st_lb fun b5 hb5 => ?_
          replace hb5 : b5 = (((decide (i6 < i9)) && b3) || ((decide (i6 ≥ i9)) && b4)) := hb5
          show T.den _ _ [i0, i1, i2, i3, i4, i5, i6, i7, i8, i9, i10, i11, i12, i13] [b0, b1, b2, b3, b4, b5] = _
          refine st_ite (fun hc => ?_) (fun hc => ?_)
          · replace hc : b5 = true := hc
            have c7 := hc
            clear hc
            refine st_ret ?_
            show some ([], [false]) = _
            exfalso
            have cl := c7
            simp only [hb2, hb3, hb4, hb5, Bool.or_eq_true, Bool.and_eq_true, Bool.or_eq_false_iff, Bool.and_eq_false_iff, Bool.not_eq_true', Bool.not_eq_false', decide_eq_true_eq, decide_eq_false_iff_not, beq_iff_eq, bne_iff_ne, beq_eq_false_iff_ne, bne_eq_false_iff_eq, ne_eq, ge_iff_le, gt_iff_lt, arAdd, arSub, arMul] at cl
            try simp only [hb2, hb3, hb4, hb5, Bool.or_eq_true, Bool.and_eq_true, Bool.or_eq_false_iff, Bool.and_eq_false_iff, Bool.not_eq_true', Bool.not_eq_false', decide_eq_true_eq, decide_eq_false_iff_not, beq_iff_eq, bne_iff_ne, beq_eq_false_iff_ne, bne_eq_false_iff_eq, ne_eq, ge_iff_le, gt_iff_lt, arAdd, arSub, arMul] at c2
            try simp only [hb2, hb3, hb4, hb5, Bool.or_eq_true, Bool.and_eq_true, Bool.or_eq_false_iff, Bool.and_eq_false_iff, Bool.not_eq_true', Bool.not_eq_false', decide_eq_true_eq, decide_eq_false_iff_not, beq_iff_eq, bne_iff_ne, beq_eq_false_iff_ne, bne_eq_false_iff_eq, ne_eq, ge_iff_le, gt_iff_lt, arAdd, arSub, arMul] at c3
            try simp only [hb2, hb3, hb4, hb5, Bool.or_eq_true, Bool.and_eq_true, Bool.or_eq_false_iff, Bool.and_eq_false_iff, Bool.not_eq_true', Bool.not_eq_false', decide_eq_true_eq, decide_eq_false_iff_not, beq_iff_eq, bne_iff_ne, beq_eq_false_iff_ne, bne_eq_false_iff_eq, ne_eq, ge_iff_le, gt_iff_lt, arAdd, arSub, arMul] at c4
            try simp only [hb2, hb3, hb4, hb5, Bool.or_eq_true, Bool.and_eq_true, Bool.or_eq_false_iff, Bool.and_eq_false_iff, Bool.not_eq_true', Bool.not_eq_false', decide_eq_true_eq, decide_eq_false_iff_not, beq_iff_eq, bne_iff_ne, beq_eq_false_iff_ne, bne_eq_false_iff_eq, ne_eq, ge_iff_le, gt_iff_lt, arAdd, arSub, arMul] at c6
            try simp only [hb2, hb3, hb4, hb5, Bool.or_eq_true, Bool.and_eq_true, Bool.or_eq_false_iff, Bool.and_eq_false_iff, Bool.not_eq_true', Bool.not_eq_false', decide_eq_true_eq, decide_eq_false_iff_not, beq_iff_eq, bne_iff_ne, beq_eq_false_iff_ne, bne_eq_false_iff_eq, ne_eq, ge_iff_le, gt_iff_lt, arAdd, arSub, arMul] at c7
            omega
          · replace hc : b5 = false := hc
            have c8 := hc
            clear hc
            refine st_2_0 (e6_20) (g := true) rfl (l := [i6, i7, i8, i9, 64]) rfl (m := []) rfl (cl_t (q20 i6 i7 i8 i9 64 (by omega) (by omega) (by omega) (by omega) (by omega) (by omega))) fun i14 i15 hi14 hi15 => ?_
            show T.den _ _ [i0, i1, i2, i3, i4, i5, i6, i7, i8, i9, i10, i11, i12, i13, i14, i15] [b0, b1, b2, b3, b4, b5] = _
            have k20 := ite_or hi14 hi15
            rw [← tp_64] at k20
            clear hi14 hi15
            have hP : 0 ≤ i7 * i9 := Int.mul_nonneg (by omega) (by omega)
            have hQ0 : 0 ≤ i6 * i8 := Int.mul_nonneg (by omega) (by omega)
            have hQ : i6 * i8 ≤ i7 * i9 := Int.mul_le_mul (by omega) (by omega) (by omega) (by omega)
            have hD : (i9 ≤ 0 ∧ i7 * i9 = 0) ∨ (0 < i9 ∧ i7 > arI .quo .u64 i5 i9 ∧ i7 * i9 > i5) ∨ (0 < i9 ∧ ¬ i7 > arI .quo .u64 i5 i9 ∧ ¬ i7 * i9 > i5) := quo_or i7 i5 i9 (by omega) (by omega) (by omega)
            refine st_rq (show ((!(decide (i9 > 0))) || (i9 != 0)) = true from ?_) ?_
            · simp only [hb2, hb3, hb4, hb5, Bool.or_eq_true, Bool.and_eq_true, Bool.or_eq_false_iff, Bool.and_eq_false_iff, Bool.not_eq_true', Bool.not_eq_false', decide_eq_true_eq, decide_eq_false_iff_not, beq_iff_eq, bne_iff_ne, beq_eq_false_iff_ne, bne_eq_false_iff_eq, ne_eq, ge_iff_le, gt_iff_lt]
              try omega
            refine st_lb fun b6 hb6 => ?_
            replace hb6 : b6 = ((decide (i9 > 0)) && (decide (i7 > (arI .quo .u64 i5 i9)))) := hb6
            show T.den _ _ [i0, i1, i2, i3, i4, i5, i6, i7, i8, i9, i10, i11, i12, i13, i14, i15] [b0, b1, b2, b3, b4, b5, b6] = _
            refine st_ite (fun hc => ?_) (fun hc => ?_)
            · replace hc : b6 = true := hc
              have c9 := hc
              clear hc
              refine st_lb fun b7 hb7 => ?_
              replace hb7 : b7 = (!((i14 == i4) && (i15 == i5))) := hb7
              show T.den _ _ [i0, i1, i2, i3, i4, i5, i6, i7, i8, i9, i10, i11, i12, i13, i14, i15] [b0, b1, b2, b3, b4, b5, b6, b7] = _
              refine st_ite (fun hc => ?_) (fun hc => ?_)
              · replace hc : b7 = true := hc
                have c10 := hc
                clear hc
                refine st_ret ?_
                show some ([], [false]) = _
                exfalso
                have cl := c10
                simp only [hb2, hb3, hb4, hb5, hb6, hb7, Bool.or_eq_true, Bool.and_eq_true, Bool.or_eq_false_iff, Bool.and_eq_false_iff, Bool.not_eq_true', Bool.not_eq_false', decide_eq_true_eq, decide_eq_false_iff_not, beq_iff_eq, bne_iff_ne, beq_eq_false_iff_ne, bne_eq_false_iff_eq, ne_eq, ge_iff_le, gt_iff_lt, arAdd, arSub, arMul] at cl
                try simp only [hb2, hb3, hb4, hb5, hb6, hb7, Bool.or_eq_true, Bool.and_eq_true, Bool.or_eq_false_iff, Bool.and_eq_false_iff, Bool.not_eq_true', Bool.not_eq_false', decide_eq_true_eq, decide_eq_false_iff_not, beq_iff_eq, bne_iff_ne, beq_eq_false_iff_ne, bne_eq_false_iff_eq, ne_eq, ge_iff_le, gt_iff_lt, arAdd, arSub, arMul] at c2
                try simp only [hb2, hb3, hb4, hb5, hb6, hb7, Bool.or_eq_true, Bool.and_eq_true, Bool.or_eq_false_iff, Bool.and_eq_false_iff, Bool.not_eq_true', Bool.not_eq_false', decide_eq_true_eq, decide_eq_false_iff_not, beq_iff_eq, bne_iff_ne, beq_eq_false_iff_ne, bne_eq_false_iff_eq, ne_eq, ge_iff_le, gt_iff_lt, arAdd, arSub, arMul] at c3
                try simp only [hb2, hb3, hb4, hb5, hb6, hb7, Bool.or_eq_true, Bool.and_eq_true, Bool.or_eq_false_iff, Bool.and_eq_false_iff, Bool.not_eq_true', Bool.not_eq_false', decide_eq_true_eq, decide_eq_false_iff_not, beq_iff_eq, bne_iff_ne, beq_eq_false_iff_ne, bne_eq_false_iff_eq, ne_eq, ge_iff_le, gt_iff_lt, arAdd, arSub, arMul] at c4
                try simp only [hb2, hb3, hb4, hb5, hb6, hb7, Bool.or_eq_true, Bool.and_eq_true, Bool.or_eq_false_iff, Bool.and_eq_false_iff, Bool.not_eq_true', Bool.not_eq_false', decide_eq_true_eq, decide_eq_false_iff_not, beq_iff_eq, bne_iff_ne, beq_eq_false_iff_ne, bne_eq_false_iff_eq, ne_eq, ge_iff_le, gt_iff_lt, arAdd, arSub, arMul] at c6
                try simp only [hb2, hb3, hb4, hb5, hb6, hb7, Bool.or_eq_true, Bool.and_eq_true, Bool.or_eq_false_iff, Bool.and_eq_false_iff, Bool.not_eq_true', Bool.not_eq_false', decide_eq_true_eq, decide_eq_false_iff_not, beq_iff_eq, bne_iff_ne, beq_eq_false_iff_ne, bne_eq_false_iff_eq, ne_eq, ge_iff_le, gt_iff_lt, arAdd, arSub, arMul] at c8
                try simp only [hb2, hb3, hb4, hb5, hb6, hb7, Bool.or_eq_true, Bool.and_eq_true, Bool.or_eq_false_iff, Bool.and_eq_false_iff, Bool.not_eq_true', Bool.not_eq_false', decide_eq_true_eq, decide_eq_false_iff_not, beq_iff_eq, bne_iff_ne, beq_eq_false_iff_ne, bne_eq_false_iff_eq, ne_eq, ge_iff_le, gt_iff_lt, arAdd, arSub, arMul] at c9
                try simp only [hb2, hb3, hb4, hb5, hb6, hb7, Bool.or_eq_true, Bool.and_eq_true, Bool.or_eq_false_iff, Bool.and_eq_false_iff, Bool.not_eq_true', Bool.not_eq_false', decide_eq_true_eq, decide_eq_false_iff_not, beq_iff_eq, bne_iff_ne, beq_eq_false_iff_ne, bne_eq_false_iff_eq, ne_eq, ge_iff_le, gt_iff_lt, arAdd, arSub, arMul] at c10
                omega
              · replace hc : b7 = false := hc
                have c11 := hc
                clear hc
                refine st_2_1 (e6_21) (g := true) rfl (l := [i6, i7, i8, i9]) rfl (m := []) rfl (cl_t (q21 i6 i7 i8 i9)) fun i16 i17 b8 hi16 hi17 hb8 => ?_
                show T.den _ _ [i0, i1, i2, i3, i4, i5, i6, i7, i8, i9, i10, i11, i12, i13, i14, i15, i16, i17] [b0, b1, b2, b3, b4, b5, b6, b7, b8] = _
                have k21 := ite_or hi16 hi17
                have k17 := quo_max i7 i8 (by omega) (by omega) (by omega)
                clear hi16 hi17
                refine st_2_1 (e6_22) (g := true) rfl (l := [i6, i7, i8, i9]) rfl (m := []) rfl (cl_t (q22 i6 i7 i8 i9)) fun i18 i19 b9 hi18 hi19 hb9 => ?_
                show T.den _ _ [i0, i1, i2, i3, i4, i5, i6, i7, i8, i9, i10, i11, i12, i13, i14, i15, i16, i17, i18, i19] [b0, b1, b2, b3, b4, b5, b6, b7, b8, b9] = _
                have k22 : (i9 = 0 ∧ i18 = 0 ∧ i19 = 0) ∨ (i9 ≠ 0 ∧ i7 < i8 ∧ i18 = i6 ∧ i19 = i7) ∨ (i9 ≠ 0 ∧ ¬ i7 < i8 ∧ i18 = 0 ∧ i19 = min i7 (arI .sub .u64 i9 1)) := by
                  by_cases h9 : i9 = 0
                  · rw [if_pos h9] at hi18 hi19; exact .inl ⟨h9, hi18, hi19⟩
                  · rw [if_neg h9] at hi18 hi19; rcases ite_or hi18 hi19 with h | h
                    · exact .inr (.inl ⟨h9, h⟩)
                    · exact .inr (.inr ⟨h9, h⟩)
                clear hi18 hi19
                rw [arSub] at k22
                refine st_rq (show ((!(b8 && (decide (i8 > 0)))) || (i9 != 0)) = true from ?_) ?_
                · simp only [hb2, hb3, hb4, hb5, hb6, hb7, hb8, hb9, Bool.or_eq_true, Bool.and_eq_true, Bool.or_eq_false_iff, Bool.and_eq_false_iff, Bool.not_eq_true', Bool.not_eq_false', decide_eq_true_eq, decide_eq_false_iff_not, beq_iff_eq, bne_iff_ne, beq_eq_false_iff_ne, bne_eq_false_iff_eq, ne_eq, ge_iff_le, gt_iff_lt]
                  try omega
                refine st_rq (show ((!(b8 && (decide (i8 > 0)))) || (i8 != 0)) = true from ?_) ?_
                · simp only [hb2, hb3, hb4, hb5, hb6, hb7, hb8, hb9, Bool.or_eq_true, Bool.and_eq_true, Bool.or_eq_false_iff, Bool.and_eq_false_iff, Bool.not_eq_true', Bool.not_eq_false', decide_eq_true_eq, decide_eq_false_iff_not, beq_iff_eq, bne_iff_ne, beq_eq_false_iff_ne, bne_eq_false_iff_eq, ne_eq, ge_iff_le, gt_iff_lt]
                  try omega
                refine st_lb fun b10 hb10 => ?_
                replace hb10 : b10 = ((i16 == (arI .quo .u64 i6 i9)) && (i17 == (arI .quo .u64 i7 i8))) := hb10
                show T.den _ _ [i0, i1, i2, i3, i4, i5, i6, i7, i8, i9, i10, i11, i12, i13, i14, i15, i16, i17, i18, i19] [b0, b1, b2, b3, b4, b5, b6, b7, b8, b9, b10] = _
                refine st_lb fun b11 hb11 => ?_
                replace hb11 : b11 = ((i18 == i6) && (i19 == i7)) := hb11
                show T.den _ _ [i0, i1, i2, i3, i4, i5, i6, i7, i8, i9, i10, i11, i12, i13, i14, i15, i16, i17, i18, i19] [b0, b1, b2, b3, b4, b5, b6, b7, b8, b9, b10, b11] = _
                refine st_lb fun b12 hb12 => ?_
                replace hb12 : b12 = (((decide (i8 > 0)) && b10) && ((decide (i7 ≥ i8)) || b11)) := hb12
                show T.den _ _ [i0, i1, i2, i3, i4, i5, i6, i7, i8, i9, i10, i11, i12, i13, i14, i15, i16, i17, i18, i19] [b0, b1, b2, b3, b4, b5, b6, b7, b8, b9, b10, b11, b12] = _
                refine st_rq (show ((!((!((!b8) || b12)) && (i8 == 0))) || (i9 != 0)) = true from ?_) ?_
                · simp only [hb2, hb3, hb4, hb5, hb6, hb7, hb8, hb9, hb10, hb11, hb12, Bool.or_eq_true, Bool.and_eq_true, Bool.or_eq_false_iff, Bool.and_eq_false_iff, Bool.not_eq_true', Bool.not_eq_false', decide_eq_true_eq, decide_eq_false_iff_not, beq_iff_eq, bne_iff_ne, beq_eq_false_iff_ne, bne_eq_false_iff_eq, ne_eq, ge_iff_le, gt_iff_lt]
                  try omega
                refine st_lb fun b13 hb13 => ?_
                replace hb13 : b13 = ((i16 == (arI .quo .u64 i6 i9)) && (i17 == i7)) := hb13
                show T.den _ _ [i0, i1, i2, i3, i4, i5, i6, i7, i8, i9, i10, i11, i12, i13, i14, i15, i16, i17, i18, i19] [b0, b1, b2, b3, b4, b5, b6, b7, b8, b9, b10, b11, b12, b13] = _
                refine st_lb fun b14 hb14 => ?_
                replace hb14 : b14 = (((i8 == 0) && b13) && (decide (i19 < i9))) := hb14
                show T.den _ _ [i0, i1, i2, i3, i4, i5, i6, i7, i8, i9, i10, i11, i12, i13, i14, i15, i16, i17, i18, i19] [b0, b1, b2, b3, b4, b5, b6, b7, b8, b9, b10, b11, b12, b13, b14] = _
                refine st_ret ?_
                show some ([], [(((!b8) || b12) || b14)]) = _
                have e : (((!b8) || b12) || b14) = true := by
                  simp only [hb2, hb3, hb4, hb5, hb6, hb7, hb8, hb9, hb10, hb11, hb12, hb13, hb14, Bool.or_eq_true, Bool.and_eq_true, Bool.or_eq_false_iff, Bool.and_eq_false_iff, Bool.not_eq_true', Bool.not_eq_false', decide_eq_true_eq, decide_eq_false_iff_not, beq_iff_eq, bne_iff_ne, beq_eq_false_iff_ne, bne_eq_false_iff_eq, ne_eq, ge_iff_le, gt_iff_lt]
                  clear hD hP hQ0 hQ k18 k19 k20
                  omega
                rw [e]
            · replace hc : b6 = false := hc
              have c12 := hc
              clear hc
              refine st_lb fun b7 hb7 => ?_
              replace hb7 : b7 = (!((i14 == (arI .mul .u64 i6 i8)) && (i15 == (arI .mul .u64 i7 i9)))) := hb7
              show T.den _ _ [i0, i1, i2, i3, i4, i5, i6, i7, i8, i9, i10, i11, i12, i13, i14, i15] [b0, b1, b2, b3, b4, b5, b6, b7] = _
              refine st_ite (fun hc => ?_) (fun hc => ?_)
              · replace hc : b7 = true := hc
                have c13 := hc
                clear hc
                refine st_ret ?_
                show some ([], [false]) = _
                exfalso
                have cl := c13
                simp only [hb2, hb3, hb4, hb5, hb6, hb7, Bool.or_eq_true, Bool.and_eq_true, Bool.or_eq_false_iff, Bool.and_eq_false_iff, Bool.not_eq_true', Bool.not_eq_false', decide_eq_true_eq, decide_eq_false_iff_not, beq_iff_eq, bne_iff_ne, beq_eq_false_iff_ne, bne_eq_false_iff_eq, ne_eq, ge_iff_le, gt_iff_lt, arAdd, arSub, arMul] at cl
                try simp only [hb2, hb3, hb4, hb5, hb6, hb7, Bool.or_eq_true, Bool.and_eq_true, Bool.or_eq_false_iff, Bool.and_eq_false_iff, Bool.not_eq_true', Bool.not_eq_false', decide_eq_true_eq, decide_eq_false_iff_not, beq_iff_eq, bne_iff_ne, beq_eq_false_iff_ne, bne_eq_false_iff_eq, ne_eq, ge_iff_le, gt_iff_lt, arAdd, arSub, arMul] at c2
                try simp only [hb2, hb3, hb4, hb5, hb6, hb7, Bool.or_eq_true, Bool.and_eq_true, Bool.or_eq_false_iff, Bool.and_eq_false_iff, Bool.not_eq_true', Bool.not_eq_false', decide_eq_true_eq, decide_eq_false_iff_not, beq_iff_eq, bne_iff_ne, beq_eq_false_iff_ne, bne_eq_false_iff_eq, ne_eq, ge_iff_le, gt_iff_lt, arAdd, arSub, arMul] at c3
                try simp only [hb2, hb3, hb4, hb5, hb6, hb7, Bool.or_eq_true, Bool.and_eq_true, Bool.or_eq_false_iff, Bool.and_eq_false_iff, Bool.not_eq_true', Bool.not_eq_false', decide_eq_true_eq, decide_eq_false_iff_not, beq_iff_eq, bne_iff_ne, beq_eq_false_iff_ne, bne_eq_false_iff_eq, ne_eq, ge_iff_le, gt_iff_lt, arAdd, arSub, arMul] at c4
                try simp only [hb2, hb3, hb4, hb5, hb6, hb7, Bool.or_eq_true, Bool.and_eq_true, Bool.or_eq_false_iff, Bool.and_eq_false_iff, Bool.not_eq_true', Bool.not_eq_false', decide_eq_true_eq, decide_eq_false_iff_not, beq_iff_eq, bne_iff_ne, beq_eq_false_iff_ne, bne_eq_false_iff_eq, ne_eq, ge_iff_le, gt_iff_lt, arAdd, arSub, arMul] at c6
                try simp only [hb2, hb3, hb4, hb5, hb6, hb7, Bool.or_eq_true, Bool.and_eq_true, Bool.or_eq_false_iff, Bool.and_eq_false_iff, Bool.not_eq_true', Bool.not_eq_false', decide_eq_true_eq, decide_eq_false_iff_not, beq_iff_eq, bne_iff_ne, beq_eq_false_iff_ne, bne_eq_false_iff_eq, ne_eq, ge_iff_le, gt_iff_lt, arAdd, arSub, arMul] at c8
                try simp only [hb2, hb3, hb4, hb5, hb6, hb7, Bool.or_eq_true, Bool.and_eq_true, Bool.or_eq_false_iff, Bool.and_eq_false_iff, Bool.not_eq_true', Bool.not_eq_false', decide_eq_true_eq, decide_eq_false_iff_not, beq_iff_eq, bne_iff_ne, beq_eq_false_iff_ne, bne_eq_false_iff_eq, ne_eq, ge_iff_le, gt_iff_lt, arAdd, arSub, arMul] at c12
                try simp only [hb2, hb3, hb4, hb5, hb6, hb7, Bool.or_eq_true, Bool.and_eq_true, Bool.or_eq_false_iff, Bool.and_eq_false_iff, Bool.not_eq_true', Bool.not_eq_false', decide_eq_true_eq, decide_eq_false_iff_not, beq_iff_eq, bne_iff_ne, beq_eq_false_iff_ne, bne_eq_false_iff_eq, ne_eq, ge_iff_le, gt_iff_lt, arAdd, arSub, arMul] at c13
                omega
              · replace hc : b7 = false := hc
                have c14 := hc
                clear hc
                refine st_2_1 (e6_21) (g := true) rfl (l := [i6, i7, i8, i9]) rfl (m := []) rfl (cl_t (q21 i6 i7 i8 i9)) fun i16 i17 b8 hi16 hi17 hb8 => ?_
                show T.den _ _ [i0, i1, i2, i3, i4, i5, i6, i7, i8, i9, i10, i11, i12, i13, i14, i15, i16, i17] [b0, b1, b2, b3, b4, b5, b6, b7, b8] = _
                have k21 := ite_or hi16 hi17
                have k17 := quo_max i7 i8 (by omega) (by omega) (by omega)
                clear hi16 hi17
                refine st_2_1 (e6_22) (g := true) rfl (l := [i6, i7, i8, i9]) rfl (m := []) rfl (cl_t (q22 i6 i7 i8 i9)) fun i18 i19 b9 hi18 hi19 hb9 => ?_
                show T.den _ _ [i0, i1, i2, i3, i4, i5, i6, i7, i8, i9, i10, i11, i12, i13, i14, i15, i16, i17, i18, i19] [b0, b1, b2, b3, b4, b5, b6, b7, b8, b9] = _
                have k22 : (i9 = 0 ∧ i18 = 0 ∧ i19 = 0) ∨ (i9 ≠ 0 ∧ i7 < i8 ∧ i18 = i6 ∧ i19 = i7) ∨ (i9 ≠ 0 ∧ ¬ i7 < i8 ∧ i18 = 0 ∧ i19 = min i7 (arI .sub .u64 i9 1)) := by
                  by_cases h9 : i9 = 0
                  · rw [if_pos h9] at hi18 hi19; exact .inl ⟨h9, hi18, hi19⟩
                  · rw [if_neg h9] at hi18 hi19; rcases ite_or hi18 hi19 with h | h
                    · exact .inr (.inl ⟨h9, h⟩)
                    · exact .inr (.inr ⟨h9, h⟩)
                clear hi18 hi19
                rw [arSub] at k22
                refine st_rq (show ((!(b8 && (decide (i8 > 0)))) || (i9 != 0)) = true from ?_) ?_
                · simp only [hb2, hb3, hb4, hb5, hb6, hb7, hb8, hb9, Bool.or_eq_true, Bool.and_eq_true, Bool.or_eq_false_iff, Bool.and_eq_false_iff, Bool.not_eq_true', Bool.not_eq_false', decide_eq_true_eq, decide_eq_false_iff_not, beq_iff_eq, bne_iff_ne, beq_eq_false_iff_ne, bne_eq_false_iff_eq, ne_eq, ge_iff_le, gt_iff_lt]
                  try omega
                refine st_rq (show ((!(b8 && (decide (i8 > 0)))) || (i8 != 0)) = true from ?_) ?_
                · simp only [hb2, hb3, hb4, hb5, hb6, hb7, hb8, hb9, Bool.or_eq_true, Bool.and_eq_true, Bool.or_eq_false_iff, Bool.and_eq_false_iff, Bool.not_eq_true', Bool.not_eq_false', decide_eq_true_eq, decide_eq_false_iff_not, beq_iff_eq, bne_iff_ne, beq_eq_false_iff_ne, bne_eq_false_iff_eq, ne_eq, ge_iff_le, gt_iff_lt]
                  try omega
                refine st_lb fun b10 hb10 => ?_
                replace hb10 : b10 = ((i16 == (arI .quo .u64 i6 i9)) && (i17 == (arI .quo .u64 i7 i8))) := hb10
                show T.den _ _ [i0, i1, i2, i3, i4, i5, i6, i7, i8, i9, i10, i11, i12, i13, i14, i15, i16, i17, i18, i19] [b0, b1, b2, b3, b4, b5, b6, b7, b8, b9, b10] = _
                refine st_lb fun b11 hb11 => ?_
                replace hb11 : b11 = ((i18 == i6) && (i19 == i7)) := hb11
                show T.den _ _ [i0, i1, i2, i3, i4, i5, i6, i7, i8, i9, i10, i11, i12, i13, i14, i15, i16, i17, i18, i19] [b0, b1, b2, b3, b4, b5, b6, b7, b8, b9, b10, b11] = _
                refine st_lb fun b12 hb12 => ?_
                replace hb12 : b12 = (((decide (i8 > 0)) && b10) && ((decide (i7 ≥ i8)) || b11)) := hb12
                show T.den _ _ [i0, i1, i2, i3, i4, i5, i6, i7, i8, i9, i10, i11, i12, i13, i14, i15, i16, i17, i18, i19] [b0, b1, b2, b3, b4, b5, b6, b7, b8, b9, b10, b11, b12] = _
                refine st_rq (show ((!((!((!b8) || b12)) && (i8 == 0))) || (i9 != 0)) = true from ?_) ?_
                · simp only [hb2, hb3, hb4, hb5, hb6, hb7, hb8, hb9, hb10, hb11, hb12, Bool.or_eq_true, Bool.and_eq_true, Bool.or_eq_false_iff, Bool.and_eq_false_iff, Bool.not_eq_true', Bool.not_eq_false', decide_eq_true_eq, decide_eq_false_iff_not, beq_iff_eq, bne_iff_ne, beq_eq_false_iff_ne, bne_eq_false_iff_eq, ne_eq, ge_iff_le, gt_iff_lt]
                  try omega
                refine st_lb fun b13 hb13 => ?_
                replace hb13 : b13 = ((i16 == (arI .quo .u64 i6 i9)) && (i17 == i7)) := hb13
                show T.den _ _ [i0, i1, i2, i3, i4, i5, i6, i7, i8, i9, i10, i11, i12, i13, i14, i15, i16, i17, i18, i19] [b0, b1, b2, b3, b4, b5, b6, b7, b8, b9, b10, b11, b12, b13] = _
                refine st_lb fun b14 hb14 => ?_
                replace hb14 : b14 = (((i8 == 0) && b13) && (decide (i19 < i9))) := hb14
                show T.den _ _ [i0, i1, i2, i3, i4, i5, i6, i7, i8, i9, i10, i11, i12, i13, i14, i15, i16, i17, i18, i19] [b0, b1, b2, b3, b4, b5, b6, b7, b8, b9, b10, b11, b12, b13, b14] = _
                refine st_ret ?_
                show some ([], [(((!b8) || b12) || b14)]) = _
                have e : (((!b8) || b12) || b14) = true := by
                  simp only [hb2, hb3, hb4, hb5, hb6, hb7, hb8, hb9, hb10, hb11, hb12, hb13, hb14, Bool.or_eq_true, Bool.and_eq_true, Bool.or_eq_false_iff, Bool.and_eq_false_iff, Bool.not_eq_true', Bool.not_eq_false', decide_eq_true_eq, decide_eq_false_iff_not, beq_iff_eq, bne_iff_ne, beq_eq_false_iff_ne, bne_eq_false_iff_eq, ne_eq, ge_iff_le, gt_iff_lt]
                  clear hD hP hQ0 hQ k18 k19 k20
                  omega
                rw [e]
      · replace hc : (decide (i7 > (arI .sub .u64 i5 i9))) = false := hc
        have c15 := hc
        clear hc
        refine st_lb fun b2 hb2 => ?_
        replace hb2 : b2 = (!((i10 == (arI .add .u64 i6 i8)) && (i11 == (arI .add .u64 i7 i9)))) := hb2
        show T.den _ _ [i0, i1, i2, i3, i4, i5, i6, i7, i8, i9, i10, i11] [b0, b1, b2] = _
        refine st_ite (fun hc => ?_) (fun hc => ?_)
        · replace hc : b2 = true := hc
          have c16 := hc
          clear hc
          refine st_ret ?_
          show some ([], [false]) = _
          exfalso
          have cl := c16
          simp only [hb2, Bool.or_eq_true, Bool.and_eq_true, Bool.or_eq_false_iff, Bool.and_eq_false_iff, Bool.not_eq_true', Bool.not_eq_false', decide_eq_true_eq, decide_eq_false_iff_not, beq_iff_eq, bne_iff_ne, beq_eq_false_iff_ne, bne_eq_false_iff_eq, ne_eq, ge_iff_le, gt_iff_lt, arAdd, arSub, arMul] at cl
          try simp only [hb2, Bool.or_eq_true, Bool.and_eq_true, Bool.or_eq_false_iff, Bool.and_eq_false_iff, Bool.not_eq_true', Bool.not_eq_false', decide_eq_true_eq, decide_eq_false_iff_not, beq_iff_eq, bne_iff_ne, beq_eq_false_iff_ne, bne_eq_false_iff_eq, ne_eq, ge_iff_le, gt_iff_lt, arAdd, arSub, arMul] at c2
          try simp only [hb2, Bool.or_eq_true, Bool.and_eq_true, Bool.or_eq_false_iff, Bool.and_eq_false_iff, Bool.not_eq_true', Bool.not_eq_false', decide_eq_true_eq, decide_eq_false_iff_not, beq_iff_eq, bne_iff_ne, beq_eq_false_iff_ne, bne_eq_false_iff_eq, ne_eq, ge_iff_le, gt_iff_lt, arAdd, arSub, arMul] at c3
          try simp only [hb2, Bool.or_eq_true, Bool.and_eq_true, Bool.or_eq_false_iff, Bool.and_eq_false_iff, Bool.not_eq_true', Bool.not_eq_false', decide_eq_true_eq, decide_eq_false_iff_not, beq_iff_eq, bne_iff_ne, beq_eq_false_iff_ne, bne_eq_false_iff_eq, ne_eq, ge_iff_le, gt_iff_lt, arAdd, arSub, arMul] at c15
          try simp only [hb2, Bool.or_eq_true, Bool.and_eq_true, Bool.or_eq_false_iff, Bool.and_eq_false_iff, Bool.not_eq_true', Bool.not_eq_false', decide_eq_true_eq, decide_eq_false_iff_not, beq_iff_eq, bne_iff_ne, beq_eq_false_iff_ne, bne_eq_false_iff_eq, ne_eq, ge_iff_le, gt_iff_lt, arAdd, arSub, arMul] at c16
          omega
        · replace hc : b2 = false := hc
          have c17 := hc
          clear hc
          refine st_2_0 (e6_19) (g := true) rfl (l := [i6, i7, i8, i9, 64]) rfl (m := []) rfl (cl_t (q19 i6 i7 i8 i9 64 (by omega) (by omega) (by omega) (by omega) (by omega) (by omega))) fun i12 i13 hi12 hi13 => ?_
          show T.den _ _ [i0, i1, i2, i3, i4, i5, i6, i7, i8, i9, i10, i11, i12, i13] [b0, b1, b2] = _
          have k19 := ite_or hi12 hi13
          rw [← tp_64] at k19
          clear hi12 hi13
          refine st_lb fun b3 hb3 => ?_
          replace hb3 : b3 = (!((i12 == i4) && (i13 == i5))) := hb3
          show T.den _ _ [i0, i1, i2, i3, i4, i5, i6, i7, i8, i9, i10, i11, i12, i13] [b0, b1, b2, b3] = _
          refine st_lb fun b4 hb4 => ?_
          replace hb4 : b4 = (!((i12 == (arI .sub .u64 i6 i9)) && (i13 == (arI .sub .u64 i7 i8)))) := hb4
          show T.den _ _ [i0, i1, i2, i3, i4, i5, i6, i7, i8, i9, i10, i11, i12, i13] [b0, b1, b2, b3, b4] = _
          refine st_lb fun b5 hb5 => ?_
          replace hb5 : b5 = (((decide (i6 < i9)) && b3) || ((decide (i6 ≥ i9)) && b4)) := hb5
          show T.den _ _ [i0, i1, i2, i3, i4, i5, i6, i7, i8, i9, i10, i11, i12, i13] [b0, b1, b2, b3, b4, b5] = _
          refine st_ite (fun hc => ?_) (fun hc => ?_)
          · replace hc : b5 = true := hc
            have c18 := hc
            clear hc
            refine st_ret ?_
            show some ([], [false]) = _
            exfalso
            have cl := c18
            simp only [hb2, hb3, hb4, hb5, Bool.or_eq_true, Bool.and_eq_true, Bool.or_eq_false_iff, Bool.and_eq_false_iff, Bool.not_eq_true', Bool.not_eq_false', decide_eq_true_eq, decide_eq_false_iff_not, beq_iff_eq, bne_iff_ne, beq_eq_false_iff_ne, bne_eq_false_iff_eq, ne_eq, ge_iff_le, gt_iff_lt, arAdd, arSub, arMul] at cl
            try simp only [hb2, hb3, hb4, hb5, Bool.or_eq_true, Bool.and_eq_true, Bool.or_eq_false_iff, Bool.and_eq_false_iff, Bool.not_eq_true', Bool.not_eq_false', decide_eq_true_eq, decide_eq_false_iff_not, beq_iff_eq, bne_iff_ne, beq_eq_false_iff_ne, bne_eq_false_iff_eq, ne_eq, ge_iff_le, gt_iff_lt, arAdd, arSub, arMul] at c2
            try simp only [hb2, hb3, hb4, hb5, Bool.or_eq_true, Bool.and_eq_true, Bool.or_eq_false_iff, Bool.and_eq_false_iff, Bool.not_eq_true', Bool.not_eq_false', decide_eq_true_eq, decide_eq_false_iff_not, beq_iff_eq, bne_iff_ne, beq_eq_false_iff_ne, bne_eq_false_iff_eq, ne_eq, ge_iff_le, gt_iff_lt, arAdd, arSub, arMul] at c3
            try simp only [hb2, hb3, hb4, hb5, Bool.or_eq_true, Bool.and_eq_true, Bool.or_eq_false_iff, Bool.and_eq_false_iff, Bool.not_eq_true', Bool.not_eq_false', decide_eq_true_eq, decide_eq_false_iff_not, beq_iff_eq, bne_iff_ne, beq_eq_false_iff_ne, bne_eq_false_iff_eq, ne_eq, ge_iff_le, gt_iff_lt, arAdd, arSub, arMul] at c15
            try simp only [hb2, hb3, hb4, hb5, Bool.or_eq_true, Bool.and_eq_true, Bool.or_eq_false_iff, Bool.and_eq_false_iff, Bool.not_eq_true', Bool.not_eq_false', decide_eq_true_eq, decide_eq_false_iff_not, beq_iff_eq, bne_iff_ne, beq_eq_false_iff_ne, bne_eq_false_iff_eq, ne_eq, ge_iff_le, gt_iff_lt, arAdd, arSub, arMul] at c17
            try simp only [hb2, hb3, hb4, hb5, Bool.or_eq_true, Bool.and_eq_true, Bool.or_eq_false_iff, Bool.and_eq_false_iff, Bool.not_eq_true', Bool.not_eq_false', decide_eq_true_eq, decide_eq_false_iff_not, beq_iff_eq, bne_iff_ne, beq_eq_false_iff_ne, bne_eq_false_iff_eq, ne_eq, ge_iff_le, gt_iff_lt, arAdd, arSub, arMul] at c18
            omega
          · replace hc : b5 = false := hc
            have c19 := hc
            clear hc
            refine st_2_0 (e6_20) (g := true) rfl (l := [i6, i7, i8, i9, 64]) rfl (m := []) rfl (cl_t (q20 i6 i7 i8 i9 64 (by omega) (by omega) (by omega) (by omega) (by omega) (by omega))) fun i14 i15 hi14 hi15 => ?_
            show T.den _ _ [i0, i1, i2, i3, i4, i5, i6, i7, i8, i9, i10, i11, i12, i13, i14, i15] [b0, b1, b2, b3, b4, b5] = _
            have k20 := ite_or hi14 hi15
            rw [← tp_64] at k20
            clear hi14 hi15
            have hP : 0 ≤ i7 * i9 := Int.mul_nonneg (by omega) (by omega)
            have hQ0 : 0 ≤ i6 * i8 := Int.mul_nonneg (by omega) (by omega)
            have hQ : i6 * i8 ≤ i7 * i9 := Int.mul_le_mul (by omega) (by omega) (by omega) (by omega)
            have hD : (i9 ≤ 0 ∧ i7 * i9 = 0) ∨ (0 < i9 ∧ i7 > arI .quo .u64 i5 i9 ∧ i7 * i9 > i5) ∨ (0 < i9 ∧ ¬ i7 > arI .quo .u64 i5 i9 ∧ ¬ i7 * i9 > i5) := quo_or i7 i5 i9 (by omega) (by omega) (by omega)
            refine st_rq (show ((!(decide (i9 > 0))) || (i9 != 0)) = true from ?_) ?_
            · simp only [hb2, hb3, hb4, hb5, Bool.or_eq_true, Bool.and_eq_true, Bool.or_eq_false_iff, Bool.and_eq_false_iff, Bool.not_eq_true', Bool.not_eq_false', decide_eq_true_eq, decide_eq_false_iff_not, beq_iff_eq, bne_iff_ne, beq_eq_false_iff_ne, bne_eq_false_iff_eq, ne_eq, ge_iff_le, gt_iff_lt]
              try omega
            refine st_lb fun b6 hb6 => ?_
            replace hb6 : b6 = ((decide (i9 > 0)) && (decide (i7 > (arI .quo .u64 i5 i9)))) := hb6
            show T.den _ _ [i0, i1, i2, i3, i4, i5, i6, i7, i8, i9, i10, i11, i12, i13, i14, i15] [b0, b1, b2, b3, b4, b5, b6] = _
            refine st_ite (fun hc => ?_) (fun hc => ?_)
            · replace hc : b6 = true := hc
              have c20 := hc
              clear hc
              refine st_lb fun b7 hb7 => ?_
              replace hb7 : b7 = (!((i14 == i4) && (i15 == i5))) := hb7
              show T.den _ _ [i0, i1, i2, i3, i4, i5, i6, i7, i8, i9, i10, i11, i12, i13, i14, i15] [b0, b1, b2, b3, b4, b5, b6, b7] = _
              refine st_ite (fun hc => ?_) (fun hc => ?_)
              · replace hc : b7 = true := hc
                have c21 := hc
                clear hc
                refine st_ret ?_
                show some ([], [false]) = _
                exfalso
                have cl := c21
                simp only [hb2, hb3, hb4, hb5, hb6, hb7, Bool.or_eq_true, Bool.and_eq_true, Bool.or_eq_false_iff, Bool.and_eq_false_iff, Bool.not_eq_true', Bool.not_eq_false', decide_eq_true_eq, decide_eq_false_iff_not, beq_iff_eq, bne_iff_ne, beq_eq_false_iff_ne, bne_eq_false_iff_eq, ne_eq, ge_iff_le, gt_iff_lt, arAdd, arSub, arMul] at cl
                try simp only [hb2, hb3, hb4, hb5, hb6, hb7, Bool.or_eq_true, Bool.and_eq_true, Bool.or_eq_false_iff, Bool.and_eq_false_iff, Bool.not_eq_true', Bool.not_eq_false', decide_eq_true_eq, decide_eq_false_iff_not, beq_iff_eq, bne_iff_ne, beq_eq_false_iff_ne, bne_eq_false_iff_eq, ne_eq, ge_iff_le, gt_iff_lt, arAdd, arSub, arMul] at c2
                try simp only [hb2, hb3, hb4, hb5, hb6, hb7, Bool.or_eq_true, Bool.and_eq_true, Bool.or_eq_false_iff, Bool.and_eq_false_iff, Bool.not_eq_true', Bool.not_eq_false', decide_eq_true_eq, decide_eq_false_iff_not, beq_iff_eq, bne_iff_ne, beq_eq_false_iff_ne, bne_eq_false_iff_eq, ne_eq, ge_iff_le, gt_iff_lt, arAdd, arSub, arMul] at c3
                try simp only [hb2, hb3, hb4, hb5, hb6, hb7, Bool.or_eq_true, Bool.and_eq_true, Bool.or_eq_false_iff, Bool.and_eq_false_iff, Bool.not_eq_true', Bool.not_eq_false', decide_eq_true_eq, decide_eq_false_iff_not, beq_iff_eq, bne_iff_ne, beq_eq_false_iff_ne, bne_eq_false_iff_eq, ne_eq, ge_iff_le, gt_iff_lt, arAdd, arSub, arMul] at c15
                try simp only [hb2, hb3, hb4, hb5, hb6, hb7, Bool.or_eq_true, Bool.and_eq_true, Bool.or_eq_false_iff, Bool.and_eq_false_iff, Bool.not_eq_true', Bool.not_eq_false', decide_eq_true_eq, decide_eq_false_iff_not, beq_iff_eq, bne_iff_ne, beq_eq_false_iff_ne, bne_eq_false_iff_eq, ne_eq, ge_iff_le, gt_iff_lt, arAdd, arSub, arMul] at c17
                try simp only [hb2, hb3, hb4, hb5, hb6, hb7, Bool.or_eq_true, Bool.and_eq_true, Bool.or_eq_false_iff, Bool.and_eq_false_iff, Bool.not_eq_true', Bool.not_eq_false', decide_eq_true_eq, decide_eq_false_iff_not, beq_iff_eq, bne_iff_ne, beq_eq_false_iff_ne, bne_eq_false_iff_eq, ne_eq, ge_iff_le, gt_iff_lt, arAdd, arSub, arMul] at c19
                try simp only [hb2, hb3, hb4, hb5, hb6, hb7, Bool.or_eq_true, Bool.and_eq_true, Bool.or_eq_false_iff, Bool.and_eq_false_iff, Bool.not_eq_true', Bool.not_eq_false', decide_eq_true_eq, decide_eq_false_iff_not, beq_iff_eq, bne_iff_ne, beq_eq_false_iff_ne, bne_eq_false_iff_eq, ne_eq, ge_iff_le, gt_iff_lt, arAdd, arSub, arMul] at c20
                try simp only [hb2, hb3, hb4, hb5, hb6, hb7, Bool.or_eq_true, Bool.and_eq_true, Bool.or_eq_false_iff, Bool.and_eq_false_iff, Bool.not_eq_true', Bool.not_eq_false', decide_eq_true_eq, decide_eq_false_iff_not, beq_iff_eq, bne_iff_ne, beq_eq_false_iff_ne, bne_eq_false_iff_eq, ne_eq, ge_iff_le, gt_iff_lt, arAdd, arSub, arMul] at c21
                omega
              · replace hc : b7 = false := hc
                have c22 := hc
                clear hc
                refine st_2_1 (e6_21) (g := true) rfl (l := [i6, i7, i8, i9]) rfl (m := []) rfl (cl_t (q21 i6 i7 i8 i9)) fun i16 i17 b8 hi16 hi17 hb8 => ?_
                show T.den _ _ [i0, i1, i2, i3, i4, i5, i6, i7, i8, i9, i10, i11, i12, i13, i14, i15, i16, i17] [b0, b1, b2, b3, b4, b5, b6, b7, b8] = _
                have k21 := ite_or hi16 hi17
                have k17 := quo_max i7 i8 (by omega) (by omega) (by omega)
                clear hi16 hi17
                refine st_2_1 (e6_22) (g := true) rfl (l := [i6, i7, i8, i9]) rfl (m := []) rfl (cl_t (q22 i6 i7 i8 i9)) fun i18 i19 b9 hi18 hi19 hb9 => ?_
                show T.den _ _ [i0, i1, i2, i3, i4, i5, i6, i7, i8, i9, i10, i11, i12, i13, i14, i15, i16, i17, i18, i19] [b0, b1, b2, b3, b4, b5, b6, b7, b8, b9] = _
                have k22 : (i9 = 0 ∧ i18 = 0 ∧ i19 = 0) ∨ (i9 ≠ 0 ∧ i7 < i8 ∧ i18 = i6 ∧ i19 = i7) ∨ (i9 ≠ 0 ∧ ¬ i7 < i8 ∧ i18 = 0 ∧ i19 = min i7 (arI .sub .u64 i9 1)) := by
                  by_cases h9 : i9 = 0
                  · rw [if_pos h9] at hi18 hi19; exact .inl ⟨h9, hi18, hi19⟩
                  · rw [if_neg h9] at hi18 hi19; rcases ite_or hi18 hi19 with h | h
                    · exact .inr (.inl ⟨h9, h⟩)
                    · exact .inr (.inr ⟨h9, h⟩)
                clear hi18 hi19
                rw [arSub] at k22
                refine st_rq (show ((!(b8 && (decide (i8 > 0)))) || (i9 != 0)) = true from ?_) ?_
                · simp only [hb2, hb3, hb4, hb5, hb6, hb7, hb8, hb9, Bool.or_eq_true, Bool.and_eq_true, Bool.or_eq_false_iff, Bool.and_eq_false_iff, Bool.not_eq_true', Bool.not_eq_false', decide_eq_true_eq, decide_eq_false_iff_not, beq_iff_eq, bne_iff_ne, beq_eq_false_iff_ne, bne_eq_false_iff_eq, ne_eq, ge_iff_le, gt_iff_lt]
                  try omega
                refine st_rq (show ((!(b8 && (decide (i8 > 0)))) || (i8 != 0)) = true from ?_) ?_
                · simp only [hb2, hb3, hb4, hb5, hb6, hb7, hb8, hb9, Bool.or_eq_true, Bool.and_eq_true, Bool.or_eq_false_iff, Bool.and_eq_false_iff, Bool.not_eq_true', Bool.not_eq_false', decide_eq_true_eq, decide_eq_false_iff_not, beq_iff_eq, bne_iff_ne, beq_eq_false_iff_ne, bne_eq_false_iff_eq, ne_eq, ge_iff_le, gt_iff_lt]
                  try omega
                refine st_lb fun b10 hb10 => ?_
                replace hb10 : b10 = ((i16 == (arI .quo .u64 i6 i9)) && (i17 == (arI .quo .u64 i7 i8))) := hb10
                show T.den _ _ [i0, i1, i2, i3, i4, i5, i6, i7, i8, i9, i10, i11, i12, i13, i14, i15, i16, i17, i18, i19] [b0, b1, b2, b3, b4, b5, b6, b7, b8, b9, b10] = _
                refine st_lb fun b11 hb11 => ?_
                replace hb11 : b11 = ((i18 == i6) && (i19 == i7)) := hb11
                show T.den _ _ [i0, i1, i2, i3, i4, i5, i6, i7, i8, i9, i10, i11, i12, i13, i14, i15, i16, i17, i18, i19] [b0, b1, b2, b3, b4, b5, b6, b7, b8, b9, b10, b11] = _
                refine st_lb fun b12 hb12 => ?_
                replace hb12 : b12 = (((decide (i8 > 0)) && b10) && ((decide (i7 ≥ i8)) || b11)) := hb12
                show T.den _ _ [i0, i1, i2, i3, i4, i5, i6, i7, i8, i9, i10, i11, i12, i13, i14, i15, i16, i17, i18, i19] [b0, b1, b2, b3, b4, b5, b6, b7, b8, b9, b10, b11, b12] = _
                refine st_rq (show ((!((!((!b8) || b12)) && (i8 == 0))) || (i9 != 0)) = true from ?_) ?_
                · simp only [hb2, hb3, hb4, hb5, hb6, hb7, hb8, hb9, hb10, hb11, hb12, Bool.or_eq_true, Bool.and_eq_true, Bool.or_eq_false_iff, Bool.and_eq_false_iff, Bool.not_eq_true', Bool.not_eq_false', decide_eq_true_eq, decide_eq_false_iff_not, beq_iff_eq, bne_iff_ne, beq_eq_false_iff_ne, bne_eq_false_iff_eq, ne_eq, ge_iff_le, gt_iff_lt]
                  try omega
                refine st_lb fun b13 hb13 => ?_
                replace hb13 : b13 = ((i16 == (arI .quo .u64 i6 i9)) && (i17 == i7)) := hb13
                show T.den _ _ [i0, i1, i2, i3, i4, i5, i6, i7, i8, i9, i10, i11, i12, i13, i14, i15, i16, i17, i18, i19] [b0, b1, b2, b3, b4, b5, b6, b7, b8, b9, b10, b11, b12, b13] = _
                refine st_lb fun b14 hb14 => ?_
                replace hb14 : b14 = (((i8 == 0) && b13) && (decide (i19 < i9))) := hb14
                show T.den _ _ [i0, i1, i2, i3, i4, i5, i6, i7, i8, i9, i10, i11, i12, i13, i14, i15, i16, i17, i18, i19] [b0, b1, b2, b3, b4, b5, b6, b7, b8, b9, b10, b11, b12, b13, b14] = _
                refine st_ret ?_
                show some ([], [(((!b8) || b12) || b14)]) = _
                have e : (((!b8) || b12) || b14) = true := by
                  simp only [hb2, hb3, hb4, hb5, hb6, hb7, hb8, hb9, hb10, hb11, hb12, hb13, hb14, Bool.or_eq_true, Bool.and_eq_true, Bool.or_eq_false_iff, Bool.and_eq_false_iff, Bool.not_eq_true', Bool.not_eq_false', decide_eq_true_eq, decide_eq_false_iff_not, beq_iff_eq, bne_iff_ne, beq_eq_false_iff_ne, bne_eq_false_iff_eq, ne_eq, ge_iff_le, gt_iff_lt]
                  clear hD hP hQ0 hQ k18 k19 k20
                  omega
                rw [e]
            · replace hc : b6 = false := hc
              have c23 := hc
              clear hc
              refine st_lb fun b7 hb7 => ?_
              replace hb7 : b7 = (!((i14 == (arI .mul .u64 i6 i8)) && (i15 == (arI .mul .u64 i7 i9)))) := hb7
              show T.den _ _ [i0, i1, i2, i3, i4, i5, i6, i7, i8, i9, i10, i11, i12, i13, i14, i15] [b0, b1, b2, b3, b4, b5, b6, b7] = _
              refine st_ite (fun hc => ?_) (fun hc => ?_)
              · replace hc : b7 = true := hc
                have c24 := hc
                clear hc
                refine st_ret ?_
                show some ([], [false]) = _
                exfalso
                have cl := c24
                simp only [hb2, hb3, hb4, hb5, hb6, hb7, Bool.or_eq_true, Bool.and_eq_true, Bool.or_eq_false_iff, Bool.and_eq_false_iff, Bool.not_eq_true', Bool.not_eq_false', decide_eq_true_eq, decide_eq_false_iff_not, beq_iff_eq, bne_iff_ne, beq_eq_false_iff_ne, bne_eq_false_iff_eq, ne_eq, ge_iff_le, gt_iff_lt, arAdd, arSub, arMul] at cl
                try simp only [hb2, hb3, hb4, hb5, hb6, hb7, Bool.or_eq_true, Bool.and_eq_true, Bool.or_eq_false_iff, Bool.and_eq_false_iff, Bool.not_eq_true', Bool.not_eq_false', decide_eq_true_eq, decide_eq_false_iff_not, beq_iff_eq, bne_iff_ne, beq_eq_false_iff_ne, bne_eq_false_iff_eq, ne_eq, ge_iff_le, gt_iff_lt, arAdd, arSub, arMul] at c2
                try simp only [hb2, hb3, hb4, hb5, hb6, hb7, Bool.or_eq_true, Bool.and_eq_true, Bool.or_eq_false_iff, Bool.and_eq_false_iff, Bool.not_eq_true', Bool.not_eq_false', decide_eq_true_eq, decide_eq_false_iff_not, beq_iff_eq, bne_iff_ne, beq_eq_false_iff_ne, bne_eq_false_iff_eq, ne_eq, ge_iff_le, gt_iff_lt, arAdd, arSub, arMul] at c3
                try simp only [hb2, hb3, hb4, hb5, hb6, hb7, Bool.or_eq_true, Bool.and_eq_true, Bool.or_eq_false_iff, Bool.and_eq_false_iff, Bool.not_eq_true', Bool.not_eq_false', decide_eq_true_eq, decide_eq_false_iff_not, beq_iff_eq, bne_iff_ne, beq_eq_false_iff_ne, bne_eq_false_iff_eq, ne_eq, ge_iff_le, gt_iff_lt, arAdd, arSub, arMul] at c15
                try simp only [hb2, hb3, hb4, hb5, hb6, hb7, Bool.or_eq_true, Bool.and_eq_true, Bool.or_eq_false_iff, Bool.and_eq_false_iff, Bool.not_eq_true', Bool.not_eq_false', decide_eq_true_eq, decide_eq_false_iff_not, beq_iff_eq, bne_iff_ne, beq_eq_false_iff_ne, bne_eq_false_iff_eq, ne_eq, ge_iff_le, gt_iff_lt, arAdd, arSub, arMul] at c17
                try simp only [hb2, hb3, hb4, hb5, hb6, hb7, Bool.or_eq_true, Bool.and_eq_true, Bool.or_eq_false_iff, Bool.and_eq_false_iff, Bool.not_eq_true', Bool.not_eq_false', decide_eq_true_eq, decide_eq_false_iff_not, beq_iff_eq, bne_iff_ne, beq_eq_false_iff_ne, bne_eq_false_iff_eq, ne_eq, ge_iff_le, gt_iff_lt, arAdd, arSub, arMul] at c19
                try simp only [hb2, hb3, hb4, hb5, hb6, hb7, Bool.or_eq_true, Bool.and_eq_true, Bool.or_eq_false_iff, Bool.and_eq_false_iff, Bool.not_eq_true', Bool.not_eq_false', decide_eq_true_eq, decide_eq_false_iff_not, beq_iff_eq, bne_iff_ne, beq_eq_false_iff_ne, bne_eq_false_iff_eq, ne_eq, ge_iff_le, gt_iff_lt, arAdd, arSub, arMul] at c23
                try simp only [hb2, hb3, hb4, hb5, hb6, hb7, Bool.or_eq_true, Bool.and_eq_true, Bool.or_eq_false_iff, Bool.and_eq_false_iff, Bool.not_eq_true', Bool.not_eq_false', decide_eq_true_eq, decide_eq_false_iff_not, beq_iff_eq, bne_iff_ne, beq_eq_false_iff_ne, bne_eq_false_iff_eq, ne_eq, ge_iff_le, gt_iff_lt, arAdd, arSub, arMul] at c24
                omega
              · replace hc : b7 = false := hc
                have c25 := hc
                clear hc
                refine st_2_1 (e6_21) (g := true) rfl (l := [i6, i7, i8, i9]) rfl (m := []) rfl (cl_t (q21 i6 i7 i8 i9)) fun i16 i17 b8 hi16 hi17 hb8 => ?_
                show T.den _ _ [i0, i1, i2, i3, i4, i5, i6, i7, i8, i9, i10, i11, i12, i13, i14, i15, i16, i17] [b0, b1, b2, b3, b4, b5, b6, b7, b8] = _
                have k21 := ite_or hi16 hi17
                have k17 := quo_max i7 i8 (by omega) (by omega) (by omega)
                clear hi16 hi17
                refine st_2_1 (e6_22) (g := true) rfl (l := [i6, i7, i8, i9]) rfl (m := []) rfl (cl_t (q22 i6 i7 i8 i9)) fun i18 i19 b9 hi18 hi19 hb9 => ?_
                show T.den _ _ [i0, i1, i2, i3, i4, i5, i6, i7, i8, i9, i10, i11, i12, i13, i14, i15, i16, i17, i18, i19] [b0, b1, b2, b3, b4, b5, b6, b7, b8, b9] = _
                have k22 : (i9 = 0 ∧ i18 = 0 ∧ i19 = 0) ∨ (i9 ≠ 0 ∧ i7 < i8 ∧ i18 = i6 ∧ i19 = i7) ∨ (i9 ≠ 0 ∧ ¬ i7 < i8 ∧ i18 = 0 ∧ i19 = min i7 (arI .sub .u64 i9 1)) := by
                  by_cases h9 : i9 = 0
                  · rw [if_pos h9] at hi18 hi19; exact .inl ⟨h9, hi18, hi19⟩
                  · rw [if_neg h9] at hi18 hi19; rcases ite_or hi18 hi19 with h | h
                    · exact .inr (.inl ⟨h9, h⟩)
                    · exact .inr (.inr ⟨h9, h⟩)
                clear hi18 hi19
                rw [arSub] at k22
                refine st_rq (show ((!(b8 && (decide (i8 > 0)))) || (i9 != 0)) = true from ?_) ?_
                · simp only [hb2, hb3, hb4, hb5, hb6, hb7, hb8, hb9, Bool.or_eq_true, Bool.and_eq_true, Bool.or_eq_false_iff, Bool.and_eq_false_iff, Bool.not_eq_true', Bool.not_eq_false', decide_eq_true_eq, decide_eq_false_iff_not, beq_iff_eq, bne_iff_ne, beq_eq_false_iff_ne, bne_eq_false_iff_eq, ne_eq, ge_iff_le, gt_iff_lt]
                  try omega
                refine st_rq (show ((!(b8 && (decide (i8 > 0)))) || (i8 != 0)) = true from ?_) ?_
                · simp only [hb2, hb3, hb4, hb5, hb6, hb7, hb8, hb9, Bool.or_eq_true, Bool.and_eq_true, Bool.or_eq_false_iff, Bool.and_eq_false_iff, Bool.not_eq_true', Bool.not_eq_false', decide_eq_true_eq, decide_eq_false_iff_not, beq_iff_eq, bne_iff_ne, beq_eq_false_iff_ne, bne_eq_false_iff_eq, ne_eq, ge_iff_le, gt_iff_lt]
                  try omega
                refine st_lb fun b10 hb10 => ?_
                replace hb10 : b10 = ((i16 == (arI .quo .u64 i6 i9)) && (i17 == (arI .quo .u64 i7 i8))) := hb10
                show T.den _ _ [i0, i1, i2, i3, i4, i5, i6, i7, i8, i9, i10, i11, i12, i13, i14, i15, i16, i17, i18, i19] [b0, b1, b2, b3, b4, b5, b6, b7, b8, b9, b10] = _
                refine st_lb fun b11 hb11 => ?_
                replace hb11 : b11 = ((i18 == i6) && (i19 == i7)) := hb11
                show T.den _ _ [i0, i1, i2, i3, i4, i5, i6, i7, i8, i9, i10, i11, i12, i13, i14, i15, i16, i17, i18, i19] [b0, b1, b2, b3, b4, b5, b6, b7, b8, b9, b10, b11] = _
                refine st_lb fun b12 hb12 => ?_
                replace hb12 : b12 = (((decide (i8 > 0)) && b10) && ((decide (i7 ≥ i8)) || b11)) := hb12
                show T.den _ _ [i0, i1, i2, i3, i4, i5, i6, i7, i8, i9, i10, i11, i12, i13, i14, i15, i16, i17, i18, i19] [b0, b1, b2, b3, b4, b5, b6, b7, b8, b9, b10, b11, b12] = _
                refine st_rq (show ((!((!((!b8) || b12)) && (i8 == 0))) || (i9 != 0)) = true from ?_) ?_
                · simp only [hb2, hb3, hb4, hb5, hb6, hb7, hb8, hb9, hb10, hb11, hb12, Bool.or_eq_true, Bool.and_eq_true, Bool.or_eq_false_iff, Bool.and_eq_false_iff, Bool.not_eq_true', Bool.not_eq_false', decide_eq_true_eq, decide_eq_false_iff_not, beq_iff_eq, bne_iff_ne, beq_eq_false_iff_ne, bne_eq_false_iff_eq, ne_eq, ge_iff_le, gt_iff_lt]
                  try omega
                refine st_lb fun b13 hb13 => ?_
                replace hb13 : b13 = ((i16 == (arI .quo .u64 i6 i9)) && (i17 == i7)) := hb13
                show T.den _ _ [i0, i1, i2, i3, i4, i5, i6, i7, i8, i9, i10, i11, i12, i13, i14, i15, i16, i17, i18, i19] [b0, b1, b2, b3, b4, b5, b6, b7, b8, b9, b10, b11, b12, b13] = _
                refine st_lb fun b14 hb14 => ?_
                replace hb14 : b14 = (((i8 == 0) && b13) && (decide (i19 < i9))) := hb14
                show T.den _ _ [i0, i1, i2, i3, i4, i5, i6, i7, i8, i9, i10, i11, i12, i13, i14, i15, i16, i17, i18, i19] [b0, b1, b2, b3, b4, b5, b6, b7, b8, b9, b10, b11, b12, b13, b14] = _
                refine st_ret ?_
                show some ([], [(((!b8) || b12) || b14)]) = _
                have e : (((!b8) || b12) || b14) = true := by
                  simp only [hb2, hb3, hb4, hb5, hb6, hb7, hb8, hb9, hb10, hb11, hb12, hb13, hb14, Bool.or_eq_true, Bool.and_eq_true, Bool.or_eq_false_iff, Bool.and_eq_false_iff, Bool.not_eq_true', Bool.not_eq_false', decide_eq_true_eq, decide_eq_false_iff_not, beq_iff_eq, bne_iff_ne, beq_eq_false_iff_ne, bne_eq_false_iff_eq, ne_eq, ge_iff_le, gt_iff_lt]
                  clear hD hP hQ0 hQ k18 k19 k20
                  omega
                rw [e]
    · replace hc : b0 = false := hc
      have c26 := hc
      clear hc
      refine st_2_0 (e6_13) (g := true) rfl (l := [32]) rfl (m := []) rfl (cl_t (q13' 32)) fun i4 i5 hi4 hi5 => ?_
      show T.den _ _ [i0, i1, i2, i3, i4, i5] [b0, b1] = _
      have hT : i5 = 4294967295 := hi5.trans (by decide)
      refine st_2_0 (e6_10) (g := true) rfl (l := [(arI .and .u64 i0 i5), (arI .and .u64 i1 i5)]) rfl (m := []) rfl (cl_t (q10 (arI .and .u64 i0 i5) (arI .and .u64 i1 i5))) fun i6 i7 hi6 hi7 => ?_
      show T.den _ _ [i0, i1, i2, i3, i4, i5, i6, i7] [b0, b1] = _
      have z0 := and_le i0 i5 v0.1 v0.2 (by omega) (by omega)
      have z1 := and_le i1 i5 v1.1 v1.2 (by omega) (by omega)
      have r0 : 0 ≤ i6 ∧ i6 ≤ i7 ∧ i7 ≤ i5 := by omega
      clear z0 z1 hi6 hi7
      refine st_2_0 (e6_10) (g := true) rfl (l := [(arI .and .u64 i2 i5), (arI .and .u64 i3 i5)]) rfl (m := []) rfl (cl_t (q10 (arI .and .u64 i2 i5) (arI .and .u64 i3 i5))) fun i8 i9 hi8 hi9 => ?_
      show T.den _ _ [i0, i1, i2, i3, i4, i5, i6, i7, i8, i9] [b0, b1] = _
      have z2 := and_le i2 i5 v2.1 v2.2 (by omega) (by omega)
      have z3 := and_le i3 i5 v3.1 v3.2 (by omega) (by omega)
      have r2 : 0 ≤ i8 ∧ i8 ≤ i9 ∧ i9 ≤ i5 := by omega
      clear z2 z3 hi8 hi9
      refine st_2_0 (e6_18) (g := true) rfl (l := [i6, i7, i8, i9, 32]) rfl (m := []) rfl (cl_t (q18 i6 i7 i8 i9 32 (by omega) (by omega) (by omega) (by omega) (by omega) (by omega))) fun i10 i11 hi10 hi11 => ?_
      show T.den _ _ [i0, i1, i2, i3, i4, i5, i6, i7, i8, i9, i10, i11] [b0, b1] = _
      have k18 := ite_or hi10 hi11
      rw [← tp_32] at k18
      clear hi10 hi11
      refine st_ite (fun hc => ?_) (fun hc => ?_)
      · replace hc : (decide (i7 > (arI .sub .u64 i5 i9))) = true := hc
        have c27 := hc
        clear hc
        refine st_lb fun b2 hb2 => ?_
        replace hb2 : b2 = (!((i10 == i4) && (i11 == i5))) := hb2
        show T.den _ _ [i0, i1, i2, i3, i4, i5, i6, i7, i8, i9, i10, i11] [b0, b1, b2] = _
        refine st_ite (fun hc => ?_) (fun hc => ?_)
        · replace hc : b2 = true := hc
          have c28 := hc
          clear hc
          refine st_ret ?_
          show some ([], [false]) = _
          exfalso
          have cl := c28
          simp only [hb2, Bool.or_eq_true, Bool.and_eq_true, Bool.or_eq_false_iff, Bool.and_eq_false_iff, Bool.not_eq_true', Bool.not_eq_false', decide_eq_true_eq, decide_eq_false_iff_not, beq_iff_eq, bne_iff_ne, beq_eq_false_iff_ne, bne_eq_false_iff_eq, ne_eq, ge_iff_le, gt_iff_lt, arAdd, arSub, arMul] at cl
          try simp only [hb2, Bool.or_eq_true, Bool.and_eq_true, Bool.or_eq_false_iff, Bool.and_eq_false_iff, Bool.not_eq_true', Bool.not_eq_false', decide_eq_true_eq, decide_eq_false_iff_not, beq_iff_eq, bne_iff_ne, beq_eq_false_iff_ne, bne_eq_false_iff_eq, ne_eq, ge_iff_le, gt_iff_lt, arAdd, arSub, arMul] at c2
          try simp only [hb2, Bool.or_eq_true, Bool.and_eq_true, Bool.or_eq_false_iff, Bool.and_eq_false_iff, Bool.not_eq_true', Bool.not_eq_false', decide_eq_true_eq, decide_eq_false_iff_not, beq_iff_eq, bne_iff_ne, beq_eq_false_iff_ne, bne_eq_false_iff_eq, ne_eq, ge_iff_le, gt_iff_lt, arAdd, arSub, arMul] at c26
          try simp only [hb2, Bool.or_eq_true, Bool.and_eq_true, Bool.or_eq_false_iff, Bool.and_eq_false_iff, Bool.not_eq_true', Bool.not_eq_false', decide_eq_true_eq, decide_eq_false_iff_not, beq_iff_eq, bne_iff_ne, beq_eq_false_iff_ne, bne_eq_false_iff_eq, ne_eq, ge_iff_le, gt_iff_lt, arAdd, arSub, arMul] at c27
          try simp only [hb2, Bool.or_eq_true, Bool.and_eq_true, Bool.or_eq_false_iff, Bool.and_eq_false_iff, Bool.not_eq_true', Bool.not_eq_false', decide_eq_true_eq, decide_eq_false_iff_not, beq_iff_eq, bne_iff_ne, beq_eq_false_iff_ne, bne_eq_false_iff_eq, ne_eq, ge_iff_le, gt_iff_lt, arAdd, arSub, arMul] at c28
          omega
        · replace hc : b2 = false := hc
          have c29 := hc
          clear hc
          refine st_2_0 (e6_19) (g := true) rfl (l := [i6, i7, i8, i9, 32]) rfl (m := []) rfl (cl_t (q19 i6 i7 i8 i9 32 (by omega) (by omega) (by omega) (by omega) (by omega) (by omega))) fun i12 i13 hi12 hi13 => ?_
          show T.den _ _ [i0, i1, i2, i3, i4, i5, i6, i7, i8, i9, i10, i11, i12, i13] [b0, b1, b2] = _
          have k19 := ite_or hi12 hi13
          rw [← tp_32] at k19
          clear hi12 hi13
          refine st_lb fun b3 hb3 => ?_
          replace hb3 : b3 = (!((i12 == i4) && (i13 == i5))) := hb3
          show T.den _ _ [i0, i1, i2, i3, i4, i5, i6, i7, i8, i9, i10, i11, i12, i13] [b0, b1, b2, b3] = _
          refine st_lb fun b4 hb4 => ?_
          replace hb4 : b4 = (!((i12 == (arI .sub .u64 i6 i9)) && (i13 == (arI .sub .u64 i7 i8)))) := hb4
          show T.den _ _ [i0, i1, i2, i3, i4, i5, i6, i7, i8, i9, i10, i11, i12, i13] [b0, b1, b2, b3, b4] = _
          refine st_lb fun b5 hb5 => ?_
          replace hb5 : b5 = (((decide (i6 < i9)) && b3) || ((decide (i6 ≥ i9)) && b4)) := hb5
          show T.den _ _ [i0, i1, i2, i3, i4, i5, i6, i7, i8, i9, i10, i11, i12, i13] [b0, b1, b2, b3, b4, b5] = _
          refine st_ite (fun hc => ?_) (fun hc => ?_)
          · replace hc : b5 = true := hc
            have c30 := hc
            clear hc
            refine st_ret ?_
            show some ([], [false]) = _
            exfalso
            have cl := c30
            simp only [hb2, hb3, hb4, hb5, Bool.or_eq_true, Bool.and_eq_true, Bool.or_eq_false_iff, Bool.and_eq_false_iff, Bool.not_eq_true', Bool.not_eq_false', decide_eq_true_eq, decide_eq_false_iff_not, beq_iff_eq, bne_iff_ne, beq_eq_false_iff_ne, bne_eq_false_iff_eq, ne_eq, ge_iff_le, gt_iff_lt, arAdd, arSub, arMul] at cl
            try simp only [hb2, hb3, hb4, hb5, Bool.or_eq_true, Bool.and_eq_true, Bool.or_eq_false_iff, Bool.and_eq_false_iff, Bool.not_eq_true', Bool.not_eq_false', decide_eq_true_eq, decide_eq_false_iff_not, beq_iff_eq, bne_iff_ne, beq_eq_false_iff_ne, bne_eq_false_iff_eq, ne_eq, ge_iff_le, gt_iff_lt, arAdd, arSub, arMul] at c2
            try simp only [hb2, hb3, hb4, hb5, Bool.or_eq_true, Bool.and_eq_true, Bool.or_eq_false_iff, Bool.and_eq_false_iff, Bool.not_eq_true', Bool.not_eq_false', decide_eq_true_eq, decide_eq_false_iff_not, beq_iff_eq, bne_iff_ne, beq_eq_false_iff_ne, bne_eq_false_iff_eq, ne_eq, ge_iff_le, gt_iff_lt, arAdd, arSub, arMul] at c26
            try simp only [hb2, hb3, hb4, hb5, Bool.or_eq_true, Bool.and_eq_true, Bool.or_eq_false_iff, Bool.and_eq_false_iff, Bool.not_eq_true', Bool.not_eq_false', decide_eq_true_eq, decide_eq_false_iff_not, beq_iff_eq, bne_iff_ne, beq_eq_false_iff_ne, bne_eq_false_iff_eq, ne_eq, ge_iff_le, gt_iff_lt, arAdd, arSub, arMul] at c27
            try simp only [hb2, hb3, hb4, hb5, Bool.or_eq_true, Bool.and_eq_true, Bool.or_eq_false_iff, Bool.and_eq_false_iff, Bool.not_eq_true', Bool.not_eq_false', decide_eq_true_eq, decide_eq_false_iff_not, beq_iff_eq, bne_iff_ne, beq_eq_false_iff_ne, bne_eq_false_iff_eq, ne_eq, ge_iff_le, gt_iff_lt, arAdd, arSub, arMul] at c29
            try simp only [hb2, hb3, hb4, hb5, Bool.or_eq_true, Bool.and_eq_true, Bool.or_eq_false_iff, Bool.and_eq_false_iff, Bool.not_eq_true', Bool.not_eq_false', decide_eq_true_eq, decide_eq_false_iff_not, beq_iff_eq, bne_iff_ne, beq_eq_false_iff_ne, bne_eq_false_iff_eq, ne_eq, ge_iff_le, gt_iff_lt, arAdd, arSub, arMul] at c30
            omega
          · replace hc : b5 = false := hc
            have c31 := hc
            clear hc
            refine st_2_0 (e6_20) (g := true) rfl (l := [i6, i7, i8, i9, 32]) rfl (m := []) rfl (cl_t (q20 i6 i7 i8 i9 32 (by omega) (by omega) (by omega) (by omega) (by omega) (by omega))) fun i14 i15 hi14 hi15 => ?_
            show T.den _ _ [i0, i1, i2, i3, i4, i5, i6, i7, i8, i9, i10, i11, i12, i13, i14, i15] [b0, b1, b2, b3, b4, b5] = _
            have k20 := ite_or hi14 hi15
            rw [← tp_32] at k20
            clear hi14 hi15
            have hP : 0 ≤ i7 * i9 := Int.mul_nonneg (by omega) (by omega)
            have hQ0 : 0 ≤ i6 * i8 := Int.mul_nonneg (by omega) (by omega)
            have hQ : i6 * i8 ≤ i7 * i9 := Int.mul_le_mul (by omega) (by omega) (by omega) (by omega)
            have hD : (i9 ≤ 0 ∧ i7 * i9 = 0) ∨ (0 < i9 ∧ i7 > arI .quo .u64 i5 i9 ∧ i7 * i9 > i5) ∨ (0 < i9 ∧ ¬ i7 > arI .quo .u64 i5 i9 ∧ ¬ i7 * i9 > i5) := quo_or i7 i5 i9 (by omega) (by omega) (by omega)
            refine st_rq (show ((!(decide (i9 > 0))) || (i9 != 0)) = true from ?_) ?_
            · simp only [hb2, hb3, hb4, hb5, Bool.or_eq_true, Bool.and_eq_true, Bool.or_eq_false_iff, Bool.and_eq_false_iff, Bool.not_eq_true', Bool.not_eq_false', decide_eq_true_eq, decide_eq_false_iff_not, beq_iff_eq, bne_iff_ne, beq_eq_false_iff_ne, bne_eq_false_iff_eq, ne_eq, ge_iff_le, gt_iff_lt]
              try omega
            refine st_lb fun b6 hb6 => ?_
            replace hb6 : b6 = ((decide (i9 > 0)) && (decide (i7 > (arI .quo .u64 i5 i9)))) := hb6
            show T.den _ _ [i0, i1, i2, i3, i4, i5, i6, i7, i8, i9, i10, i11, i12, i13, i14, i15] [b0, b1, b2, b3, b4, b5, b6] = _
            refine st_ite (fun hc => ?_) (fun hc => ?_)
            · replace hc : b6 = true := hc
              have c32 := hc
              clear hc
              refine st_lb fun b7 hb7 => ?_
              replace hb7 : b7 = (!((i14 == i4) && (i15 == i5))) := hb7
              show T.den _ _ [i0, i1, i2, i3, i4, i5, i6, i7, i8, i9, i10, i11, i12, i13, i14, i15] [b0, b1, b2, b3, b4, b5, b6, b7] = _
              refine st_ite (fun hc => ?_) (fun hc => ?_)
              · replace hc : b7 = true := hc
                have c33 := hc
                clear hc
                refine st_ret ?_
                show some ([], [false]) = _
                exfalso
                have cl := c33
                simp only [hb2, hb3, hb4, hb5, hb6, hb7, Bool.or_eq_true, Bool.and_eq_true, Bool.or_eq_false_iff, Bool.and_eq_false_iff, Bool.not_eq_true', Bool.not_eq_false', decide_eq_true_eq, decide_eq_false_iff_not, beq_iff_eq, bne_iff_ne, beq_eq_false_iff_ne, bne_eq_false_iff_eq, ne_eq, ge_iff_le, gt_iff_lt, arAdd, arSub, arMul] at cl
                try simp only [hb2, hb3, hb4, hb5, hb6, hb7, Bool.or_eq_true, Bool.and_eq_true, Bool.or_eq_false_iff, Bool.and_eq_false_iff, Bool.not_eq_true', Bool.not_eq_false', decide_eq_true_eq, decide_eq_false_iff_not, beq_iff_eq, bne_iff_ne, beq_eq_false_iff_ne, bne_eq_false_iff_eq, ne_eq, ge_iff_le, gt_iff_lt, arAdd, arSub, arMul] at c2
                try simp only [hb2, hb3, hb4, hb5, hb6, hb7, Bool.or_eq_true, Bool.and_eq_true, Bool.or_eq_false_iff, Bool.and_eq_false_iff, Bool.not_eq_true', Bool.not_eq_false', decide_eq_true_eq, decide_eq_false_iff_not, beq_iff_eq, bne_iff_ne, beq_eq_false_iff_ne, bne_eq_false_iff_eq, ne_eq, ge_iff_le, gt_iff_lt, arAdd, arSub, arMul] at c26
                try simp only [hb2, hb3, hb4, hb5, hb6, hb7, Bool.or_eq_true, Bool.and_eq_true, Bool.or_eq_false_iff, Bool.and_eq_false_iff, Bool.not_eq_true', Bool.not_eq_false', decide_eq_true_eq, decide_eq_false_iff_not, beq_iff_eq, bne_iff_ne, beq_eq_false_iff_ne, bne_eq_false_iff_eq, ne_eq, ge_iff_le, gt_iff_lt, arAdd, arSub, arMul] at c27
                try simp only [hb2, hb3, hb4, hb5, hb6, hb7, Bool.or_eq_true, Bool.and_eq_true, Bool.or_eq_false_iff, Bool.and_eq_false_iff, Bool.not_eq_true', Bool.not_eq_false', decide_eq_true_eq, decide_eq_false_iff_not, beq_iff_eq, bne_iff_ne, beq_eq_false_iff_ne, bne_eq_false_iff_eq, ne_eq, ge_iff_le, gt_iff_lt, arAdd, arSub, arMul] at c29
                try simp only [hb2, hb3, hb4, hb5, hb6, hb7, Bool.or_eq_true, Bool.and_eq_true, Bool.or_eq_false_iff, Bool.and_eq_false_iff, Bool.not_eq_true', Bool.not_eq_false', decide_eq_true_eq, decide_eq_false_iff_not, beq_iff_eq, bne_iff_ne, beq_eq_false_iff_ne, bne_eq_false_iff_eq, ne_eq, ge_iff_le, gt_iff_lt, arAdd, arSub, arMul] at c31
                try simp only [hb2, hb3, hb4, hb5, hb6, hb7, Bool.or_eq_true, Bool.and_eq_true, Bool.or_eq_false_iff, Bool.and_eq_false_iff, Bool.not_eq_true', Bool.not_eq_false', decide_eq_true_eq, decide_eq_false_iff_not, beq_iff_eq, bne_iff_ne, beq_eq_false_iff_ne, bne_eq_false_iff_eq, ne_eq, ge_iff_le, gt_iff_lt, arAdd, arSub, arMul] at c32
                try simp only [hb2, hb3, hb4, hb5, hb6, hb7, Bool.or_eq_true, Bool.and_eq_true, Bool.or_eq_false_iff, Bool.and_eq_false_iff, Bool.not_eq_true', Bool.not_eq_false', decide_eq_true_eq, decide_eq_false_iff_not, beq_iff_eq, bne_iff_ne, beq_eq_false_iff_ne, bne_eq_false_iff_eq, ne_eq, ge_iff_le, gt_iff_lt, arAdd, arSub, arMul] at c33
                omega
              · replace hc : b7 = false := hc
                have c34 := hc
                clear hc
                refine st_2_1 (e6_21) (g := true) rfl (l := [i6, i7, i8, i9]) rfl (m := []) rfl (cl_t (q21 i6 i7 i8 i9)) fun i16 i17 b8 hi16 hi17 hb8 => ?_
                show T.den _ _ [i0, i1, i2, i3, i4, i5, i6, i7, i8, i9, i10, i11, i12, i13, i14, i15, i16, i17] [b0, b1, b2, b3, b4, b5, b6, b7, b8] = _
                have k21 := ite_or hi16 hi17
                have k17 := quo_max i7 i8 (by omega) (by omega) (by omega)
                clear hi16 hi17
                refine st_2_1 (e6_22) (g := true) rfl (l := [i6, i7, i8, i9]) rfl (m := []) rfl (cl_t (q22 i6 i7 i8 i9)) fun i18 i19 b9 hi18 hi19 hb9 => ?_
                show T.den _ _ [i0, i1, i2, i3, i4, i5, i6, i7, i8, i9, i10, i11, i12, i13, i14, i15, i16, i17, i18, i19] [b0, b1, b2, b3, b4, b5, b6, b7, b8, b9] = _
                have k22 : (i9 = 0 ∧ i18 = 0 ∧ i19 = 0) ∨ (i9 ≠ 0 ∧ i7 < i8 ∧ i18 = i6 ∧ i19 = i7) ∨ (i9 ≠ 0 ∧ ¬ i7 < i8 ∧ i18 = 0 ∧ i19 = min i7 (arI .sub .u64 i9 1)) := by
                  by_cases h9 : i9 = 0
                  · rw [if_pos h9] at hi18 hi19; exact .inl ⟨h9, hi18, hi19⟩
                  · rw [if_neg h9] at hi18 hi19; rcases ite_or hi18 hi19 with h | h
                    · exact .inr (.inl ⟨h9, h⟩)
                    · exact .inr (.inr ⟨h9, h⟩)
                clear hi18 hi19
                rw [arSub] at k22
                refine st_rq (show ((!(b8 && (decide (i8 > 0)))) || (i9 != 0)) = true from ?_) ?_
                · simp only [hb2, hb3, hb4, hb5, hb6, hb7, hb8, hb9, Bool.or_eq_true, Bool.and_eq_true, Bool.or_eq_false_iff, Bool.and_eq_false_iff, Bool.not_eq_true', Bool.not_eq_false', decide_eq_true_eq, decide_eq_false_iff_not, beq_iff_eq, bne_iff_ne, beq_eq_false_iff_ne, bne_eq_false_iff_eq, ne_eq, ge_iff_le, gt_iff_lt]
                  try omega
                refine st_rq (show ((!(b8 && (decide (i8 > 0)))) || (i8 != 0)) = true from ?_) ?_
                · simp only [hb2, hb3, hb4, hb5, hb6, hb7, hb8, hb9, Bool.or_eq_true, Bool.and_eq_true, Bool.or_eq_false_iff, Bool.and_eq_false_iff, Bool.not_eq_true', Bool.not_eq_false', decide_eq_true_eq, decide_eq_false_iff_not, beq_iff_eq, bne_iff_ne, beq_eq_false_iff_ne, bne_eq_false_iff_eq, ne_eq, ge_iff_le, gt_iff_lt]
                  try omega
                refine st_lb fun b10 hb10 => ?_
                replace hb10 : b10 = ((i16 == (arI .quo .u64 i6 i9)) && (i17 == (arI .quo .u64 i7 i8))) := hb10
                show T.den _ _ [i0, i1, i2, i3, i4, i5, i6, i7, i8, i9, i10, i11, i12, i13, i14, i15, i16, i17, i18, i19] [b0, b1, b2, b3, b4, b5, b6, b7, b8, b9, b10] = _
                refine st_lb fun b11 hb11 => ?_
                replace hb11 : b11 = ((i18 == i6) && (i19 == i7)) := hb11
                show T.den _ _ [i0, i1, i2, i3, i4, i5, i6, i7, i8, i9, i10, i11, i12, i13, i14, i15, i16, i17, i18, i19] [b0, b1, b2, b3, b4, b5, b6, b7, b8, b9, b10, b11] = _
                refine st_lb fun b12 hb12 => ?_
                replace hb12 : b12 = (((decide (i8 > 0)) && b10) && ((decide (i7 ≥ i8)) || b11)) := hb12
                show T.den _ _ [i0, i1, i2, i3, i4, i5, i6, i7, i8, i9, i10, i11, i12, i13, i14, i15, i16, i17, i18, i19] [b0, b1, b2, b3, b4, b5, b6, b7, b8, b9, b10, b11, b12] = _
                refine st_rq (show ((!((!((!b8) || b12)) && (i8 == 0))) || (i9 != 0)) = true from ?_) ?_
                · simp only [hb2, hb3, hb4, hb5, hb6, hb7, hb8, hb9, hb10, hb11, hb12, Bool.or_eq_true, Bool.and_eq_true, Bool.or_eq_false_iff, Bool.and_eq_false_iff, Bool.not_eq_true', Bool.not_eq_false', decide_eq_true_eq, decide_eq_false_iff_not, beq_iff_eq, bne_iff_ne, beq_eq_false_iff_ne, bne_eq_false_iff_eq, ne_eq, ge_iff_le, gt_iff_lt]
                  try omega
                refine st_lb fun b13 hb13 => ?_
                replace hb13 : b13 = ((i16 == (arI .quo .u64 i6 i9)) && (i17 == i7)) := hb13
                show T.den _ _ [i0, i1, i2, i3, i4, i5, i6, i7, i8, i9, i10, i11, i12, i13, i14, i15, i16, i17, i18, i19] [b0, b1, b2, b3, b4, b5, b6, b7, b8, b9, b10, b11, b12, b13] = _
                refine st_lb fun b14 hb14 => ?_
                replace hb14 : b14 = (((i8 == 0) && b13) && (decide (i19 < i9))) := hb14
                show T.den _ _ [i0, i1, i2, i3, i4, i5, i6, i7, i8, i9, i10, i11, i12, i13, i14, i15, i16, i17, i18, i19] [b0, b1, b2, b3, b4, b5, b6, b7, b8, b9, b10, b11, b12, b13, b14] = _
                refine st_ret ?_
                show some ([], [(((!b8) || b12) || b14)]) = _
                have e : (((!b8) || b12) || b14) = true := by
                  simp only [hb2, hb3, hb4, hb5, hb6, hb7, hb8, hb9, hb10, hb11, hb12, hb13, hb14, Bool.or_eq_true, Bool.and_eq_true, Bool.or_eq_false_iff, Bool.and_eq_false_iff, Bool.not_eq_true', Bool.not_eq_false', decide_eq_true_eq, decide_eq_false_iff_not, beq_iff_eq, bne_iff_ne, beq_eq_false_iff_ne, bne_eq_false_iff_eq, ne_eq, ge_iff_le, gt_iff_lt]
                  clear hD hP hQ0 hQ k18 k19 k20
                  omega
                rw [e]
            · replace hc : b6 = false := hc
              have c35 := hc
              clear hc
              refine st_lb fun b7 hb7 => ?_
              replace hb7 : b7 = (!((i14 == (arI .mul .u64 i6 i8)) && (i15 == (arI .mul .u64 i7 i9)))) := hb7
              show T.den _ _ [i0, i1, i2, i3, i4, i5, i6, i7, i8, i9, i10, i11, i12, i13, i14, i15] [b0, b1, b2, b3, b4, b5, b6, b7] = _
              refine st_ite (fun hc => ?_) (fun hc => ?_)
              · replace hc : b7 = true := hc
                have c36 := hc
                clear hc
                refine st_ret ?_
                show some ([], [false]) = _
                exfalso
                have cl := c36
                simp only [hb2, hb3, hb4, hb5, hb6, hb7, Bool.or_eq_true, Bool.and_eq_true, Bool.or_eq_false_iff, Bool.and_eq_false_iff, Bool.not_eq_true', Bool.not_eq_false', decide_eq_true_eq, decide_eq_false_iff_not, beq_iff_eq, bne_iff_ne, beq_eq_false_iff_ne, bne_eq_false_iff_eq, ne_eq, ge_iff_le, gt_iff_lt, arAdd, arSub, arMul] at cl
                try simp only [hb2, hb3, hb4, hb5, hb6, hb7, Bool.or_eq_true, Bool.and_eq_true, Bool.or_eq_false_iff, Bool.and_eq_false_iff, Bool.not_eq_true', Bool.not_eq_false', decide_eq_true_eq, decide_eq_false_iff_not, beq_iff_eq, bne_iff_ne, beq_eq_false_iff_ne, bne_eq_false_iff_eq, ne_eq, ge_iff_le, gt_iff_lt, arAdd, arSub, arMul] at c2
                try simp only [hb2, hb3, hb4, hb5, hb6, hb7, Bool.or_eq_true, Bool.and_eq_true, Bool.or_eq_false_iff, Bool.and_eq_false_iff, Bool.not_eq_true', Bool.not_eq_false', decide_eq_true_eq, decide_eq_false_iff_not, beq_iff_eq, bne_iff_ne, beq_eq_false_iff_ne, bne_eq_false_iff_eq, ne_eq, ge_iff_le, gt_iff_lt, arAdd, arSub, arMul] at c26
                try simp only [hb2, hb3, hb4, hb5, hb6, hb7, Bool.or_eq_true, Bool.and_eq_true, Bool.or_eq_false_iff, Bool.and_eq_false_iff, Bool.not_eq_true', Bool.not_eq_false', decide_eq_true_eq, decide_eq_false_iff_not, beq_iff_eq, bne_iff_ne, beq_eq_false_iff_ne, bne_eq_false_iff_eq, ne_eq, ge_iff_le, gt_iff_lt, arAdd, arSub, arMul] at c27
                try simp only [hb2, hb3, hb4, hb5, hb6, hb7, Bool.or_eq_true, Bool.and_eq_true, Bool.or_eq_false_iff, Bool.and_eq_false_iff, Bool.not_eq_true', Bool.not_eq_false', decide_eq_true_eq, decide_eq_false_iff_not, beq_iff_eq, bne_iff_ne, beq_eq_false_iff_ne, bne_eq_false_iff_eq, ne_eq, ge_iff_le, gt_iff_lt, arAdd, arSub, arMul] at c29
                try simp only [hb2, hb3, hb4, hb5, hb6, hb7, Bool.or_eq_true, Bool.and_eq_true, Bool.or_eq_false_iff, Bool.and_eq_false_iff, Bool.not_eq_true', Bool.not_eq_false', decide_eq_true_eq, decide_eq_false_iff_not, beq_iff_eq, bne_iff_ne, beq_eq_false_iff_ne, bne_eq_false_iff_eq, ne_eq, ge_iff_le, gt_iff_lt, arAdd, arSub, arMul] at c31
                try simp only [hb2, hb3, hb4, hb5, hb6, hb7, Bool.or_eq_true, Bool.and_eq_true, Bool.or_eq_false_iff, Bool.and_eq_false_iff, Bool.not_eq_true', Bool.not_eq_false', decide_eq_true_eq, decide_eq_false_iff_not, beq_iff_eq, bne_iff_ne, beq_eq_false_iff_ne, bne_eq_false_iff_eq, ne_eq, ge_iff_le, gt_iff_lt, arAdd, arSub, arMul] at c35
                try simp only [hb2, hb3, hb4, hb5, hb6, hb7, Bool.or_eq_true, Bool.and_eq_true, Bool.or_eq_false_iff, Bool.and_eq_false_iff, Bool.not_eq_true', Bool.not_eq_false', decide_eq_true_eq, decide_eq_false_iff_not, beq_iff_eq, bne_iff_ne, beq_eq_false_iff_ne, bne_eq_false_iff_eq, ne_eq, ge_iff_le, gt_iff_lt, arAdd, arSub, arMul] at c36
                omega
              · replace hc : b7 = false := hc
                have c37 := hc
                clear hc
                refine st_2_1 (e6_21) (g := true) rfl (l := [i6, i7, i8, i9]) rfl (m := []) rfl (cl_t (q21 i6 i7 i8 i9)) fun i16 i17 b8 hi16 hi17 hb8 => ?_
                show T.den _ _ [i0, i1, i2, i3, i4, i5, i6, i7, i8, i9, i10, i11, i12, i13, i14, i15, i16, i17] [b0, b1, b2, b3, b4, b5, b6, b7, b8] = _
                have k21 := ite_or hi16 hi17
                have k17 := quo_max i7 i8 (by omega) (by omega) (by omega)
                clear hi16 hi17
                refine st_2_1 (e6_22) (g := true) rfl (l := [i6, i7, i8, i9]) rfl (m := []) rfl (cl_t (q22 i6 i7 i8 i9)) fun i18 i19 b9 hi18 hi19 hb9 => ?_
                show T.den _ _ [i0, i1, i2, i3, i4, i5, i6, i7, i8, i9, i10, i11, i12, i13, i14, i15, i16, i17, i18, i19] [b0, b1, b2, b3, b4, b5, b6, b7, b8, b9] = _
                have k22 : (i9 = 0 ∧ i18 = 0 ∧ i19 = 0) ∨ (i9 ≠ 0 ∧ i7 < i8 ∧ i18 = i6 ∧ i19 = i7) ∨ (i9 ≠ 0 ∧ ¬ i7 < i8 ∧ i18 = 0 ∧ i19 = min i7 (arI .sub .u64 i9 1)) := by
                  by_cases h9 : i9 = 0
                  · rw [if_pos h9] at hi18 hi19; exact .inl ⟨h9, hi18, hi19⟩
                  · rw [if_neg h9] at hi18 hi19; rcases ite_or hi18 hi19 with h | h
                    · exact .inr (.inl ⟨h9, h⟩)
                    · exact .inr (.inr ⟨h9, h⟩)
                clear hi18 hi19
                rw [arSub] at k22
                refine st_rq (show ((!(b8 && (decide (i8 > 0)))) || (i9 != 0)) = true from ?_) ?_
                · simp only [hb2, hb3, hb4, hb5, hb6, hb7, hb8, hb9, Bool.or_eq_true, Bool.and_eq_true, Bool.or_eq_false_iff, Bool.and_eq_false_iff, Bool.not_eq_true', Bool.not_eq_false', decide_eq_true_eq, decide_eq_false_iff_not, beq_iff_eq, bne_iff_ne, beq_eq_false_iff_ne, bne_eq_false_iff_eq, ne_eq, ge_iff_le, gt_iff_lt]
                  try omega
                refine st_rq (show ((!(b8 && (decide (i8 > 0)))) || (i8 != 0)) = true from ?_) ?_
                · simp only [hb2, hb3, hb4, hb5, hb6, hb7, hb8, hb9, Bool.or_eq_true, Bool.and_eq_true, Bool.or_eq_false_iff, Bool.and_eq_false_iff, Bool.not_eq_true', Bool.not_eq_false', decide_eq_true_eq, decide_eq_false_iff_not, beq_iff_eq, bne_iff_ne, beq_eq_false_iff_ne, bne_eq_false_iff_eq, ne_eq, ge_iff_le, gt_iff_lt]
                  try omega
                refine st_lb fun b10 hb10 => ?_
                replace hb10 : b10 = ((i16 == (arI .quo .u64 i6 i9)) && (i17 == (arI .quo .u64 i7 i8))) := hb10
                show T.den _ _ [i0, i1, i2, i3, i4, i5, i6, i7, i8, i9, i10, i11, i12, i13, i14, i15, i16, i17, i18, i19] [b0, b1, b2, b3, b4, b5, b6, b7, b8, b9, b10] = _
                refine st_lb fun b11 hb11 => ?_
                replace hb11 : b11 = ((i18 == i6) && (i19 == i7)) := hb11
                show T.den _ _ [i0, i1, i2, i3, i4, i5, i6, i7, i8, i9, i10, i11, i12, i13, i14, i15, i16, i17, i18, i19] [b0, b1, b2, b3, b4, b5, b6, b7, b8, b9, b10, b11] = _
                refine st_lb fun b12 hb12 => ?_
                replace hb12 : b12 = (((decide (i8 > 0)) && b10) && ((decide (i7 ≥ i8)) || b11)) := hb12
                show T.den _ _ [i0, i1, i2, i3, i4, i5, i6, i7, i8, i9, i10, i11, i12, i13, i14, i15, i16, i17, i18, i19] [b0, b1, b2, b3, b4, b5, b6, b7, b8, b9, b10, b11, b12] = _
                refine st_rq (show ((!((!((!b8) || b12)) && (i8 == 0))) || (i9 != 0)) = true from ?_) ?_
                · simp only [hb2, hb3, hb4, hb5, hb6, hb7, hb8, hb9, hb10, hb11, hb12, Bool.or_eq_true, Bool.and_eq_true, Bool.or_eq_false_iff, Bool.and_eq_false_iff, Bool.not_eq_true', Bool.not_eq_false', decide_eq_true_eq, decide_eq_false_iff_not, beq_iff_eq, bne_iff_ne, beq_eq_false_iff_ne, bne_eq_false_iff_eq, ne_eq, ge_iff_le, gt_iff_lt]
                  try omega
                refine st_lb fun b13 hb13 => ?_
                replace hb13 : b13 = ((i16 == (arI .quo .u64 i6 i9)) && (i17 == i7)) := hb13
                show T.den _ _ [i0, i1, i2, i3, i4, i5, i6, i7, i8, i9, i10, i11, i12, i13, i14, i15, i16, i17, i18, i19] [b0, b1, b2, b3, b4, b5, b6, b7, b8, b9, b10, b11, b12, b13] = _
                refine st_lb fun b14 hb14 => ?_
                replace hb14 : b14 = (((i8 == 0) && b13) && (decide (i19 < i9))) := hb14
                show T.den _ _ [i0, i1, i2, i3, i4, i5, i6, i7, i8, i9, i10, i11, i12, i13, i14, i15, i16, i17, i18, i19] [b0, b1, b2, b3, b4, b5, b6, b7, b8, b9, b10, b11, b12, b13, b14] = _
                refine st_ret ?_
                show some ([], [(((!b8) || b12) || b14)]) = _
                have e : (((!b8) || b12) || b14) = true := by
                  simp only [hb2, hb3, hb4, hb5, hb6, hb7, hb8, hb9, hb10, hb11, hb12, hb13, hb14, Bool.or_eq_true, Bool.and_eq_true, Bool.or_eq_false_iff, Bool.and_eq_false_iff, Bool.not_eq_true', Bool.not_eq_false', decide_eq_true_eq, decide_eq_false_iff_not, beq_iff_eq, bne_iff_ne, beq_eq_false_iff_ne, bne_eq_false_iff_eq, ne_eq, ge_iff_le, gt_iff_lt]
                  clear hD hP hQ0 hQ k18 k19 k20
                  omega
                rw [e]
      · replace hc : (decide (i7 > (arI .sub .u64 i5 i9))) = false := hc
        have c38 := hc
        clear hc
        refine st_lb fun b2 hb2 => ?_
        replace hb2 : b2 = (!((i10 == (arI .add .u64 i6 i8)) && (i11 == (arI .add .u64 i7 i9)))) := hb2
        show T.den _ _ [i0, i1, i2, i3, i4, i5, i6, i7, i8, i9, i10, i11] [b0, b1, b2] = _
        refine st_ite (fun hc => ?_) (fun hc => ?_)
        · replace hc : b2 = true := hc
          have c39 := hc
          clear hc
          refine st_ret ?_
          show some ([], [false]) = _
          exfalso
          have cl := c39
          simp only [hb2, Bool.or_eq_true, Bool.and_eq_true, Bool.or_eq_false_iff, Bool.and_eq_false_iff, Bool.not_eq_true', Bool.not_eq_false', decide_eq_true_eq, decide_eq_false_iff_not, beq_iff_eq, bne_iff_ne, beq_eq_false_iff_ne, bne_eq_false_iff_eq, ne_eq, ge_iff_le, gt_iff_lt, arAdd, arSub, arMul] at cl
          try simp only [hb2, Bool.or_eq_true, Bool.and_eq_true, Bool.or_eq_false_iff, Bool.and_eq_false_iff, Bool.not_eq_true', Bool.not_eq_false', decide_eq_true_eq, decide_eq_false_iff_not, beq_iff_eq, bne_iff_ne, beq_eq_false_iff_ne, bne_eq_false_iff_eq, ne_eq, ge_iff_le, gt_iff_lt, arAdd, arSub, arMul] at c2
          try simp only [hb2, Bool.or_eq_true, Bool.and_eq_true, Bool.or_eq_false_iff, Bool.and_eq_false_iff, Bool.not_eq_true', Bool.not_eq_false', decide_eq_true_eq, decide_eq_false_iff_not, beq_iff_eq, bne_iff_ne, beq_eq_false_iff_ne, bne_eq_false_iff_eq, ne_eq, ge_iff_le, gt_iff_lt, arAdd, arSub, arMul] at c26
          try simp only [hb2, Bool.or_eq_true, Bool.and_eq_true, Bool.or_eq_false_iff, Bool.and_eq_false_iff, Bool.not_eq_true', Bool.not_eq_false', decide_eq_true_eq, decide_eq_false_iff_not, beq_iff_eq, bne_iff_ne, beq_eq_false_iff_ne, bne_eq_false_iff_eq, ne_eq, ge_iff_le, gt_iff_lt, arAdd, arSub, arMul] at c38
          try simp only [hb2, Bool.or_eq_true, Bool.and_eq_true, Bool.or_eq_false_iff, Bool.and_eq_false_iff, Bool.not_eq_true', Bool.not_eq_false', decide_eq_true_eq, decide_eq_false_iff_not, beq_iff_eq, bne_iff_ne, beq_eq_false_iff_ne, bne_eq_false_iff_eq, ne_eq, ge_iff_le, gt_iff_lt, arAdd, arSub, arMul] at c39
          omega
        · replace hc : b2 = false := hc
          have c40 := hc
          clear hc
          refine st_2_0 (e6_19) (g := true) rfl (l := [i6, i7, i8, i9, 32]) rfl (m := []) rfl (cl_t (q19 i6 i7 i8 i9 32 (by omega) (by omega) (by omega) (by omega) (by omega) (by omega))) fun i12 i13 hi12 hi13 => ?_
          show T.den _ _ [i0, i1, i2, i3, i4, i5, i6, i7, i8, i9, i10, i11, i12, i13] [b0, b1, b2] = _
          have k19 := ite_or hi12 hi13
          rw [← tp_32] at k19
          clear hi12 hi13
          refine st_lb fun b3 hb3 => ?_
          replace hb3 : b3 = (!((i12 == i4) && (i13 == i5))) := hb3
          show T.den _ _ [i0, i1, i2, i3, i4, i5, i6, i7, i8, i9, i10, i11, i12, i13] [b0, b1, b2, b3] = _
          refine st_lb fun b4 hb4 => ?_
          replace hb4 : b4 = (!((i12 == (arI .sub .u64 i6 i9)) && (i13 == (arI .sub .u64 i7 i8)))) := hb4
          show T.den _ _ [i0, i1, i2, i3, i4, i5, i6, i7, i8, i9, i10, i11, i12, i13] [b0, b1, b2, b3, b4] = _
          refine st_lb fun b5 hb5 => ?_
          replace hb5 : b5 = (((decide (i6 < i9)) && b3) || ((decide (i6 ≥ i9)) && b4)) := hb5
          show T.den _ _ [i0, i1, i2, i3, i4, i5, i6, i7, i8, i9, i10, i11, i12, i13] [b0, b1, b2, b3, b4, b5] = _
          refine st_ite (fun hc => ?_) (fun hc => ?_)
          · replace hc : b5 = true := hc
            have c41 := hc
            clear hc
            refine st_ret ?_
            show some ([], [false]) = _
            exfalso
            have cl := c41
            simp only [hb2, hb3, hb4, hb5, Bool.or_eq_true, Bool.and_eq_true, Bool.or_eq_false_iff, Bool.and_eq_false_iff, Bool.not_eq_true', Bool.not_eq_false', decide_eq_true_eq, decide_eq_false_iff_not, beq_iff_eq, bne_iff_ne, beq_eq_false_iff_ne, bne_eq_false_iff_eq, ne_eq, ge_iff_le, gt_iff_lt, arAdd, arSub, arMul] at cl
            try simp only [hb2, hb3, hb4, hb5, Bool.or_eq_true, Bool.and_eq_true, Bool.or_eq_false_iff, Bool.and_eq_false_iff, Bool.not_eq_true', Bool.not_eq_false', decide_eq_true_eq, decide_eq_false_iff_not, beq_iff_eq, bne_iff_ne, beq_eq_false_iff_ne, bne_eq_false_iff_eq, ne_eq, ge_iff_le, gt_iff_lt, arAdd, arSub, arMul] at c2
            try simp only [hb2, hb3, hb4, hb5, Bool.or_eq_true, Bool.and_eq_true, Bool.or_eq_false_iff, Bool.and_eq_false_iff, Bool.not_eq_true', Bool.not_eq_false', decide_eq_true_eq, decide_eq_false_iff_not, beq_iff_eq, bne_iff_ne, beq_eq_false_iff_ne, bne_eq_false_iff_eq, ne_eq, ge_iff_le, gt_iff_lt, arAdd, arSub, arMul] at c26
            try simp only [hb2, hb3, hb4, hb5, Bool.or_eq_true, Bool.and_eq_true, Bool.or_eq_false_iff, Bool.and_eq_false_iff, Bool.not_eq_true', Bool.not_eq_false', decide_eq_true_eq, decide_eq_false_iff_not, beq_iff_eq, bne_iff_ne, beq_eq_false_iff_ne, bne_eq_false_iff_eq, ne_eq, ge_iff_le, gt_iff_lt, arAdd, arSub, arMul] at c38
            try simp only [hb2, hb3, hb4, hb5, Bool.or_eq_true, Bool.and_eq_true, Bool.or_eq_false_iff, Bool.and_eq_false_iff, Bool.not_eq_true', Bool.not_eq_false', decide_eq_true_eq, decide_eq_false_iff_not, beq_iff_eq, bne_iff_ne, beq_eq_false_iff_ne, bne_eq_false_iff_eq, ne_eq, ge_iff_le, gt_iff_lt, arAdd, arSub, arMul] at c40
            try simp only [hb2, hb3, hb4, hb5, Bool.or_eq_true, Bool.and_eq_true, Bool.or_eq_false_iff, Bool.and_eq_false_iff, Bool.not_eq_true', Bool.not_eq_false', decide_eq_true_eq, decide_eq_false_iff_not, beq_iff_eq, bne_iff_ne, beq_eq_false_iff_ne, bne_eq_false_iff_eq, ne_eq, ge_iff_le, gt_iff_lt, arAdd, arSub, arMul] at c41
            omega
          · replace hc : b5 = false := hc
            have c42 := hc
            clear hc
            refine st_2_0 (e6_20) (g := true) rfl (l := [i6, i7, i8, i9, 32]) rfl (m := []) rfl (cl_t (q20 i6 i7 i8 i9 32 (by omega) (by omega) (by omega) (by omega) (by omega) (by omega))) fun i14 i15 hi14 hi15 => ?_
            show T.den _ _ [i0, i1, i2, i3, i4, i5, i6, i7, i8, i9, i10, i11, i12, i13, i14, i15] [b0, b1, b2, b3, b4, b5] = _
            have k20 := ite_or hi14 hi15
            rw [← tp_32] at k20
            clear hi14 hi15
            have hP : 0 ≤ i7 * i9 := Int.mul_nonneg (by omega) (by omega)
            have hQ0 : 0 ≤ i6 * i8 := Int.mul_nonneg (by omega) (by omega)
            have hQ : i6 * i8 ≤ i7 * i9 := Int.mul_le_mul (by omega) (by omega) (by omega) (by omega)
            have hD : (i9 ≤ 0 ∧ i7 * i9 = 0) ∨ (0 < i9 ∧ i7 > arI .quo .u64 i5 i9 ∧ i7 * i9 > i5) ∨ (0 < i9 ∧ ¬ i7 > arI .quo .u64 i5 i9 ∧ ¬ i7 * i9 > i5) := quo_or i7 i5 i9 (by omega) (by omega) (by omega)
            refine st_rq (show ((!(decide (i9 > 0))) || (i9 != 0)) = true from ?_) ?_
            · simp only [hb2, hb3, hb4, hb5, Bool.or_eq_true, Bool.and_eq_true, Bool.or_eq_false_iff, Bool.and_eq_false_iff, Bool.not_eq_true', Bool.not_eq_false', decide_eq_true_eq, decide_eq_false_iff_not, beq_iff_eq, bne_iff_ne, beq_eq_false_iff_ne, bne_eq_false_iff_eq, ne_eq, ge_iff_le, gt_iff_lt]
              try omega
            refine st_lb fun b6 hb6 => ?_
            replace hb6 : b6 = ((decide (i9 > 0)) && (decide (i7 > (arI .quo .u64 i5 i9)))) := hb6
            show T.den _ _ [i0, i1, i2, i3, i4, i5, i6, i7, i8, i9, i10, i11, i12, i13, i14, i15] [b0, b1, b2, b3, b4, b5, b6] = _
            refine st_ite (fun hc => ?_) (fun hc => ?_)
            · replace hc : b6 = true := hc
              have c43 := hc
              clear hc
              refine st_lb fun b7 hb7 => ?_
              replace hb7 : b7 = (!((i14 == i4) && (i15 == i5))) := hb7
              show T.den _ _ [i0, i1, i2, i3, i4, i5, i6, i7, i8, i9, i10, i11, i12, i13, i14, i15] [b0, b1, b2, b3, b4, b5, b6, b7] = _
              refine st_ite (fun hc => ?_) (fun hc => ?_)
              · replace hc : b7 = true := hc
                have c44 := hc
                clear hc
                refine st_ret ?_
                show some ([], [false]) = _
                exfalso
                have cl := c44
                simp only [hb2, hb3, hb4, hb5, hb6, hb7, Bool.or_eq_true, Bool.and_eq_true, Bool.or_eq_false_iff, Bool.and_eq_false_iff, Bool.not_eq_true', Bool.not_eq_false', decide_eq_true_eq, decide_eq_false_iff_not, beq_iff_eq, bne_iff_ne, beq_eq_false_iff_ne, bne_eq_false_iff_eq, ne_eq, ge_iff_le, gt_iff_lt, arAdd, arSub, arMul] at cl
                try simp only [hb2, hb3, hb4, hb5, hb6, hb7, Bool.or_eq_true, Bool.and_eq_true, Bool.or_eq_false_iff, Bool.and_eq_false_iff, Bool.not_eq_true', Bool.not_eq_false', decide_eq_true_eq, decide_eq_false_iff_not, beq_iff_eq, bne_iff_ne, beq_eq_false_iff_ne, bne_eq_false_iff_eq, ne_eq, ge_iff_le, gt_iff_lt, arAdd, arSub, arMul] at c2
                try simp only [hb2, hb3, hb4, hb5, hb6, hb7, Bool.or_eq_true, Bool.and_eq_true, Bool.or_eq_false_iff, Bool.and_eq_false_iff, Bool.not_eq_true', Bool.not_eq_false', decide_eq_true_eq, decide_eq_false_iff_not, beq_iff_eq, bne_iff_ne, beq_eq_false_iff_ne, bne_eq_false_iff_eq, ne_eq, ge_iff_le, gt_iff_lt, arAdd, arSub, arMul] at c26
                try simp only [hb2, hb3, hb4, hb5, hb6, hb7, Bool.or_eq_true, Bool.and_eq_true, Bool.or_eq_false_iff, Bool.and_eq_false_iff, Bool.not_eq_true', Bool.not_eq_false', decide_eq_true_eq, decide_eq_false_iff_not, beq_iff_eq, bne_iff_ne, beq_eq_false_iff_ne, bne_eq_false_iff_eq, ne_eq, ge_iff_le, gt_iff_lt, arAdd, arSub, arMul] at c38
                try simp only [hb2, hb3, hb4, hb5, hb6, hb7, Bool.or_eq_true, Bool.and_eq_true, Bool.or_eq_false_iff, Bool.and_eq_false_iff, Bool.not_eq_true', Bool.not_eq_false', decide_eq_true_eq, decide_eq_false_iff_not, beq_iff_eq, bne_iff_ne, beq_eq_false_iff_ne, bne_eq_false_iff_eq, ne_eq, ge_iff_le, gt_iff_lt, arAdd, arSub, arMul] at c40
                try simp only [hb2, hb3, hb4, hb5, hb6, hb7, Bool.or_eq_true, Bool.and_eq_true, Bool.or_eq_false_iff, Bool.and_eq_false_iff, Bool.not_eq_true', Bool.not_eq_false', decide_eq_true_eq, decide_eq_false_iff_not, beq_iff_eq, bne_iff_ne, beq_eq_false_iff_ne, bne_eq_false_iff_eq, ne_eq, ge_iff_le, gt_iff_lt, arAdd, arSub, arMul] at c42
                try simp only [hb2, hb3, hb4, hb5, hb6, hb7, Bool.or_eq_true, Bool.and_eq_true, Bool.or_eq_false_iff, Bool.and_eq_false_iff, Bool.not_eq_true', Bool.not_eq_false', decide_eq_true_eq, decide_eq_false_iff_not, beq_iff_eq, bne_iff_ne, beq_eq_false_iff_ne, bne_eq_false_iff_eq, ne_eq, ge_iff_le, gt_iff_lt, arAdd, arSub, arMul] at c43
                try simp only [hb2, hb3, hb4, hb5, hb6, hb7, Bool.or_eq_true, Bool.and_eq_true, Bool.or_eq_false_iff, Bool.and_eq_false_iff, Bool.not_eq_true', Bool.not_eq_false', decide_eq_true_eq, decide_eq_false_iff_not, beq_iff_eq, bne_iff_ne, beq_eq_false_iff_ne, bne_eq_false_iff_eq, ne_eq, ge_iff_le, gt_iff_lt, arAdd, arSub, arMul] at c44
                omega
              · replace hc : b7 = false := hc
                have c45 := hc
                clear hc
                refine st_2_1 (e6_21) (g := true) rfl (l := [i6, i7, i8, i9]) rfl (m := []) rfl (cl_t (q21 i6 i7 i8 i9)) fun i16 i17 b8 hi16 hi17 hb8 => ?_
                show T.den _ _ [i0, i1, i2, i3, i4, i5, i6, i7, i8, i9, i10, i11, i12, i13, i14, i15, i16, i17] [b0, b1, b2, b3, b4, b5, b6, b7, b8] = _
                have k21 := ite_or hi16 hi17
                have k17 := quo_max i7 i8 (by omega) (by omega) (by omega)
                clear hi16 hi17
                refine st_2_1 (e6_22) (g := true) rfl (l := [i6, i7, i8, i9]) rfl (m := []) rfl (cl_t (q22 i6 i7 i8 i9)) fun i18 i19 b9 hi18 hi19 hb9 => ?_
                show T.den _ _ [i0, i1, i2, i3, i4, i5, i6, i7, i8, i9, i10, i11, i12, i13, i14, i15, i16, i17, i18, i19] [b0, b1, b2, b3, b4, b5, b6, b7, b8, b9] = _
                have k22 : (i9 = 0 ∧ i18 = 0 ∧ i19 = 0) ∨ (i9 ≠ 0 ∧ i7 < i8 ∧ i18 = i6 ∧ i19 = i7) ∨ (i9 ≠ 0 ∧ ¬ i7 < i8 ∧ i18 = 0 ∧ i19 = min i7 (arI .sub .u64 i9 1)) := by
                  by_cases h9 : i9 = 0
                  · rw [if_pos h9] at hi18 hi19; exact .inl ⟨h9, hi18, hi19⟩
                  · rw [if_neg h9] at hi18 hi19; rcases ite_or hi18 hi19 with h | h
                    · exact .inr (.inl ⟨h9, h⟩)
                    · exact .inr (.inr ⟨h9, h⟩)
                clear hi18 hi19
                rw [arSub] at k22
                refine st_rq (show ((!(b8 && (decide (i8 > 0)))) || (i9 != 0)) = true from ?_) ?_
                · simp only [hb2, hb3, hb4, hb5, hb6, hb7, hb8, hb9, Bool.or_eq_true, Bool.and_eq_true, Bool.or_eq_false_iff, Bool.and_eq_false_iff, Bool.not_eq_true', Bool.not_eq_false', decide_eq_true_eq, decide_eq_false_iff_not, beq_iff_eq, bne_iff_ne, beq_eq_false_iff_ne, bne_eq_false_iff_eq, ne_eq, ge_iff_le, gt_iff_lt]
                  try omega
                refine st_rq (show ((!(b8 && (decide (i8 > 0)))) || (i8 != 0)) = true from ?_) ?_
                · simp only [hb2, hb3, hb4, hb5, hb6, hb7, hb8, hb9, Bool.or_eq_true, Bool.and_eq_true, Bool.or_eq_false_iff, Bool.and_eq_false_iff, Bool.not_eq_true', Bool.not_eq_false', decide_eq_true_eq, decide_eq_false_iff_not, beq_iff_eq, bne_iff_ne, beq_eq_false_iff_ne, bne_eq_false_iff_eq, ne_eq, ge_iff_le, gt_iff_lt]
                  try omega
                refine st_lb fun b10 hb10 => ?_
                replace hb10 : b10 = ((i16 == (arI .quo .u64 i6 i9)) && (i17 == (arI .quo .u64 i7 i8))) := hb10
                show T.den _ _ [i0, i1, i2, i3, i4, i5, i6, i7, i8, i9, i10, i11, i12, i13, i14, i15, i16, i17, i18, i19] [b0, b1, b2, b3, b4, b5, b6, b7, b8, b9, b10] = _
                refine st_lb fun b11 hb11 => ?_
                replace hb11 : b11 = ((i18 == i6) && (i19 == i7)) := hb11
                show T.den _ _ [i0, i1, i2, i3, i4, i5, i6, i7, i8, i9, i10, i11, i12, i13, i14, i15, i16, i17, i18, i19] [b0, b1, b2, b3, b4, b5, b6, b7, b8, b9, b10, b11] = _
                refine st_lb fun b12 hb12 => ?_
                replace hb12 : b12 = (((decide (i8 > 0)) && b10) && ((decide (i7 ≥ i8)) || b11)) := hb12
                show T.den _ _ [i0, i1, i2, i3, i4, i5, i6, i7, i8, i9, i10, i11, i12, i13, i14, i15, i16, i17, i18, i19] [b0, b1, b2, b3, b4, b5, b6, b7, b8, b9, b10, b11, b12] = _
                refine st_rq (show ((!((!((!b8) || b12)) && (i8 == 0))) || (i9 != 0)) = true from ?_) ?_
                · simp only [hb2, hb3, hb4, hb5, hb6, hb7, hb8, hb9, hb10, hb11, hb12, Bool.or_eq_true, Bool.and_eq_true, Bool.or_eq_false_iff, Bool.and_eq_false_iff, Bool.not_eq_true', Bool.not_eq_false', decide_eq_true_eq, decide_eq_false_iff_not, beq_iff_eq, bne_iff_ne, beq_eq_false_iff_ne, bne_eq_false_iff_eq, ne_eq, ge_iff_le, gt_iff_lt]
                  try omega
                refine st_lb fun b13 hb13 => ?_
                replace hb13 : b13 = ((i16 == (arI .quo .u64 i6 i9)) && (i17 == i7)) := hb13
                show T.den _ _ [i0, i1, i2, i3, i4, i5, i6, i7, i8, i9, i10, i11, i12, i13, i14, i15, i16, i17, i18, i19] [b0, b1, b2, b3, b4, b5, b6, b7, b8, b9, b10, b11, b12, b13] = _
                refine st_lb fun b14 hb14 => ?_
                replace hb14 : b14 = (((i8 == 0) && b13) && (decide (i19 < i9))) := hb14
                show T.den _ _ [i0, i1, i2, i3, i4, i5, i6, i7, i8, i9, i10, i11, i12, i13, i14, i15, i16, i17, i18, i19] [b0, b1, b2, b3, b4, b5, b6, b7, b8, b9, b10, b11, b12, b13, b14] = _
                refine st_ret ?_
                show some ([], [(((!b8) || b12) || b14)]) = _
                have e : (((!b8) || b12) || b14) = true := by
                  simp only [hb2, hb3, hb4, hb5, hb6, hb7, hb8, hb9, hb10, hb11, hb12, hb13, hb14, Bool.or_eq_true, Bool.and_eq_true, Bool.or_eq_false_iff, Bool.and_eq_false_iff, Bool.not_eq_true', Bool.not_eq_false', decide_eq_true_eq, decide_eq_false_iff_not, beq_iff_eq, bne_iff_ne, beq_eq_false_iff_ne, bne_eq_false_iff_eq, ne_eq, ge_iff_le, gt_iff_lt]
                  clear hD hP hQ0 hQ k18 k19 k20
                  omega
                rw [e]
            · replace hc : b6 = false := hc
              have c46 := hc
              clear hc
              refine st_lb fun b7 hb7 => ?_
              replace hb7 : b7 = (!((i14 == (arI .mul .u64 i6 i8)) && (i15 == (arI .mul .u64 i7 i9)))) := hb7
              show T.den _ _ [i0, i1, i2, i3, i4, i5, i6, i7, i8, i9, i10, i11, i12, i13, i14, i15] [b0, b1, b2, b3, b4, b5, b6, b7] = _
              refine st_ite (fun hc => ?_) (fun hc => ?_)
              · replace hc : b7 = true := hc
                have c47 := hc
                clear hc
                refine st_ret ?_
                show some ([], [false]) = _
                exfalso
                have cl := c47
                simp only [hb2, hb3, hb4, hb5, hb6, hb7, Bool.or_eq_true, Bool.and_eq_true, Bool.or_eq_false_iff, Bool.and_eq_false_iff, Bool.not_eq_true', Bool.not_eq_false', decide_eq_true_eq, decide_eq_false_iff_not, beq_iff_eq, bne_iff_ne, beq_eq_false_iff_ne, bne_eq_false_iff_eq, ne_eq, ge_iff_le, gt_iff_lt, arAdd, arSub, arMul] at cl
                try simp only [hb2, hb3, hb4, hb5, hb6, hb7, Bool.or_eq_true, Bool.and_eq_true, Bool.or_eq_false_iff, Bool.and_eq_false_iff, Bool.not_eq_true', Bool.not_eq_false', decide_eq_true_eq, decide_eq_false_iff_not, beq_iff_eq, bne_iff_ne, beq_eq_false_iff_ne, bne_eq_false_iff_eq, ne_eq, ge_iff_le, gt_iff_lt, arAdd, arSub, arMul] at c2
                try simp only [hb2, hb3, hb4, hb5, hb6, hb7, Bool.or_eq_true, Bool.and_eq_true, Bool.or_eq_false_iff, Bool.and_eq_false_iff, Bool.not_eq_true', Bool.not_eq_false', decide_eq_true_eq, decide_eq_false_iff_not, beq_iff_eq, bne_iff_ne, beq_eq_false_iff_ne, bne_eq_false_iff_eq, ne_eq, ge_iff_le, gt_iff_lt, arAdd, arSub, arMul] at c26
                try simp only [hb2, hb3, hb4, hb5, hb6, hb7, Bool.or_eq_true, Bool.and_eq_true, Bool.or_eq_false_iff, Bool.and_eq_false_iff, Bool.not_eq_true', Bool.not_eq_false', decide_eq_true_eq, decide_eq_false_iff_not, beq_iff_eq, bne_iff_ne, beq_eq_false_iff_ne, bne_eq_false_iff_eq, ne_eq, ge_iff_le, gt_iff_lt, arAdd, arSub, arMul] at c38
                try simp only [hb2, hb3, hb4, hb5, hb6, hb7, Bool.or_eq_true, Bool.and_eq_true, Bool.or_eq_false_iff, Bool.and_eq_false_iff, Bool.not_eq_true', Bool.not_eq_false', decide_eq_true_eq, decide_eq_false_iff_not, beq_iff_eq, bne_iff_ne, beq_eq_false_iff_ne, bne_eq_false_iff_eq, ne_eq, ge_iff_le, gt_iff_lt, arAdd, arSub, arMul] at c40
                try simp only [hb2, hb3, hb4, hb5, hb6, hb7, Bool.or_eq_true, Bool.and_eq_true, Bool.or_eq_false_iff, Bool.and_eq_false_iff, Bool.not_eq_true', Bool.not_eq_false', decide_eq_true_eq, decide_eq_false_iff_not, beq_iff_eq, bne_iff_ne, beq_eq_false_iff_ne, bne_eq_false_iff_eq, ne_eq, ge_iff_le, gt_iff_lt, arAdd, arSub, arMul] at c42
                try simp only [hb2, hb3, hb4, hb5, hb6, hb7, Bool.or_eq_true, Bool.and_eq_true, Bool.or_eq_false_iff, Bool.and_eq_false_iff, Bool.not_eq_true', Bool.not_eq_false', decide_eq_true_eq, decide_eq_false_iff_not, beq_iff_eq, bne_iff_ne, beq_eq_false_iff_ne, bne_eq_false_iff_eq, ne_eq, ge_iff_le, gt_iff_lt, arAdd, arSub, arMul] at c46
                try simp only [hb2, hb3, hb4, hb5, hb6, hb7, Bool.or_eq_true, Bool.and_eq_true, Bool.or_eq_false_iff, Bool.and_eq_false_iff, Bool.not_eq_true', Bool.not_eq_false', decide_eq_true_eq, decide_eq_false_iff_not, beq_iff_eq, bne_iff_ne, beq_eq_false_iff_ne, bne_eq_false_iff_eq, ne_eq, ge_iff_le, gt_iff_lt, arAdd, arSub, arMul] at c47
                omega
              · replace hc : b7 = false := hc
                have c48 := hc
                clear hc
                refine st_2_1 (e6_21) (g := true) rfl (l := [i6, i7, i8, i9]) rfl (m := []) rfl (cl_t (q21 i6 i7 i8 i9)) fun i16 i17 b8 hi16 hi17 hb8 => ?_
                show T.den _ _ [i0, i1, i2, i3, i4, i5, i6, i7, i8, i9, i10, i11, i12, i13, i14, i15, i16, i17] [b0, b1, b2, b3, b4, b5, b6, b7, b8] = _
                have k21 := ite_or hi16 hi17
                have k17 := quo_max i7 i8 (by omega) (by omega) (by omega)
                clear hi16 hi17
                refine st_2_1 (e6_22) (g := true) rfl (l := [i6, i7, i8, i9]) rfl (m := []) rfl (cl_t (q22 i6 i7 i8 i9)) fun i18 i19 b9 hi18 hi19 hb9 => ?_
                show T.den _ _ [i0, i1, i2, i3, i4, i5, i6, i7, i8, i9, i10, i11, i12, i13, i14, i15, i16, i17, i18, i19] [b0, b1, b2, b3, b4, b5, b6, b7, b8, b9] = _
                have k22 : (i9 = 0 ∧ i18 = 0 ∧ i19 = 0) ∨ (i9 ≠ 0 ∧ i7 < i8 ∧ i18 = i6 ∧ i19 = i7) ∨ (i9 ≠ 0 ∧ ¬ i7 < i8 ∧ i18 = 0 ∧ i19 = min i7 (arI .sub .u64 i9 1)) := by
                  by_cases h9 : i9 = 0
                  · rw [if_pos h9] at hi18 hi19; exact .inl ⟨h9, hi18, hi19⟩
                  · rw [if_neg h9] at hi18 hi19; rcases ite_or hi18 hi19 with h | h
                    · exact .inr (.inl ⟨h9, h⟩)
                    · exact .inr (.inr ⟨h9, h⟩)
                clear hi18 hi19
                rw [arSub] at k22
                refine st_rq (show ((!(b8 && (decide (i8 > 0)))) || (i9 != 0)) = true from ?_) ?_
                · simp only [hb2, hb3, hb4, hb5, hb6, hb7, hb8, hb9, Bool.or_eq_true, Bool.and_eq_true, Bool.or_eq_false_iff, Bool.and_eq_false_iff, Bool.not_eq_true', Bool.not_eq_false', decide_eq_true_eq, decide_eq_false_iff_not, beq_iff_eq, bne_iff_ne, beq_eq_false_iff_ne, bne_eq_false_iff_eq, ne_eq, ge_iff_le, gt_iff_lt]
                  try omega
                refine st_rq (show ((!(b8 && (decide (i8 > 0)))) || (i8 != 0)) = true from ?_) ?_
                · simp only [hb2, hb3, hb4, hb5, hb6, hb7, hb8, hb9, Bool.or_eq_true, Bool.and_eq_true, Bool.or_eq_false_iff, Bool.and_eq_false_iff, Bool.not_eq_true', Bool.not_eq_false', decide_eq_true_eq, decide_eq_false_iff_not, beq_iff_eq, bne_iff_ne, beq_eq_false_iff_ne, bne_eq_false_iff_eq, ne_eq, ge_iff_le, gt_iff_lt]
                  try omega
                refine st_lb fun b10 hb10 => ?_
                replace hb10 : b10 = ((i16 == (arI .quo .u64 i6 i9)) && (i17 == (arI .quo .u64 i7 i8))) := hb10
                show T.den _ _ [i0, i1, i2, i3, i4, i5, i6, i7, i8, i9, i10, i11, i12, i13, i14, i15, i16, i17, i18, i19] [b0, b1, b2, b3, b4, b5, b6, b7, b8, b9, b10] = _
                refine st_lb fun b11 hb11 => ?_
                replace hb11 : b11 = ((i18 == i6) && (i19 == i7)) := hb11
                show T.den _ _ [i0, i1, i2, i3, i4, i5, i6, i7, i8, i9, i10, i11, i12, i13, i14, i15, i16, i17, i18, i19] [b0, b1, b2, b3, b4, b5, b6, b7, b8, b9, b10, b11] = _
                refine st_lb fun b12 hb12 => ?_
                replace hb12 : b12 = (((decide (i8 > 0)) && b10) && ((decide (i7 ≥ i8)) || b11)) := hb12
                show T.den _ _ [i0, i1, i2, i3, i4, i5, i6, i7, i8, i9, i10, i11, i12, i13, i14, i15, i16, i17, i18, i19] [b0, b1, b2, b3, b4, b5, b6, b7, b8, b9, b10, b11, b12] = _
                refine st_rq (show ((!((!((!b8) || b12)) && (i8 == 0))) || (i9 != 0)) = true from ?_) ?_
                · simp only [hb2, hb3, hb4, hb5, hb6, hb7, hb8, hb9, hb10, hb11, hb12, Bool.or_eq_true, Bool.and_eq_true, Bool.or_eq_false_iff, Bool.and_eq_false_iff, Bool.not_eq_true', Bool.not_eq_false', decide_eq_true_eq, decide_eq_false_iff_not, beq_iff_eq, bne_iff_ne, beq_eq_false_iff_ne, bne_eq_false_iff_eq, ne_eq, ge_iff_le, gt_iff_lt]
                  try omega
                refine st_lb fun b13 hb13 => ?_
                replace hb13 : b13 = ((i16 == (arI .quo .u64 i6 i9)) && (i17 == i7)) := hb13
                show T.den _ _ [i0, i1, i2, i3, i4, i5, i6, i7, i8, i9, i10, i11, i12, i13, i14, i15, i16, i17, i18, i19] [b0, b1, b2, b3, b4, b5, b6, b7, b8, b9, b10, b11, b12, b13] = _
                refine st_lb fun b14 hb14 => ?_
                replace hb14 : b14 = (((i8 == 0) && b13) && (decide (i19 < i9))) := hb14
                show T.den _ _ [i0, i1, i2, i3, i4, i5, i6, i7, i8, i9, i10, i11, i12, i13, i14, i15, i16, i17, i18, i19] [b0, b1, b2, b3, b4, b5, b6, b7, b8, b9, b10, b11, b12, b13, b14] = _
                refine st_ret ?_
                show some ([], [(((!b8) || b12) || b14)]) = _
                have e : (((!b8) || b12) || b14) = true := by
                  simp only [hb2, hb3, hb4, hb5, hb6, hb7, hb8, hb9, hb10, hb11, hb12, hb13, hb14, Bool.or_eq_true, Bool.and_eq_true, Bool.or_eq_false_iff, Bool.and_eq_false_iff, Bool.not_eq_true', Bool.not_eq_false', decide_eq_true_eq, decide_eq_false_iff_not, beq_iff_eq, bne_iff_ne, beq_eq_false_iff_ne, bne_eq_false_iff_eq, ne_eq, ge_iff_le, gt_iff_lt]
                  clear hD hP hQ0 hQ k18 k19 k20
                  omega
                rw [e]
end Go.Proofs.Ytaajijommogaoaa.YIvlTight
