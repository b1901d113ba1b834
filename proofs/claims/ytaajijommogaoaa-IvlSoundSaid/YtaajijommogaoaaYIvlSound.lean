/-
  IvlSound, of numbers alone.
-/
import Derived.Test.YtaajijommogaoaaXIvlSound
import Derived.Test.YtaajijommogaoaaSn
import Derived.Lib.BitFns
import Derived.Lib.ItoaNum
namespace Go.Proofs.Ytaajijommogaoaa.YIvlSound
open Go.Proofs.Ytaajijommogaoaa.Sx Go.Proofs.Ytaajijommogaoaa.Sn Go.Proofs.Ytaajijommogaoaa.XIvlSound Go.Proofs.Ytaajijommogaoaa.EIvlSound
set_option linter.unusedSimpArgs false
set_option linter.unusedVariables false
theorem st_0_1 {C : Nat → Sx.Fn} {is : List Int} {bs : List Bool} {r : Option (List Int × List Bool)} {G : E} {f : Nat} {ii bb : List E} {k : Sx.T} {c0 : Bool} {F : Sx.Fn} {g : Bool} {l : List Int} {m : List Bool} (hC : C f = F) (hG : G.B is bs = g) (hl : ii.map (E.I is bs) = l) (hm : bb.map (E.B is bs) = m)
    (h : (bif g then F l m else some (List.replicate 0 0, List.replicate 1 false)) = some ([], [c0]))
    (hk : ∀ (y0 : Bool), y0 = c0 → k.den C (is ++ []) (bs ++ [y0]) = r) : (Sx.T.call G f ii bb 0 1 k).den C is bs = r := st_call _ _ (by rw [hC, hG, hl, hm]; exact h) rfl rfl (hk _ rfl)

theorem st_1_0 {C : Nat → Sx.Fn} {is : List Int} {bs : List Bool} {r : Option (List Int × List Bool)} {G : E} {f : Nat} {ii bb : List E} {k : Sx.T} {a0 : Int} {F : Sx.Fn} {g : Bool} {l : List Int} {m : List Bool} (hC : C f = F) (hG : G.B is bs = g) (hl : ii.map (E.I is bs) = l) (hm : bb.map (E.B is bs) = m)
    (h : (bif g then F l m else some (List.replicate 1 0, List.replicate 0 false)) = some ([a0], []))
    (hk : ∀ (x0 : Int), x0 = a0 → k.den C (is ++ [x0]) (bs ++ []) = r) : (Sx.T.call G f ii bb 1 0 k).den C is bs = r := st_call _ _ (by rw [hC, hG, hl, hm]; exact h) rfl rfl (hk _ rfl)

theorem st_2_0 {C : Nat → Sx.Fn} {is : List Int} {bs : List Bool} {r : Option (List Int × List Bool)} {G : E} {f : Nat} {ii bb : List E} {k : Sx.T} {a0 a1 : Int} {F : Sx.Fn} {g : Bool} {l : List Int} {m : List Bool} (hC : C f = F) (hG : G.B is bs = g) (hl : ii.map (E.I is bs) = l) (hm : bb.map (E.B is bs) = m)
    (h : (bif g then F l m else some (List.replicate 2 0, List.replicate 0 false)) = some ([a0, a1], []))
    (hk : ∀ (x0 x1 : Int), x0 = a0 → x1 = a1 → k.den C (is ++ [x0, x1]) (bs ++ []) = r) : (Sx.T.call G f ii bb 2 0 k).den C is bs = r := st_call _ _ (by rw [hC, hG, hl, hm]; exact h) rfl rfl (hk _ _ rfl rfl)

theorem st_2_1 {C : Nat → Sx.Fn} {is : List Int} {bs : List Bool} {r : Option (List Int × List Bool)} {G : E} {f : Nat} {ii bb : List E} {k : Sx.T} {a0 a1 : Int} {c0 : Bool} {F : Sx.Fn} {g : Bool} {l : List Int} {m : List Bool} (hC : C f = F) (hG : G.B is bs = g) (hl : ii.map (E.I is bs) = l) (hm : bb.map (E.B is bs) = m)
    (h : (bif g then F l m else some (List.replicate 2 0, List.replicate 1 false)) = some ([a0, a1], [c0]))
    (hk : ∀ (x0 x1 : Int) (y0 : Bool), x0 = a0 → x1 = a1 → y0 = c0 → k.den C (is ++ [x0, x1]) (bs ++ [y0]) = r) : (Sx.T.call G f ii bb 2 1 k).den C is bs = r := st_call _ _ (by rw [hC, hG, hl, hm]; exact h) rfl rfl (hk _ _ _ rfl rfl rfl)
theorem q9 : F9 [] [] = some ([], [true]) := by decide +kernel

theorem q13_32 : F13 [32] [] = some ([0, 4294967295], []) := by decide +kernel

theorem q13_64 : F13 [64] [] = some ([0, 18446744073709551615], []) := by decide +kernel

theorem q13 (w : Int) : F13 [w] [] = some ([0, if w = 32 then 4294967295 else 18446744073709551615], []) := by
  by_cases h : w = 32
  · subst h; rw [if_pos rfl]; exact q13_32
  · rw [if_neg h]
    refine Eq.trans (Fd_of (n := 1) (m := 0) (t := t13) (C := Tab.fn a13) rfl rfl) ?_
    rw [t13]
    refine st_ite (fun hc => ?_) (fun hc => ?_)
    · replace hc : (w == 32) = true := hc
      exact absurd (by simpa using hc) h
    · rfl

theorem q10 (a b : Int) : F10 [a, b] [] = some ([min a b, max a b], []) := by rw [min_, max_]; rfl

theorem q16 (a b n : Int) : F16 [a, b, n] [] = some ([], [decide (a ≤ n) && decide (n ≤ b)]) := rfl

theorem q27 (a b c : Int) (h : 0 ≤ a ∧ 0 ≤ b ∧ 0 ≤ c ∧ c ≤ 1) : F27 [a, b, c] [] = some ([(a + b + c) % 18446744073709551616, (a + b + c) / 18446744073709551616], []) := by
  show (if 0 ≤ a ∧ 0 ≤ b ∧ 0 ≤ c ∧ c ≤ 1 then _ else none) = _
  rw [if_pos h]

def tp (w : Int) : Int := if w = 32 then 4294967295 else 18446744073709551615

theorem tp_bd (w : Int) : 0 ≤ tp w ∧ tp w < 18446744073709551616 := by unfold tp; split <;> omega

theorem q13' (w : Int) : F13 [w] [] = some ([0, tp w], []) := q13 w

theorem cl_x (g : Bool) (i j : Int) : (bif g then some ([i, j], []) else some (List.replicate 2 0, List.replicate 0 false)) = some ([bif g then i else 0, bif g then j else 0], ([] : List Bool)) := by cases g <;> rfl

theorem e18_27 : Tab.fn a18 27 = F27 := Tab.fn_hd
theorem e18_13 : Tab.fn a18 13 = F13 := ((Tab.fn_tl rfl).trans Tab.fn_hd)
theorem e19_13 : Tab.fn a19 13 = F13 := Tab.fn_hd

set_option maxHeartbeats 4000000 in
theorem q18 (a b c d w : Int) (h0 : 0 ≤ a) (h1 : a ≤ b) (hb : b < 18446744073709551616) (h2 : 0 ≤ c) (h3 : c ≤ d) (hd : d < 18446744073709551616) : F18 [a, b, c, d, w] [] = some ([if b + d ≤ tp w then a + c else 0, if b + d ≤ tp w then b + d else tp w], []) := by
  refine Eq.trans (Fd_of (n := 5) (m := 0) (t := t18) (C := Tab.fn a18) rfl rfl) ?_
  rw [t18]
  refine st_2_0 (e18_27) (g := true) rfl (l := [b, d, 0]) rfl (m := []) rfl (cl_t (q27 b d 0 (by omega))) fun i5 i6 hi5 hi6 => ?_
  show T.den _ _ [a, b, c, d, w, i5, i6] [] = _
  refine st_2_0 (e18_13) (g := (!(i6 != 0))) rfl (l := [w]) rfl (m := []) rfl (by rw [q13']; exact cl_x _ _ _) fun i7 i8 hi7 hi8 => ?_
  show T.den _ _ [a, b, c, d, w, i5, i6, i7, i8] [] = _
  refine st_lb fun b0 hb0 => ?_
  replace hb0 : b0 = ((i6 != 0) || (decide (i5 > i8))) := hb0
  show T.den _ _ [a, b, c, d, w, i5, i6, i7, i8] [b0] = _
  refine st_ite (fun hc => ?_) (fun hc => ?_)
  · replace hc : b0 = true := hc
    have c1 := hc
    clear hc
    refine st_2_0 (e18_13) (g := true) rfl (l := [w]) rfl (m := []) rfl (by rw [q13']; exact cl_x _ _ _) fun i9 i10 hi9 hi10 => ?_
    show T.den _ _ [a, b, c, d, w, i5, i6, i7, i8, i9, i10] [b0] = _
    refine st_ret ?_
    show some ([i9, i10], []) = _
    have tb := tp_bd w
    cases hz : (i6 != 0)
    · rw [hz] at hi8
      simp only [hz, Bool.not_false, cond_true] at hi8
      simp only [bne_eq_false_iff_eq] at hz
      rw [hb0, hi8] at c1
      simp only [hz, bne_self_eq_false, Bool.false_or, decide_eq_true_eq] at c1
      refine r2 ?_ ?_
      · rw [if_neg (by omega), hi9]; rfl
      · rw [if_neg (by omega), hi10]; rfl
    · have hz' : i6 ≠ 0 := by simpa using hz
      refine r2 ?_ ?_
      · rw [if_neg (by omega), hi9]; rfl
      · rw [if_neg (by omega), hi10]; rfl
  · replace hc : b0 = false := hc
    have c2 := hc
    clear hc
    refine st_ret ?_
    show some ([(arI .add .u64 a c), i5], []) = _
    have tb := tp_bd w
    cases hz : (i6 != 0)
    · rw [hz] at hi8
      simp only [hz, Bool.not_false, cond_true] at hi8
      simp only [bne_eq_false_iff_eq] at hz
      rw [hb0, hi8] at c2
      simp only [hz, bne_self_eq_false, Bool.false_or, decide_eq_false_iff_not] at c2
      refine r2 ?_ ?_
      · rw [if_pos (by omega), arAdd]; omega
      · rw [if_pos (by omega)]; omega
    · have hz' : i6 ≠ 0 := by simpa using hz
      rw [hb0, hz] at c2
      simp at c2

set_option maxHeartbeats 4000000 in
theorem q19 (a b c d w : Int) (h0 : 0 ≤ a) (h1 : a ≤ b) (hb : b < 18446744073709551616) (h2 : 0 ≤ c) (h3 : c ≤ d) (hd : d < 18446744073709551616) : F19 [a, b, c, d, w] [] = some ([if a < d then 0 else a - d, if a < d then tp w else b - c], []) := by
  refine Eq.trans (Fd_of (n := 5) (m := 0) (t := t19) (C := Tab.fn a19) rfl rfl) ?_
  rw [t19]
  refine st_ite (fun hc => ?_) (fun hc => ?_)
  · replace hc : (decide (a < d)) = true := hc
    have c1 := hc
    clear hc
    refine st_2_0 (e19_13) (g := true) rfl (l := [w]) rfl (m := []) rfl (cl_t (q13' w)) fun i5 i6 hi5 hi6 => ?_
    show T.den _ _ [a, b, c, d, w, i5, i6] [] = _
    refine st_ret ?_
    show some ([i5, i6], []) = _
    simp only [decide_eq_true_eq] at c1
    refine r2 ?_ ?_
    · rw [if_pos c1]; exact hi5
    · rw [if_pos c1]; exact hi6
  · replace hc : (decide (a < d)) = false := hc
    have c2 := hc
    clear hc
    refine st_ret ?_
    show some ([(arI .sub .u64 a d), (arI .sub .u64 b c)], []) = _
    simp only [decide_eq_false_iff_not] at c2
    refine r2 ?_ ?_
    · rw [if_neg c2, arSub]; omega
    · rw [if_neg c2, arSub]; omega

theorem mul_parts (a b : Nat) (ha : a < 2 ^ 64) (hb : b < 2 ^ 64) :
    a * b = (a / 4294967296) * (b / 4294967296) * 2 ^ 64 + ((a / 4294967296) * (b % 4294967296) + (a % 4294967296) * (b / 4294967296)) * 4294967296 + (a % 4294967296) * (b % 4294967296) := by
  have h1 := Nat.div_add_mod a 4294967296
  have h2 := Nat.div_add_mod b 4294967296
  generalize a / 4294967296 = a1 at *
  generalize a % 4294967296 = a0 at *
  generalize b / 4294967296 = b1 at *
  generalize b % 4294967296 = b0 at *
  subst h1
  subst h2
  simp only [Nat.add_mul, Nat.mul_add]
  have e1 : 4294967296 * a1 * (4294967296 * b1) = a1 * b1 * 2 ^ 64 := by
    rw [Nat.mul_mul_mul_comm, Nat.mul_comm]
  have e2 : 4294967296 * a1 * b0 = a1 * b0 * 4294967296 := by rw [Nat.mul_assoc, Nat.mul_comm]
  have e3 : a0 * (4294967296 * b1) = a0 * b1 * 4294967296 := by rw [Nat.mul_left_comm, Nat.mul_comm]
  rw [e1, e2, e3]
  omega
theorem prod_lt {x y : Nat} (hx : x ≤ 4294967295) (hy : y ≤ 4294967295) : x * y ≤ 18446744065119617025 := Nat.le_trans (Nat.mul_le_mul hx hy) (by decide)


theorem shr32 (n : Nat) : arI .shr .u64 (n : Int) 32 = ((n / 4294967296 : Nat) : Int) := by
  rw [arShr _ 32 (by decide) (by decide)]
  rw [show (32 : Int).toNat = 32 from rfl]; omega
theorem and32 (n : Nat) (h : n < 2 ^ 64) : arI .and .u64 (n : Int) 4294967295 = ((n % 4294967296 : Nat) : Int) := by
  have := band n 4294967295 h (by decide)
  rw [show ((4294967295 : Nat) : Int) = 4294967295 from rfl] at this
  rw [this, show 4294967295 = 2 ^ 32 - 1 from rfl, and_mask]
theorem mul32 {x y : Nat} (hx : x ≤ 4294967295) (hy : y ≤ 4294967295) : arI .mul .u64 (x : Int) (y : Int) = ((x * y : Nat) : Int) := by
  have := prod_lt hx hy
  rw [arMul, ← Int.natCast_mul]; omega
theorem mul64_num' (p11 p10 p01 p00 : Nat) (h11 : p11 ≤ 18446744065119617025) (h10 : p10 ≤ 18446744065119617025) (h01 : p01 ≤ 18446744065119617025) (h00 : p00 ≤ 18446744065119617025) :
    p11 + (p10 + p00 / 4294967296) / 4294967296 + ((p10 + p00 / 4294967296) % 4294967296 + p01) / 4294967296 = (p11 * 2 ^ 64 + (p10 + p01) * 4294967296 + p00) / 2 ^ 64 ∧ p11 + (p10 + p00 / 4294967296) / 4294967296 + ((p10 + p00 / 4294967296) % 4294967296 + p01) / 4294967296 < 2 ^ 64 := by omega

set_option maxHeartbeats 4000000 in
theorem q28 (a b : Nat) (ha : a < 2 ^ 64) (hb : b < 2 ^ 64) : F28 [(a : Int), (b : Int)] [] = some ([((a * b / 2 ^ 64 : Nat) : Int), ((a * b % 2 ^ 64 : Nat) : Int)], []) := by
  refine Eq.trans (Fd_of (n := 2) (m := 0) (t := t28) (C := Tab.fn a28) rfl rfl) ?_
  rw [t28]
  refine st_li fun i2 hi2 => ?_
  replace hi2 : i2 = (arI .mul .u64 (arI .and .u64 (a : Int) 4294967295) (arI .and .u64 (b : Int) 4294967295)) := hi2
  show T.den _ _ [(a : Int), (b : Int), i2] [] = _
  refine st_li fun i3 hi3 => ?_
  replace hi3 : i3 = (arI .mul .u64 (arI .shr .u64 (a : Int) 32) (arI .and .u64 (b : Int) 4294967295)) := hi3
  show T.den _ _ [(a : Int), (b : Int), i2, i3] [] = _
  refine st_li fun i4 hi4 => ?_
  replace hi4 : i4 = (arI .and .u64 (arI .add .u64 i3 (arI .shr .u64 i2 32)) 4294967295) := hi4
  show T.den _ _ [(a : Int), (b : Int), i2, i3, i4] [] = _
  refine st_li fun i5 hi5 => ?_
  replace hi5 : i5 = (arI .shr .u64 (arI .add .u64 i3 (arI .shr .u64 i2 32)) 32) := hi5
  show T.den _ _ [(a : Int), (b : Int), i2, i3, i4, i5] [] = _
  refine st_li fun i6 hi6 => ?_
  replace hi6 : i6 = (arI .mul .u64 (arI .and .u64 (a : Int) 4294967295) (arI .shr .u64 (b : Int) 32)) := hi6
  show T.den _ _ [(a : Int), (b : Int), i2, i3, i4, i5, i6] [] = _
  refine st_li fun i7 hi7 => ?_
  replace hi7 : i7 = (arI .mul .u64 (arI .shr .u64 (a : Int) 32) (arI .shr .u64 (b : Int) 32)) := hi7
  show T.den _ _ [(a : Int), (b : Int), i2, i3, i4, i5, i6, i7] [] = _
  refine st_li fun i8 hi8 => ?_
  replace hi8 : i8 = (arI .add .u64 (arI .add .u64 i7 i5) (arI .shr .u64 (arI .add .u64 i4 i6) 32)) := hi8
  show T.den _ _ [(a : Int), (b : Int), i2, i3, i4, i5, i6, i7, i8] [] = _
  refine st_ret ?_
  show some ([i8, (arI .mul .u64 (a : Int) (b : Int))], []) = _
  obtain ⟨a0, ha0⟩ : ∃ x, x = a % 4294967296 := ⟨_, rfl⟩
  obtain ⟨a1, ha1⟩ : ∃ x, x = a / 4294967296 := ⟨_, rfl⟩
  obtain ⟨b0, hb0⟩ : ∃ x, x = b % 4294967296 := ⟨_, rfl⟩
  obtain ⟨b1, hb1⟩ : ∃ x, x = b / 4294967296 := ⟨_, rfl⟩
  have hmp := mul_parts a b ha hb
  rw [← ha0, ← ha1, ← hb0, ← hb1] at hmp
  have l1 : a0 ≤ 4294967295 := by omega
  have l2 : a1 ≤ 4294967295 := by omega
  have l3 : b0 ≤ 4294967295 := by omega
  have l4 : b1 ≤ 4294967295 := by omega
  have p00 := prod_lt l1 l3
  have p10 := prod_lt l2 l3
  have p01 := prod_lt l1 l4
  have p11 := prod_lt l2 l4
  rw [and32 a ha, and32 b hb, ← ha0, ← hb0, mul32 l1 l3] at hi2
  rw [shr32 a, and32 b hb, ← ha1, ← hb0, mul32 l2 l3] at hi3
  rw [and32 a ha, shr32 b, ← ha0, ← hb1, mul32 l1 l4] at hi6
  rw [shr32 a, shr32 b, ← ha1, ← hb1, mul32 l2 l4] at hi7
  have hn := mul64_num' (a1 * b1) (a1 * b0) (a0 * b1) (a0 * b0) p11 p10 p01 p00
  rw [← hmp] at hn
  generalize a0 * b0 = q00 at *
  generalize a1 * b0 = q10 at *
  generalize a0 * b1 = q01 at *
  generalize a1 * b1 = q11 at *
  have e34 : arI .add .u64 i3 (arI .shr .u64 i2 32) = ((q10 + q00 / 4294967296 : Nat) : Int) := by
    rw [hi2, shr32, hi3, arAdd]; omega
  rw [e34] at hi4 hi5
  rw [and32 _ (by omega)] at hi4
  rw [shr32] at hi5
  have e46 : arI .add .u64 i4 i6 = (((q10 + q00 / 4294967296) % 4294967296 + q01 : Nat) : Int) := by
    rw [hi4, hi6, arAdd]; omega
  rw [e46, shr32, hi7, hi5, arAdd, arAdd] at hi8
  refine r2 ?_ ?_
  · rw [hi8]; omega
  · rw [arMul, ← Int.natCast_mul]; omega

theorem q28' (a b : Int) (ha : 0 ≤ a ∧ a < 18446744073709551616) (hb : 0 ≤ b ∧ b < 18446744073709551616) : F28 [a, b] [] = some ([(a * b) / 18446744073709551616, (a * b) % 18446744073709551616], []) := by
  obtain ⟨m, rfl⟩ := Int.eq_ofNat_of_zero_le ha.1
  obtain ⟨n, rfl⟩ := Int.eq_ofNat_of_zero_le hb.1
  rw [q28 m n (by omega) (by omega), ← Int.natCast_mul]
  exact r2 (by omega) (by omega)

theorem e20_28 : Tab.fn a20 28 = F28 := Tab.fn_hd
theorem e20_13 : Tab.fn a20 13 = F13 := ((Tab.fn_tl rfl).trans Tab.fn_hd)

set_option maxHeartbeats 4000000 in
theorem q20 (a b c d w : Int) (h0 : 0 ≤ a) (h1 : a ≤ b) (hb : b < 18446744073709551616) (h2 : 0 ≤ c) (h3 : c ≤ d) (hd : d < 18446744073709551616) : F20 [a, b, c, d, w] [] = some ([if b * d ≤ tp w then a * c else 0, if b * d ≤ tp w then b * d else tp w], []) := by
  refine Eq.trans (Fd_of (n := 5) (m := 0) (t := t20) (C := Tab.fn a20) rfl rfl) ?_
  rw [t20]
  refine st_2_0 (e20_28) (g := true) rfl (l := [b, d]) rfl (m := []) rfl (cl_t (q28' b d (by omega) (by omega))) fun i5 i6 hi5 hi6 => ?_
  show T.den _ _ [a, b, c, d, w, i5, i6] [] = _
  refine st_2_0 (e20_13) (g := (!(i5 != 0))) rfl (l := [w]) rfl (m := []) rfl (by rw [q13']; exact cl_x _ _ _) fun i7 i8 hi7 hi8 => ?_
  show T.den _ _ [a, b, c, d, w, i5, i6, i7, i8] [] = _
  refine st_lb fun b0 hb0 => ?_
  replace hb0 : b0 = ((i5 != 0) || (decide (i6 > i8))) := hb0
  show T.den _ _ [a, b, c, d, w, i5, i6, i7, i8] [b0] = _
  refine st_ite (fun hc => ?_) (fun hc => ?_)
  · replace hc : b0 = true := hc
    have c1 := hc
    clear hc
    refine st_2_0 (e20_13) (g := true) rfl (l := [w]) rfl (m := []) rfl (by rw [q13']; exact cl_x _ _ _) fun i9 i10 hi9 hi10 => ?_
    show T.den _ _ [a, b, c, d, w, i5, i6, i7, i8, i9, i10] [b0] = _
    refine st_ret ?_
    show some ([i9, i10], []) = _
    have tb := tp_bd w
    have hP : 0 ≤ b * d := Int.mul_nonneg (by omega) (by omega)
    have hQ0 : 0 ≤ a * c := Int.mul_nonneg (by omega) (by omega)
    have hQ : a * c ≤ b * d := Int.mul_le_mul h1 h3 h2 (by omega)
    generalize b * d = P at *
    generalize a * c = Q at *
    cases hz : (i5 != 0)
    · simp only [hz, Bool.not_false, cond_true] at hi8
      simp only [bne_eq_false_iff_eq] at hz
      rw [hb0, hi8] at c1
      simp only [hz, bne_self_eq_false, Bool.false_or, decide_eq_true_eq] at c1
      refine r2 ?_ ?_
      · rw [if_neg (by omega), hi9]; rfl
      · rw [if_neg (by omega), hi10]; rfl
    · have hz' : i5 ≠ 0 := by simpa using hz
      refine r2 ?_ ?_
      · rw [if_neg (by omega), hi9]; rfl
      · rw [if_neg (by omega), hi10]; rfl
  · replace hc : b0 = false := hc
    have c2 := hc
    clear hc
    refine st_ret ?_
    show some ([(arI .mul .u64 a c), i6], []) = _
    rw [arMul]
    have tb := tp_bd w
    have hP : 0 ≤ b * d := Int.mul_nonneg (by omega) (by omega)
    have hQ0 : 0 ≤ a * c := Int.mul_nonneg (by omega) (by omega)
    have hQ : a * c ≤ b * d := Int.mul_le_mul h1 h3 h2 (by omega)
    generalize b * d = P at *
    generalize a * c = Q at *
    cases hz : (i5 != 0)
    · simp only [hz, Bool.not_false, cond_true] at hi8
      simp only [bne_eq_false_iff_eq] at hz
      rw [hb0, hi8] at c2
      simp only [hz, bne_self_eq_false, Bool.false_or, decide_eq_false_iff_not] at c2
      refine r2 ?_ ?_
      · rw [if_pos (by omega)]; omega
      · rw [if_pos (by omega)]; omega
    · have hz' : i5 ≠ 0 := by simpa using hz
      rw [hb0, hz] at c2
      simp at c2

def LT256 : List Nat := [0, 1, 2, 2, 3, 3, 3, 3, 4, 4, 4, 4, 4, 4, 4, 4, 5, 5, 5, 5, 5, 5, 5, 5, 5, 5, 5, 5, 5, 5, 5, 5, 6, 6, 6, 6, 6, 6, 6, 6, 6, 6, 6, 6, 6, 6, 6, 6, 6, 6, 6, 6, 6, 6, 6, 6, 6, 6, 6, 6, 6, 6, 6, 6, 7, 7, 7, 7, 7, 7, 7, 7, 7, 7, 7, 7, 7, 7, 7, 7, 7, 7, 7, 7, 7, 7, 7, 7, 7, 7, 7, 7, 7, 7, 7, 7, 7, 7, 7, 7, 7, 7, 7, 7, 7, 7, 7, 7, 7, 7, 7, 7, 7, 7, 7, 7, 7, 7, 7, 7, 7, 7, 7, 7, 7, 7, 7, 7, 8, 8, 8, 8, 8, 8, 8, 8, 8, 8, 8, 8, 8, 8, 8, 8, 8, 8, 8, 8, 8, 8, 8, 8, 8, 8, 8, 8, 8, 8, 8, 8, 8, 8, 8, 8, 8, 8, 8, 8, 8, 8, 8, 8, 8, 8, 8, 8, 8, 8, 8, 8, 8, 8, 8, 8, 8, 8, 8, 8, 8, 8, 8, 8, 8, 8, 8, 8, 8, 8, 8, 8, 8, 8, 8, 8, 8, 8, 8, 8, 8, 8, 8, 8, 8, 8, 8, 8, 8, 8, 8, 8, 8, 8, 8, 8, 8, 8, 8, 8, 8, 8, 8, 8, 8, 8, 8, 8, 8, 8, 8, 8, 8, 8, 8, 8, 8, 8, 8, 8, 8, 8, 8, 8, 8, 8, 8, 8]

theorem LT256_of : ∀ n : Fin 256, LT256.getD n.val 0 = Go.Lib.bitLen n.val := by decide +kernel
def len (x : Int) : Int := (Go.Lib.bitLen x.toNat : Int)
theorem sh8 (x : Int) : arI .shr .u64 x 8 = x / 256 := arShr x 8 (by decide) (by decide)
theorem sh16 (x : Int) : arI .shr .u64 x 16 = x / 65536 := arShr x 16 (by decide) (by decide)
theorem sh32 (x : Int) : arI .shr .u64 x 32 = x / 4294967296 := arShr x 32 (by decide) (by decide)
theorem wrap_u8 (n : Int) : IntKind.u8.wrap n = n % 256 := by simp [IntKind.wrap, IntKind.bits, IntKind.signed]
theorem leafL (x y K : Int) (k D : Nat) (hk : k ≤ 56) (hK : K = (k : Int)) (hy : 0 ≤ y ∧ y < 256) (hD : y.toNat = x.toNat / D) (hb : Go.Lib.bitLen x.toNat = k + Go.Lib.bitLen (x.toNat / D)) :
    arI .add .i64 K (IntKind.wrap .i64 ((LT256.getD (IntKind.wrap .u8 y).toNat 0 : Nat) : Int)) = len x := by
  have h1 : IntKind.u8.wrap y = y := by rw [wrap_u8]; omega
  have h2 := LT256_of ⟨y.toNat, by omega⟩
  have h3 := Go.Lib.bitLen_le8 ⟨y.toNat, by omega⟩
  simp only at h2 h3
  unfold len
  rw [h1, h2, hb, ← hD, hK]
  show IntKind.i64.wrap (_ + _) = _
  rw [Go.IntWalk.i64_in (Go.Lib.bitLen y.toNat : Int) (by omega), Go.IntWalk.i64_in _ (by omega)]
  omega
theorem r1 {a b : Int} (h : a = b) : (some ([a], []) : Option (List Int × List Bool)) = some ([b], []) := by rw [h]
theorem sub64 {x : Int} (h : 0 ≤ x ∧ x ≤ 64) : arI .sub .i64 64 x = 64 - x := by
  show IntKind.i64.wrap (64 - x) = _
  exact Go.IntWalk.i64_in _ (by omega)
theorem len_le (x : Int) (_h : 0 ≤ x) (h1 : x < 18446744073709551616) : 0 ≤ len x ∧ len x ≤ 64 := by
  have := Go.Lib.bitLen_le x.toNat 64 (Nat.le_refl _) (by omega)
  unfold len; omega

set_option maxHeartbeats 4000000 in
theorem q30 (i0 : Int) (h0 : 0 ≤ i0) (h1 : i0 < 18446744073709551616) : F30 [i0] [] = some ([len i0], []) := by
  refine Eq.trans (Fd_of (n := 1) (m := 0) (t := t30) (C := Tab.fn a30) rfl rfl) ?_
  rw [t30]
  refine st_ite (fun hc => ?_) (fun hc => ?_)
  · replace hc : (decide (i0 ≥ 4294967296)) = true := hc
    have c1 := hc
    clear hc
    refine st_ite (fun hc => ?_) (fun hc => ?_)
    · replace hc : (decide ((arI .shr .u64 i0 32) ≥ 65536)) = true := hc
      have c2 := hc
      clear hc
      refine st_lb fun b0 hb0 => ?_
      replace hb0 : b0 = (decide ((arI .shr .u64 (arI .shr .u64 i0 32) 16) ≥ 256)) := hb0
      show T.den _ _ [i0] [b0] = _
      refine st_ite (fun hc => ?_) (fun hc => ?_)
      · replace hc : b0 = true := hc
        have c3 := hc
        clear hc
        refine st_li fun i1 hi1 => ?_
        replace hi1 : i1 = (arI .shr .u64 (arI .shr .u64 (arI .shr .u64 i0 32) 16) 8) := hi1
        show T.den _ _ [i0, i1] [b0] = _
        refine st_rq (show ((decide ((IntKind.wrap .u8 i1) ≥ 0)) && (decide ((IntKind.wrap .u8 i1) < 256))) = true from ?_) ?_
        · rw [hb0] at c3
          simp only [sh8, sh16, sh32, ge_iff_le, decide_eq_true_eq, decide_eq_false_iff_not] at c1 c2 c3
          subst hi1
          simp only [Bool.and_eq_true, wrap_u8, sh8, sh16, sh32, ge_iff_le, decide_eq_true_eq, decide_eq_false_iff_not]
          omega
        refine st_ret ?_
        show some ([(arI .add .i64 56 (IntKind.wrap .i64 ((LT256.getD ((IntKind.wrap .u8 i1)).toNat 0 : Nat) : Int)))], []) = _
        subst hi1
        rw [hb0] at c3
        simp only [sh8, sh16, sh32, ge_iff_le, decide_eq_true_eq, decide_eq_false_iff_not] at c1 c2 c3
        simp only [sh8, sh16, sh32]
        exact r1 (leafL i0 _ _ 56 72057594037927936 (by decide) rfl (by omega) (by omega) (Go.Lib.bitLen_shift56 _ (by omega) (by omega)))
      · replace hc : b0 = false := hc
        have c4 := hc
        clear hc
        refine st_rq (show ((decide ((IntKind.wrap .u8 (arI .shr .u64 (arI .shr .u64 i0 32) 16)) ≥ 0)) && (decide ((IntKind.wrap .u8 (arI .shr .u64 (arI .shr .u64 i0 32) 16)) < 256))) = true from ?_) ?_
        · rw [hb0] at c4
          simp only [sh8, sh16, sh32, ge_iff_le, decide_eq_true_eq, decide_eq_false_iff_not] at c1 c2 c4
          simp only [Bool.and_eq_true, wrap_u8, sh8, sh16, sh32, ge_iff_le, decide_eq_true_eq, decide_eq_false_iff_not]
          omega
        refine st_li fun i1 hi1 => ?_
        replace hi1 : i1 = ((LT256.getD ((IntKind.wrap .u8 (arI .shr .u64 (arI .shr .u64 i0 32) 16))).toNat 0 : Nat) : Int) := hi1
        show T.den _ _ [i0, i1] [b0] = _
        refine st_ret ?_
        show some ([(arI .add .i64 48 (IntKind.wrap .i64 i1))], []) = _
        subst hi1
        rw [hb0] at c4
        simp only [sh8, sh16, sh32, ge_iff_le, decide_eq_true_eq, decide_eq_false_iff_not] at c1 c2 c4
        simp only [sh8, sh16, sh32]
        exact r1 (leafL i0 _ _ 48 281474976710656 (by decide) rfl (by omega) (by omega) (Go.Lib.bitLen_shift48 _ (by omega) (by omega)))
    · replace hc : (decide ((arI .shr .u64 i0 32) ≥ 65536)) = false := hc
      have c5 := hc
      clear hc
      refine st_ite (fun hc => ?_) (fun hc => ?_)
      · replace hc : (decide ((arI .shr .u64 i0 32) ≥ 256)) = true := hc
        have c6 := hc
        clear hc
        refine st_rq (show ((decide ((IntKind.wrap .u8 (arI .shr .u64 (arI .shr .u64 i0 32) 8)) ≥ 0)) && (decide ((IntKind.wrap .u8 (arI .shr .u64 (arI .shr .u64 i0 32) 8)) < 256))) = true from ?_) ?_
        · simp only [sh8, sh16, sh32, ge_iff_le, decide_eq_true_eq, decide_eq_false_iff_not] at c1 c5 c6
          simp only [Bool.and_eq_true, wrap_u8, sh8, sh16, sh32, ge_iff_le, decide_eq_true_eq, decide_eq_false_iff_not]
          omega
        refine st_li fun i1 hi1 => ?_
        replace hi1 : i1 = ((LT256.getD ((IntKind.wrap .u8 (arI .shr .u64 (arI .shr .u64 i0 32) 8))).toNat 0 : Nat) : Int) := hi1
        show T.den _ _ [i0, i1] [] = _
        refine st_ret ?_
        show some ([(arI .add .i64 40 (IntKind.wrap .i64 i1))], []) = _
        subst hi1
        simp only [sh8, sh16, sh32, ge_iff_le, decide_eq_true_eq, decide_eq_false_iff_not] at c1 c5 c6
        simp only [sh8, sh16, sh32]
        exact r1 (leafL i0 _ _ 40 1099511627776 (by decide) rfl (by omega) (by omega) (Go.Lib.bitLen_shift40 _ (by omega) (by omega)))
      · replace hc : (decide ((arI .shr .u64 i0 32) ≥ 256)) = false := hc
        have c7 := hc
        clear hc
        refine st_rq (show ((decide ((IntKind.wrap .u8 (arI .shr .u64 i0 32)) ≥ 0)) && (decide ((IntKind.wrap .u8 (arI .shr .u64 i0 32)) < 256))) = true from ?_) ?_
        · simp only [sh8, sh16, sh32, ge_iff_le, decide_eq_true_eq, decide_eq_false_iff_not] at c1 c5 c7
          simp only [Bool.and_eq_true, wrap_u8, sh8, sh16, sh32, ge_iff_le, decide_eq_true_eq, decide_eq_false_iff_not]
          omega
        refine st_li fun i1 hi1 => ?_
        replace hi1 : i1 = (arI .add .i64 32 (IntKind.wrap .i64 ((LT256.getD ((IntKind.wrap .u8 (arI .shr .u64 i0 32))).toNat 0 : Nat) : Int))) := hi1
        show T.den _ _ [i0, i1] [] = _
        refine st_ret ?_
        show some ([i1], []) = _
        subst hi1
        simp only [sh8, sh16, sh32, ge_iff_le, decide_eq_true_eq, decide_eq_false_iff_not] at c1 c5 c7
        simp only [sh8, sh16, sh32]
        exact r1 (leafL i0 _ _ 32 4294967296 (by decide) rfl (by omega) (by omega) (Go.Lib.bitLen_shift32 _ (by omega) (by omega)))
  · replace hc : (decide (i0 ≥ 4294967296)) = false := hc
    have c8 := hc
    clear hc
    refine st_ite (fun hc => ?_) (fun hc => ?_)
    · replace hc : (decide (i0 ≥ 65536)) = true := hc
      have c9 := hc
      clear hc
      refine st_ite (fun hc => ?_) (fun hc => ?_)
      · replace hc : (decide ((arI .shr .u64 i0 16) ≥ 256)) = true := hc
        have c10 := hc
        clear hc
        refine st_rq (show ((decide ((IntKind.wrap .u8 (arI .shr .u64 (arI .shr .u64 i0 16) 8)) ≥ 0)) && (decide ((IntKind.wrap .u8 (arI .shr .u64 (arI .shr .u64 i0 16) 8)) < 256))) = true from ?_) ?_
        · simp only [sh8, sh16, sh32, ge_iff_le, decide_eq_true_eq, decide_eq_false_iff_not] at c8 c9 c10
          simp only [Bool.and_eq_true, wrap_u8, sh8, sh16, sh32, ge_iff_le, decide_eq_true_eq, decide_eq_false_iff_not]
          omega
        refine st_li fun i1 hi1 => ?_
        replace hi1 : i1 = ((LT256.getD ((IntKind.wrap .u8 (arI .shr .u64 (arI .shr .u64 i0 16) 8))).toNat 0 : Nat) : Int) := hi1
        show T.den _ _ [i0, i1] [] = _
        refine st_ret ?_
        show some ([(arI .add .i64 24 (IntKind.wrap .i64 i1))], []) = _
        subst hi1
        simp only [sh8, sh16, sh32, ge_iff_le, decide_eq_true_eq, decide_eq_false_iff_not] at c8 c9 c10
        simp only [sh8, sh16, sh32]
        exact r1 (leafL i0 _ _ 24 16777216 (by decide) rfl (by omega) (by omega) (Go.Lib.bitLen_shift24 _ (by omega) (by omega)))
      · replace hc : (decide ((arI .shr .u64 i0 16) ≥ 256)) = false := hc
        have c11 := hc
        clear hc
        refine st_rq (show ((decide ((IntKind.wrap .u8 (arI .shr .u64 i0 16)) ≥ 0)) && (decide ((IntKind.wrap .u8 (arI .shr .u64 i0 16)) < 256))) = true from ?_) ?_
        · simp only [sh8, sh16, sh32, ge_iff_le, decide_eq_true_eq, decide_eq_false_iff_not] at c8 c9 c11
          simp only [Bool.and_eq_true, wrap_u8, sh8, sh16, sh32, ge_iff_le, decide_eq_true_eq, decide_eq_false_iff_not]
          omega
        refine st_li fun i1 hi1 => ?_
        replace hi1 : i1 = (arI .add .i64 16 (IntKind.wrap .i64 ((LT256.getD ((IntKind.wrap .u8 (arI .shr .u64 i0 16))).toNat 0 : Nat) : Int))) := hi1
        show T.den _ _ [i0, i1] [] = _
        refine st_ret ?_
        show some ([i1], []) = _
        subst hi1
        simp only [sh8, sh16, sh32, ge_iff_le, decide_eq_true_eq, decide_eq_false_iff_not] at c8 c9 c11
        simp only [sh8, sh16, sh32]
        exact r1 (leafL i0 _ _ 16 65536 (by decide) rfl (by omega) (by omega) (Go.Lib.bitLen_shift16 _ (by omega) (by omega)))
    · replace hc : (decide (i0 ≥ 65536)) = false := hc
      have c12 := hc
      clear hc
      refine st_ite (fun hc => ?_) (fun hc => ?_)
      · replace hc : (decide (i0 ≥ 256)) = true := hc
        have c13 := hc
        clear hc
        refine st_rq (show ((decide ((IntKind.wrap .u8 (arI .shr .u64 i0 8)) ≥ 0)) && (decide ((IntKind.wrap .u8 (arI .shr .u64 i0 8)) < 256))) = true from ?_) ?_
        · simp only [sh8, sh16, sh32, ge_iff_le, decide_eq_true_eq, decide_eq_false_iff_not] at c8 c12 c13
          simp only [Bool.and_eq_true, wrap_u8, sh8, sh16, sh32, ge_iff_le, decide_eq_true_eq, decide_eq_false_iff_not]
          omega
        refine st_li fun i1 hi1 => ?_
        replace hi1 : i1 = (arI .add .i64 8 (IntKind.wrap .i64 ((LT256.getD ((IntKind.wrap .u8 (arI .shr .u64 i0 8))).toNat 0 : Nat) : Int))) := hi1
        show T.den _ _ [i0, i1] [] = _
        refine st_ret ?_
        show some ([i1], []) = _
        subst hi1
        simp only [sh8, sh16, sh32, ge_iff_le, decide_eq_true_eq, decide_eq_false_iff_not] at c8 c12 c13
        simp only [sh8, sh16, sh32]
        exact r1 (leafL i0 _ _ 8 256 (by decide) rfl (by omega) (by omega) (Go.Lib.bitLen_shift8 _ (by omega) (by omega)))
      · replace hc : (decide (i0 ≥ 256)) = false := hc
        have c14 := hc
        clear hc
        refine st_rq (show ((decide ((IntKind.wrap .u8 i0) ≥ 0)) && (decide ((IntKind.wrap .u8 i0) < 256))) = true from ?_) ?_
        · simp only [sh8, sh16, sh32, ge_iff_le, decide_eq_true_eq, decide_eq_false_iff_not] at c8 c12 c14
          simp only [Bool.and_eq_true, wrap_u8, sh8, sh16, sh32, ge_iff_le, decide_eq_true_eq, decide_eq_false_iff_not]
          omega
        refine st_ret ?_
        show some ([(arI .add .i64 0 (IntKind.wrap .i64 ((LT256.getD ((IntKind.wrap .u8 i0)).toNat 0 : Nat) : Int)))], []) = _
        simp only [sh8, sh16, sh32, ge_iff_le, decide_eq_true_eq, decide_eq_false_iff_not] at c8 c12 c14
        exact r1 (leafL i0 _ _ 0 1 (by decide) rfl (by omega) (by omega) (by rw [Nat.div_one, Nat.zero_add]))

theorem q29 (a b : Int) : F29 [a, b] [] = some ([], [a == b]) := rfl

theorem one2 {a b c d : Int} {x y : Bool} (hx : x = (a == b)) (hy : y = (x && (c == d))) : (a = b ∧ c = d ∧ (x && y) = true) ∨ (¬ (a = b ∧ c = d) ∧ (x && y) = false) := by
  by_cases h : a = b
  · have hx' : x = true := hx.trans (beq_iff_eq.2 h)
    subst hx'
    by_cases h' : c = d
    · exact .inl ⟨h, h', by rw [hy, beq_iff_eq.2 h']; rfl⟩
    · exact .inr ⟨fun z => h' z.2, by rw [hy, beq_eq_false_iff_ne.2 h']; rfl⟩
  · have hx' : x = false := hx.trans (beq_eq_false_iff_ne.2 h)
    subst hx'
    exact .inr ⟨fun z => h z.1, rfl⟩
def anL (a b c d : Int) : Int := if a = b ∧ c = d then arI .and .u64 a c else 0
def anH (a b c d : Int) : Int := if a = b ∧ c = d then arI .and .u64 a c else min b d
def orT (m : Int) : Int := arI .shr .u64 18446744073709551615 (64 - len m)
def orL (a b c d : Int) : Int := if a = b ∧ c = d then arI .or .u64 a c else max a c
def orH (a b c d : Int) : Int := if a = b ∧ c = d then arI .or .u64 a c else orT (max b d)

theorem e23_29 : Tab.fn a23 29 = F29 := Tab.fn_hd
theorem e24_29 : Tab.fn a24 29 = F29 := Tab.fn_hd
theorem e24_30 : Tab.fn a24 30 = F30 := ((Tab.fn_tl rfl).trans Tab.fn_hd)

set_option maxHeartbeats 4000000 in
theorem q23 (a b c d : Int) : F23 [a, b, c, d] [] = some ([anL a b c d, anH a b c d], []) := by
  refine Eq.trans (Fd_of (n := 4) (m := 0) (t := t23) (C := Tab.fn a23) rfl rfl) ?_
  rw [t23]
  refine st_0_1 (e23_29) (g := true) rfl (l := [a, b]) rfl (m := []) rfl (cl_t (q29 a b)) fun b0 hb0 => ?_
  show T.den _ _ [a, b, c, d] [b0] = _
  refine st_0_1 (e23_29) (g := b0) rfl (l := [c, d]) rfl (m := []) rfl (cl_b (q29 c d)) fun b1 hb1 => ?_
  show T.den _ _ [a, b, c, d] [b0, b1] = _
  refine st_ite (fun hc => ?_) (fun hc => ?_)
  · replace hc : (b0 && b1) = true := hc
    have c1 := hc
    clear hc
    refine st_ret ?_
    show some ([(arI .and .u64 a c), (arI .and .u64 a c)], []) = _
    rcases one2 hb0 hb1 with ⟨h1, h2, h3⟩ | ⟨h1, h3⟩
    · refine r2 ?_ ?_
      · unfold anL; rw [if_pos ⟨h1, h2⟩]
      · unfold anH; rw [if_pos ⟨h1, h2⟩]
    · exact absurd (c1.symm.trans h3) (by decide)
  · replace hc : (b0 && b1) = false := hc
    have c2 := hc
    clear hc
    refine st_ret ?_
    show some ([0, (if d < b then d else b)], []) = _
    rcases one2 hb0 hb1 with ⟨h1, h2, h3⟩ | ⟨h1, h3⟩
    · exact absurd (h3.symm.trans c2) (by decide)
    · refine r2 ?_ ?_
      · unfold anL; rw [if_neg h1]
      · unfold anH; rw [if_neg h1, min_]

set_option maxHeartbeats 4000000 in
theorem q24 (a b c d : Int) (h0 : 0 ≤ a) (h1 : a ≤ b) (hb : b < 18446744073709551616) (h2 : 0 ≤ c) (h3 : c ≤ d) (hd : d < 18446744073709551616) : F24 [a, b, c, d] [] = some ([orL a b c d, orH a b c d], []) := by
  refine Eq.trans (Fd_of (n := 4) (m := 0) (t := t24) (C := Tab.fn a24) rfl rfl) ?_
  rw [t24]
  refine st_0_1 (e24_29) (g := true) rfl (l := [a, b]) rfl (m := []) rfl (cl_t (q29 a b)) fun b0 hb0 => ?_
  show T.den _ _ [a, b, c, d] [b0] = _
  refine st_0_1 (e24_29) (g := b0) rfl (l := [c, d]) rfl (m := []) rfl (cl_b (q29 c d)) fun b1 hb1 => ?_
  show T.den _ _ [a, b, c, d] [b0, b1] = _
  refine st_ite (fun hc => ?_) (fun hc => ?_)
  · replace hc : (b0 && b1) = true := hc
    have c1 := hc
    clear hc
    refine st_ret ?_
    show some ([(arI .or .u64 a c), (arI .or .u64 a c)], []) = _
    rcases one2 hb0 hb1 with ⟨h1, h2, h3⟩ | ⟨h1, h3⟩
    · refine r2 ?_ ?_
      · unfold orL; rw [if_pos ⟨h1, h2⟩]
      · unfold orH; rw [if_pos ⟨h1, h2⟩]
    · exact absurd (c1.symm.trans h3) (by decide)
  · replace hc : (b0 && b1) = false := hc
    have c2 := hc
    clear hc
    refine st_1_0 (e24_30) (g := true) rfl (l := [(if d > b then d else b)]) rfl (m := []) rfl (cl_t (q30 (if d > b then d else b) (by split <;> omega) (by split <;> omega))) fun i4 hi4 => ?_
    show T.den _ _ [a, b, c, d, i4] [b0, b1] = _
    refine st_rq (show (decide ((IntKind.wrap .u64 (arI .sub .i64 64 i4)) ≥ 0)) = true from ?_) ?_
    · rw [decide_eq_true_eq, wrap_u64]
      omega
    refine st_ret ?_
    show some ([(if c > a then c else a), (arI .shr .u64 18446744073709551615 (IntKind.wrap .u64 (arI .sub .i64 64 i4)))], []) = _
    rcases one2 hb0 hb1 with ⟨h1, h2, h3⟩ | ⟨h1, h3⟩
    · exact absurd (h3.symm.trans c2) (by decide)
    · refine r2 ?_ ?_
      · unfold orL; rw [if_neg h1, max_]
      · unfold orH orT; rw [if_neg h1, hi4, max_]
        have hl := len_le (if d > b then d else b) (by split <;> omega) (by split <;> omega)
        rw [sub64 hl, wraps_u64 _ (by omega) (by omega)]

theorem and_co (a b : Int) : arI .and .u64 a b = arI .and .u64 b a := by
  show IntKind.u64.wrap ((BitVec.ofInt 64 a &&& BitVec.ofInt 64 b).toNat : Int) = IntKind.u64.wrap ((BitVec.ofInt 64 b &&& BitVec.ofInt 64 a).toNat : Int)
  rw [BitVec.and_comm]
theorem or_co (a b : Int) : arI .or .u64 a b = arI .or .u64 b a := by
  show IntKind.u64.wrap ((BitVec.ofInt 64 a ||| BitVec.ofInt 64 b).toNat : Int) = IntKind.u64.wrap ((BitVec.ofInt 64 b ||| BitVec.ofInt 64 a).toNat : Int)
  rw [BitVec.or_comm]
theorem if_co {a b c d x y u v : Int} (hx : x = y) (hu : u = v) : (if a = b ∧ c = d then x else u) = if c = d ∧ a = b then y else v := by
  by_cases h : a = b ∧ c = d
  · rw [if_pos h, if_pos ⟨h.2, h.1⟩, hx]
  · rw [if_neg h, if_neg (fun z => h ⟨z.2, z.1⟩), hu]
theorem anL_co (a b c d : Int) : anL c d a b = anL a b c d := if_co (and_co c a) rfl
theorem anH_co (a b c d : Int) : anH c d a b = anH a b c d := if_co (and_co c a) (by omega)
theorem orL_co (a b c d : Int) : orL c d a b = orL a b c d := if_co (or_co c a) (by omega)
theorem orH_co (a b c d : Int) : orH c d a b = orH a b c d := if_co (or_co c a) (by rw [show max d b = max b d from by omega])

set_option maxHeartbeats 4000000 in
theorem q21 (a b c d : Int) : F21 [a, b, c, d] [] = some ([if d = 0 then 0 else arI .quo .u64 a d, if d = 0 then 0 else arI .quo .u64 b (max c 1)], [decide (d ≠ 0)]) := by
  refine Eq.trans (Fd_of (n := 4) (m := 0) (t := t21) (C := Tab.fn a21) rfl rfl) ?_
  rw [t21]
  refine st_ite (fun hc => ?_) (fun hc => ?_)
  · replace hc : (d == 0) = true := hc
    have c1 := hc
    clear hc
    refine st_ret ?_
    show some ([0, 0], [false]) = _
    have h : d = 0 := by simpa using c1
    rw [if_pos h, if_pos h, decide_eq_false (by simpa using h)]
  · replace hc : (d == 0) = false := hc
    have c2 := hc
    clear hc
    refine st_rq (show (d != 0) = true from ?_) ?_
    · have h : ¬ d = 0 := by simpa using c2
      simpa using h
    refine st_rq (show ((if 1 > c then 1 else c) != 0) = true from ?_) ?_
    · rw [bne_iff_ne]
      split <;> omega
    refine st_ret ?_
    show some ([(arI .quo .u64 a d), (arI .quo .u64 b (if 1 > c then 1 else c))], [true]) = _
    have h : ¬ d = 0 := by simpa using c2
    rw [if_neg h, if_neg h, decide_eq_true h, max_ c 1]

set_option maxHeartbeats 4000000 in
theorem q22 (a b c d : Int) : F22 [a, b, c, d] [] = some ([if d = 0 then 0 else if b < c then a else 0, if d = 0 then 0 else if b < c then b else min b (arI .sub .u64 d 1)], [decide (d ≠ 0)]) := by
  refine Eq.trans (Fd_of (n := 4) (m := 0) (t := t22) (C := Tab.fn a22) rfl rfl) ?_
  rw [t22]
  refine st_ite (fun hc => ?_) (fun hc => ?_)
  · replace hc : (d == 0) = true := hc
    have c1 := hc
    clear hc
    refine st_ret ?_
    show some ([0, 0], [false]) = _
    have h : d = 0 := by simpa using c1
    rw [if_pos h, if_pos h, decide_eq_false (by simpa using h)]
  · replace hc : (d == 0) = false := hc
    have c2 := hc
    clear hc
    refine st_ite (fun hc => ?_) (fun hc => ?_)
    · replace hc : (decide (b < c)) = true := hc
      have c3 := hc
      clear hc
      refine st_ret ?_
      show some ([a, b], [true]) = _
      have h : ¬ d = 0 := by simpa using c2
      have h' : b < c := by simpa using c3
      rw [if_neg h, if_neg h, if_pos h', if_pos h', decide_eq_true h]
    · replace hc : (decide (b < c)) = false := hc
      have c4 := hc
      clear hc
      refine st_ret ?_
      show some ([0, (if (arI .sub .u64 d 1) < b then (arI .sub .u64 d 1) else b)], [true]) = _
      have h : ¬ d = 0 := by simpa using c2
      have h' : ¬ b < c := of_decide_eq_false c4
      rw [if_neg h, if_neg h, if_neg h', if_neg h', decide_eq_true h, min_]

theorem e8_9 : Tab.fn a8 9 = F9 := Tab.fn_hd
theorem e8_13 : Tab.fn a8 13 = F13 := ((Tab.fn_tl rfl).trans Tab.fn_hd)
theorem e8_10 : Tab.fn a8 10 = F10 := ((Tab.fn_tl rfl).trans ((Tab.fn_tl rfl).trans Tab.fn_hd))
theorem e8_25 : Tab.fn a8 25 = F25 := ((Tab.fn_tl rfl).trans ((Tab.fn_tl rfl).trans ((Tab.fn_tl rfl).trans Tab.fn_hd)))
theorem e8_16 : Tab.fn a8 16 = F16 := ((Tab.fn_tl rfl).trans ((Tab.fn_tl rfl).trans ((Tab.fn_tl rfl).trans ((Tab.fn_tl rfl).trans Tab.fn_hd))))
theorem e8_26 : Tab.fn a8 26 = F26 := ((Tab.fn_tl rfl).trans ((Tab.fn_tl rfl).trans ((Tab.fn_tl rfl).trans ((Tab.fn_tl rfl).trans ((Tab.fn_tl rfl).trans Tab.fn_hd)))))
theorem e8_18 : Tab.fn a8 18 = F18 := ((Tab.fn_tl rfl).trans ((Tab.fn_tl rfl).trans ((Tab.fn_tl rfl).trans ((Tab.fn_tl rfl).trans ((Tab.fn_tl rfl).trans ((Tab.fn_tl rfl).trans Tab.fn_hd))))))
theorem e8_19 : Tab.fn a8 19 = F19 := ((Tab.fn_tl rfl).trans ((Tab.fn_tl rfl).trans ((Tab.fn_tl rfl).trans ((Tab.fn_tl rfl).trans ((Tab.fn_tl rfl).trans ((Tab.fn_tl rfl).trans ((Tab.fn_tl rfl).trans Tab.fn_hd)))))))
theorem e8_20 : Tab.fn a8 20 = F20 := ((Tab.fn_tl rfl).trans ((Tab.fn_tl rfl).trans ((Tab.fn_tl rfl).trans ((Tab.fn_tl rfl).trans ((Tab.fn_tl rfl).trans ((Tab.fn_tl rfl).trans ((Tab.fn_tl rfl).trans ((Tab.fn_tl rfl).trans Tab.fn_hd))))))))
theorem e8_23 : Tab.fn a8 23 = F23 := ((Tab.fn_tl rfl).trans ((Tab.fn_tl rfl).trans ((Tab.fn_tl rfl).trans ((Tab.fn_tl rfl).trans ((Tab.fn_tl rfl).trans ((Tab.fn_tl rfl).trans ((Tab.fn_tl rfl).trans ((Tab.fn_tl rfl).trans ((Tab.fn_tl rfl).trans Tab.fn_hd)))))))))
theorem e8_24 : Tab.fn a8 24 = F24 := ((Tab.fn_tl rfl).trans ((Tab.fn_tl rfl).trans ((Tab.fn_tl rfl).trans ((Tab.fn_tl rfl).trans ((Tab.fn_tl rfl).trans ((Tab.fn_tl rfl).trans ((Tab.fn_tl rfl).trans ((Tab.fn_tl rfl).trans ((Tab.fn_tl rfl).trans ((Tab.fn_tl rfl).trans Tab.fn_hd))))))))))
theorem e8_21 : Tab.fn a8 21 = F21 := ((Tab.fn_tl rfl).trans ((Tab.fn_tl rfl).trans ((Tab.fn_tl rfl).trans ((Tab.fn_tl rfl).trans ((Tab.fn_tl rfl).trans ((Tab.fn_tl rfl).trans ((Tab.fn_tl rfl).trans ((Tab.fn_tl rfl).trans ((Tab.fn_tl rfl).trans ((Tab.fn_tl rfl).trans ((Tab.fn_tl rfl).trans Tab.fn_hd)))))))))))
theorem e8_22 : Tab.fn a8 22 = F22 := ((Tab.fn_tl rfl).trans ((Tab.fn_tl rfl).trans ((Tab.fn_tl rfl).trans ((Tab.fn_tl rfl).trans ((Tab.fn_tl rfl).trans ((Tab.fn_tl rfl).trans ((Tab.fn_tl rfl).trans ((Tab.fn_tl rfl).trans ((Tab.fn_tl rfl).trans ((Tab.fn_tl rfl).trans ((Tab.fn_tl rfl).trans ((Tab.fn_tl rfl).trans Tab.fn_hd))))))))))))

theorem q26_124 (x y : Int) : F26 [124, x, y] [] = some ([arI .add .u64 x y, 0], [true]) := by kernel_rfl
theorem q26_125 (x y : Int) : F26 [125, x, y] [] = some ([arI .sub .u64 x y, 0], [true]) := by kernel_rfl
theorem q26_126 (x y : Int) : F26 [126, x, y] [] = some ([arI .mul .u64 x y, 0], [true]) := by kernel_rfl
def cut (x : Int) : Int := IntKind.wrap .u64 (IntKind.wrap .u32 x)
theorem q26_106 (x y : Int) : F26 [106, x, y] [] = some ([cut (arI .add .u64 (cut x) (cut y)), 0], [true]) := by kernel_rfl
theorem q26_107 (x y : Int) : F26 [107, x, y] [] = some ([cut (arI .sub .u64 (cut x) (cut y)), 0], [true]) := by kernel_rfl
theorem q26_108 (x y : Int) : F26 [108, x, y] [] = some ([cut (arI .mul .u64 (cut x) (cut y)), 0], [true]) := by kernel_rfl
theorem wrap_u32 (n : Int) : IntKind.u32.wrap n = n % 4294967296 := by simp [IntKind.wrap, IntKind.bits, IntKind.signed]
theorem cut_eq (x : Int) : cut x = x % 4294967296 := by unfold cut; rw [wrap_u32, wrap_u64]; omega
def op (o w : Int) : Int := if w = 32 then 106 + o else 124 + o
theorem tp32 : tp 32 = 4294967295 := by decide
theorem tp64 : tp 64 = 18446744073709551615 := by decide
theorem ad_64 (x y : Int) : arI .add .u64 x y = (x + y) % (tp 64 + 1) := by rw [tp64, arAdd]; rfl
theorem sb_64 (x y : Int) : arI .sub .u64 x y = (x - y) % (tp 64 + 1) := by rw [tp64, arSub]; rfl
theorem ml_64 (x y : Int) : arI .mul .u64 x y = (x * y) % (tp 64 + 1) := by rw [tp64, arMul]; rfl
theorem ad_32 (x y : Int) : cut (arI .add .u64 (cut x) (cut y)) = (x + y) % (tp 32 + 1) := by rw [tp32, cut_eq, cut_eq, cut_eq, arAdd]; omega
theorem sb_32 (x y : Int) : cut (arI .sub .u64 (cut x) (cut y)) = (x - y) % (tp 32 + 1) := by rw [tp32, cut_eq, cut_eq, cut_eq, arSub]; omega
theorem ml_32 (x y : Int) (hx : 0 ≤ x ∧ x ≤ tp 32) (hy : 0 ≤ y ∧ y ≤ tp 32) : cut (arI .mul .u64 (cut x) (cut y)) = (x * y) % (tp 32 + 1) := by
  rw [tp32] at *
  rw [cut_eq, cut_eq, cut_eq, arMul, show x % 4294967296 = x from by omega, show y % 4294967296 = y from by omega]; omega
theorem tp_or (w : Int) : tp w = 4294967295 ∨ tp w = 18446744073709551615 := by unfold tp; split <;> omega
def inn (a b x : Int) : Int := if (b - a) % 18446744073709551616 = 18446744073709551615 then x else (a + x % (b - a + 1)) % 18446744073709551616
theorem inn_bd {a b : Int} (x : Int) (h : 0 ≤ a ∧ a ≤ b ∧ b < 18446744073709551616) (hx : 0 ≤ x ∧ x < 18446744073709551616) : a ≤ inn a b x ∧ inn a b x ≤ b := by
  unfold inn
  split
  · omega
  · have h1 := Int.emod_nonneg x (show b - a + 1 ≠ 0 by omega)
    have h2 := Int.emod_lt_of_pos x (show 0 < b - a + 1 by omega)
    omega

set_option maxHeartbeats 4000000 in
theorem q25 (a b x : Int) (h : 0 ≤ a ∧ a ≤ b ∧ b < 18446744073709551616) (hx : 0 ≤ x ∧ x < 18446744073709551616) : F25 [a, b, x] [] = some ([inn a b x], []) := by
  refine Eq.trans (Fd_of (n := 3) (m := 0) (t := t25) (C := Tab.fn a25) rfl rfl) ?_
  rw [t25]
  refine st_ite (fun hc => ?_) (fun hc => ?_)
  · replace hc : ((arI .sub .u64 b a) == 18446744073709551615) = true := hc
    have c1 := hc
    clear hc
    refine st_ret ?_
    show some ([x], []) = _
    rw [beq_iff_eq, arSub] at c1
    exact r1 (by unfold inn; rw [if_pos c1])
  · replace hc : ((arI .sub .u64 b a) == 18446744073709551615) = false := hc
    have c2 := hc
    clear hc
    refine st_rq (show ((arI .add .u64 (arI .sub .u64 b a) 1) != 0) = true from ?_) ?_
    · rw [beq_eq_false_iff_ne, arSub] at c2
      rw [arSub, arAdd, bne_iff_ne]
      omega
    refine st_li fun i3 hi3 => ?_
    replace hi3 : i3 = (arI .rem .u64 x (arI .add .u64 (arI .sub .u64 b a) 1)) := hi3
    show T.den _ _ [a, b, x, i3] [] = _
    refine st_ret ?_
    show some ([(arI .add .u64 a i3)], []) = _
    rw [beq_eq_false_iff_ne, arSub] at c2
    rw [arSub, arAdd, show ((b - a) % 18446744073709551616 + 1) % 18446744073709551616 = b - a + 1 from by omega, arRem _ _ (by omega)] at hi3
    exact r1 (by unfold inn; rw [if_neg c2, hi3, arAdd])

theorem has2 {a b n : Int} {x : Bool} (hx : x = (decide (a ≤ n) && decide (n ≤ b))) (h : a ≤ n ∧ n ≤ b) : x = true := by rw [hx, decide_eq_true h.1, decide_eq_true h.2]; rfl
theorem has_ad {a b c d x y w p q : Int} (hp : p = if b + d ≤ tp w then a + c else 0) (hq : q = if b + d ≤ tp w then b + d else tp w) (h1 : a ≤ x ∧ x ≤ b) (h2 : c ≤ y ∧ y ≤ d) (ha : 0 ≤ a) (hc : 0 ≤ c) : p ≤ (x + y) % (tp w + 1) ∧ (x + y) % (tp w + 1) ≤ q := by
  rcases tp_or w with h | h <;> generalize tp w = t at * <;> subst h <;> rcases ite_or hp hq with h' | h' <;> omega
theorem has_sb {a b c d x y w p q : Int} (hp : p = if a < d then 0 else a - d) (hq : q = if a < d then tp w else b - c) (h1 : a ≤ x ∧ x ≤ b) (h2 : c ≤ y ∧ y ≤ d) (ha : 0 ≤ a) (hc : 0 ≤ c) (hb : b ≤ tp w) : p ≤ (x - y) % (tp w + 1) ∧ (x - y) % (tp w + 1) ≤ q := by
  rcases tp_or w with h | h <;> generalize tp w = t at * <;> subst h <;> rcases ite_or hp hq with h' | h' <;> omega
theorem has_ml {a b c d x y w p q : Int} (hp : p = if b * d ≤ tp w then a * c else 0) (hq : q = if b * d ≤ tp w then b * d else tp w) (h1 : a ≤ x ∧ x ≤ b) (h2 : c ≤ y ∧ y ≤ d) (ha : 0 ≤ a) (hc : 0 ≤ c) : p ≤ (x * y) % (tp w + 1) ∧ (x * y) % (tp w + 1) ≤ q := by
  have p1 : a * c ≤ x * y := Int.mul_le_mul h1.1 h2.1 hc (by omega)
  have p2 : x * y ≤ b * d := Int.mul_le_mul h1.2 h2.2 (by omega) (by omega)
  have p3 : 0 ≤ a * c := Int.mul_nonneg ha hc
  generalize a * c = P1 at *
  generalize x * y = P2 at *
  generalize b * d = P3 at *
  rcases tp_or w with h | h <;> generalize tp w = t at * <;> subst h <;> rcases ite_or hp hq with h' | h' <;> omega
theorem nats {a : Int} (h : 0 ≤ a) : ∃ n : Nat, a = n := Int.eq_ofNat_of_zero_le h
theorem has_an {a b c d x y p q : Int} (hp : p = anL a b c d) (hq : q = anH a b c d) (h1 : a ≤ x ∧ x ≤ b) (h2 : c ≤ y ∧ y ≤ d) (ha : 0 ≤ a) (hc : 0 ≤ c) (hb : b < 18446744073709551616) (hd : d < 18446744073709551616) : p ≤ arI .and .u64 x y ∧ arI .and .u64 x y ≤ q := by
  subst hp hq
  unfold anL anH
  by_cases h : a = b ∧ c = d
  · rw [if_pos h, if_pos h, show x = a from by omega, show y = c from by omega]; omega
  · rw [if_neg h, if_neg h]
    obtain ⟨x, rfl⟩ := nats (show 0 ≤ x by omega)
    obtain ⟨y, rfl⟩ := nats (show 0 ≤ y by omega)
    rw [band x y (by omega) (by omega)]
    have k1 : x &&& y ≤ x := Nat.and_le_left
    have k2 : x &&& y ≤ y := Nat.and_le_right
    omega
theorem top_eq : ∀ k : Fin 65, 18446744073709551615 / 2 ^ (64 - k.val) = 2 ^ k.val - 1 := by decide +kernel
theorem len_up (m : Nat) (h : m < 2 ^ 64) : m < 2 ^ Go.Lib.bitLen m := by
  by_cases h0 : m = 0
  · subst h0; decide
  · exact (Go.Lib.bitLenAux_bounds 64 m h h0).2.2
theorem orT_eq (m : Nat) (h : m < 2 ^ 64) : orT (m : Int) = ((2 ^ Go.Lib.bitLen m - 1 : Nat) : Int) := by
  have hl := Go.Lib.bitLen_le m 64 (Nat.le_refl _) h
  unfold orT len
  rw [Int.toNat_natCast, arShr _ _ (by omega) (by omega), show (64 - (Go.Lib.bitLen m : Int)).toNat = 64 - Go.Lib.bitLen m from by omega, ← top_eq ⟨Go.Lib.bitLen m, by omega⟩]
  rfl
theorem has_or {a b c d x y p q : Int} (hp : p = orL a b c d) (hq : q = orH a b c d) (h1 : a ≤ x ∧ x ≤ b) (h2 : c ≤ y ∧ y ≤ d) (ha : 0 ≤ a) (hc : 0 ≤ c) (hb : b < 18446744073709551616) (hd : d < 18446744073709551616) : p ≤ arI .or .u64 x y ∧ arI .or .u64 x y ≤ q := by
  subst hp hq
  unfold orL orH
  by_cases h : a = b ∧ c = d
  · rw [if_pos h, if_pos h, show x = a from by omega, show y = c from by omega]; omega
  · rw [if_neg h, if_neg h]
    obtain ⟨x, rfl⟩ := nats (show 0 ≤ x by omega)
    obtain ⟨y, rfl⟩ := nats (show 0 ≤ y by omega)
    obtain ⟨m, hm⟩ := nats (show 0 ≤ max b d by omega)
    have hm' : m < 2 ^ 64 := by omega
    rw [bor x y (by omega) (by omega), hm, orT_eq m hm']
    have k1 : x ≤ x ||| y := Nat.left_le_or
    have k2 : y ≤ x ||| y := Nat.right_le_or
    have k3 := len_up m hm'
    have k4 : x ||| y < 2 ^ Go.Lib.bitLen m := Nat.or_lt_two_pow (by omega) (by omega)
    omega
theorem quo_in {a b c d x y : Int} (h1 : a ≤ x ∧ x ≤ b) (h2 : c ≤ y ∧ y ≤ d) (ha : 0 ≤ a) (hc : 0 ≤ c) (hb : b < 18446744073709551616) (hd : d < 18446744073709551616) (hy : y ≠ 0) : arI .quo .u64 a d ≤ arI .quo .u64 x y ∧ arI .quo .u64 x y ≤ arI .quo .u64 b (max c 1) := by
  rw [arQuo a d ha (by omega) (by omega), arQuo x y (by omega) (by omega) (by omega), arQuo b (max c 1) (by omega) hb (by omega)]
  obtain ⟨e, he⟩ := nats (show 0 ≤ max c 1 by omega)
  rw [he]
  obtain ⟨a, rfl⟩ := nats ha
  obtain ⟨x, rfl⟩ := nats (show 0 ≤ x by omega)
  obtain ⟨y, rfl⟩ := nats (show 0 ≤ y by omega)
  obtain ⟨b, rfl⟩ := nats (show 0 ≤ b by omega)
  obtain ⟨d, rfl⟩ := nats (show 0 ≤ d by omega)
  have k1 : a / d ≤ x / y := Nat.div_le_div (by omega) (by omega) (by omega)
  have k2 : x / y ≤ b / e := Nat.div_le_div (by omega) (by omega) (by omega)
  exact ⟨by exact_mod_cast k1, by exact_mod_cast k2⟩
theorem has_dv {a b c d x y p q : Int} {g : Bool} (hp : p = if d = 0 then 0 else arI .quo .u64 a d) (hq : q = if d = 0 then 0 else arI .quo .u64 b (max c 1)) (h1 : a ≤ x ∧ x ≤ b) (h2 : c ≤ y ∧ y ≤ d) (ha : 0 ≤ a) (hc : 0 ≤ c) (hb : b < 18446744073709551616) (hd : d < 18446744073709551616) (hy : y ≠ 0)
    (hg : g = (!(y == 0) && (decide (p ≤ arI .quo .u64 x y) && decide (arI .quo .u64 x y ≤ q)))) : g = true := by
  rw [if_neg (by omega)] at hp hq
  subst hp hq
  have h := quo_in h1 h2 ha hc hb hd hy
  rw [hg, beq_eq_false_iff_ne.2 hy, decide_eq_true h.1, decide_eq_true h.2]; rfl
theorem has_rm {a b c d x y p q : Int} {g r : Bool} (hp : p = if d = 0 then 0 else if b < c then a else 0) (hq : q = if d = 0 then 0 else if b < c then b else min b (arI .sub .u64 d 1)) (h1 : a ≤ x ∧ x ≤ b) (h2 : c ≤ y ∧ y ≤ d) (ha : 0 ≤ a) (hc : 0 ≤ c) (hb : b < 18446744073709551616) (hd : d < 18446744073709551616) (hy : y ≠ 0) (hr : r = true)
    (hg : g = ((!(y == 0) && r) && (decide (p ≤ arI .rem .u64 x y) && decide (arI .rem .u64 x y ≤ q)))) : g = true := by
  rw [if_neg (by omega)] at hp hq
  rw [arSub, show (d - 1) % 18446744073709551616 = d - 1 from by omega] at hq
  have k1 := Int.emod_nonneg x hy
  have k2 := Int.emod_lt_of_pos x (show 0 < y by omega)
  have k3 : x % y ≤ x := by
    obtain ⟨x, rfl⟩ := nats (show 0 ≤ x by omega)
    obtain ⟨y, rfl⟩ := nats (show 0 ≤ y by omega)
    exact_mod_cast Nat.mod_le x y
  have h : p ≤ x % y ∧ x % y ≤ q := by
    rcases ite_or hp hq with ⟨h, h', h''⟩ | ⟨h, h', h''⟩
    · rw [Int.emod_eq_of_lt (show 0 ≤ x by omega) (show x < y by omega)]; omega
    · omega
  rw [hg, hr, beq_eq_false_iff_ne.2 hy, arRem x y (by omega), decide_eq_true h.1, decide_eq_true h.2]; rfl
theorem fine {d p q r s : Int} {v z g a b : Bool} (hd : 0 ≤ d) (hv : v = decide (d ≠ 0)) (hz : z = decide (d ≠ 0)) (ha : a = (!((p == 0) && (q == 0)))) (hb : b = (!((r == 0) && (s == 0)))) (hp : d = 0 → p = 0 ∧ q = 0) (hr : d = 0 → r = 0 ∧ s = 0)
    (hg : g = ((!(v == decide (d > 0))) || (!(z == v)))) : (g || ((!v) && (a || b))) = false := by
  by_cases h : d = 0
  · obtain ⟨p1, p2⟩ := hp h
    obtain ⟨r1, r2⟩ := hr h
    rw [hg, hv, hz, ha, hb, p1, p2, r1, r2, h]; rfl
  · rw [hg, hv, hz, decide_eq_true h, decide_eq_true (show d > 0 by omega)]; rfl

set_option maxHeartbeats 20000000 in
theorem law (i0 i1 i2 i3 i4 i5 : Int) (b0 : Bool) (w0 : (Lit.int .u64 i0).wf = true) (w1 : (Lit.int .u64 i1).wf = true) (w2 : (Lit.int .u64 i2).wf = true) (w3 : (Lit.int .u64 i3).wf = true) (w4 : (Lit.int .u64 i4).wf = true) (w5 : (Lit.int .u64 i5).wf = true) : F8 [i0, i1, i2, i3, i4, i5] [b0] = some ([], [true]) := by
  have v0 := wf_u64 w0
  have v1 := wf_u64 w1
  have v2 := wf_u64 w2
  have v3 := wf_u64 w3
  have v4 := wf_u64 w4
  have v5 := wf_u64 w5
  refine Eq.trans (Fd_of (n := 6) (m := 1) (t := t8) (C := Tab.fn a8) rfl rfl) ?_
  rw [t8]
  refine st_0_1 (e8_9) (g := true) rfl (l := []) rfl (m := []) rfl (cl_t q9) fun b1 hb1 => ?_
  show T.den _ _ [i0, i1, i2, i3, i4, i5] [b0, b1] = _
  refine st_ite (fun hc => ?_) (fun hc => ?_)
  · replace hc : (!b1) = true := hc
    have c1 := hc
    clear hc
    refine st_ret ?_
    show some ([], [false]) = _
    exfalso
    rw [hb1] at c1; cases c1
  · replace hc : (!b1) = false := hc
    have c2 := hc
    clear hc
    refine st_ite (fun hc => ?_) (fun hc => ?_)
    · replace hc : b0 = true := hc
      have c3 := hc
      clear hc
      refine st_2_0 (e8_13) (g := true) rfl (l := [64]) rfl (m := []) rfl (cl_t (q13' 64)) fun i6 i7 hi6 hi7 => ?_
      show T.den _ _ [i0, i1, i2, i3, i4, i5, i6, i7] [b0, b1] = _
      have hT : i7 = tp 64 := hi7
      clear hi6 hi7
      have tb := tp_bd 64
      refine st_2_0 (e8_10) (g := true) rfl (l := [(arI .and .u64 i0 i7), (arI .and .u64 i1 i7)]) rfl (m := []) rfl (cl_t (q10 (arI .and .u64 i0 i7) (arI .and .u64 i1 i7))) fun i8 i9 hi8 hi9 => ?_
      show T.den _ _ [i0, i1, i2, i3, i4, i5, i6, i7, i8, i9] [b0, b1] = _
      have z0 := and_le i0 i7 v0.1 v0.2 (by omega) (by omega)
      have z1 := and_le i1 i7 v1.1 v1.2 (by omega) (by omega)
      have g_i8 : 0 ≤ i8 ∧ i8 ≤ i9 ∧ i9 < 18446744073709551616 := by omega
      have l_i9 : i9 ≤ tp 64 := by omega
      clear z0 z1 hi8 hi9
      refine st_2_0 (e8_10) (g := true) rfl (l := [(arI .and .u64 i2 i7), (arI .and .u64 i3 i7)]) rfl (m := []) rfl (cl_t (q10 (arI .and .u64 i2 i7) (arI .and .u64 i3 i7))) fun i10 i11 hi10 hi11 => ?_
      show T.den _ _ [i0, i1, i2, i3, i4, i5, i6, i7, i8, i9, i10, i11] [b0, b1] = _
      have z2 := and_le i2 i7 v2.1 v2.2 (by omega) (by omega)
      have z3 := and_le i3 i7 v3.1 v3.2 (by omega) (by omega)
      have g_i10 : 0 ≤ i10 ∧ i10 ≤ i11 ∧ i11 < 18446744073709551616 := by omega
      have l_i11 : i11 ≤ tp 64 := by omega
      clear z2 z3 hi10 hi11
      refine st_1_0 (e8_25) (g := true) rfl (l := [i8, i9, i4]) rfl (m := []) rfl (cl_t (q25 i8 i9 i4 g_i8 v4)) fun i12 hi12 => ?_
      show T.den _ _ [i0, i1, i2, i3, i4, i5, i6, i7, i8, i9, i10, i11, i12] [b0, b1] = _
      have n_i12 : i8 ≤ i12 ∧ i12 ≤ i9 := by rw [hi12]; exact inn_bd i4 g_i8 v4
      clear hi12
      refine st_1_0 (e8_25) (g := true) rfl (l := [i10, i11, i5]) rfl (m := []) rfl (cl_t (q25 i10 i11 i5 g_i10 v5)) fun i13 hi13 => ?_
      show T.den _ _ [i0, i1, i2, i3, i4, i5, i6, i7, i8, i9, i10, i11, i12, i13] [b0, b1] = _
      have n_i13 : i10 ≤ i13 ∧ i13 ≤ i11 := by rw [hi13]; exact inn_bd i5 g_i10 v5
      clear hi13
      have m_i12 : 0 ≤ i12 ∧ i12 ≤ tp 64 := by omega
      have m_i13 : 0 ≤ i13 ∧ i13 ≤ tp 64 := by omega
      refine st_0_1 (e8_16) (g := true) rfl (l := [i8, i9, i12]) rfl (m := []) rfl (cl_t (q16 i8 i9 i12)) fun b2 hb2 => ?_
      show T.den _ _ [i0, i1, i2, i3, i4, i5, i6, i7, i8, i9, i10, i11, i12, i13] [b0, b1, b2] = _
      have t2 : b2 = true := has2 hb2 (n_i12)
      refine st_0_1 (e8_16) (g := b2) rfl (l := [i10, i11, i13]) rfl (m := []) rfl (cl_b (q16 i10 i11 i13)) fun b3 hb3 => ?_
      show T.den _ _ [i0, i1, i2, i3, i4, i5, i6, i7, i8, i9, i10, i11, i12, i13] [b0, b1, b2, b3] = _
      simp only [t2, Bool.and_true, Bool.true_and, Bool.not_true, Bool.not_false, Bool.or_self, Bool.or_false, cond_true] at hb3
      have t3 : b3 = true := has2 hb3 (n_i13)
      refine st_ite (fun hc => ?_) (fun hc => ?_)
      · replace hc : ((!b2) || (!b3)) = true := hc
        have c4 := hc
        clear hc
        refine st_ret ?_
        show some ([], [false]) = _
        exfalso
        rw [t2, t3] at c4; cases c4
      · replace hc : ((!b2) || (!b3)) = false := hc
        have c5 := hc
        clear hc
        refine st_2_1 (e8_26) (g := true) rfl (l := [124, i12, i13]) rfl (m := []) rfl (cl_t (q26_124 i12 i13)) fun i14 i15 b4 hi14 hi15 hb4 => ?_
        show T.den _ _ [i0, i1, i2, i3, i4, i5, i6, i7, i8, i9, i10, i11, i12, i13, i14, i15] [b0, b1, b2, b3, b4] = _
        rw [ad_64 i12 i13] at hi14
        refine st_2_1 (e8_26) (g := true) rfl (l := [125, i12, i13]) rfl (m := []) rfl (cl_t (q26_125 i12 i13)) fun i16 i17 b5 hi16 hi17 hb5 => ?_
        show T.den _ _ [i0, i1, i2, i3, i4, i5, i6, i7, i8, i9, i10, i11, i12, i13, i14, i15, i16, i17] [b0, b1, b2, b3, b4, b5] = _
        rw [sb_64 i12 i13] at hi16
        refine st_2_1 (e8_26) (g := true) rfl (l := [126, i12, i13]) rfl (m := []) rfl (cl_t (q26_126 i12 i13)) fun i18 i19 b6 hi18 hi19 hb6 => ?_
        show T.den _ _ [i0, i1, i2, i3, i4, i5, i6, i7, i8, i9, i10, i11, i12, i13, i14, i15, i16, i17, i18, i19] [b0, b1, b2, b3, b4, b5, b6] = _
        rw [ml_64 i12 i13] at hi18
        refine st_2_0 (e8_18) (g := true) rfl (l := [i8, i9, i10, i11, 64]) rfl (m := []) rfl (cl_t (q18 i8 i9 i10 i11 64 g_i8.1 g_i8.2.1 g_i8.2.2 g_i10.1 g_i10.2.1 g_i10.2.2)) fun i20 i21 hi20 hi21 => ?_
        show T.den _ _ [i0, i1, i2, i3, i4, i5, i6, i7, i8, i9, i10, i11, i12, i13, i14, i15, i16, i17, i18, i19, i20, i21] [b0, b1, b2, b3, b4, b5, b6] = _
        refine st_0_1 (e8_16) (g := true) rfl (l := [i20, i21, i14]) rfl (m := []) rfl (cl_t (q16 i20 i21 i14)) fun b7 hb7 => ?_
        show T.den _ _ [i0, i1, i2, i3, i4, i5, i6, i7, i8, i9, i10, i11, i12, i13, i14, i15, i16, i17, i18, i19, i20, i21] [b0, b1, b2, b3, b4, b5, b6, b7] = _
        have t7 : b7 = true := has2 hb7 (by rw [hi14]; exact has_ad hi20 hi21 n_i12 n_i13 g_i8.1 g_i10.1)
        refine st_2_0 (e8_19) (g := b7) rfl (l := [i8, i9, i10, i11, 64]) rfl (m := []) rfl (cl_2 (q19 i8 i9 i10 i11 64 g_i8.1 g_i8.2.1 g_i8.2.2 g_i10.1 g_i10.2.1 g_i10.2.2)) fun i22 i23 hi22 hi23 => ?_
        show T.den _ _ [i0, i1, i2, i3, i4, i5, i6, i7, i8, i9, i10, i11, i12, i13, i14, i15, i16, i17, i18, i19, i20, i21, i22, i23] [b0, b1, b2, b3, b4, b5, b6, b7] = _
        simp only [t7, Bool.and_true, Bool.true_and, Bool.not_true, Bool.not_false, Bool.or_self, Bool.or_false, cond_true] at hi22 hi23
        refine st_0_1 (e8_16) (g := b7) rfl (l := [i22, i23, i16]) rfl (m := []) rfl (cl_b (q16 i22 i23 i16)) fun b8 hb8 => ?_
        show T.den _ _ [i0, i1, i2, i3, i4, i5, i6, i7, i8, i9, i10, i11, i12, i13, i14, i15, i16, i17, i18, i19, i20, i21, i22, i23] [b0, b1, b2, b3, b4, b5, b6, b7, b8] = _
        simp only [t7, Bool.and_true, Bool.true_and, Bool.not_true, Bool.not_false, Bool.or_self, Bool.or_false, cond_true] at hb8
        have t8 : b8 = true := has2 hb8 (by rw [hi16]; exact has_sb hi22 hi23 n_i12 n_i13 g_i8.1 g_i10.1 l_i9)
        refine st_2_0 (e8_20) (g := (!((!b7) || (!b8)))) rfl (l := [i8, i9, i10, i11, 64]) rfl (m := []) rfl (cl_2 (q20 i8 i9 i10 i11 64 g_i8.1 g_i8.2.1 g_i8.2.2 g_i10.1 g_i10.2.1 g_i10.2.2)) fun i24 i25 hi24 hi25 => ?_
        show T.den _ _ [i0, i1, i2, i3, i4, i5, i6, i7, i8, i9, i10, i11, i12, i13, i14, i15, i16, i17, i18, i19, i20, i21, i22, i23, i24, i25] [b0, b1, b2, b3, b4, b5, b6, b7, b8] = _
        simp only [t7, t8, Bool.and_true, Bool.true_and, Bool.not_true, Bool.not_false, Bool.or_self, Bool.or_false, cond_true] at hi24 hi25
        refine st_0_1 (e8_16) (g := (!((!b7) || (!b8)))) rfl (l := [i24, i25, i18]) rfl (m := []) rfl (cl_b (q16 i24 i25 i18)) fun b9 hb9 => ?_
        show T.den _ _ [i0, i1, i2, i3, i4, i5, i6, i7, i8, i9, i10, i11, i12, i13, i14, i15, i16, i17, i18, i19, i20, i21, i22, i23, i24, i25] [b0, b1, b2, b3, b4, b5, b6, b7, b8, b9] = _
        simp only [t7, t8, Bool.and_true, Bool.true_and, Bool.not_true, Bool.not_false, Bool.or_self, Bool.or_false, cond_true] at hb9
        have t9 : b9 = true := has2 hb9 (by rw [hi18]; exact has_ml hi24 hi25 n_i12 n_i13 g_i8.1 g_i10.1)
        refine st_lb fun b10 hb10 => ?_
        replace hb10 : b10 = (((!b7) || (!b8)) || (!b9)) := hb10
        show T.den _ _ [i0, i1, i2, i3, i4, i5, i6, i7, i8, i9, i10, i11, i12, i13, i14, i15, i16, i17, i18, i19, i20, i21, i22, i23, i24, i25] [b0, b1, b2, b3, b4, b5, b6, b7, b8, b9, b10] = _
        refine st_2_0 (e8_23) (g := (!b10)) rfl (l := [i8, i9, i10, i11]) rfl (m := []) rfl (cl_2 (q23 i8 i9 i10 i11)) fun i26 i27 hi26 hi27 => ?_
        show T.den _ _ [i0, i1, i2, i3, i4, i5, i6, i7, i8, i9, i10, i11, i12, i13, i14, i15, i16, i17, i18, i19, i20, i21, i22, i23, i24, i25, i26, i27] [b0, b1, b2, b3, b4, b5, b6, b7, b8, b9, b10] = _
        have f10 : b10 = false := by rw [hb10, t7, t8, t9]; rfl
        simp only [f10, Bool.and_true, Bool.true_and, Bool.not_true, Bool.not_false, Bool.or_self, Bool.or_false, cond_true] at hi26 hi27
        refine st_0_1 (e8_16) (g := (!b10)) rfl (l := [i26, i27, (arI .and .u64 i12 i13)]) rfl (m := []) rfl (cl_b (q16 i26 i27 (arI .and .u64 i12 i13))) fun b11 hb11 => ?_
        show T.den _ _ [i0, i1, i2, i3, i4, i5, i6, i7, i8, i9, i10, i11, i12, i13, i14, i15, i16, i17, i18, i19, i20, i21, i22, i23, i24, i25, i26, i27] [b0, b1, b2, b3, b4, b5, b6, b7, b8, b9, b10, b11] = _
        simp only [f10, Bool.and_true, Bool.true_and, Bool.not_true, Bool.not_false, Bool.or_self, Bool.or_false, cond_true] at hb11
        have t11 : b11 = true := has2 hb11 (has_an hi26 hi27 n_i12 n_i13 g_i8.1 g_i10.1 g_i8.2.2 g_i10.2.2)
        refine st_2_0 (e8_24) (g := (!(b10 || (!b11)))) rfl (l := [i8, i9, i10, i11]) rfl (m := []) rfl (cl_2 (q24 i8 i9 i10 i11 g_i8.1 g_i8.2.1 g_i8.2.2 g_i10.1 g_i10.2.1 g_i10.2.2)) fun i28 i29 hi28 hi29 => ?_
        show T.den _ _ [i0, i1, i2, i3, i4, i5, i6, i7, i8, i9, i10, i11, i12, i13, i14, i15, i16, i17, i18, i19, i20, i21, i22, i23, i24, i25, i26, i27, i28, i29] [b0, b1, b2, b3, b4, b5, b6, b7, b8, b9, b10, b11] = _
        simp only [f10, t11, Bool.and_true, Bool.true_and, Bool.not_true, Bool.not_false, Bool.or_self, Bool.or_false, cond_true] at hi28 hi29
        refine st_0_1 (e8_16) (g := (!(b10 || (!b11)))) rfl (l := [i28, i29, (arI .or .u64 i12 i13)]) rfl (m := []) rfl (cl_b (q16 i28 i29 (arI .or .u64 i12 i13))) fun b12 hb12 => ?_
        show T.den _ _ [i0, i1, i2, i3, i4, i5, i6, i7, i8, i9, i10, i11, i12, i13, i14, i15, i16, i17, i18, i19, i20, i21, i22, i23, i24, i25, i26, i27, i28, i29] [b0, b1, b2, b3, b4, b5, b6, b7, b8, b9, b10, b11, b12] = _
        simp only [f10, t11, Bool.and_true, Bool.true_and, Bool.not_true, Bool.not_false, Bool.or_self, Bool.or_false, cond_true] at hb12
        have t12 : b12 = true := has2 hb12 (has_or hi28 hi29 n_i12 n_i13 g_i8.1 g_i10.1 g_i8.2.2 g_i10.2.2)
        refine st_lb fun b13 hb13 => ?_
        replace hb13 : b13 = ((b10 || (!b11)) || (!b12)) := hb13
        show T.den _ _ [i0, i1, i2, i3, i4, i5, i6, i7, i8, i9, i10, i11, i12, i13, i14, i15, i16, i17, i18, i19, i20, i21, i22, i23, i24, i25, i26, i27, i28, i29] [b0, b1, b2, b3, b4, b5, b6, b7, b8, b9, b10, b11, b12, b13] = _
        refine st_ite (fun hc => ?_) (fun hc => ?_)
        · replace hc : b13 = true := hc
          have c6 := hc
          clear hc
          refine st_ret ?_
          show some ([], [false]) = _
          exfalso
          rw [hb13, hb10, t7, t8, t9, t11, t12] at c6; cases c6
        · replace hc : b13 = false := hc
          have c7 := hc
          clear hc
          refine st_2_1 (e8_21) (g := true) rfl (l := [i8, i9, i10, i11]) rfl (m := []) rfl (cl_t (q21 i8 i9 i10 i11)) fun i30 i31 b14 hi30 hi31 hb14 => ?_
          show T.den _ _ [i0, i1, i2, i3, i4, i5, i6, i7, i8, i9, i10, i11, i12, i13, i14, i15, i16, i17, i18, i19, i20, i21, i22, i23, i24, i25, i26, i27, i28, i29, i30, i31] [b0, b1, b2, b3, b4, b5, b6, b7, b8, b9, b10, b11, b12, b13, b14] = _
          refine st_2_1 (e8_22) (g := true) rfl (l := [i8, i9, i10, i11]) rfl (m := []) rfl (cl_t (q22 i8 i9 i10 i11)) fun i32 i33 b15 hi32 hi33 hb15 => ?_
          show T.den _ _ [i0, i1, i2, i3, i4, i5, i6, i7, i8, i9, i10, i11, i12, i13, i14, i15, i16, i17, i18, i19, i20, i21, i22, i23, i24, i25, i26, i27, i28, i29, i30, i31, i32, i33] [b0, b1, b2, b3, b4, b5, b6, b7, b8, b9, b10, b11, b12, b13, b14, b15] = _
          refine st_lb fun b16 hb16 => ?_
          replace hb16 : b16 = ((!(b14 == (decide (i11 > 0)))) || (!(b15 == b14))) := hb16
          show T.den _ _ [i0, i1, i2, i3, i4, i5, i6, i7, i8, i9, i10, i11, i12, i13, i14, i15, i16, i17, i18, i19, i20, i21, i22, i23, i24, i25, i26, i27, i28, i29, i30, i31, i32, i33] [b0, b1, b2, b3, b4, b5, b6, b7, b8, b9, b10, b11, b12, b13, b14, b15, b16] = _
          refine st_lb fun b17 hb17 => ?_
          replace hb17 : b17 = (!((i30 == 0) && (i31 == 0))) := hb17
          show T.den _ _ [i0, i1, i2, i3, i4, i5, i6, i7, i8, i9, i10, i11, i12, i13, i14, i15, i16, i17, i18, i19, i20, i21, i22, i23, i24, i25, i26, i27, i28, i29, i30, i31, i32, i33] [b0, b1, b2, b3, b4, b5, b6, b7, b8, b9, b10, b11, b12, b13, b14, b15, b16, b17] = _
          refine st_lb fun b18 hb18 => ?_
          replace hb18 : b18 = (!((i32 == 0) && (i33 == 0))) := hb18
          show T.den _ _ [i0, i1, i2, i3, i4, i5, i6, i7, i8, i9, i10, i11, i12, i13, i14, i15, i16, i17, i18, i19, i20, i21, i22, i23, i24, i25, i26, i27, i28, i29, i30, i31, i32, i33] [b0, b1, b2, b3, b4, b5, b6, b7, b8, b9, b10, b11, b12, b13, b14, b15, b16, b17, b18] = _
          refine st_lb fun b19 hb19 => ?_
          replace hb19 : b19 = (b16 || ((!b14) && (b17 || b18))) := hb19
          show T.den _ _ [i0, i1, i2, i3, i4, i5, i6, i7, i8, i9, i10, i11, i12, i13, i14, i15, i16, i17, i18, i19, i20, i21, i22, i23, i24, i25, i26, i27, i28, i29, i30, i31, i32, i33] [b0, b1, b2, b3, b4, b5, b6, b7, b8, b9, b10, b11, b12, b13, b14, b15, b16, b17, b18, b19] = _
          refine st_ite (fun hc => ?_) (fun hc => ?_)
          · replace hc : b19 = true := hc
            have c8 := hc
            clear hc
            refine st_ret ?_
            show some ([], [false]) = _
            exfalso
            have hf := fine (by omega) hb14 hb15 hb17 hb18 (fun h => by rw [if_pos h] at hi30 hi31; exact ⟨hi30, hi31⟩) (fun h => by rw [if_pos h] at hi32 hi33; exact ⟨hi32, hi33⟩) hb16
            rw [hb19, hf] at c8; cases c8
          · replace hc : b19 = false := hc
            have c9 := hc
            clear hc
            refine st_rq (show ((i13 == 0) || (i13 != 0)) = true from ?_) ?_
            · by_cases hy : i13 = 0
              · rw [beq_iff_eq.2 hy]; rfl
              · rw [bne_iff_ne.2 hy, Bool.or_true]
            refine st_0_1 (e8_16) (g := (!(i13 == 0))) rfl (l := [i30, i31, (arI .quo .u64 i12 i13)]) rfl (m := []) rfl (cl_b (q16 i30 i31 (arI .quo .u64 i12 i13))) fun b20 hb20 => ?_
            show T.den _ _ [i0, i1, i2, i3, i4, i5, i6, i7, i8, i9, i10, i11, i12, i13, i14, i15, i16, i17, i18, i19, i20, i21, i22, i23, i24, i25, i26, i27, i28, i29, i30, i31, i32, i33] [b0, b1, b2, b3, b4, b5, b6, b7, b8, b9, b10, b11, b12, b13, b14, b15, b16, b17, b18, b19, b20] = _
            refine st_rq (show ((!((!(i13 == 0)) && b20)) || (i13 != 0)) = true from ?_) ?_
            · by_cases hy : i13 = 0
              · rw [beq_iff_eq.2 hy]; rfl
              · rw [bne_iff_ne.2 hy, Bool.or_true]
            refine st_0_1 (e8_16) (g := ((!(i13 == 0)) && b20)) rfl (l := [i32, i33, (arI .rem .u64 i12 i13)]) rfl (m := []) rfl (cl_b (q16 i32 i33 (arI .rem .u64 i12 i13))) fun b21 hb21 => ?_
            show T.den _ _ [i0, i1, i2, i3, i4, i5, i6, i7, i8, i9, i10, i11, i12, i13, i14, i15, i16, i17, i18, i19, i20, i21, i22, i23, i24, i25, i26, i27, i28, i29, i30, i31, i32, i33] [b0, b1, b2, b3, b4, b5, b6, b7, b8, b9, b10, b11, b12, b13, b14, b15, b16, b17, b18, b19, b20, b21] = _
            refine st_lb fun b22 hb22 => ?_
            replace hb22 : b22 = ((i13 == 0) || (b20 && b21)) := hb22
            show T.den _ _ [i0, i1, i2, i3, i4, i5, i6, i7, i8, i9, i10, i11, i12, i13, i14, i15, i16, i17, i18, i19, i20, i21, i22, i23, i24, i25, i26, i27, i28, i29, i30, i31, i32, i33] [b0, b1, b2, b3, b4, b5, b6, b7, b8, b9, b10, b11, b12, b13, b14, b15, b16, b17, b18, b19, b20, b21, b22] = _
            refine st_ret ?_
            show some ([], [b22]) = _
            have e : b22 = true := by
              by_cases hy : i13 = 0
              · rw [hb22, beq_iff_eq.2 hy]; rfl
              · have t20 := has_dv hi30 hi31 n_i12 n_i13 g_i8.1 g_i10.1 g_i8.2.2 g_i10.2.2 hy hb20
                have t21 := has_rm hi32 hi33 n_i12 n_i13 g_i8.1 g_i10.1 g_i8.2.2 g_i10.2.2 hy t20 hb21
                rw [hb22, t20, t21, Bool.and_self, Bool.or_true]
            rw [e]
    · replace hc : b0 = false := hc
      have c10 := hc
      clear hc
      refine st_2_0 (e8_13) (g := true) rfl (l := [32]) rfl (m := []) rfl (cl_t (q13' 32)) fun i6 i7 hi6 hi7 => ?_
      show T.den _ _ [i0, i1, i2, i3, i4, i5, i6, i7] [b0, b1] = _
      have hT : i7 = tp 32 := hi7
      clear hi6 hi7
      have tb := tp_bd 32
      refine st_2_0 (e8_10) (g := true) rfl (l := [(arI .and .u64 i0 i7), (arI .and .u64 i1 i7)]) rfl (m := []) rfl (cl_t (q10 (arI .and .u64 i0 i7) (arI .and .u64 i1 i7))) fun i8 i9 hi8 hi9 => ?_
      show T.den _ _ [i0, i1, i2, i3, i4, i5, i6, i7, i8, i9] [b0, b1] = _
      have z0 := and_le i0 i7 v0.1 v0.2 (by omega) (by omega)
      have z1 := and_le i1 i7 v1.1 v1.2 (by omega) (by omega)
      have g_i8 : 0 ≤ i8 ∧ i8 ≤ i9 ∧ i9 < 18446744073709551616 := by omega
      have l_i9 : i9 ≤ tp 32 := by omega
      clear z0 z1 hi8 hi9
      refine st_2_0 (e8_10) (g := true) rfl (l := [(arI .and .u64 i2 i7), (arI .and .u64 i3 i7)]) rfl (m := []) rfl (cl_t (q10 (arI .and .u64 i2 i7) (arI .and .u64 i3 i7))) fun i10 i11 hi10 hi11 => ?_
      show T.den _ _ [i0, i1, i2, i3, i4, i5, i6, i7, i8, i9, i10, i11] [b0, b1] = _
      have z2 := and_le i2 i7 v2.1 v2.2 (by omega) (by omega)
      have z3 := and_le i3 i7 v3.1 v3.2 (by omega) (by omega)
      have g_i10 : 0 ≤ i10 ∧ i10 ≤ i11 ∧ i11 < 18446744073709551616 := by omega
      have l_i11 : i11 ≤ tp 32 := by omega
      clear z2 z3 hi10 hi11
      refine st_1_0 (e8_25) (g := true) rfl (l := [i8, i9, i4]) rfl (m := []) rfl (cl_t (q25 i8 i9 i4 g_i8 v4)) fun i12 hi12 => ?_
      show T.den _ _ [i0, i1, i2, i3, i4, i5, i6, i7, i8, i9, i10, i11, i12] [b0, b1] = _
      have n_i12 : i8 ≤ i12 ∧ i12 ≤ i9 := by rw [hi12]; exact inn_bd i4 g_i8 v4
      clear hi12
      refine st_1_0 (e8_25) (g := true) rfl (l := [i10, i11, i5]) rfl (m := []) rfl (cl_t (q25 i10 i11 i5 g_i10 v5)) fun i13 hi13 => ?_
      show T.den _ _ [i0, i1, i2, i3, i4, i5, i6, i7, i8, i9, i10, i11, i12, i13] [b0, b1] = _
      have n_i13 : i10 ≤ i13 ∧ i13 ≤ i11 := by rw [hi13]; exact inn_bd i5 g_i10 v5
      clear hi13
      have m_i12 : 0 ≤ i12 ∧ i12 ≤ tp 32 := by omega
      have m_i13 : 0 ≤ i13 ∧ i13 ≤ tp 32 := by omega
      refine st_0_1 (e8_16) (g := true) rfl (l := [i8, i9, i12]) rfl (m := []) rfl (cl_t (q16 i8 i9 i12)) fun b2 hb2 => ?_
      show T.den _ _ [i0, i1, i2, i3, i4, i5, i6, i7, i8, i9, i10, i11, i12, i13] [b0, b1, b2] = _
      have t2 : b2 = true := has2 hb2 (n_i12)
      refine st_0_1 (e8_16) (g := b2) rfl (l := [i10, i11, i13]) rfl (m := []) rfl (cl_b (q16 i10 i11 i13)) fun b3 hb3 => ?_
      show T.den _ _ [i0, i1, i2, i3, i4, i5, i6, i7, i8, i9, i10, i11, i12, i13] [b0, b1, b2, b3] = _
      simp only [t2, Bool.and_true, Bool.true_and, Bool.not_true, Bool.not_false, Bool.or_self, Bool.or_false, cond_true] at hb3
      have t3 : b3 = true := has2 hb3 (n_i13)
      refine st_ite (fun hc => ?_) (fun hc => ?_)
      · replace hc : ((!b2) || (!b3)) = true := hc
        have c11 := hc
        clear hc
        refine st_ret ?_
        show some ([], [false]) = _
        exfalso
        rw [t2, t3] at c11; cases c11
      · replace hc : ((!b2) || (!b3)) = false := hc
        have c12 := hc
        clear hc
        refine st_2_1 (e8_26) (g := true) rfl (l := [106, i12, i13]) rfl (m := []) rfl (cl_t (q26_106 i12 i13)) fun i14 i15 b4 hi14 hi15 hb4 => ?_
        show T.den _ _ [i0, i1, i2, i3, i4, i5, i6, i7, i8, i9, i10, i11, i12, i13, i14, i15] [b0, b1, b2, b3, b4] = _
        rw [ad_32 i12 i13] at hi14
        refine st_2_1 (e8_26) (g := true) rfl (l := [107, i12, i13]) rfl (m := []) rfl (cl_t (q26_107 i12 i13)) fun i16 i17 b5 hi16 hi17 hb5 => ?_
        show T.den _ _ [i0, i1, i2, i3, i4, i5, i6, i7, i8, i9, i10, i11, i12, i13, i14, i15, i16, i17] [b0, b1, b2, b3, b4, b5] = _
        rw [sb_32 i12 i13] at hi16
        refine st_2_1 (e8_26) (g := true) rfl (l := [108, i12, i13]) rfl (m := []) rfl (cl_t (q26_108 i12 i13)) fun i18 i19 b6 hi18 hi19 hb6 => ?_
        show T.den _ _ [i0, i1, i2, i3, i4, i5, i6, i7, i8, i9, i10, i11, i12, i13, i14, i15, i16, i17, i18, i19] [b0, b1, b2, b3, b4, b5, b6] = _
        rw [ml_32 i12 i13 m_i12 m_i13] at hi18
        refine st_2_0 (e8_18) (g := true) rfl (l := [i8, i9, i10, i11, 32]) rfl (m := []) rfl (cl_t (q18 i8 i9 i10 i11 32 g_i8.1 g_i8.2.1 g_i8.2.2 g_i10.1 g_i10.2.1 g_i10.2.2)) fun i20 i21 hi20 hi21 => ?_
        show T.den _ _ [i0, i1, i2, i3, i4, i5, i6, i7, i8, i9, i10, i11, i12, i13, i14, i15, i16, i17, i18, i19, i20, i21] [b0, b1, b2, b3, b4, b5, b6] = _
        refine st_0_1 (e8_16) (g := true) rfl (l := [i20, i21, i14]) rfl (m := []) rfl (cl_t (q16 i20 i21 i14)) fun b7 hb7 => ?_
        show T.den _ _ [i0, i1, i2, i3, i4, i5, i6, i7, i8, i9, i10, i11, i12, i13, i14, i15, i16, i17, i18, i19, i20, i21] [b0, b1, b2, b3, b4, b5, b6, b7] = _
        have t7 : b7 = true := has2 hb7 (by rw [hi14]; exact has_ad hi20 hi21 n_i12 n_i13 g_i8.1 g_i10.1)
        refine st_2_0 (e8_19) (g := b7) rfl (l := [i8, i9, i10, i11, 32]) rfl (m := []) rfl (cl_2 (q19 i8 i9 i10 i11 32 g_i8.1 g_i8.2.1 g_i8.2.2 g_i10.1 g_i10.2.1 g_i10.2.2)) fun i22 i23 hi22 hi23 => ?_
        show T.den _ _ [i0, i1, i2, i3, i4, i5, i6, i7, i8, i9, i10, i11, i12, i13, i14, i15, i16, i17, i18, i19, i20, i21, i22, i23] [b0, b1, b2, b3, b4, b5, b6, b7] = _
        simp only [t7, Bool.and_true, Bool.true_and, Bool.not_true, Bool.not_false, Bool.or_self, Bool.or_false, cond_true] at hi22 hi23
        refine st_0_1 (e8_16) (g := b7) rfl (l := [i22, i23, i16]) rfl (m := []) rfl (cl_b (q16 i22 i23 i16)) fun b8 hb8 => ?_
        show T.den _ _ [i0, i1, i2, i3, i4, i5, i6, i7, i8, i9, i10, i11, i12, i13, i14, i15, i16, i17, i18, i19, i20, i21, i22, i23] [b0, b1, b2, b3, b4, b5, b6, b7, b8] = _
        simp only [t7, Bool.and_true, Bool.true_and, Bool.not_true, Bool.not_false, Bool.or_self, Bool.or_false, cond_true] at hb8
        have t8 : b8 = true := has2 hb8 (by rw [hi16]; exact has_sb hi22 hi23 n_i12 n_i13 g_i8.1 g_i10.1 l_i9)
        refine st_2_0 (e8_20) (g := (!((!b7) || (!b8)))) rfl (l := [i8, i9, i10, i11, 32]) rfl (m := []) rfl (cl_2 (q20 i8 i9 i10 i11 32 g_i8.1 g_i8.2.1 g_i8.2.2 g_i10.1 g_i10.2.1 g_i10.2.2)) fun i24 i25 hi24 hi25 => ?_
        show T.den _ _ [i0, i1, i2, i3, i4, i5, i6, i7, i8, i9, i10, i11, i12, i13, i14, i15, i16, i17, i18, i19, i20, i21, i22, i23, i24, i25] [b0, b1, b2, b3, b4, b5, b6, b7, b8] = _
        simp only [t7, t8, Bool.and_true, Bool.true_and, Bool.not_true, Bool.not_false, Bool.or_self, Bool.or_false, cond_true] at hi24 hi25
        refine st_0_1 (e8_16) (g := (!((!b7) || (!b8)))) rfl (l := [i24, i25, i18]) rfl (m := []) rfl (cl_b (q16 i24 i25 i18)) fun b9 hb9 => ?_
        show T.den _ _ [i0, i1, i2, i3, i4, i5, i6, i7, i8, i9, i10, i11, i12, i13, i14, i15, i16, i17, i18, i19, i20, i21, i22, i23, i24, i25] [b0, b1, b2, b3, b4, b5, b6, b7, b8, b9] = _
        simp only [t7, t8, Bool.and_true, Bool.true_and, Bool.not_true, Bool.not_false, Bool.or_self, Bool.or_false, cond_true] at hb9
        have t9 : b9 = true := has2 hb9 (by rw [hi18]; exact has_ml hi24 hi25 n_i12 n_i13 g_i8.1 g_i10.1)
        refine st_lb fun b10 hb10 => ?_
        replace hb10 : b10 = (((!b7) || (!b8)) || (!b9)) := hb10
        show T.den _ _ [i0, i1, i2, i3, i4, i5, i6, i7, i8, i9, i10, i11, i12, i13, i14, i15, i16, i17, i18, i19, i20, i21, i22, i23, i24, i25] [b0, b1, b2, b3, b4, b5, b6, b7, b8, b9, b10] = _
        refine st_2_0 (e8_23) (g := (!b10)) rfl (l := [i8, i9, i10, i11]) rfl (m := []) rfl (cl_2 (q23 i8 i9 i10 i11)) fun i26 i27 hi26 hi27 => ?_
        show T.den _ _ [i0, i1, i2, i3, i4, i5, i6, i7, i8, i9, i10, i11, i12, i13, i14, i15, i16, i17, i18, i19, i20, i21, i22, i23, i24, i25, i26, i27] [b0, b1, b2, b3, b4, b5, b6, b7, b8, b9, b10] = _
        have f10 : b10 = false := by rw [hb10, t7, t8, t9]; rfl
        simp only [f10, Bool.and_true, Bool.true_and, Bool.not_true, Bool.not_false, Bool.or_self, Bool.or_false, cond_true] at hi26 hi27
        refine st_0_1 (e8_16) (g := (!b10)) rfl (l := [i26, i27, (arI .and .u64 i12 i13)]) rfl (m := []) rfl (cl_b (q16 i26 i27 (arI .and .u64 i12 i13))) fun b11 hb11 => ?_
        show T.den _ _ [i0, i1, i2, i3, i4, i5, i6, i7, i8, i9, i10, i11, i12, i13, i14, i15, i16, i17, i18, i19, i20, i21, i22, i23, i24, i25, i26, i27] [b0, b1, b2, b3, b4, b5, b6, b7, b8, b9, b10, b11] = _
        simp only [f10, Bool.and_true, Bool.true_and, Bool.not_true, Bool.not_false, Bool.or_self, Bool.or_false, cond_true] at hb11
        have t11 : b11 = true := has2 hb11 (has_an hi26 hi27 n_i12 n_i13 g_i8.1 g_i10.1 g_i8.2.2 g_i10.2.2)
        refine st_2_0 (e8_24) (g := (!(b10 || (!b11)))) rfl (l := [i8, i9, i10, i11]) rfl (m := []) rfl (cl_2 (q24 i8 i9 i10 i11 g_i8.1 g_i8.2.1 g_i8.2.2 g_i10.1 g_i10.2.1 g_i10.2.2)) fun i28 i29 hi28 hi29 => ?_
        show T.den _ _ [i0, i1, i2, i3, i4, i5, i6, i7, i8, i9, i10, i11, i12, i13, i14, i15, i16, i17, i18, i19, i20, i21, i22, i23, i24, i25, i26, i27, i28, i29] [b0, b1, b2, b3, b4, b5, b6, b7, b8, b9, b10, b11] = _
        simp only [f10, t11, Bool.and_true, Bool.true_and, Bool.not_true, Bool.not_false, Bool.or_self, Bool.or_false, cond_true] at hi28 hi29
        refine st_0_1 (e8_16) (g := (!(b10 || (!b11)))) rfl (l := [i28, i29, (arI .or .u64 i12 i13)]) rfl (m := []) rfl (cl_b (q16 i28 i29 (arI .or .u64 i12 i13))) fun b12 hb12 => ?_
        show T.den _ _ [i0, i1, i2, i3, i4, i5, i6, i7, i8, i9, i10, i11, i12, i13, i14, i15, i16, i17, i18, i19, i20, i21, i22, i23, i24, i25, i26, i27, i28, i29] [b0, b1, b2, b3, b4, b5, b6, b7, b8, b9, b10, b11, b12] = _
        simp only [f10, t11, Bool.and_true, Bool.true_and, Bool.not_true, Bool.not_false, Bool.or_self, Bool.or_false, cond_true] at hb12
        have t12 : b12 = true := has2 hb12 (has_or hi28 hi29 n_i12 n_i13 g_i8.1 g_i10.1 g_i8.2.2 g_i10.2.2)
        refine st_lb fun b13 hb13 => ?_
        replace hb13 : b13 = ((b10 || (!b11)) || (!b12)) := hb13
        show T.den _ _ [i0, i1, i2, i3, i4, i5, i6, i7, i8, i9, i10, i11, i12, i13, i14, i15, i16, i17, i18, i19, i20, i21, i22, i23, i24, i25, i26, i27, i28, i29] [b0, b1, b2, b3, b4, b5, b6, b7, b8, b9, b10, b11, b12, b13] = _
        refine st_ite (fun hc => ?_) (fun hc => ?_)
        · replace hc : b13 = true := hc
          have c13 := hc
          clear hc
          refine st_ret ?_
          show some ([], [false]) = _
          exfalso
          rw [hb13, hb10, t7, t8, t9, t11, t12] at c13; cases c13
        · replace hc : b13 = false := hc
          have c14 := hc
          clear hc
          refine st_2_1 (e8_21) (g := true) rfl (l := [i8, i9, i10, i11]) rfl (m := []) rfl (cl_t (q21 i8 i9 i10 i11)) fun i30 i31 b14 hi30 hi31 hb14 => ?_
          show T.den _ _ [i0, i1, i2, i3, i4, i5, i6, i7, i8, i9, i10, i11, i12, i13, i14, i15, i16, i17, i18, i19, i20, i21, i22, i23, i24, i25, i26, i27, i28, i29, i30, i31] [b0, b1, b2, b3, b4, b5, b6, b7, b8, b9, b10, b11, b12, b13, b14] = _
          refine st_2_1 (e8_22) (g := true) rfl (l := [i8, i9, i10, i11]) rfl (m := []) rfl (cl_t (q22 i8 i9 i10 i11)) fun i32 i33 b15 hi32 hi33 hb15 => ?_
          show T.den _ _ [i0, i1, i2, i3, i4, i5, i6, i7, i8, i9, i10, i11, i12, i13, i14, i15, i16, i17, i18, i19, i20, i21, i22, i23, i24, i25, i26, i27, i28, i29, i30, i31, i32, i33] [b0, b1, b2, b3, b4, b5, b6, b7, b8, b9, b10, b11, b12, b13, b14, b15] = _
          refine st_lb fun b16 hb16 => ?_
          replace hb16 : b16 = ((!(b14 == (decide (i11 > 0)))) || (!(b15 == b14))) := hb16
          show T.den _ _ [i0, i1, i2, i3, i4, i5, i6, i7, i8, i9, i10, i11, i12, i13, i14, i15, i16, i17, i18, i19, i20, i21, i22, i23, i24, i25, i26, i27, i28, i29, i30, i31, i32, i33] [b0, b1, b2, b3, b4, b5, b6, b7, b8, b9, b10, b11, b12, b13, b14, b15, b16] = _
          refine st_lb fun b17 hb17 => ?_
          replace hb17 : b17 = (!((i30 == 0) && (i31 == 0))) := hb17
          show T.den _ _ [i0, i1, i2, i3, i4, i5, i6, i7, i8, i9, i10, i11, i12, i13, i14, i15, i16, i17, i18, i19, i20, i21, i22, i23, i24, i25, i26, i27, i28, i29, i30, i31, i32, i33] [b0, b1, b2, b3, b4, b5, b6, b7, b8, b9, b10, b11, b12, b13, b14, b15, b16, b17] = _
          refine st_lb fun b18 hb18 => ?_
          replace hb18 : b18 = (!((i32 == 0) && (i33 == 0))) := hb18
          show T.den _ _ [i0, i1, i2, i3, i4, i5, i6, i7, i8, i9, i10, i11, i12, i13, i14, i15, i16, i17, i18, i19, i20, i21, i22, i23, i24, i25, i26, i27, i28, i29, i30, i31, i32, i33] [b0, b1, b2, b3, b4, b5, b6, b7, b8, b9, b10, b11, b12, b13, b14, b15, b16, b17, b18] = _
          refine st_lb fun b19 hb19 => ?_
          replace hb19 : b19 = (b16 || ((!b14) && (b17 || b18))) := hb19
          show T.den _ _ [i0, i1, i2, i3, i4, i5, i6, i7, i8, i9, i10, i11, i12, i13, i14, i15, i16, i17, i18, i19, i20, i21, i22, i23, i24, i25, i26, i27, i28, i29, i30, i31, i32, i33] [b0, b1, b2, b3, b4, b5, b6, b7, b8, b9, b10, b11, b12, b13, b14, b15, b16, b17, b18, b19] = _
          refine st_ite (fun hc => ?_) (fun hc => ?_)
          · replace hc : b19 = true := hc
            have c15 := hc
            clear hc
            refine st_ret ?_
            show some ([], [false]) = _
            exfalso
            have hf := fine (by omega) hb14 hb15 hb17 hb18 (fun h => by rw [if_pos h] at hi30 hi31; exact ⟨hi30, hi31⟩) (fun h => by rw [if_pos h] at hi32 hi33; exact ⟨hi32, hi33⟩) hb16
            rw [hb19, hf] at c15; cases c15
          · replace hc : b19 = false := hc
            have c16 := hc
            clear hc
            refine st_rq (show ((i13 == 0) || (i13 != 0)) = true from ?_) ?_
            · by_cases hy : i13 = 0
              · rw [beq_iff_eq.2 hy]; rfl
              · rw [bne_iff_ne.2 hy, Bool.or_true]
            refine st_0_1 (e8_16) (g := (!(i13 == 0))) rfl (l := [i30, i31, (arI .quo .u64 i12 i13)]) rfl (m := []) rfl (cl_b (q16 i30 i31 (arI .quo .u64 i12 i13))) fun b20 hb20 => ?_
            show T.den _ _ [i0, i1, i2, i3, i4, i5, i6, i7, i8, i9, i10, i11, i12, i13, i14, i15, i16, i17, i18, i19, i20, i21, i22, i23, i24, i25, i26, i27, i28, i29, i30, i31, i32, i33] [b0, b1, b2, b3, b4, b5, b6, b7, b8, b9, b10, b11, b12, b13, b14, b15, b16, b17, b18, b19, b20] = _
            refine st_rq (show ((!((!(i13 == 0)) && b20)) || (i13 != 0)) = true from ?_) ?_
            · by_cases hy : i13 = 0
              · rw [beq_iff_eq.2 hy]; rfl
              · rw [bne_iff_ne.2 hy, Bool.or_true]
            refine st_0_1 (e8_16) (g := ((!(i13 == 0)) && b20)) rfl (l := [i32, i33, (arI .rem .u64 i12 i13)]) rfl (m := []) rfl (cl_b (q16 i32 i33 (arI .rem .u64 i12 i13))) fun b21 hb21 => ?_
            show T.den _ _ [i0, i1, i2, i3, i4, i5, i6, i7, i8, i9, i10, i11, i12, i13, i14, i15, i16, i17, i18, i19, i20, i21, i22, i23, i24, i25, i26, i27, i28, i29, i30, i31, i32, i33] [b0, b1, b2, b3, b4, b5, b6, b7, b8, b9, b10, b11, b12, b13, b14, b15, b16, b17, b18, b19, b20, b21] = _
            refine st_lb fun b22 hb22 => ?_
            replace hb22 : b22 = ((i13 == 0) || (b20 && b21)) := hb22
            show T.den _ _ [i0, i1, i2, i3, i4, i5, i6, i7, i8, i9, i10, i11, i12, i13, i14, i15, i16, i17, i18, i19, i20, i21, i22, i23, i24, i25, i26, i27, i28, i29, i30, i31, i32, i33] [b0, b1, b2, b3, b4, b5, b6, b7, b8, b9, b10, b11, b12, b13, b14, b15, b16, b17, b18, b19, b20, b21, b22] = _
            refine st_ret ?_
            show some ([], [b22]) = _
            have e : b22 = true := by
              by_cases hy : i13 = 0
              · rw [hb22, beq_iff_eq.2 hy]; rfl
              · have t20 := has_dv hi30 hi31 n_i12 n_i13 g_i8.1 g_i10.1 g_i8.2.2 g_i10.2.2 hy hb20
                have t21 := has_rm hi32 hi33 n_i12 n_i13 g_i8.1 g_i10.1 g_i8.2.2 g_i10.2.2 hy t20 hb21
                rw [hb22, t20, t21, Bool.and_self, Bool.or_true]
            rw [e]
end Go.Proofs.Ytaajijommogaoaa.YIvlSound
