/-
  LowLattice, of numbers alone.
-/
import Derived.Test.YtfhmhoefeokihaaDoorXLowLattice
import Derived.Test.YtfhmhoefeokihaaDoorSn
import Derived.Test.YtfhmhoefeokihaaDoorTabs
namespace Go.Proofs.YtfhmhoefeokihaaDoor.YLowLattice
open Go.Proofs.YtfhmhoefeokihaaDoor.Sx Go.Proofs.YtfhmhoefeokihaaDoor.Sn Go.Proofs.YtfhmhoefeokihaaDoor.XLowLattice Go.Proofs.YtfhmhoefeokihaaDoor.ELowLattice
set_option linter.unusedSimpArgs false
set_option linter.unusedVariables false
theorem st_0_1 {C : Nat → Sx.Fn} {is : List Int} {bs : List Bool} {r : Option (List Int × List Bool)} {G : E} {f : Nat} {ii bb : List E} {k : Sx.T} {c0 : Bool} {F : Sx.Fn} {g : Bool} {l : List Int} {m : List Bool} (hC : C f = F) (hG : G.B is bs = g) (hl : ii.map (E.I is bs) = l) (hm : bb.map (E.B is bs) = m)
    (h : (bif g then F l m else some (List.replicate 0 0, List.replicate 1 false)) = some ([], [c0]))
    (hk : ∀ (y0 : Bool), y0 = c0 → k.den C (is ++ []) (bs ++ [y0]) = r) : (Sx.T.call G f ii bb 0 1 k).den C is bs = r := st_call _ _ (by rw [hC, hG, hl, hm]; exact h) rfl rfl (hk _ rfl)

theorem st_1_0 {C : Nat → Sx.Fn} {is : List Int} {bs : List Bool} {r : Option (List Int × List Bool)} {G : E} {f : Nat} {ii bb : List E} {k : Sx.T} {a0 : Int} {F : Sx.Fn} {g : Bool} {l : List Int} {m : List Bool} (hC : C f = F) (hG : G.B is bs = g) (hl : ii.map (E.I is bs) = l) (hm : bb.map (E.B is bs) = m)
    (h : (bif g then F l m else some (List.replicate 1 0, List.replicate 0 false)) = some ([a0], []))
    (hk : ∀ (x0 : Int), x0 = a0 → k.den C (is ++ [x0]) (bs ++ []) = r) : (Sx.T.call G f ii bb 1 0 k).den C is bs = r := st_call _ _ (by rw [hC, hG, hl, hm]; exact h) rfl rfl (hk _ rfl)

theorem st_2_0 {C : Nat → Sx.Fn} {is : List Int} {bs : List Bool} {r : Option (List Int × List Bool)} {G : E} {f : Nat} {ii bb : List E} {k : Sx.T} {a0 a1 : Int} {F : Sx.Fn} {g : Bool} {l : List Int} {m : List Bool} (hC : C f = F) (hG : G.B is bs = g) (hl : ii.map (E.I is bs) = l) (hm : bb.map (E.B is bs) = m)
    (h : (bif g then F l m else some (List.replicate 2 0, List.replicate 0 false)) = some ([a0, a1], []))
    (hk : ∀ (x0 x1 : Int), x0 = a0 → x1 = a1 → k.den C (is ++ [x0, x1]) (bs ++ []) = r) : (Sx.T.call G f ii bb 2 0 k).den C is bs = r := st_call _ _ (by rw [hC, hG, hl, hm]; exact h) rfl rfl (hk _ _ rfl rfl)

theorem st_2_1 {C : Nat → Sx.Fn} {is : List Int} {bs : List Bool} {r : Option (List Int × List Bool)} {G : E} {f : Nat} {ii bb : List E} {k : Sx.T} {a0 a1 : Int} {c0 : Bool} {F : Sx.Fn} {g : Bool} {l : List Int} {m : List Bool} (hC : C f = F) (hG : G.B is bs = g) (hl : ii.map (E.I is bs) = l) (hm : bb.map (E.B is bs) = m)
    (h : (bif g then F l m else some (List.replicate 2 0, List.replicate 1 false)) = some ([a0, a1], [c0]))
    (hk : ∀ (x0 x1 : Int) (y0 : Bool), x0 = a0 → x1 = a1 → y0 = c0 → k.den C (is ++ [x0, x1]) (bs ++ [y0]) = r) : (Sx.T.call G f ii bb 2 1 k).den C is bs = r := st_call _ _ (by rw [hC, hG, hl, hm]; exact h) rfl rfl (hk _ _ _ rfl rfl rfl)
theorem pow_pos (i : Nat) : 0 < 2 ^ i := Nat.two_pow_pos i
theorem pow_lt {i : Nat} (h : i < 64) : 2 ^ i < 2 ^ 64 := Nat.pow_lt_pow_right (by decide) h
theorem pow_le {i j : Nat} (h : i ≤ j) : 2 ^ i ≤ 2 ^ j := Nat.pow_le_pow_right (by decide) h
theorem mod_lt64 (a i : Nat) (h : a < 2 ^ 64) : a % 2 ^ i < 2 ^ 64 := Nat.lt_of_le_of_lt (Nat.mod_le _ _) h
theorem mod_mod_pow (n : Nat) {i j : Nat} (h : i ≤ j) : n % 2 ^ j % 2 ^ i = n % 2 ^ i := Nat.mod_mod_of_dvd _ (Nat.pow_dvd_pow 2 h)
theorem mod_bit (a i : Nat) : a % 2 ^ i ||| a &&& 2 ^ i = a % 2 ^ (i + 1) := by
  refine Nat.eq_of_testBit_eq (fun j => ?_)
  rw [Nat.testBit_or, Nat.testBit_and, Nat.testBit_two_pow, Nat.testBit_mod_two_pow, Nat.testBit_mod_two_pow]
  by_cases h : j < i
  · simp [h, show j < i + 1 from by omega, show ¬ i = j from by omega]
  · by_cases h2 : i = j
    · subst h2; simp
    · simp [h, h2, show ¬ j < i + 1 from by omega]
/-! What the statement makes: known bits, and other numbers of them. -/
def acc (n : Int) : Nat → Int
  | 0 => 0
  | i + 1 => arI .or .u64 (acc n i) (arI .and .u64 n ((2 ^ i : Nat) : Int))
def oth (N : Nat) (R n : Int) : Nat → Int
  | 0 => R
  | i + 1 => arI .or .u64 (oth N R n i) (arI .and .u64 n ((2 ^ (N + i) : Nat) : Int))
theorem q8_all (n : Int) : (List.range 256).map (fun k : Nat => F8 [n, (k : Int)] []) = (List.range 256).map (fun k : Nat => some ([((k % 65 : Nat) : Int), acc n (k % 65)], [])) := by kernel_rfl
theorem q17_all (R n : Int) : (List.range 65).map (fun N : Nat => F17 [(N : Int), R, n] []) = (List.range 65).map (fun N : Nat => some ([oth N R n (64 - N)], [])) := by kernel_rfl
theorem acc_eq (a : Nat) (ha : a < 2 ^ 64) : ∀ j, j ≤ 64 → acc (a : Int) j = ((a % 2 ^ j : Nat) : Int)
  | 0, _ => by rw [Nat.pow_zero, Nat.mod_one]; rfl
  | j + 1, h => by
    rw [acc, acc_eq a ha j (by omega), band a (2 ^ j) ha (pow_lt (by omega)), bor _ _ (mod_lt64 a j ha) (Nat.lt_of_le_of_lt Nat.and_le_left ha), mod_bit]
theorem q8 (a k : Nat) (ha : a < 2 ^ 64) (hk : k < 256) : F8 [(a : Int), (k : Int)] [] = some ([((k % 65 : Nat) : Int), ((a % 2 ^ (k % 65) : Nat) : Int)], []) := by
  rw [← acc_eq a ha (k % 65) (by omega)]
  exact List.map_inj_left.1 (q8_all a) k (List.mem_range.2 hk)
theorem oth_ex (N R n : Nat) (hR : R < 2 ^ N) (hn : n < 2 ^ 64) (hR2 : R < 2 ^ 64) : ∀ j, N + j ≤ 64 → ∃ x : Nat, oth N (R : Int) (n : Int) j = (x : Int) ∧ x < 2 ^ 64 ∧ x % 2 ^ N = R
  | 0, _ => ⟨R, rfl, hR2, Nat.mod_eq_of_lt hR⟩
  | j + 1, h => by
    obtain ⟨x, e, hx, hm⟩ := oth_ex N R n hR hn hR2 j (by omega)
    have h2 : n &&& 2 ^ (N + j) < 2 ^ 64 := Nat.lt_of_le_of_lt Nat.and_le_left hn
    refine ⟨x ||| (n &&& 2 ^ (N + j)), ?_, Nat.or_lt_two_pow hx h2, ?_⟩
    · rw [oth, e, band n _ hn (pow_lt (by omega)), bor _ _ hx h2]
    · rw [Nat.or_mod_two_pow, hm, Nat.and_mod_two_pow, show 2 ^ (N + j) % 2 ^ N = 0 from by rw [Nat.pow_add]; exact Nat.mul_mod_right _ _, Nat.and_zero, Nat.or_zero]
theorem q17 (N R n : Nat) (hN : N ≤ 64) (hR : R < 2 ^ N) (hn : n < 2 ^ 64) : ∃ x : Nat, F17 [(N : Int), (R : Int), (n : Int)] [] = some ([(x : Int)], []) ∧ x < 2 ^ 64 ∧ x % 2 ^ N = R := by
  have hR2 : R < 2 ^ 64 := Nat.lt_of_lt_of_le hR (pow_le hN)
  obtain ⟨x, e, hx⟩ := oth_ex N R n hR hn hR2 (64 - N) (by omega)
  refine ⟨x, ?_, hx⟩
  rw [← e]
  exact List.map_inj_left.1 (q17_all R n) N (List.mem_range.2 (by omega))

theorem e18_25 : Tab.fn a18 25 = F25 := Tab.fn_hd
theorem e19_25 : Tab.fn a19 25 = F25 := Tab.fn_hd
theorem e20_28 : Tab.fn a20 28 = F28 := Tab.fn_hd
theorem e20_9 : Tab.fn a20 9 = F9 := ((Tab.fn_tl rfl).trans Tab.fn_hd)
theorem e21_19 : Tab.fn a21 19 = F19 := Tab.fn_hd
theorem e10_19 : Tab.fn a10 19 = F19 := Tab.fn_hd
theorem e9_25 : Tab.fn a9 25 = F25 := Tab.fn_hd

theorem q7 : F7 [] [] = some ([], [true]) := by decide +kernel

theorem r1 {a b : Int} (h : a = b) : (some ([a], []) : Option (List Int × List Bool)) = some ([b], []) := by rw [h]
theorem rb {a b : Bool} (h : a = b) : (some ([], [a]) : Option (List Int × List Bool)) = some ([], [b]) := by rw [h]

set_option maxHeartbeats 4000000 in
theorem q25 (N : Nat) (h : N ≤ 64) : F25 [(N : Int)] [] = some ([((2 ^ N - 1 : Nat) : Int)], []) := by
  refine Eq.trans (Fd_of (n := 1) (m := 0) (t := t25) (C := Tab.fn a25) rfl rfl) ?_
  rw [t25]
  refine st_ite (fun hc => ?_) (fun hc => ?_)
  · replace hc : (decide ((N : Int) ≥ 64)) = true := hc
    have c1 := hc
    clear hc
    refine st_ret ?_
    show some ([18446744073709551615], []) = _
    simp only [decide_eq_true_eq] at c1
    exact r1 (by rw [show N = 64 from by omega]; decide)
  · replace hc : (decide ((N : Int) ≥ 64)) = false := hc
    have c2 := hc
    clear hc
    refine st_rq (show (decide ((IntKind.wrap .u64 (if 0 > (N : Int) then 0 else (N : Int))) ≥ 0)) = true from ?_) ?_
    · rw [decide_eq_true_eq, wrap_u64]
      omega
    refine st_li fun i1 hi1 => ?_
    replace hi1 : i1 = (arI .sub .u64 (arI .shl .u64 1 (IntKind.wrap .u64 (if 0 > (N : Int) then 0 else (N : Int)))) 1) := hi1
    show T.den _ _ [(N : Int), i1] [] = _
    refine st_ret ?_
    show some ([i1], []) = _
    simp only [decide_eq_false_iff_not] at c2
    have hp := pow_lt (i := N) (by omega)
    have hp0 := pow_pos N
    rw [if_neg (by omega), wraps_u64 _ (by omega) (by omega), arShl _ _ (by omega) (by omega), Int.toNat_natCast, Int.one_mul, show (2 : Int) ^ N = ((2 ^ N : Nat) : Int) from by rw [Int.natCast_pow]; rfl] at hi1
    exact r1 (by rw [hi1, arSub]; omega)

def hs (N r n : Nat) : Bool := decide (n % 2 ^ N = r % 2 ^ N)
theorem xor_mask_eq_zero (n r i : Nat) : (n ^^^ r) &&& (2 ^ i - 1) = 0 ↔ n % 2 ^ i = r % 2 ^ i := by
  rw [Nat.and_two_pow_sub_one_eq_mod, Nat.xor_mod_two_pow]
  constructor
  · intro h
    refine Nat.eq_of_testBit_eq fun j => ?_
    have h1 := congrArg (fun x => Nat.testBit x j) h
    simp only [Nat.testBit_xor, Nat.zero_testBit] at h1
    revert h1
    cases Nat.testBit (n % 2 ^ i) j <;> cases Nat.testBit (r % 2 ^ i) j <;> simp
  · intro h; rw [h, Nat.xor_self]
theorem mask_lt {N : Nat} (h : N ≤ 64) : 2 ^ N - 1 < 2 ^ 64 := by have := pow_le h; have := pow_pos N; omega
theorem bandNot (a b : Nat) (ha : a < 2 ^ 64) (hb : b < 2 ^ 64) : arI .andNot .u64 (a : Int) (b : Int) = ((a &&& (2 ^ 64 - (b + 1)) : Nat) : Int) := by
  show IntKind.u64.wrap ((BitVec.ofInt 64 (a : Int) &&& ~~~(BitVec.ofInt 64 (b : Int))).toNat : Int) = _
  have e : 2 ^ 64 - 1 - b = 2 ^ 64 - (b + 1) := by omega
  rw [BitVec.toNat_and, BitVec.toNat_not, toN a ha, toN b hb, e]
  exact wraps_u64 _ (by omega) (by have := @Nat.and_le_left a (2 ^ 64 - (b + 1)); omega)

set_option maxHeartbeats 4000000 in
theorem q19 (N r n : Nat) (hN : N ≤ 64) (hr : r < 2 ^ 64) (hn : n < 2 ^ 64) : F19 [(N : Int), (r : Int), (n : Int)] [] = some ([], [hs N r n]) := by
  refine Eq.trans (Fd_of (n := 3) (m := 0) (t := t19) (C := Tab.fn a19) rfl rfl) ?_
  rw [t19]
  refine st_1_0 (e19_25) (g := true) rfl (l := [(N : Int)]) rfl (m := []) rfl (cl_t (q25 N hN)) fun i3 hi3 => ?_
  show T.den _ _ [(N : Int), (r : Int), (n : Int), i3] [] = _
  refine st_lb fun b0 hb0 => ?_
  replace hb0 : b0 = ((arI .and .u64 (arI .xor .u64 (n : Int) (r : Int)) i3) == 0) := hb0
  show T.den _ _ [(N : Int), (r : Int), (n : Int), i3] [b0] = _
  refine st_ret ?_
  show some ([], [b0]) = _
  rw [hi3, bxor n r hn hr, band _ _ (Nat.xor_lt_two_pow hn hr) (mask_lt hN)] at hb0
  refine rb ?_
  rw [hb0]; unfold hs
  rw [Bool.eq_iff_iff, beq_iff_eq, decide_eq_true_iff, ← xor_mask_eq_zero]
  omega

theorem and_not_mask_eq_zero {r i : Nat} (hr : r < 2 ^ 64) (hi : i ≤ 64) : r &&& (2 ^ 64 - (2 ^ i - 1 + 1)) = 0 ↔ r < 2 ^ i := by
  have e : 2 ^ 64 - (2 ^ i - 1 + 1) = 2 ^ 64 - 2 ^ i := by have := pow_pos i; omega
  have d : 2 ^ 64 - 2 ^ i = (2 ^ (64 - i) - 1) * 2 ^ i := by rw [Nat.sub_mul, ← Nat.pow_add, Nat.sub_add_cancel hi, Nat.one_mul]
  have k : r &&& (2 ^ 64 - (2 ^ i - 1 + 1)) = r / 2 ^ i * 2 ^ i := by
    rw [e, d]
    refine Nat.eq_of_testBit_eq fun j => ?_
    rw [Nat.testBit_and, Nat.testBit_mul_two_pow, Nat.testBit_mul_two_pow, Nat.testBit_two_pow_sub_one, Nat.testBit_div_two_pow]
    by_cases h : i ≤ j
    · by_cases h2 : j < 64
      · simp [h, show j - i < 64 - i from by omega, Nat.sub_add_cancel h]
      · have : r.testBit j = false := Nat.testBit_lt_two_pow (Nat.lt_of_lt_of_le hr (pow_le (by omega)))
        simp [h, this, Nat.sub_add_cancel h]
    · simp [h]
  rw [k]
  have h1 := Nat.div_add_mod r (2 ^ i)
  have h2 := Nat.mod_lt r (pow_pos i)
  constructor
  · intro h; rw [Nat.mul_comm] at h1; omega
  · intro h; rw [Nat.div_eq_of_lt h, Nat.zero_mul]

set_option maxHeartbeats 4000000 in
theorem q18 (N r : Nat) (hN : N ≤ 64) (hr : r < 2 ^ 64) : F18 [(N : Int), (r : Int)] [] = some ([], [decide (r < 2 ^ N)]) := by
  refine Eq.trans (Fd_of (n := 2) (m := 0) (t := t18) (C := Tab.fn a18) rfl rfl) ?_
  rw [t18]
  refine st_lb fun b0 hb0 => ?_
  replace hb0 : b0 = ((decide ((N : Int) ≥ 0)) && (decide ((N : Int) ≤ 64))) := hb0
  show T.den _ _ [(N : Int), (r : Int)] [b0] = _
  refine st_1_0 (e18_25) (g := b0) rfl (l := [(N : Int)]) rfl (m := []) rfl (cl_1 (q25 N hN)) fun i2 hi2 => ?_
  show T.den _ _ [(N : Int), (r : Int), i2] [b0] = _
  refine st_lb fun b1 hb1 => ?_
  replace hb1 : b1 = (b0 && ((arI .andNot .u64 (r : Int) i2) == 0)) := hb1
  show T.den _ _ [(N : Int), (r : Int), i2] [b0, b1] = _
  refine st_ret ?_
  show some ([], [b1]) = _
  have hb0' : b0 = true := by rw [hb0, decide_eq_true (by omega), decide_eq_true (by omega)]; rfl
  subst hb0'
  rw [cond_true] at hi2
  refine rb ?_
  rw [hb1, hi2, Bool.true_and, bandNot r _ hr (mask_lt hN), Bool.eq_iff_iff, beq_iff_eq, decide_eq_true_iff, ← and_not_mask_eq_zero hr hN]
  omega

theorem q22 (a : Int) : F22 [a] [] = some ([64, a], []) := rfl

def cN (N n : Nat) : Nat := if N ≤ n then N else n
def cR (N r n : Nat) : Nat := if N ≤ n then r else r % 2 ^ n

set_option maxHeartbeats 4000000 in
theorem q9 (N r n : Nat) (hN : N ≤ 64) (hr : r < 2 ^ 64) : F9 [(N : Int), (r : Int), (n : Int)] [] = some ([((cN N n : Nat) : Int), ((cR N r n : Nat) : Int)], []) := by
  refine Eq.trans (Fd_of (n := 3) (m := 0) (t := t9) (C := Tab.fn a9) rfl rfl) ?_
  rw [t9]
  refine st_ite (fun hc => ?_) (fun hc => ?_)
  · replace hc : (decide ((n : Int) ≥ (N : Int))) = true := hc
    have c1 := hc
    clear hc
    refine st_ret ?_
    show some ([(N : Int), (r : Int)], []) = _
    simp only [decide_eq_true_eq] at c1
    unfold cN cR; rw [if_pos (by omega), if_pos (by omega)]
  · replace hc : (decide ((n : Int) ≥ (N : Int))) = false := hc
    have c2 := hc
    clear hc
    refine st_1_0 (e9_25) (g := true) rfl (l := [(n : Int)]) rfl (m := []) rfl (cl_t (q25 n (by simp only [decide_eq_false_iff_not] at c2; omega))) fun i3 hi3 => ?_
    show T.den _ _ [(N : Int), (r : Int), (n : Int), i3] [] = _
    refine st_ret ?_
    show some ([(if 0 > (n : Int) then 0 else (n : Int)), (arI .and .u64 (r : Int) i3)], []) = _
    simp only [decide_eq_false_iff_not] at c2
    refine r2 ?_ ?_
    · unfold cN; rw [if_neg (by omega), if_neg (by omega)]
    · unfold cR; rw [if_neg (by omega), hi3, band r _ hr (mask_lt (by omega)), Nat.and_two_pow_sub_one_eq_mod]

set_option maxHeartbeats 4000000 in
theorem q10 (N r M q : Nat) (hN : N ≤ 64) (hr : r < 2 ^ 64) (hM : M ≤ 64) (hq : q < 2 ^ 64) : F10 [(N : Int), (r : Int), (M : Int), (q : Int)] [] = some ([], [decide (M ≤ N) && hs M q r]) := by
  refine Eq.trans (Fd_of (n := 4) (m := 0) (t := t10) (C := Tab.fn a10) rfl rfl) ?_
  rw [t10]
  refine st_0_1 (e10_19) (g := (decide ((N : Int) ≥ (M : Int)))) rfl (l := [(M : Int), (q : Int), (r : Int)]) rfl (m := []) rfl (cl_b (q19 M q r hM hq hr)) fun b0 hb0 => ?_
  show T.den _ _ [(N : Int), (r : Int), (M : Int), (q : Int)] [b0] = _
  refine st_ret ?_
  show some ([], [((decide ((N : Int) ≥ (M : Int))) && b0)]) = _
  refine rb ?_
  rw [hb0, show decide ((N : Int) ≥ (M : Int)) = decide (M ≤ N) from by rw [Bool.eq_iff_iff, decide_eq_true_iff, decide_eq_true_iff]; omega]
  cases decide (M ≤ N) <;> rfl

def z (r q : Nat) : Nat := Go.Lib.ctz 64 (r ^^^ q)
theorem F28_one (x : Int) : F28 [x] [] = (Tabs.tz64f x).map (fun r => ([r], ([] : List Bool))) := rfl
theorem q28 (x : Nat) (h : x < 2 ^ 64) : F28 [(x : Int)] [] = some ([((Go.Lib.ctz 64 x : Nat) : Int)], []) := by
  have h1 : Tabs.tz64f (x : Int) = some ((Go.Lib.ctz 64 x : Nat) : Int) := by
    unfold Tabs.tz64f
    rw [if_pos (by omega), Int.toNat_natCast]
  rw [F28_one, h1, Option.map_some]

set_option maxHeartbeats 4000000 in
theorem q20 (N r M q : Nat) (hN : N ≤ 64) (hr : r < 2 ^ 64) (hM : M ≤ 64) (hq : q < 2 ^ 64) : F20 [(N : Int), (r : Int), (M : Int), (q : Int)] [] = some ([((cN N (min M (z r q)) : Nat) : Int), ((cR N r (min M (z r q)) : Nat) : Int)], []) := by
  refine Eq.trans (Fd_of (n := 4) (m := 0) (t := t20) (C := Tab.fn a20) rfl rfl) ?_
  rw [t20]
  refine st_1_0 (e20_28) (g := true) rfl (l := [(arI .xor .u64 (r : Int) (q : Int))]) rfl (m := []) rfl (cl_t (by rw [bxor r q hr hq]; exact q28 _ (Nat.xor_lt_two_pow hr hq))) fun i4 hi4 => ?_
  show T.den _ _ [(N : Int), (r : Int), (M : Int), (q : Int), i4] [] = _
  have e : (if i4 < (M : Int) then i4 else (M : Int)) = ((min M (z r q) : Nat) : Int) := by
    unfold z
    rw [hi4]; split <;> omega
  refine st_2_0 (e20_9) (g := true) rfl (l := [(N : Int), (r : Int), (if i4 < (M : Int) then i4 else (M : Int))]) rfl (m := []) rfl (cl_t (by rw [e]; exact q9 N r _ hN hr)) fun i5 i6 hi5 hi6 => ?_
  show T.den _ _ [(N : Int), (r : Int), (M : Int), (q : Int), i4, i5, i6] [] = _
  refine st_ret ?_
  show some ([i5, i6], []) = _
  rw [hi5, hi6]

def mN (N r M q : Nat) : Nat := if N < M then (if hs N r q = true then M else 0) else (if hs M q r = true then N else 0)
def mR (N r M q : Nat) : Nat := if N < M then (if hs N r q = true then q else 0) else (if hs M q r = true then r else 0)
def mb (N r M q : Nat) : Bool := if N < M then hs N r q else hs M q r

set_option maxHeartbeats 4000000 in
theorem q21 (N r M q : Nat) (hN : N ≤ 64) (hr : r < 2 ^ 64) (hM : M ≤ 64) (hq : q < 2 ^ 64) : F21 [(N : Int), (r : Int), (M : Int), (q : Int)] [] = some ([((mN N r M q : Nat) : Int), ((mR N r M q : Nat) : Int)], [mb N r M q]) := by
  refine Eq.trans (Fd_of (n := 4) (m := 0) (t := t21) (C := Tab.fn a21) rfl rfl) ?_
  rw [t21]
  refine st_ite (fun hc => ?_) (fun hc => ?_)
  · replace hc : (decide ((N : Int) < (M : Int))) = true := hc
    have c1 := hc
    clear hc
    refine st_0_1 (e21_19) (g := true) rfl (l := [(N : Int), (r : Int), (q : Int)]) rfl (m := []) rfl (cl_t (q19 N r q hN hr hq)) fun b0 hb0 => ?_
    show T.den _ _ [(N : Int), (r : Int), (M : Int), (q : Int)] [b0] = _
    refine st_ite (fun hc => ?_) (fun hc => ?_)
    · replace hc : (!b0) = true := hc
      have c2 := hc
      clear hc
      refine st_ret ?_
      show some ([0, 0], [false]) = _
      rw [hb0] at c2
      simp only [decide_eq_true_eq] at c1
      have h : N < M := by omega
      unfold mN mR mb; rw [if_pos h, if_pos h, if_pos h]
      have e : hs N r q = false := by simpa using c2
      rw [e]; rfl
    · replace hc : (!b0) = false := hc
      have c3 := hc
      clear hc
      refine st_ret ?_
      show some ([(M : Int), (q : Int)], [true]) = _
      rw [hb0] at c3
      simp only [decide_eq_true_eq] at c1
      have h : N < M := by omega
      unfold mN mR mb; rw [if_pos h, if_pos h, if_pos h]
      have e : hs N r q = true := by simpa using c3
      rw [e]; rfl
  · replace hc : (decide ((N : Int) < (M : Int))) = false := hc
    have c4 := hc
    clear hc
    refine st_0_1 (e21_19) (g := true) rfl (l := [(M : Int), (q : Int), (r : Int)]) rfl (m := []) rfl (cl_t (q19 M q r hM hq hr)) fun b0 hb0 => ?_
    show T.den _ _ [(N : Int), (r : Int), (M : Int), (q : Int)] [b0] = _
    refine st_ite (fun hc => ?_) (fun hc => ?_)
    · replace hc : (!b0) = true := hc
      have c5 := hc
      clear hc
      refine st_ret ?_
      show some ([0, 0], [false]) = _
      rw [hb0] at c5
      simp only [decide_eq_false_iff_not] at c4
      have h : ¬ N < M := by omega
      unfold mN mR mb; rw [if_neg h, if_neg h, if_neg h]
      have e : hs M q r = false := by simpa using c5
      rw [e]; rfl
    · replace hc : (!b0) = false := hc
      have c6 := hc
      clear hc
      refine st_ret ?_
      show some ([(N : Int), (r : Int)], [true]) = _
      rw [hb0] at c6
      simp only [decide_eq_false_iff_not] at c4
      have h : ¬ N < M := by omega
      unfold mN mR mb; rw [if_neg h, if_neg h, if_neg h]
      have e : hs M q r = true := by simpa using c6
      rw [e]; rfl

theorem wf_u8 {x : Int} (h : (Lit.int .u8 x).wf = true) : 0 ≤ x ∧ x < 256 := by
  simp [Lit.wf, IntKind.bits, IntKind.signed, IntKind.min, IntKind.max] at h; omega
theorem wrap_u8 (n : Int) : IntKind.u8.wrap n = n % 256 := by simp [IntKind.wrap, IntKind.bits, IntKind.signed]
theorem nats {a : Int} (h : 0 ≤ a) : ∃ n : Nat, a = n := Int.eq_ofNat_of_zero_le h
theorem xor_zero (a b : Nat) : a ^^^ b = 0 ↔ a = b := by
  constructor
  · intro h
    refine Nat.eq_of_testBit_eq fun j => ?_
    have h1 := congrArg (fun x => Nat.testBit x j) h
    simp only [Nat.testBit_xor, Nat.zero_testBit] at h1
    revert h1
    cases Nat.testBit a j <;> cases Nat.testBit b j <;> simp
  · intro h; rw [h, Nat.xor_self]
theorem z_iff (r q i : Nat) (hr : r < 2 ^ 64) (hq : q < 2 ^ 64) (hi : i ≤ 64) : r % 2 ^ i = q % 2 ^ i ↔ i ≤ z r q := by
  have hx : r ^^^ q < 2 ^ 64 := Nat.xor_lt_two_pow hr hq
  rw [← xor_zero, ← Nat.xor_mod_two_pow]
  unfold z Go.Lib.ctz
  by_cases h0 : r ^^^ q = 0
  · rw [if_pos h0, h0, Nat.zero_mod]; simp [hi]
  · rw [if_neg h0]
    obtain ⟨m, e, _⟩ := Go.Lib.ctzFrom_spec 64 (r ^^^ q) (by omega) hx
    generalize Go.Lib.ctzFrom 64 (r ^^^ q) = c at *
    rw [e]
    constructor
    · intro h
      by_cases hc : i ≤ c
      · exact hc
      · exfalso
        have h1 := Nat.dvd_of_mod_eq_zero h
        have h2 : 2 ^ (c + 1) ∣ 2 ^ c * (2 * m + 1) := Nat.dvd_trans (Nat.pow_dvd_pow 2 (by omega)) h1
        rw [Nat.pow_succ] at h2
        have h3 := Nat.dvd_of_mul_dvd_mul_left (pow_pos c) h2
        omega
    · intro h
      exact Nat.mod_eq_zero_of_dvd (Nat.dvd_trans (Nat.pow_dvd_pow 2 h) (Nat.dvd_mul_right _ _))
theorem z_comm (r q : Nat) : z q r = z r q := by unfold z; rw [Nat.xor_comm]
theorem cN_eq (N n : Nat) : cN N n = min N n := by unfold cN; split <;> omega
theorem cR_eq (N r n : Nat) (h : r < 2 ^ N) : cR N r n = r % 2 ^ min N n := by
  unfold cR
  split
  · rw [Nat.min_eq_left (by omega), Nat.mod_eq_of_lt h]
  · rw [Nat.min_eq_right (by omega)]
theorem hs_of {N r n : Nat} (h : n % 2 ^ N = r % 2 ^ N) : hs N r n = true := decide_eq_true h
theorem wt {N M q r : Nat} (h : M ≤ N) (h2 : r % 2 ^ M = q % 2 ^ M) : (decide (M ≤ N) && hs M q r) = true := by rw [decide_eq_true h, hs_of h2]; rfl
theorem meet_law (N r M q n : Nat) (hN : N ≤ 64) (hM : M ≤ 64) (hr : r < 2 ^ 64) (hq : q < 2 ^ 64) : (mN N r M q ≤ 64 ∧ mR N r M q < 2 ^ 64) ∧
    ((mb N r M q = true ∧ (decide (N ≤ mN N r M q) && hs N r (mR N r M q)) = true ∧ (decide (M ≤ mN N r M q) && hs M q (mR N r M q)) = true ∧ hs (mN N r M q) (mR N r M q) n = (hs N r n && hs M q n)) ∨
     (mb N r M q = false ∧ mN N r M q = 0 ∧ mR N r M q = 0 ∧ (hs N r n && hs M q n) = false)) := by
  unfold mN mR mb
  have key : ∀ {N r M q : Nat}, N ≤ M → hs N r q = true → hs M q n = (hs N r n && hs M q n) := by
    intro N r M q h h1
    have h1' := of_decide_eq_true h1
    by_cases h2 : hs M q n = true
    · have h2' := of_decide_eq_true h2
      have : hs N r n = true := hs_of (by rw [← mod_mod_pow n h, h2', mod_mod_pow q h, h1'])
      rw [h2, this]; rfl
    · rw [Bool.not_eq_true] at h2; rw [h2, Bool.and_false]
  have no : ∀ {N r M q : Nat}, N ≤ M → hs N r q = false → (hs N r n && hs M q n) = false := by
    intro N r M q h h1
    have h1' := of_decide_eq_false h1
    by_cases h2 : hs M q n = true
    · have h2' := of_decide_eq_true h2
      have : hs N r n = false := decide_eq_false fun h3 => h1' (by rw [← h3, ← mod_mod_pow q h, ← h2', mod_mod_pow n h])
      rw [this]; rfl
    · rw [Bool.not_eq_true] at h2; rw [h2, Bool.and_false]
  by_cases h : N < M
  · rw [if_pos h, if_pos h, if_pos h]
    cases h1 : hs N r q
    · rw [if_neg Bool.false_ne_true, if_neg Bool.false_ne_true]
      exact ⟨⟨by omega, by decide⟩, .inr ⟨rfl, rfl, rfl, no (by omega) h1⟩⟩
    · rw [if_pos rfl, if_pos rfl]
      exact ⟨⟨hM, hq⟩, .inl ⟨rfl, wt (by omega) (of_decide_eq_true h1), wt (by omega) rfl, key (by omega) h1⟩⟩
  · rw [if_neg h, if_neg h, if_neg h]
    cases h1 : hs M q r
    · rw [if_neg Bool.false_ne_true, if_neg Bool.false_ne_true]
      exact ⟨⟨by omega, by decide⟩, .inr ⟨rfl, rfl, rfl, by rw [Bool.and_comm]; exact no (by omega) h1⟩⟩
    · rw [if_pos rfl, if_pos rfl]
      exact ⟨⟨hN, hr⟩, .inl ⟨rfl, wt (by omega) rfl, wt (by omega) (of_decide_eq_true h1), by rw [Bool.and_comm (hs N r n)]; exact key (by omega) h1⟩⟩
theorem meet_bool {u v b7 W1 W2 h e0 b19 b20 b21 b22 b23 b24 b25 b26 b27 b28 b29 b30 : Bool} (hm : (b7 = true ∧ W1 = true ∧ W2 = true ∧ h = (u && v)) ∨ (b7 = false ∧ e0 = true ∧ (u && v) = false))
    (h19 : b19 = u) (h20 : b20 = (b19 && v)) (h21 : b21 = (((b19 && b20) && b7) && h)) (h22 : b22 = ((b19 && b20) && ((!b7) || (!b21)))) (h23 : b23 = (((!b22) && b7) && W1)) (h24 : b24 = ((((!b22) && b7) && b23) && W2))
    (h25 : b25 = ((((!b22) && b7) && (!((!b23) || (!b24)))) && h)) (h26 : b26 = (((((!b22) && b7) && (!((!b23) || (!b24)))) && b25) && u)) (h27 : b27 = ((((((!b22) && b7) && (!((!b23) || (!b24)))) && b25) && b26) && v))
    (h28 : b28 = (((!b23) || (!b24)) || (b25 && (!(b26 && b27))))) (h29 : b29 = (!e0)) (h30 : b30 = ((b22 || (b7 && b28)) || ((!b7) && b29))) : b30 = false := by
  subst h19 h20 h21 h22 h23 h24 h25 h26 h27 h28 h29 h30
  rcases hm with ⟨rfl, rfl, rfl, rfl⟩ | ⟨rfl, rfl, hh⟩
  · cases b19 <;> cases v <;> rfl
  · revert hh; cases b19 <;> cases v <;> intro hh <;> first | rfl | cases hh
theorem eq_b {x y u v : Nat} {b : Bool} {i j k l : Int} (hb : b = ((i == k) && (j == l))) (hi : i = x) (hj : j = y) (hk : k = u) (hl : l = v) : b = decide (x = u ∧ y = v) := by
  subst hi hj hk hl
  rw [hb, Bool.eq_iff_iff, Bool.and_eq_true, beq_iff_eq, beq_iff_eq, decide_eq_true_iff]
  omega
theorem w8 (j : Nat) (h : j ≤ 64) : IntKind.wrap .u8 (arI .add .i64 (j : Int) 1) = ((j + 1 : Nat) : Int) := by
  show IntKind.wrap .u8 (IntKind.i64.wrap ((j : Int) + 1)) = _
  rw [Go.IntWalk.i64_in _ (by omega), wrap_u8]; omega
theorem w8m {N M : Nat} (h : N ≤ 64) : IntKind.wrap .u8 (if (M : Int) < (N : Int) then (M : Int) else (N : Int)) = ((min N M : Nat) : Int) := by
  rw [wrap_u8]; split <;> omega

theorem e4_7 : Tab.fn a4 7 = F7 := Tab.fn_hd
theorem e4_8 : Tab.fn a4 8 = F8 := ((Tab.fn_tl rfl).trans Tab.fn_hd)
theorem e4_17 : Tab.fn a4 17 = F17 := ((Tab.fn_tl rfl).trans ((Tab.fn_tl rfl).trans Tab.fn_hd))
theorem e4_18 : Tab.fn a4 18 = F18 := ((Tab.fn_tl rfl).trans ((Tab.fn_tl rfl).trans ((Tab.fn_tl rfl).trans Tab.fn_hd)))
theorem e4_19 : Tab.fn a4 19 = F19 := ((Tab.fn_tl rfl).trans ((Tab.fn_tl rfl).trans ((Tab.fn_tl rfl).trans ((Tab.fn_tl rfl).trans Tab.fn_hd))))
theorem e4_20 : Tab.fn a4 20 = F20 := ((Tab.fn_tl rfl).trans ((Tab.fn_tl rfl).trans ((Tab.fn_tl rfl).trans ((Tab.fn_tl rfl).trans ((Tab.fn_tl rfl).trans Tab.fn_hd)))))
theorem e4_21 : Tab.fn a4 21 = F21 := ((Tab.fn_tl rfl).trans ((Tab.fn_tl rfl).trans ((Tab.fn_tl rfl).trans ((Tab.fn_tl rfl).trans ((Tab.fn_tl rfl).trans ((Tab.fn_tl rfl).trans Tab.fn_hd))))))
theorem e4_10 : Tab.fn a4 10 = F10 := ((Tab.fn_tl rfl).trans ((Tab.fn_tl rfl).trans ((Tab.fn_tl rfl).trans ((Tab.fn_tl rfl).trans ((Tab.fn_tl rfl).trans ((Tab.fn_tl rfl).trans ((Tab.fn_tl rfl).trans Tab.fn_hd)))))))
theorem e4_22 : Tab.fn a4 22 = F22 := ((Tab.fn_tl rfl).trans ((Tab.fn_tl rfl).trans ((Tab.fn_tl rfl).trans ((Tab.fn_tl rfl).trans ((Tab.fn_tl rfl).trans ((Tab.fn_tl rfl).trans ((Tab.fn_tl rfl).trans ((Tab.fn_tl rfl).trans Tab.fn_hd))))))))
theorem e4_9 : Tab.fn a4 9 = F9 := ((Tab.fn_tl rfl).trans ((Tab.fn_tl rfl).trans ((Tab.fn_tl rfl).trans ((Tab.fn_tl rfl).trans ((Tab.fn_tl rfl).trans ((Tab.fn_tl rfl).trans ((Tab.fn_tl rfl).trans ((Tab.fn_tl rfl).trans ((Tab.fn_tl rfl).trans Tab.fn_hd)))))))))

set_option maxHeartbeats 20000000 in
theorem law (i0 i1 i2 i3 i4 : Int) (w0 : (Lit.int .u64 i0).wf = true) (w1 : (Lit.int .u64 i1).wf = true) (w2 : (Lit.int .u64 i2).wf = true) (w3 : (Lit.int .u8 i3).wf = true) (w4 : (Lit.int .u8 i4).wf = true) : F4 [i0, i1, i2, i3, i4] [] = some ([], [true]) := by
  have v0 := wf_u64 w0
  obtain ⟨a, rfl⟩ := nats v0.1
  have ha : a < 2 ^ 64 := by omega
  have v1 := wf_u64 w1
  obtain ⟨b, rfl⟩ := nats v1.1
  have hb : b < 2 ^ 64 := by omega
  have v2 := wf_u64 w2
  obtain ⟨n, rfl⟩ := nats v2.1
  have hn : n < 2 ^ 64 := by omega
  have v3 := wf_u8 w3
  obtain ⟨k, rfl⟩ := nats v3.1
  have hk : k < 256 := by omega
  have v4 := wf_u8 w4
  obtain ⟨l, rfl⟩ := nats v4.1
  have hl : l < 256 := by omega
  refine Eq.trans (Fd_of (n := 5) (m := 0) (t := t4) (C := Tab.fn a4) rfl rfl) ?_
  rw [t4]
  refine st_0_1 (e4_7) (g := true) rfl (l := []) rfl (m := []) rfl (cl_t q7) fun b0 hb0 => ?_
  show T.den _ _ [(a : Int), (b : Int), (n : Int), (k : Int), (l : Int)] [b0] = _
  refine st_ite (fun hc => ?_) (fun hc => ?_)
  · replace hc : (!b0) = true := hc
    have c1 := hc
    clear hc
    refine st_ret ?_
    show some ([], [false]) = _
    rw [hb0] at c1; cases c1
  · replace hc : (!b0) = false := hc
    have c2 := hc
    clear hc
    refine st_2_0 (e4_8) (g := true) rfl (l := [(a : Int), (k : Int)]) rfl (m := []) rfl (cl_t (q8 a k ha hk)) fun i5 i6 hi5 hi6 => ?_
    show T.den _ _ [(a : Int), (b : Int), (n : Int), (k : Int), (l : Int), i5, i6] [b0] = _
    obtain ⟨N, eN⟩ : ∃ x, x = k % 65 := ⟨_, rfl⟩
    rw [← eN] at hi5 hi6
    obtain ⟨r, er⟩ : ∃ x, x = a % 2 ^ N := ⟨_, rfl⟩
    rw [← er] at hi6
    have hN : N ≤ 64 := by omega
    have hr : r < 2 ^ 64 := by rw [er]; exact mod_lt64 _ _ ha
    have rl : r < 2 ^ N := by rw [er]; exact Nat.mod_lt _ (pow_pos _)
    refine st_2_0 (e4_8) (g := true) rfl (l := [(b : Int), (l : Int)]) rfl (m := []) rfl (cl_t (q8 b l hb hl)) fun i7 i8 hi7 hi8 => ?_
    show T.den _ _ [(a : Int), (b : Int), (n : Int), (k : Int), (l : Int), i5, i6, i7, i8] [b0] = _
    obtain ⟨M, eM⟩ : ∃ x, x = l % 65 := ⟨_, rfl⟩
    rw [← eM] at hi7 hi8
    obtain ⟨q, eq⟩ : ∃ x, x = b % 2 ^ M := ⟨_, rfl⟩
    rw [← eq] at hi8
    have hM : M ≤ 64 := by omega
    have hq : q < 2 ^ 64 := by rw [eq]; exact mod_lt64 _ _ hb
    have ql : q < 2 ^ M := by rw [eq]; exact Nat.mod_lt _ (pow_pos _)
    obtain ⟨p, hx⟩ := q17 N r n hN rl hn
    have hp := hx.2.1
    have pm := hx.2.2
    refine st_1_0 (e4_17) (g := true) rfl (l := [i5, i6, (n : Int)]) rfl (m := []) rfl (cl_t ((show F17 [i5, i6, (n : Int)] [] = F17 [(N : Int), (r : Int), (n : Int)] [] from by rw [hi5, hi6]).trans hx.1)) fun i9 hi9 => ?_
    show T.den _ _ [(a : Int), (b : Int), (n : Int), (k : Int), (l : Int), i5, i6, i7, i8, i9] [b0] = _
    refine st_0_1 (e4_18) (g := true) rfl (l := [i5, i6]) rfl (m := []) rfl (cl_t ((show F18 [i5, i6] [] = F18 [(N : Int), (r : Int)] [] from by rw [hi5, hi6]).trans (q18 N r hN hr))) fun b1 hb1 => ?_
    show T.den _ _ [(a : Int), (b : Int), (n : Int), (k : Int), (l : Int), i5, i6, i7, i8, i9] [b0, b1] = _
    have t1 : b1 = true := hb1.trans (decide_eq_true rl)
    refine st_0_1 (e4_19) (g := b1) rfl (l := [i5, i6, i9]) rfl (m := []) rfl (cl_b ((show F19 [i5, i6, i9] [] = F19 [(N : Int), (r : Int), (p : Int)] [] from by rw [hi5, hi6, hi9]).trans (q19 N r p hN hr hp))) fun b2 hb2 => ?_
    show T.den _ _ [(a : Int), (b : Int), (n : Int), (k : Int), (l : Int), i5, i6, i7, i8, i9] [b0, b1, b2] = _
    simp only [t1, Bool.and_true, Bool.true_and, Bool.not_true, Bool.not_false, Bool.or_self, Bool.or_false, cond_true] at hb2
    have t2 : b2 = true := hb2.trans (hs_of (by rw [pm, Nat.mod_eq_of_lt rl]))
    refine st_0_1 (e4_19) (g := (!((!b1) || (!b2)))) rfl (l := [i5, i6, (a : Int)]) rfl (m := []) rfl (cl_b ((show F19 [i5, i6, (a : Int)] [] = F19 [(N : Int), (r : Int), (a : Int)] [] from by rw [hi5, hi6]).trans (q19 N r a hN hr ha))) fun b3 hb3 => ?_
    show T.den _ _ [(a : Int), (b : Int), (n : Int), (k : Int), (l : Int), i5, i6, i7, i8, i9] [b0, b1, b2, b3] = _
    simp only [t1, t2, Bool.and_true, Bool.true_and, Bool.not_true, Bool.not_false, Bool.or_self, Bool.or_false, cond_true] at hb3
    have t3 : b3 = true := hb3.trans (hs_of (by rw [er, Nat.mod_mod]))
    refine st_lb fun b4 hb4 => ?_
    replace hb4 : b4 = (((!b1) || (!b2)) || (!b3)) := hb4
    show T.den _ _ [(a : Int), (b : Int), (n : Int), (k : Int), (l : Int), i5, i6, i7, i8, i9] [b0, b1, b2, b3, b4] = _
    refine st_0_1 (e4_19) (g := (!b4)) rfl (l := [i7, i8, i9]) rfl (m := []) rfl (cl_b ((show F19 [i7, i8, i9] [] = F19 [(M : Int), (q : Int), (p : Int)] [] from by rw [hi7, hi8, hi9]).trans (q19 M q p hM hq hp))) fun b5 hb5 => ?_
    show T.den _ _ [(a : Int), (b : Int), (n : Int), (k : Int), (l : Int), i5, i6, i7, i8, i9] [b0, b1, b2, b3, b4, b5] = _
    have f4 : b4 = false := by rw [hb4, t1, t2, t3]; rfl
    simp only [f4, Bool.and_true, Bool.true_and, Bool.not_true, Bool.not_false, Bool.or_self, Bool.or_false, cond_true] at hb5
    refine st_2_0 (e4_8) (g := (!b4)) rfl (l := [i9, (l : Int)]) rfl (m := []) rfl (cl_2 ((show F8 [i9, (l : Int)] [] = F8 [(p : Int), (l : Int)] [] from by rw [hi9]).trans (q8 p l hp hl))) fun i10 i11 hi10 hi11 => ?_
    show T.den _ _ [(a : Int), (b : Int), (n : Int), (k : Int), (l : Int), i5, i6, i7, i8, i9, i10, i11] [b0, b1, b2, b3, b4, b5] = _
    simp only [f4, Bool.and_true, Bool.true_and, Bool.not_true, Bool.not_false, Bool.or_self, Bool.or_false, cond_true] at hi10 hi11
    rw [← eM] at hi10 hi11
    refine st_lb fun b6 hb6 => ?_
    replace hb6 : b6 = ((i10 == i7) && (i11 == i8)) := hb6
    show T.den _ _ [(a : Int), (b : Int), (n : Int), (k : Int), (l : Int), i5, i6, i7, i8, i9, i10, i11] [b0, b1, b2, b3, b4, b5, b6] = _
    refine st_ite (fun hc => ?_) (fun hc => ?_)
    · replace hc : (b4 || (!(b5 == b6))) = true := hc
      have c3 := hc
      clear hc
      refine st_ret ?_
      show some ([], [false]) = _
      exfalso
      have e := eq_b hb6 hi10 hi11 hi7 hi8
      have e2 : b5 = b6 := by
        rw [hb5, e]; unfold hs; rw [Nat.mod_eq_of_lt ql, Bool.eq_iff_iff, decide_eq_true_iff, decide_eq_true_iff]; simp
      rw [f4, e2] at c3; simp at c3
    · replace hc : (b4 || (!(b5 == b6))) = false := hc
      have c4 := hc
      clear hc
      refine st_2_0 (e4_20) (g := true) rfl (l := [i5, i6, i7, i8]) rfl (m := []) rfl (cl_t ((show F20 [i5, i6, i7, i8] [] = F20 [(N : Int), (r : Int), (M : Int), (q : Int)] [] from by rw [hi5, hi6, hi7, hi8]).trans (q20 N r M q hN hr hM hq))) fun i12 i13 hi12 hi13 => ?_
      show T.den _ _ [(a : Int), (b : Int), (n : Int), (k : Int), (l : Int), i5, i6, i7, i8, i9, i10, i11, i12, i13] [b0, b1, b2, b3, b4, b5, b6] = _
      rw [cN_eq] at hi12
      rw [cR_eq _ _ _ rl] at hi13
      obtain ⟨j, ej⟩ : ∃ x, x = min N (min M (z r q)) := ⟨_, rfl⟩
      rw [← ej] at hi12 hi13
      obtain ⟨jr, ejr⟩ : ∃ x, x = r % 2 ^ j := ⟨_, rfl⟩
      rw [← ejr] at hi13
      have hj : j ≤ 64 := by omega
      have hjr : jr < 2 ^ 64 := by rw [ejr]; exact mod_lt64 _ _ hr
      have eq : r % 2 ^ j = q % 2 ^ j := (z_iff r q j hr hq hj).2 (by omega)
      have jm : jr % 2 ^ j = jr := by rw [ejr, Nat.mod_mod]
      refine st_2_1 (e4_21) (g := true) rfl (l := [i5, i6, i7, i8]) rfl (m := []) rfl (cl_t ((show F21 [i5, i6, i7, i8] [] = F21 [(N : Int), (r : Int), (M : Int), (q : Int)] [] from by rw [hi5, hi6, hi7, hi8]).trans (q21 N r M q hN hr hM hq))) fun i14 i15 b7 hi14 hi15 hb7 => ?_
      show T.den _ _ [(a : Int), (b : Int), (n : Int), (k : Int), (l : Int), i5, i6, i7, i8, i9, i10, i11, i12, i13, i14, i15] [b0, b1, b2, b3, b4, b5, b6, b7] = _
      have hml := meet_law N r M q n hN hM hr hq
      generalize mN N r M q = m0 at *
      generalize mR N r M q = mr at *
      have hm0 := hml.1.1
      have hmr := hml.1.2
      refine st_0_1 (e4_18) (g := true) rfl (l := [i12, i13]) rfl (m := []) rfl (cl_t ((show F18 [i12, i13] [] = F18 [(j : Int), (jr : Int)] [] from by rw [hi12, hi13]).trans (q18 j jr hj hjr))) fun b8 hb8 => ?_
      show T.den _ _ [(a : Int), (b : Int), (n : Int), (k : Int), (l : Int), i5, i6, i7, i8, i9, i10, i11, i12, i13, i14, i15] [b0, b1, b2, b3, b4, b5, b6, b7, b8] = _
      have t8 : b8 = true := hb8.trans (decide_eq_true (by rw [ejr]; exact Nat.mod_lt _ (pow_pos _)))
      refine st_0_1 (e4_19) (g := b8) rfl (l := [i12, i13, i9]) rfl (m := []) rfl (cl_b ((show F19 [i12, i13, i9] [] = F19 [(j : Int), (jr : Int), (p : Int)] [] from by rw [hi12, hi13, hi9]).trans (q19 j jr p hj hjr hp))) fun b9 hb9 => ?_
      show T.den _ _ [(a : Int), (b : Int), (n : Int), (k : Int), (l : Int), i5, i6, i7, i8, i9, i10, i11, i12, i13, i14, i15] [b0, b1, b2, b3, b4, b5, b6, b7, b8, b9] = _
      simp only [t8, Bool.and_true, Bool.true_and, Bool.not_true, Bool.not_false, Bool.or_self, Bool.or_false, cond_true] at hb9
      have t9 : b9 = true := hb9.trans (hs_of (by rw [jm, ejr, ← mod_mod_pow p (show j ≤ N by omega), pm]))
      refine st_0_1 (e4_10) (g := (!((!b8) || (!b9)))) rfl (l := [i5, i6, i12, i13]) rfl (m := []) rfl (cl_b ((show F10 [i5, i6, i12, i13] [] = F10 [(N : Int), (r : Int), (j : Int), (jr : Int)] [] from by rw [hi12, hi13, hi5, hi6]).trans (q10 N r j jr hN hr hj hjr))) fun b10 hb10 => ?_
      show T.den _ _ [(a : Int), (b : Int), (n : Int), (k : Int), (l : Int), i5, i6, i7, i8, i9, i10, i11, i12, i13, i14, i15] [b0, b1, b2, b3, b4, b5, b6, b7, b8, b9, b10] = _
      simp only [t8, t9, Bool.and_true, Bool.true_and, Bool.not_true, Bool.not_false, Bool.or_self, Bool.or_false, cond_true] at hb10
      have t10 : b10 = true := hb10.trans (wt (by omega) (by rw [jm, ejr]))
      refine st_lb fun b11 hb11 => ?_
      replace hb11 : b11 = (((!b8) || (!b9)) || (!b10)) := hb11
      show T.den _ _ [(a : Int), (b : Int), (n : Int), (k : Int), (l : Int), i5, i6, i7, i8, i9, i10, i11, i12, i13, i14, i15] [b0, b1, b2, b3, b4, b5, b6, b7, b8, b9, b10, b11] = _
      refine st_0_1 (e4_10) (g := (!b11)) rfl (l := [i7, i8, i12, i13]) rfl (m := []) rfl (cl_b ((show F10 [i7, i8, i12, i13] [] = F10 [(M : Int), (q : Int), (j : Int), (jr : Int)] [] from by rw [hi12, hi13, hi7, hi8]).trans (q10 M q j jr hM hq hj hjr))) fun b12 hb12 => ?_
      show T.den _ _ [(a : Int), (b : Int), (n : Int), (k : Int), (l : Int), i5, i6, i7, i8, i9, i10, i11, i12, i13, i14, i15] [b0, b1, b2, b3, b4, b5, b6, b7, b8, b9, b10, b11, b12] = _
      have f11 : b11 = false := by rw [hb11, t8, t9, t10]; rfl
      simp only [f11, Bool.and_true, Bool.true_and, Bool.not_true, Bool.not_false, Bool.or_self, Bool.or_false, cond_true] at hb12
      have t12 : b12 = true := hb12.trans (wt (by omega) (by rw [jm, ejr, eq]))
      refine st_2_0 (e4_20) (g := (!(b11 || (!b12)))) rfl (l := [i7, i8, i5, i6]) rfl (m := []) rfl (cl_2 ((show F20 [i7, i8, i5, i6] [] = F20 [(M : Int), (q : Int), (N : Int), (r : Int)] [] from by rw [hi5, hi6, hi7, hi8]).trans (q20 M q N r hM hq hN hr))) fun i16 i17 hi16 hi17 => ?_
      show T.den _ _ [(a : Int), (b : Int), (n : Int), (k : Int), (l : Int), i5, i6, i7, i8, i9, i10, i11, i12, i13, i14, i15, i16, i17] [b0, b1, b2, b3, b4, b5, b6, b7, b8, b9, b10, b11, b12] = _
      simp only [f11, t12, Bool.and_true, Bool.true_and, Bool.not_true, Bool.not_false, Bool.or_self, Bool.or_false, cond_true] at hi16 hi17
      rw [cN_eq, z_comm, show min M (min N (z r q)) = j from by omega] at hi16
      rw [cR_eq _ _ _ ql, z_comm, show min M (min N (z r q)) = j from by omega, ← eq, ← ejr] at hi17
      refine st_lb fun b13 hb13 => ?_
      replace hb13 : b13 = (!((i16 == i12) && (i17 == i13))) := hb13
      show T.den _ _ [(a : Int), (b : Int), (n : Int), (k : Int), (l : Int), i5, i6, i7, i8, i9, i10, i11, i12, i13, i14, i15, i16, i17] [b0, b1, b2, b3, b4, b5, b6, b7, b8, b9, b10, b11, b12, b13] = _
      refine st_0_1 (e4_10) (g := (!((b11 || (!b12)) || b13))) rfl (l := [i5, i6, i7, i8]) rfl (m := []) rfl (cl_b ((show F10 [i5, i6, i7, i8] [] = F10 [(N : Int), (r : Int), (M : Int), (q : Int)] [] from by rw [hi5, hi6, hi7, hi8]).trans (q10 N r M q hN hr hM hq))) fun b14 hb14 => ?_
      show T.den _ _ [(a : Int), (b : Int), (n : Int), (k : Int), (l : Int), i5, i6, i7, i8, i9, i10, i11, i12, i13, i14, i15, i16, i17] [b0, b1, b2, b3, b4, b5, b6, b7, b8, b9, b10, b11, b12, b13, b14] = _
      have f13 : b13 = false := by rw [hb13, hi16, hi17, hi12, hi13, beq_self_eq_true, beq_self_eq_true]; rfl
      simp only [f11, t12, f13, Bool.and_true, Bool.true_and, Bool.not_true, Bool.not_false, Bool.or_self, Bool.or_false, cond_true] at hb14
      refine st_lb fun b15 hb15 => ?_
      replace hb15 : b15 = ((i12 == i7) && (i13 == i8)) := hb15
      show T.den _ _ [(a : Int), (b : Int), (n : Int), (k : Int), (l : Int), i5, i6, i7, i8, i9, i10, i11, i12, i13, i14, i15, i16, i17] [b0, b1, b2, b3, b4, b5, b6, b7, b8, b9, b10, b11, b12, b13, b14, b15] = _
      refine st_lb fun b16 hb16 => ?_
      replace hb16 : b16 = (((b11 || (!b12)) || b13) || (!(b14 == b15))) := hb16
      show T.den _ _ [(a : Int), (b : Int), (n : Int), (k : Int), (l : Int), i5, i6, i7, i8, i9, i10, i11, i12, i13, i14, i15, i16, i17] [b0, b1, b2, b3, b4, b5, b6, b7, b8, b9, b10, b11, b12, b13, b14, b15, b16] = _
      refine st_ite (fun hc => ?_) (fun hc => ?_)
      · replace hc : b16 = true := hc
        have c5 := hc
        clear hc
        refine st_ret ?_
        show some ([], [false]) = _
        exfalso
        have e := eq_b hb15 hi12 hi13 hi7 hi8
        have e2 : b14 = b15 := by
          rw [hb14, e]; unfold hs; rw [Nat.mod_eq_of_lt ql, Bool.eq_iff_iff, Bool.and_eq_true, decide_eq_true_iff, decide_eq_true_iff, decide_eq_true_iff]
          constructor
          · rintro ⟨h1, h2⟩
            have h3 := (z_iff r q M hr hq hM).1 (by rw [Nat.mod_eq_of_lt ql]; exact h2)
            have h4 : j = M := by omega
            exact ⟨h4, by rw [ejr, h4, h2]⟩
          · rintro ⟨h1, h2⟩
            exact ⟨by omega, by rw [← h1, ← ejr]; exact h2⟩
        rw [hb16, f11, t12, f13, e2] at c5; simp at c5
      · replace hc : b16 = false := hc
        have c6 := hc
        clear hc
        refine st_2_0 (e4_8) (g := (decide (i12 < (if i7 < i5 then i7 else i5)))) rfl (l := [i6, (IntKind.wrap .u8 (arI .add .i64 i12 1))]) rfl (m := []) rfl (cl_2 ((show F8 [i6, (IntKind.wrap .u8 (arI .add .i64 i12 1))] [] = F8 [(r : Int), ((j + 1 : Nat) : Int)] [] from by rw [hi6, hi12, w8 j hj]).trans (q8 r (j + 1) hr (by omega)))) fun i18 i19 hi18 hi19 => ?_
        show T.den _ _ [(a : Int), (b : Int), (n : Int), (k : Int), (l : Int), i5, i6, i7, i8, i9, i10, i11, i12, i13, i14, i15, i16, i17, i18, i19] [b0, b1, b2, b3, b4, b5, b6, b7, b8, b9, b10, b11, b12, b13, b14, b15, b16] = _
        refine st_2_0 (e4_8) (g := (decide (i12 < (if i7 < i5 then i7 else i5)))) rfl (l := [i8, (IntKind.wrap .u8 (arI .add .i64 i12 1))]) rfl (m := []) rfl (cl_2 ((show F8 [i8, (IntKind.wrap .u8 (arI .add .i64 i12 1))] [] = F8 [(q : Int), ((j + 1 : Nat) : Int)] [] from by rw [hi8, hi12, w8 j hj]).trans (q8 q (j + 1) hq (by omega)))) fun i20 i21 hi20 hi21 => ?_
        show T.den _ _ [(a : Int), (b : Int), (n : Int), (k : Int), (l : Int), i5, i6, i7, i8, i9, i10, i11, i12, i13, i14, i15, i16, i17, i18, i19, i20, i21] [b0, b1, b2, b3, b4, b5, b6, b7, b8, b9, b10, b11, b12, b13, b14, b15, b16] = _
        refine st_lb fun b17 hb17 => ?_
        replace hb17 : b17 = ((i18 == i20) && (i19 == i21)) := hb17
        show T.den _ _ [(a : Int), (b : Int), (n : Int), (k : Int), (l : Int), i5, i6, i7, i8, i9, i10, i11, i12, i13, i14, i15, i16, i17, i18, i19, i20, i21] [b0, b1, b2, b3, b4, b5, b6, b7, b8, b9, b10, b11, b12, b13, b14, b15, b16, b17] = _
        refine st_lb fun b18 hb18 => ?_
        replace hb18 : b18 = ((decide (i12 < (if i7 < i5 then i7 else i5))) && b17) := hb18
        show T.den _ _ [(a : Int), (b : Int), (n : Int), (k : Int), (l : Int), i5, i6, i7, i8, i9, i10, i11, i12, i13, i14, i15, i16, i17, i18, i19, i20, i21] [b0, b1, b2, b3, b4, b5, b6, b7, b8, b9, b10, b11, b12, b13, b14, b15, b16, b17, b18] = _
        refine st_ite (fun hc => ?_) (fun hc => ?_)
        · replace hc : b18 = true := hc
          have c7 := hc
          clear hc
          refine st_ret ?_
          show some ([], [false]) = _
          exfalso
          rw [hb18, hb17] at c7
          cases hg : decide (i12 < (if i7 < i5 then i7 else i5))
          · rw [hg] at c7; cases c7
          · simp only [hg, cond_true, Bool.true_and] at hi18 hi19 hi20 hi21 c7
            rw [decide_eq_true_eq, hi12, hi5, hi7] at hg
            have g1 : j < N ∧ j < M := by revert hg; split <;> intro hg <;> omega
            rw [show (j + 1) % 65 = j + 1 from by omega] at hi19 hi21
            have g2 : r % 2 ^ (j + 1) = q % 2 ^ (j + 1) := by
              simp only [Bool.and_eq_true, beq_iff_eq] at c7
              rw [hi19, hi21] at c7; omega
            have g3 := (z_iff r q (j + 1) hr hq (by omega)).1 g2
            omega
        · replace hc : b18 = false := hc
          have c8 := hc
          clear hc
          refine st_0_1 (e4_19) (g := true) rfl (l := [i5, i6, (n : Int)]) rfl (m := []) rfl (cl_t ((show F19 [i5, i6, (n : Int)] [] = F19 [(N : Int), (r : Int), (n : Int)] [] from by rw [hi5, hi6]).trans (q19 N r n hN hr hn))) fun b19 hb19 => ?_
          show T.den _ _ [(a : Int), (b : Int), (n : Int), (k : Int), (l : Int), i5, i6, i7, i8, i9, i10, i11, i12, i13, i14, i15, i16, i17, i18, i19, i20, i21] [b0, b1, b2, b3, b4, b5, b6, b7, b8, b9, b10, b11, b12, b13, b14, b15, b16, b17, b18, b19] = _
          refine st_0_1 (e4_19) (g := b19) rfl (l := [i7, i8, (n : Int)]) rfl (m := []) rfl (cl_b ((show F19 [i7, i8, (n : Int)] [] = F19 [(M : Int), (q : Int), (n : Int)] [] from by rw [hi7, hi8]).trans (q19 M q n hM hq hn))) fun b20 hb20 => ?_
          show T.den _ _ [(a : Int), (b : Int), (n : Int), (k : Int), (l : Int), i5, i6, i7, i8, i9, i10, i11, i12, i13, i14, i15, i16, i17, i18, i19, i20, i21] [b0, b1, b2, b3, b4, b5, b6, b7, b8, b9, b10, b11, b12, b13, b14, b15, b16, b17, b18, b19, b20] = _
          refine st_0_1 (e4_19) (g := ((b19 && b20) && b7)) rfl (l := [i14, i15, (n : Int)]) rfl (m := []) rfl (cl_b ((show F19 [i14, i15, (n : Int)] [] = F19 [(m0 : Int), (mr : Int), (n : Int)] [] from by rw [hi14, hi15]).trans (q19 m0 mr n hm0 hmr hn))) fun b21 hb21 => ?_
          show T.den _ _ [(a : Int), (b : Int), (n : Int), (k : Int), (l : Int), i5, i6, i7, i8, i9, i10, i11, i12, i13, i14, i15, i16, i17, i18, i19, i20, i21] [b0, b1, b2, b3, b4, b5, b6, b7, b8, b9, b10, b11, b12, b13, b14, b15, b16, b17, b18, b19, b20, b21] = _
          refine st_lb fun b22 hb22 => ?_
          replace hb22 : b22 = ((b19 && b20) && ((!b7) || (!b21))) := hb22
          show T.den _ _ [(a : Int), (b : Int), (n : Int), (k : Int), (l : Int), i5, i6, i7, i8, i9, i10, i11, i12, i13, i14, i15, i16, i17, i18, i19, i20, i21] [b0, b1, b2, b3, b4, b5, b6, b7, b8, b9, b10, b11, b12, b13, b14, b15, b16, b17, b18, b19, b20, b21, b22] = _
          refine st_0_1 (e4_10) (g := ((!b22) && b7)) rfl (l := [i14, i15, i5, i6]) rfl (m := []) rfl (cl_b ((show F10 [i14, i15, i5, i6] [] = F10 [(m0 : Int), (mr : Int), (N : Int), (r : Int)] [] from by rw [hi14, hi15, hi5, hi6]).trans (q10 m0 mr N r hm0 hmr hN hr))) fun b23 hb23 => ?_
          show T.den _ _ [(a : Int), (b : Int), (n : Int), (k : Int), (l : Int), i5, i6, i7, i8, i9, i10, i11, i12, i13, i14, i15, i16, i17, i18, i19, i20, i21] [b0, b1, b2, b3, b4, b5, b6, b7, b8, b9, b10, b11, b12, b13, b14, b15, b16, b17, b18, b19, b20, b21, b22, b23] = _
          refine st_0_1 (e4_10) (g := (((!b22) && b7) && b23)) rfl (l := [i14, i15, i7, i8]) rfl (m := []) rfl (cl_b ((show F10 [i14, i15, i7, i8] [] = F10 [(m0 : Int), (mr : Int), (M : Int), (q : Int)] [] from by rw [hi14, hi15, hi7, hi8]).trans (q10 m0 mr M q hm0 hmr hM hq))) fun b24 hb24 => ?_
          show T.den _ _ [(a : Int), (b : Int), (n : Int), (k : Int), (l : Int), i5, i6, i7, i8, i9, i10, i11, i12, i13, i14, i15, i16, i17, i18, i19, i20, i21] [b0, b1, b2, b3, b4, b5, b6, b7, b8, b9, b10, b11, b12, b13, b14, b15, b16, b17, b18, b19, b20, b21, b22, b23, b24] = _
          refine st_0_1 (e4_19) (g := (((!b22) && b7) && (!((!b23) || (!b24))))) rfl (l := [i14, i15, (n : Int)]) rfl (m := []) rfl (cl_b ((show F19 [i14, i15, (n : Int)] [] = F19 [(m0 : Int), (mr : Int), (n : Int)] [] from by rw [hi14, hi15]).trans (q19 m0 mr n hm0 hmr hn))) fun b25 hb25 => ?_
          show T.den _ _ [(a : Int), (b : Int), (n : Int), (k : Int), (l : Int), i5, i6, i7, i8, i9, i10, i11, i12, i13, i14, i15, i16, i17, i18, i19, i20, i21] [b0, b1, b2, b3, b4, b5, b6, b7, b8, b9, b10, b11, b12, b13, b14, b15, b16, b17, b18, b19, b20, b21, b22, b23, b24, b25] = _
          refine st_0_1 (e4_19) (g := ((((!b22) && b7) && (!((!b23) || (!b24)))) && b25)) rfl (l := [i5, i6, (n : Int)]) rfl (m := []) rfl (cl_b ((show F19 [i5, i6, (n : Int)] [] = F19 [(N : Int), (r : Int), (n : Int)] [] from by rw [hi5, hi6]).trans (q19 N r n hN hr hn))) fun b26 hb26 => ?_
          show T.den _ _ [(a : Int), (b : Int), (n : Int), (k : Int), (l : Int), i5, i6, i7, i8, i9, i10, i11, i12, i13, i14, i15, i16, i17, i18, i19, i20, i21] [b0, b1, b2, b3, b4, b5, b6, b7, b8, b9, b10, b11, b12, b13, b14, b15, b16, b17, b18, b19, b20, b21, b22, b23, b24, b25, b26] = _
          refine st_0_1 (e4_19) (g := (((((!b22) && b7) && (!((!b23) || (!b24)))) && b25) && b26)) rfl (l := [i7, i8, (n : Int)]) rfl (m := []) rfl (cl_b ((show F19 [i7, i8, (n : Int)] [] = F19 [(M : Int), (q : Int), (n : Int)] [] from by rw [hi7, hi8]).trans (q19 M q n hM hq hn))) fun b27 hb27 => ?_
          show T.den _ _ [(a : Int), (b : Int), (n : Int), (k : Int), (l : Int), i5, i6, i7, i8, i9, i10, i11, i12, i13, i14, i15, i16, i17, i18, i19, i20, i21] [b0, b1, b2, b3, b4, b5, b6, b7, b8, b9, b10, b11, b12, b13, b14, b15, b16, b17, b18, b19, b20, b21, b22, b23, b24, b25, b26, b27] = _
          refine st_lb fun b28 hb28 => ?_
          replace hb28 : b28 = (((!b23) || (!b24)) || (b25 && (!(b26 && b27)))) := hb28
          show T.den _ _ [(a : Int), (b : Int), (n : Int), (k : Int), (l : Int), i5, i6, i7, i8, i9, i10, i11, i12, i13, i14, i15, i16, i17, i18, i19, i20, i21] [b0, b1, b2, b3, b4, b5, b6, b7, b8, b9, b10, b11, b12, b13, b14, b15, b16, b17, b18, b19, b20, b21, b22, b23, b24, b25, b26, b27, b28] = _
          refine st_lb fun b29 hb29 => ?_
          replace hb29 : b29 = (!((i14 == 0) && (i15 == 0))) := hb29
          show T.den _ _ [(a : Int), (b : Int), (n : Int), (k : Int), (l : Int), i5, i6, i7, i8, i9, i10, i11, i12, i13, i14, i15, i16, i17, i18, i19, i20, i21] [b0, b1, b2, b3, b4, b5, b6, b7, b8, b9, b10, b11, b12, b13, b14, b15, b16, b17, b18, b19, b20, b21, b22, b23, b24, b25, b26, b27, b28, b29] = _
          refine st_lb fun b30 hb30 => ?_
          replace hb30 : b30 = ((b22 || (b7 && b28)) || ((!b7) && b29)) := hb30
          show T.den _ _ [(a : Int), (b : Int), (n : Int), (k : Int), (l : Int), i5, i6, i7, i8, i9, i10, i11, i12, i13, i14, i15, i16, i17, i18, i19, i20, i21] [b0, b1, b2, b3, b4, b5, b6, b7, b8, b9, b10, b11, b12, b13, b14, b15, b16, b17, b18, b19, b20, b21, b22, b23, b24, b25, b26, b27, b28, b29, b30] = _
          refine st_ite (fun hc => ?_) (fun hc => ?_)
          · replace hc : b30 = true := hc
            have c9 := hc
            clear hc
            refine st_ret ?_
            show some ([], [false]) = _
            exfalso
            have e := eq_b (b := !b29) (k := 0) (l := 0) (u := 0) (v := 0) (by rw [hb29, Bool.not_not]) hi14 hi15 rfl rfl
            have e2 := meet_bool (W1 := decide (N ≤ m0) && hs N r mr) (W2 := decide (M ≤ m0) && hs M q mr) (h := hs m0 mr n) (u := hs N r n) (v := hs M q n) (e0 := !b29) (hml.2.imp (fun h => ⟨hb7.trans h.1, h.2⟩) (fun h => ⟨hb7.trans h.1, by rw [e, decide_eq_true ⟨h.2.1, h.2.2.1⟩], h.2.2.2⟩)) hb19 hb20 hb21 hb22 hb23 hb24 hb25 hb26 hb27 hb28 (Bool.not_not b29).symm hb30
            rw [e2] at c9; cases c9
          · replace hc : b30 = false := hc
            have c10 := hc
            clear hc
            refine st_2_0 (e4_22) (g := true) rfl (l := [(n : Int)]) rfl (m := []) rfl (cl_t (q22 (n : Int))) fun i22 i23 hi22 hi23 => ?_
            show T.den _ _ [(a : Int), (b : Int), (n : Int), (k : Int), (l : Int), i5, i6, i7, i8, i9, i10, i11, i12, i13, i14, i15, i16, i17, i18, i19, i20, i21, i22, i23] [b0, b1, b2, b3, b4, b5, b6, b7, b8, b9, b10, b11, b12, b13, b14, b15, b16, b17, b18, b19, b20, b21, b22, b23, b24, b25, b26, b27, b28, b29, b30] = _
            refine st_lb fun b31 hb31 => ?_
            replace hb31 : b31 = ((i22 == 64) && (i23 == (n : Int))) := hb31
            show T.den _ _ [(a : Int), (b : Int), (n : Int), (k : Int), (l : Int), i5, i6, i7, i8, i9, i10, i11, i12, i13, i14, i15, i16, i17, i18, i19, i20, i21, i22, i23] [b0, b1, b2, b3, b4, b5, b6, b7, b8, b9, b10, b11, b12, b13, b14, b15, b16, b17, b18, b19, b20, b21, b22, b23, b24, b25, b26, b27, b28, b29, b30, b31] = _
            refine st_2_0 (e4_9) (g := b31) rfl (l := [i5, i6, i7]) rfl (m := []) rfl (cl_2 ((show F9 [i5, i6, i7] [] = F9 [(N : Int), (r : Int), (M : Int)] [] from by rw [hi5, hi6, hi7]).trans (q9 N r M hN hr))) fun i24 i25 hi24 hi25 => ?_
            show T.den _ _ [(a : Int), (b : Int), (n : Int), (k : Int), (l : Int), i5, i6, i7, i8, i9, i10, i11, i12, i13, i14, i15, i16, i17, i18, i19, i20, i21, i22, i23, i24, i25] [b0, b1, b2, b3, b4, b5, b6, b7, b8, b9, b10, b11, b12, b13, b14, b15, b16, b17, b18, b19, b20, b21, b22, b23, b24, b25, b26, b27, b28, b29, b30, b31] = _
            have t31 : b31 = true := by rw [hb31, hi22, hi23, beq_self_eq_true, beq_self_eq_true]; rfl
            simp only [t31, Bool.and_true, Bool.true_and, Bool.not_true, Bool.not_false, Bool.or_self, Bool.or_false, cond_true] at hi24 hi25
            refine st_2_0 (e4_8) (g := b31) rfl (l := [i6, (IntKind.wrap .u8 (if i7 < i5 then i7 else i5))]) rfl (m := []) rfl (cl_2 ((show F8 [i6, (IntKind.wrap .u8 (if i7 < i5 then i7 else i5))] [] = F8 [(r : Int), ((min N M : Nat) : Int)] [] from by rw [hi6, hi5, hi7, w8m hN]).trans (q8 r (min N M) hr (by omega)))) fun i26 i27 hi26 hi27 => ?_
            show T.den _ _ [(a : Int), (b : Int), (n : Int), (k : Int), (l : Int), i5, i6, i7, i8, i9, i10, i11, i12, i13, i14, i15, i16, i17, i18, i19, i20, i21, i22, i23, i24, i25, i26, i27] [b0, b1, b2, b3, b4, b5, b6, b7, b8, b9, b10, b11, b12, b13, b14, b15, b16, b17, b18, b19, b20, b21, b22, b23, b24, b25, b26, b27, b28, b29, b30, b31] = _
            simp only [t31, Bool.and_true, Bool.true_and, Bool.not_true, Bool.not_false, Bool.or_self, Bool.or_false, cond_true] at hi26 hi27
            refine st_lb fun b32 hb32 => ?_
            replace hb32 : b32 = ((i24 == i26) && (i25 == i27)) := hb32
            show T.den _ _ [(a : Int), (b : Int), (n : Int), (k : Int), (l : Int), i5, i6, i7, i8, i9, i10, i11, i12, i13, i14, i15, i16, i17, i18, i19, i20, i21, i22, i23, i24, i25, i26, i27] [b0, b1, b2, b3, b4, b5, b6, b7, b8, b9, b10, b11, b12, b13, b14, b15, b16, b17, b18, b19, b20, b21, b22, b23, b24, b25, b26, b27, b28, b29, b30, b31, b32] = _
            refine st_ret ?_
            show some ([], [(b31 && b32)]) = _
            rw [cN_eq] at hi24
            rw [cR_eq _ _ _ rl] at hi25
            rw [show min N M % 65 = min N M from by omega] at hi26 hi27
            have e := eq_b hb32 hi24 hi25 hi26 hi27
            rw [e, t31, decide_eq_true ⟨rfl, rfl⟩]; rfl
end Go.Proofs.YtfhmhoefeokihaaDoor.YLowLattice
