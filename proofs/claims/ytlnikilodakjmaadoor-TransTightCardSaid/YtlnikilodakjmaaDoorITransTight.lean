/-
  What the functions of layers 16 and 17 answer.
-/
import Derived.Test.YtlnikilodakjmaaDoorXTransTight
import Derived.Test.YtlnikilodakjmaaDoorSn
import Derived.Test.YtlnikilodakjmaaDoorNTransTight
import Derived.Lib.BitFns
import Derived.Lib.TrailingZeros
namespace Go.Proofs.YtlnikilodakjmaaDoor.ITransTight
open Go.Proofs.YtlnikilodakjmaaDoor.NTransTight Go.Proofs.YtlnikilodakjmaaDoor.Sx Go.Proofs.YtlnikilodakjmaaDoor.Sn Go.Proofs.YtlnikilodakjmaaDoor.XTransTight Go.Proofs.YtlnikilodakjmaaDoor.ETransTight
set_option linter.unusedSimpArgs false
set_option linter.unusedVariables false
theorem rb {a b : Bool} (h : a = b) : (some ([], [a]) : Option (List Int × List Bool)) = some ([], [b]) := by rw [h]
def mk (N : Int) : Int := if N ≥ 64 then 18446744073709551615 else arI .sub .u64 (arI .shl .u64 1 (IntKind.wrap .u64 (if 0 > N then 0 else N))) 1
def hL (N r n : Int) : Bool := (arI .and .u64 (arI .xor .u64 n r) (mk N)) == 0
def rL (N r : Int) : Bool := ((decide (N ≥ 0)) && (decide (N ≤ 64))) && ((arI .andNot .u64 r (mk N)) == 0)
theorem and_z (x : Int) : arI .and .u64 x 0 = 0 := by
  show IntKind.u64.wrap ((BitVec.ofInt 64 x &&& BitVec.ofInt 64 0).toNat : Int) = 0
  rw [show BitVec.ofInt 64 0 = 0#64 from rfl, BitVec.and_zero]; decide
theorem z_and (x : Int) : arI .and .u64 0 x = 0 := by
  show IntKind.u64.wrap ((BitVec.ofInt 64 0 &&& BitVec.ofInt 64 x).toNat : Int) = 0
  rw [show BitVec.ofInt 64 0 = 0#64 from rfl, BitVec.zero_and]; decide
theorem xor_self (x : Int) : arI .xor .u64 x x = 0 := by
  show IntKind.u64.wrap ((BitVec.ofInt 64 x ^^^ BitVec.ofInt 64 x).toNat : Int) = 0
  rw [BitVec.xor_self]; decide
theorem hL_0 (r n : Int) : hL 0 r n = true := by
  unfold hL; rw [show mk 0 = 0 from by decide +kernel, and_z]; rfl
theorem hL_self (N n : Int) : hL N n n = true := by
  unfold hL; rw [xor_self, z_and]; rfl
theorem rL_00 : rL 0 0 = true := by decide +kernel

set_option maxHeartbeats 4000000 in
theorem q61 (N : Int) : F61 [N] [] = some ([mk N], []) := by
  refine Eq.trans (Fd_of (n := 1) (m := 0) (t := t61) (C := Tab.fn a61) rfl rfl) ?_
  rw [t61]
  refine st_ite (fun hc => ?_) (fun hc => ?_)
  · replace hc : (decide (N ≥ 64)) = true := hc
    have c1 := hc
    clear hc
    refine st_ret ?_
    show some ([18446744073709551615], []) = _
    exact r1 (by unfold mk; rw [if_pos (of_decide_eq_true c1)])
  · replace hc : (decide (N ≥ 64)) = false := hc
    have c2 := hc
    clear hc
    refine st_rq (show (decide ((IntKind.wrap .u64 (if 0 > N then 0 else N)) ≥ 0)) = true from ?_) ?_
    · rw [decide_eq_true_eq, wrap_u64]
      exact Int.emod_nonneg _ (by decide)
    refine st_li fun i1 hi1 => ?_
    replace hi1 : i1 = (arI .sub .u64 (arI .shl .u64 1 (IntKind.wrap .u64 (if 0 > N then 0 else N))) 1) := hi1
    show T.den _ _ [N, i1] [] = _
    refine st_ret ?_
    show some ([i1], []) = _
    exact r1 (by unfold mk; rw [if_neg (of_decide_eq_false c2)]; exact hi1)

theorem e37_61 : Tab.fn a37 61 = F61 := Tab.fn_hd
theorem e30_61 : Tab.fn a30 61 = F61 := Tab.fn_hd


set_option maxHeartbeats 4000000 in
theorem q37 (N r n : Int) : F37 [N, r, n] [] = some ([], [hL N r n]) := by
  refine Eq.trans (Fd_of (n := 3) (m := 0) (t := t37) (C := Tab.fn a37) rfl rfl) ?_
  rw [t37]
  refine st_1_0 (e37_61) (g := true) rfl (l := [N]) rfl (m := []) rfl (cl_t (q61 N)) fun i3 hi3 => ?_
  show T.den _ _ [N, r, n, i3] [] = _
  refine st_lb fun b0 hb0 => ?_
  replace hb0 : b0 = ((arI .and .u64 (arI .xor .u64 n r) i3) == 0) := hb0
  show T.den _ _ [N, r, n, i3] [b0] = _
  refine st_ret ?_
  show some ([], [b0]) = _
  exact rb (by rw [hb0, hi3]; rfl)

set_option maxHeartbeats 4000000 in
theorem q30 (N r : Int) : F30 [N, r] [] = some ([], [rL N r]) := by
  refine Eq.trans (Fd_of (n := 2) (m := 0) (t := t30) (C := Tab.fn a30) rfl rfl) ?_
  rw [t30]
  refine st_lb fun b0 hb0 => ?_
  replace hb0 : b0 = ((decide (N ≥ 0)) && (decide (N ≤ 64))) := hb0
  show T.den _ _ [N, r] [b0] = _
  refine st_1_0 (e30_61) (g := b0) rfl (l := [N]) rfl (m := []) rfl (cl_1 (q61 N)) fun i2 hi2 => ?_
  show T.den _ _ [N, r, i2] [b0] = _
  refine st_lb fun b1 hb1 => ?_
  replace hb1 : b1 = (b0 && ((arI .andNot .u64 r i2) == 0)) := hb1
  show T.den _ _ [N, r, i2] [b0, b1] = _
  refine st_ret ?_
  show some ([], [b1]) = _
  refine rb ?_
  rw [hb1, hi2]; unfold rL; rw [← hb0]
  cases b0 <;> rfl

theorem pow_pos (i : Nat) : 0 < 2 ^ i := Nat.two_pow_pos i
theorem pow_lt {i : Nat} (h : i < 64) : 2 ^ i < 2 ^ 64 := Nat.pow_lt_pow_right (by decide) h
theorem pow_le {i j : Nat} (h : i ≤ j) : 2 ^ i ≤ 2 ^ j := Nat.pow_le_pow_right (by decide) h
theorem mod_lt64 (a i : Nat) (h : a < 2 ^ 64) : a % 2 ^ i < 2 ^ 64 := Nat.lt_of_le_of_lt (Nat.mod_le _ _) h
theorem mod_mod_pow (n : Nat) {i j : Nat} (h : i ≤ j) : n % 2 ^ j % 2 ^ i = n % 2 ^ i := Nat.mod_mod_of_dvd _ (Nat.pow_dvd_pow 2 h)
def hs (N r n : Nat) : Bool := decide (n % 2 ^ N = r % 2 ^ N)
theorem xor_mask_eq_zero (n r i : Nat) : (n ^^^ r) &&& (2 ^ i - 1) = 0 ↔ n % 2 ^ i = r % 2 ^ i := by
  rw [Nat.and_two_pow_sub_one_eq_mod, Nat.xor_mod_two_pow]
  constructor
  · intro h
    refine Nat.eq_of_testBit_eq fun j => ?_
    have h1 := congrArg (fun x => Nat.testBit x j) h
    simp only [Nat.testBit_xor, Nat.zero_testBit] at h1
    revert h1
    cases Nat.testBit (n % 2 ^ i) j <;> cases Nat.testBit (r % 2 ^ i) j <;> simp
  · intro h; rw [h, Nat.xor_self]
theorem mask_lt {N : Nat} (h : N ≤ 64) : 2 ^ N - 1 < 2 ^ 64 := by have := pow_le h; have := pow_pos N; omega
theorem bandNot (a b : Nat) (ha : a < 2 ^ 64) (hb : b < 2 ^ 64) : arI .andNot .u64 (a : Int) (b : Int) = ((a &&& (2 ^ 64 - (b + 1)) : Nat) : Int) := by
  show IntKind.u64.wrap ((BitVec.ofInt 64 (a : Int) &&& ~~~(BitVec.ofInt 64 (b : Int))).toNat : Int) = _
  have e : 2 ^ 64 - 1 - b = 2 ^ 64 - (b + 1) := by omega
  rw [BitVec.toNat_and, BitVec.toNat_not, toN a ha, toN b hb, e]
  exact wraps_u64 _ (by omega) (by have := @Nat.and_le_left a (2 ^ 64 - (b + 1)); omega)
theorem and_not_mask_eq_zero {r i : Nat} (hr : r < 2 ^ 64) (hi : i ≤ 64) : r &&& (2 ^ 64 - (2 ^ i - 1 + 1)) = 0 ↔ r < 2 ^ i := by
  have e : 2 ^ 64 - (2 ^ i - 1 + 1) = 2 ^ 64 - 2 ^ i := by have := pow_pos i; omega
  have d : 2 ^ 64 - 2 ^ i = (2 ^ (64 - i) - 1) * 2 ^ i := by rw [Nat.sub_mul, ← Nat.pow_add, Nat.sub_add_cancel hi, Nat.one_mul]
  have k : r &&& (2 ^ 64 - (2 ^ i - 1 + 1)) = r / 2 ^ i * 2 ^ i := by
    rw [e, d]
    refine Nat.eq_of_testBit_eq fun j => ?_
    rw [Nat.testBit_and, Nat.testBit_mul_two_pow, Nat.testBit_mul_two_pow, Nat.testBit_two_pow_sub_one, Nat.testBit_div_two_pow]
    by_cases h : i ≤ j
    · by_cases h2 : j < 64
      · simp [h, show j - i < 64 - i from by omega, Nat.sub_add_cancel h]
      · have : r.testBit j = false := Nat.testBit_lt_two_pow (Nat.lt_of_lt_of_le hr (pow_le (by omega)))
        simp [h, this, Nat.sub_add_cancel h]
    · simp [h]
  rw [k]
  have h1 := Nat.div_add_mod r (2 ^ i)
  have h2 := Nat.mod_lt r (pow_pos i)
  constructor
  · intro h; rw [Nat.mul_comm] at h1; omega
  · intro h; rw [Nat.div_eq_of_lt h, Nat.zero_mul]
theorem mk_nat {N : Nat} (h : N ≤ 64) : mk (N : Int) = ((2 ^ N - 1 : Nat) : Int) := by
  unfold mk
  by_cases h1 : N = 64
  · subst h1; decide +kernel
  · have hp := pow_lt (i := N) (by omega)
    have hp0 := pow_pos N
    rw [if_neg (by omega), if_neg (by omega), wraps_u64 _ (by omega) (by omega), arShl _ _ (by omega) (by omega), Int.toNat_natCast, Int.one_mul, show (2 : Int) ^ N = ((2 ^ N : Nat) : Int) from by rw [Int.natCast_pow]; rfl, arSub]; omega
theorem hL_nat (N r n : Nat) (hN : N ≤ 64) (hr : r < 2 ^ 64) (hn : n < 2 ^ 64) : hL N r n = hs N r n := by
  unfold hL hs
  rw [mk_nat hN, bxor n r hn hr, band _ _ (Nat.xor_lt_two_pow hn hr) (mask_lt hN), Bool.eq_iff_iff, beq_iff_eq, decide_eq_true_iff, ← xor_mask_eq_zero]
  omega
theorem rL_nat (N r : Nat) (hN : N ≤ 64) (hr : r < 2 ^ 64) : rL N r = decide (r < 2 ^ N) := by
  unfold rL
  rw [mk_nat hN, bandNot r _ hr (mask_lt hN), decide_eq_true (by omega), decide_eq_true (by omega), Bool.true_and, Bool.true_and, Bool.eq_iff_iff, beq_iff_eq, decide_eq_true_iff, ← and_not_mask_eq_zero hr hN]
  omega
theorem rL_true {N r : Int} (h : rL N r = true) (hr : 0 ≤ r ∧ r < 18446744073709551616) : ∃ n m : Nat, N = n ∧ r = m ∧ n ≤ 64 ∧ m < 2 ^ 64 ∧ m < 2 ^ n := by
  have h' := h
  unfold rL at h'
  simp only [Bool.and_eq_true, decide_eq_true_eq] at h'
  obtain ⟨n, rfl⟩ := nats h'.1.1
  obtain ⟨m, rfl⟩ := nats hr.1
  have hn : n ≤ 64 := by omega
  have hm : m < 2 ^ 64 := by omega
  rw [rL_nat n m hn hm] at h
  exact ⟨n, m, rfl, rfl, hn, hm, of_decide_eq_true h⟩
def cN (N n : Nat) : Nat := if N ≤ n then N else n
def cR (N r n : Nat) : Nat := if N ≤ n then r else r % 2 ^ n
def z (r q : Nat) : Nat := Go.Lib.ctz 64 (r ^^^ q)
theorem xor_zero (a b : Nat) : a ^^^ b = 0 ↔ a = b := by
  constructor
  · intro h
    refine Nat.eq_of_testBit_eq fun j => ?_
    have h1 := congrArg (fun x => Nat.testBit x j) h
    simp only [Nat.testBit_xor, Nat.zero_testBit] at h1
    revert h1
    cases Nat.testBit a j <;> cases Nat.testBit b j <;> simp
  · intro h; rw [h, Nat.xor_self]
theorem z_iff (r q i : Nat) (hr : r < 2 ^ 64) (hq : q < 2 ^ 64) (hi : i ≤ 64) : r % 2 ^ i = q % 2 ^ i ↔ i ≤ z r q := by
  have hx : r ^^^ q < 2 ^ 64 := Nat.xor_lt_two_pow hr hq
  rw [← xor_zero, ← Nat.xor_mod_two_pow]
  unfold z Go.Lib.ctz
  by_cases h0 : r ^^^ q = 0
  · rw [if_pos h0, h0, Nat.zero_mod]; simp [hi]
  · rw [if_neg h0]
    obtain ⟨m, e, _⟩ := Go.Lib.ctzFrom_spec 64 (r ^^^ q) (by omega) hx
    generalize Go.Lib.ctzFrom 64 (r ^^^ q) = c at *
    rw [e]
    constructor
    · intro h
      by_cases hc : i ≤ c
      · exact hc
      · exfalso
        have h1 := Nat.dvd_of_mod_eq_zero h
        have h2 : 2 ^ (c + 1) ∣ 2 ^ c * (2 * m + 1) := Nat.dvd_trans (Nat.pow_dvd_pow 2 (by omega)) h1
        rw [Nat.pow_succ] at h2
        have h3 := Nat.dvd_of_mul_dvd_mul_left (pow_pos c) h2
        omega
    · intro h
      exact Nat.mod_eq_zero_of_dvd (Nat.dvd_trans (Nat.pow_dvd_pow 2 h) (Nat.dvd_mul_right _ _))
theorem z_comm (r q : Nat) : z q r = z r q := by unfold z; rw [Nat.xor_comm]
theorem cN_eq (N n : Nat) : cN N n = min N n := by unfold cN; split <;> omega
theorem cR_eq (N r n : Nat) (h : r < 2 ^ N) : cR N r n = r % 2 ^ min N n := by
  unfold cR
  split
  · rw [Nat.min_eq_left (by omega), Nat.mod_eq_of_lt h]
  · rw [Nat.min_eq_right (by omega)]
theorem hs_of {N r n : Nat} (h : n % 2 ^ N = r % 2 ^ N) : hs N r n = true := decide_eq_true h
theorem wt {N M q r : Nat} (h : M ≤ N) (h2 : r % 2 ^ M = q % 2 ^ M) : (decide (M ≤ N) && hs M q r) = true := by rw [decide_eq_true h, hs_of h2]; rfl


theorem v9 : F10 [] [] = some ([], [true]) := by decide +kernel

theorem v13_32 : F48 [32] [] = some ([0, 4294967295], []) := by decide +kernel

theorem v13_64 : F48 [64] [] = some ([0, 18446744073709551615], []) := by decide +kernel

theorem v13 (w : Int) : F48 [w] [] = some ([0, if w = 32 then 4294967295 else 18446744073709551615], []) := by
  by_cases h : w = 32
  · subst h; rw [if_pos rfl]; exact v13_32
  · rw [if_neg h]
    refine Eq.trans (Fd_of (n := 1) (m := 0) (t := t48) (C := Tab.fn a48) rfl rfl) ?_
    rw [t48]
    refine st_ite (fun hc => ?_) (fun hc => ?_)
    · replace hc : (w == 32) = true := hc
      exact absurd (by simpa using hc) h
    · rfl

theorem v27 (a b c : Int) (h : 0 ≤ a ∧ 0 ≤ b ∧ 0 ≤ c ∧ c ≤ 1) : F81 [a, b, c] [] = some ([(a + b + c) % 18446744073709551616, (a + b + c) / 18446744073709551616], []) := by
  show (if 0 ≤ a ∧ 0 ≤ b ∧ 0 ≤ c ∧ c ≤ 1 then _ else none) = _
  rw [if_pos h]

def tp (w : Int) : Int := if w = 32 then 4294967295 else 18446744073709551615

theorem tp_bd (w : Int) : 0 ≤ tp w ∧ tp w < 18446744073709551616 := by unfold tp; split <;> omega

theorem v13' (w : Int) : F48 [w] [] = some ([0, tp w], []) := v13 w

theorem cl_x (g : Bool) (i j : Int) : (bif g then some ([i, j], []) else some (List.replicate 2 0, List.replicate 0 false)) = some ([bif g then i else 0, bif g then j else 0], ([] : List Bool)) := by cases g <;> rfl

theorem e68_81 : Tab.fn a68 81 = F81 := Tab.fn_hd
theorem e68_48 : Tab.fn a68 48 = F48 := ((Tab.fn_tl rfl).trans Tab.fn_hd)
theorem e70_48 : Tab.fn a70 48 = F48 := Tab.fn_hd


set_option maxHeartbeats 4000000 in
theorem v18 (a b c d w : Int) (h0 : 0 ≤ a) (h1 : a ≤ b) (hb : b < 18446744073709551616) (h2 : 0 ≤ c) (h3 : c ≤ d) (hd : d < 18446744073709551616) : F68 [a, b, c, d, w] [] = some ([if b + d ≤ tp w then a + c else 0, if b + d ≤ tp w then b + d else tp w], []) := by
  refine Eq.trans (Fd_of (n := 5) (m := 0) (t := t68) (C := Tab.fn a68) rfl rfl) ?_
  rw [t68]
  refine st_2_0 (e68_81) (g := true) rfl (l := [b, d, 0]) rfl (m := []) rfl (cl_t (v27 b d 0 (by omega))) fun i5 i6 hi5 hi6 => ?_
  show T.den _ _ [a, b, c, d, w, i5, i6] [] = _
  refine st_2_0 (e68_48) (g := (!(i6 != 0))) rfl (l := [w]) rfl (m := []) rfl (by rw [v13']; exact cl_x _ _ _) fun i7 i8 hi7 hi8 => ?_
  show T.den _ _ [a, b, c, d, w, i5, i6, i7, i8] [] = _
  refine st_lb fun b0 hb0 => ?_
  replace hb0 : b0 = ((i6 != 0) || (decide (i5 > i8))) := hb0
  show T.den _ _ [a, b, c, d, w, i5, i6, i7, i8] [b0] = _
  refine st_ite (fun hc => ?_) (fun hc => ?_)
  · replace hc : b0 = true := hc
    have c1 := hc
    clear hc
    refine st_2_0 (e68_48) (g := true) rfl (l := [w]) rfl (m := []) rfl (by rw [v13']; exact cl_x _ _ _) fun i9 i10 hi9 hi10 => ?_
    show T.den _ _ [a, b, c, d, w, i5, i6, i7, i8, i9, i10] [b0] = _
    refine st_ret ?_
    show some ([i9, i10], []) = _
    have tb := tp_bd w
    cases hz : (i6 != 0)
    · rw [hz] at hi8
      simp only [hz, Bool.not_false, cond_true] at hi8
      simp only [bne_eq_false_iff_eq] at hz
      rw [hb0, hi8] at c1
      simp only [hz, bne_self_eq_false, Bool.false_or, decide_eq_true_eq] at c1
      refine r2 ?_ ?_
      · rw [if_neg (by omega), hi9]; rfl
      · rw [if_neg (by omega), hi10]; rfl
    · have hz' : i6 ≠ 0 := by simpa using hz
      refine r2 ?_ ?_
      · rw [if_neg (by omega), hi9]; rfl
      · rw [if_neg (by omega), hi10]; rfl
  · replace hc : b0 = false := hc
    have c2 := hc
    clear hc
    refine st_ret ?_
    show some ([(arI .add .u64 a c), i5], []) = _
    have tb := tp_bd w
    cases hz : (i6 != 0)
    · rw [hz] at hi8
      simp only [hz, Bool.not_false, cond_true] at hi8
      simp only [bne_eq_false_iff_eq] at hz
      rw [hb0, hi8] at c2
      simp only [hz, bne_self_eq_false, Bool.false_or, decide_eq_false_iff_not] at c2
      refine r2 ?_ ?_
      · rw [if_pos (by omega), arAdd]; omega
      · rw [if_pos (by omega)]; omega
    · have hz' : i6 ≠ 0 := by simpa using hz
      rw [hb0, hz] at c2
      simp at c2

set_option maxHeartbeats 4000000 in
theorem v19 (a b c d w : Int) (h0 : 0 ≤ a) (h1 : a ≤ b) (hb : b < 18446744073709551616) (h2 : 0 ≤ c) (h3 : c ≤ d) (hd : d < 18446744073709551616) : F70 [a, b, c, d, w] [] = some ([if a < d then 0 else a - d, if a < d then tp w else b - c], []) := by
  refine Eq.trans (Fd_of (n := 5) (m := 0) (t := t70) (C := Tab.fn a70) rfl rfl) ?_
  rw [t70]
  refine st_ite (fun hc => ?_) (fun hc => ?_)
  · replace hc : (decide (a < d)) = true := hc
    have c1 := hc
    clear hc
    refine st_2_0 (e70_48) (g := true) rfl (l := [w]) rfl (m := []) rfl (cl_t (v13' w)) fun i5 i6 hi5 hi6 => ?_
    show T.den _ _ [a, b, c, d, w, i5, i6] [] = _
    refine st_ret ?_
    show some ([i5, i6], []) = _
    simp only [decide_eq_true_eq] at c1
    refine r2 ?_ ?_
    · rw [if_pos c1]; exact hi5
    · rw [if_pos c1]; exact hi6
  · replace hc : (decide (a < d)) = false := hc
    have c2 := hc
    clear hc
    refine st_ret ?_
    show some ([(arI .sub .u64 a d), (arI .sub .u64 b c)], []) = _
    simp only [decide_eq_false_iff_not] at c2
    refine r2 ?_ ?_
    · rw [if_neg c2, arSub]; omega
    · rw [if_neg c2, arSub]; omega

theorem mul_parts (a b : Nat) (ha : a < 2 ^ 64) (hb : b < 2 ^ 64) :
    a * b = (a / 4294967296) * (b / 4294967296) * 2 ^ 64 + ((a / 4294967296) * (b % 4294967296) + (a % 4294967296) * (b / 4294967296)) * 4294967296 + (a % 4294967296) * (b % 4294967296) := by
  have h1 := Nat.div_add_mod a 4294967296
  have h2 := Nat.div_add_mod b 4294967296
  generalize a / 4294967296 = a1 at *
  generalize a % 4294967296 = a0 at *
  generalize b / 4294967296 = b1 at *
  generalize b % 4294967296 = b0 at *
  subst h1
  subst h2
  simp only [Nat.add_mul, Nat.mul_add]
  have e1 : 4294967296 * a1 * (4294967296 * b1) = a1 * b1 * 2 ^ 64 := by
    rw [Nat.mul_mul_mul_comm, Nat.mul_comm]
  have e2 : 4294967296 * a1 * b0 = a1 * b0 * 4294967296 := by rw [Nat.mul_assoc, Nat.mul_comm]
  have e3 : a0 * (4294967296 * b1) = a0 * b1 * 4294967296 := by rw [Nat.mul_left_comm, Nat.mul_comm]
  rw [e1, e2, e3]
  omega
theorem prod_lt {x y : Nat} (hx : x ≤ 4294967295) (hy : y ≤ 4294967295) : x * y ≤ 18446744065119617025 := Nat.le_trans (Nat.mul_le_mul hx hy) (by decide)


theorem shr32 (n : Nat) : arI .shr .u64 (n : Int) 32 = ((n / 4294967296 : Nat) : Int) := by
  rw [arShr _ 32 (by decide) (by decide)]
  rw [show (32 : Int).toNat = 32 from rfl]; omega
theorem and32 (n : Nat) (h : n < 2 ^ 64) : arI .and .u64 (n : Int) 4294967295 = ((n % 4294967296 : Nat) : Int) := by
  have := band n 4294967295 h (by decide)
  rw [show ((4294967295 : Nat) : Int) = 4294967295 from rfl] at this
  rw [this, show 4294967295 = 2 ^ 32 - 1 from rfl, and_mask]
theorem mul32 {x y : Nat} (hx : x ≤ 4294967295) (hy : y ≤ 4294967295) : arI .mul .u64 (x : Int) (y : Int) = ((x * y : Nat) : Int) := by
  have := prod_lt hx hy
  rw [arMul, ← Int.natCast_mul]; omega
theorem mul64_num' (p11 p10 p01 p00 : Nat) (h11 : p11 ≤ 18446744065119617025) (h10 : p10 ≤ 18446744065119617025) (h01 : p01 ≤ 18446744065119617025) (h00 : p00 ≤ 18446744065119617025) :
    p11 + (p10 + p00 / 4294967296) / 4294967296 + ((p10 + p00 / 4294967296) % 4294967296 + p01) / 4294967296 = (p11 * 2 ^ 64 + (p10 + p01) * 4294967296 + p00) / 2 ^ 64 ∧ p11 + (p10 + p00 / 4294967296) / 4294967296 + ((p10 + p00 / 4294967296) % 4294967296 + p01) / 4294967296 < 2 ^ 64 := by omega

set_option maxHeartbeats 4000000 in
theorem v28 (a b : Nat) (ha : a < 2 ^ 64) (hb : b < 2 ^ 64) : F83 [(a : Int), (b : Int)] [] = some ([((a * b / 2 ^ 64 : Nat) : Int), ((a * b % 2 ^ 64 : Nat) : Int)], []) := by
  refine Eq.trans (Fd_of (n := 2) (m := 0) (t := t83) (C := Tab.fn a83) rfl rfl) ?_
  rw [t83]
  refine st_li fun i2 hi2 => ?_
  replace hi2 : i2 = (arI .mul .u64 (arI .and .u64 (a : Int) 4294967295) (arI .and .u64 (b : Int) 4294967295)) := hi2
  show T.den _ _ [(a : Int), (b : Int), i2] [] = _
  refine st_li fun i3 hi3 => ?_
  replace hi3 : i3 = (arI .mul .u64 (arI .shr .u64 (a : Int) 32) (arI .and .u64 (b : Int) 4294967295)) := hi3
  show T.den _ _ [(a : Int), (b : Int), i2, i3] [] = _
  refine st_li fun i4 hi4 => ?_
  replace hi4 : i4 = (arI .and .u64 (arI .add .u64 i3 (arI .shr .u64 i2 32)) 4294967295) := hi4
  show T.den _ _ [(a : Int), (b : Int), i2, i3, i4] [] = _
  refine st_li fun i5 hi5 => ?_
  replace hi5 : i5 = (arI .shr .u64 (arI .add .u64 i3 (arI .shr .u64 i2 32)) 32) := hi5
  show T.den _ _ [(a : Int), (b : Int), i2, i3, i4, i5] [] = _
  refine st_li fun i6 hi6 => ?_
  replace hi6 : i6 = (arI .mul .u64 (arI .and .u64 (a : Int) 4294967295) (arI .shr .u64 (b : Int) 32)) := hi6
  show T.den _ _ [(a : Int), (b : Int), i2, i3, i4, i5, i6] [] = _
  refine st_li fun i7 hi7 => ?_
  replace hi7 : i7 = (arI .mul .u64 (arI .shr .u64 (a : Int) 32) (arI .shr .u64 (b : Int) 32)) := hi7
  show T.den _ _ [(a : Int), (b : Int), i2, i3, i4, i5, i6, i7] [] = _
  refine st_li fun i8 hi8 => ?_
  replace hi8 : i8 = (arI .add .u64 (arI .add .u64 i7 i5) (arI .shr .u64 (arI .add .u64 i4 i6) 32)) := hi8
  show T.den _ _ [(a : Int), (b : Int), i2, i3, i4, i5, i6, i7, i8] [] = _
  refine st_ret ?_
  show some ([i8, (arI .mul .u64 (a : Int) (b : Int))], []) = _
  obtain ⟨a0, ha0⟩ : ∃ x, x = a % 4294967296 := ⟨_, rfl⟩
  obtain ⟨a1, ha1⟩ : ∃ x, x = a / 4294967296 := ⟨_, rfl⟩
  obtain ⟨b0, hb0⟩ : ∃ x, x = b % 4294967296 := ⟨_, rfl⟩
  obtain ⟨b1, hb1⟩ : ∃ x, x = b / 4294967296 := ⟨_, rfl⟩
  have hmp := mul_parts a b ha hb
  rw [← ha0, ← ha1, ← hb0, ← hb1] at hmp
  have l1 : a0 ≤ 4294967295 := by omega
  have l2 : a1 ≤ 4294967295 := by omega
  have l3 : b0 ≤ 4294967295 := by omega
  have l4 : b1 ≤ 4294967295 := by omega
  have p00 := prod_lt l1 l3
  have p10 := prod_lt l2 l3
  have p01 := prod_lt l1 l4
  have p11 := prod_lt l2 l4
  rw [and32 a ha, and32 b hb, ← ha0, ← hb0, mul32 l1 l3] at hi2
  rw [shr32 a, and32 b hb, ← ha1, ← hb0, mul32 l2 l3] at hi3
  rw [and32 a ha, shr32 b, ← ha0, ← hb1, mul32 l1 l4] at hi6
  rw [shr32 a, shr32 b, ← ha1, ← hb1, mul32 l2 l4] at hi7
  have hn := mul64_num' (a1 * b1) (a1 * b0) (a0 * b1) (a0 * b0) p11 p10 p01 p00
  rw [← hmp] at hn
  generalize a0 * b0 = q00 at *
  generalize a1 * b0 = q10 at *
  generalize a0 * b1 = q01 at *
  generalize a1 * b1 = q11 at *
  have e34 : arI .add .u64 i3 (arI .shr .u64 i2 32) = ((q10 + q00 / 4294967296 : Nat) : Int) := by
    rw [hi2, shr32, hi3, arAdd]; omega
  rw [e34] at hi4 hi5
  rw [and32 _ (by omega)] at hi4
  rw [shr32] at hi5
  have e46 : arI .add .u64 i4 i6 = (((q10 + q00 / 4294967296) % 4294967296 + q01 : Nat) : Int) := by
    rw [hi4, hi6, arAdd]; omega
  rw [e46, shr32, hi7, hi5, arAdd, arAdd] at hi8
  refine r2 ?_ ?_
  · rw [hi8]; omega
  · rw [arMul, ← Int.natCast_mul]; omega

theorem v28' (a b : Int) (ha : 0 ≤ a ∧ a < 18446744073709551616) (hb : 0 ≤ b ∧ b < 18446744073709551616) : F83 [a, b] [] = some ([(a * b) / 18446744073709551616, (a * b) % 18446744073709551616], []) := by
  obtain ⟨m, rfl⟩ := Int.eq_ofNat_of_zero_le ha.1
  obtain ⟨n, rfl⟩ := Int.eq_ofNat_of_zero_le hb.1
  rw [v28 m n (by omega) (by omega), ← Int.natCast_mul]
  exact r2 (by omega) (by omega)

theorem e72_83 : Tab.fn a72 83 = F83 := Tab.fn_hd
theorem e72_48 : Tab.fn a72 48 = F48 := ((Tab.fn_tl rfl).trans Tab.fn_hd)


set_option maxHeartbeats 4000000 in
theorem v20 (a b c d w : Int) (h0 : 0 ≤ a) (h1 : a ≤ b) (hb : b < 18446744073709551616) (h2 : 0 ≤ c) (h3 : c ≤ d) (hd : d < 18446744073709551616) : F72 [a, b, c, d, w] [] = some ([if b * d ≤ tp w then a * c else 0, if b * d ≤ tp w then b * d else tp w], []) := by
  refine Eq.trans (Fd_of (n := 5) (m := 0) (t := t72) (C := Tab.fn a72) rfl rfl) ?_
  rw [t72]
  refine st_2_0 (e72_83) (g := true) rfl (l := [b, d]) rfl (m := []) rfl (cl_t (v28' b d (by omega) (by omega))) fun i5 i6 hi5 hi6 => ?_
  show T.den _ _ [a, b, c, d, w, i5, i6] [] = _
  refine st_2_0 (e72_48) (g := (!(i5 != 0))) rfl (l := [w]) rfl (m := []) rfl (by rw [v13']; exact cl_x _ _ _) fun i7 i8 hi7 hi8 => ?_
  show T.den _ _ [a, b, c, d, w, i5, i6, i7, i8] [] = _
  refine st_lb fun b0 hb0 => ?_
  replace hb0 : b0 = ((i5 != 0) || (decide (i6 > i8))) := hb0
  show T.den _ _ [a, b, c, d, w, i5, i6, i7, i8] [b0] = _
  refine st_ite (fun hc => ?_) (fun hc => ?_)
  · replace hc : b0 = true := hc
    have c1 := hc
    clear hc
    refine st_2_0 (e72_48) (g := true) rfl (l := [w]) rfl (m := []) rfl (by rw [v13']; exact cl_x _ _ _) fun i9 i10 hi9 hi10 => ?_
    show T.den _ _ [a, b, c, d, w, i5, i6, i7, i8, i9, i10] [b0] = _
    refine st_ret ?_
    show some ([i9, i10], []) = _
    have tb := tp_bd w
    have hP : 0 ≤ b * d := Int.mul_nonneg (by omega) (by omega)
    have hQ0 : 0 ≤ a * c := Int.mul_nonneg (by omega) (by omega)
    have hQ : a * c ≤ b * d := Int.mul_le_mul h1 h3 h2 (by omega)
    generalize b * d = P at *
    generalize a * c = Q at *
    cases hz : (i5 != 0)
    · simp only [hz, Bool.not_false, cond_true] at hi8
      simp only [bne_eq_false_iff_eq] at hz
      rw [hb0, hi8] at c1
      simp only [hz, bne_self_eq_false, Bool.false_or, decide_eq_true_eq] at c1
      refine r2 ?_ ?_
      · rw [if_neg (by omega), hi9]; rfl
      · rw [if_neg (by omega), hi10]; rfl
    · have hz' : i5 ≠ 0 := by simpa using hz
      refine r2 ?_ ?_
      · rw [if_neg (by omega), hi9]; rfl
      · rw [if_neg (by omega), hi10]; rfl
  · replace hc : b0 = false := hc
    have c2 := hc
    clear hc
    refine st_ret ?_
    show some ([(arI .mul .u64 a c), i6], []) = _
    rw [arMul]
    have tb := tp_bd w
    have hP : 0 ≤ b * d := Int.mul_nonneg (by omega) (by omega)
    have hQ0 : 0 ≤ a * c := Int.mul_nonneg (by omega) (by omega)
    have hQ : a * c ≤ b * d := Int.mul_le_mul h1 h3 h2 (by omega)
    generalize b * d = P at *
    generalize a * c = Q at *
    cases hz : (i5 != 0)
    · simp only [hz, Bool.not_false, cond_true] at hi8
      simp only [bne_eq_false_iff_eq] at hz
      rw [hb0, hi8] at c2
      simp only [hz, bne_self_eq_false, Bool.false_or, decide_eq_false_iff_not] at c2
      refine r2 ?_ ?_
      · rw [if_pos (by omega)]; omega
      · rw [if_pos (by omega)]; omega
    · have hz' : i5 ≠ 0 := by simpa using hz
      rw [hb0, hz] at c2
      simp at c2

set_option maxHeartbeats 4000000 in
theorem v21 (a b c d : Int) : F74 [a, b, c, d] [] = some ([if d = 0 then 0 else arI .quo .u64 a d, if d = 0 then 0 else arI .quo .u64 b (max c 1)], [decide (d ≠ 0)]) := by
  refine Eq.trans (Fd_of (n := 4) (m := 0) (t := t74) (C := Tab.fn a74) rfl rfl) ?_
  rw [t74]
  refine st_ite (fun hc => ?_) (fun hc => ?_)
  · replace hc : (d == 0) = true := hc
    have c1 := hc
    clear hc
    refine st_ret ?_
    show some ([0, 0], [false]) = _
    have h : d = 0 := by simpa using c1
    rw [if_pos h, if_pos h, decide_eq_false (by simpa using h)]
  · replace hc : (d == 0) = false := hc
    have c2 := hc
    clear hc
    refine st_rq (show (d != 0) = true from ?_) ?_
    · have h : ¬ d = 0 := by simpa using c2
      simpa using h
    refine st_rq (show ((if 1 > c then 1 else c) != 0) = true from ?_) ?_
    · rw [bne_iff_ne]
      split <;> omega
    refine st_ret ?_
    show some ([(arI .quo .u64 a d), (arI .quo .u64 b (if 1 > c then 1 else c))], [true]) = _
    have h : ¬ d = 0 := by simpa using c2
    rw [if_neg h, if_neg h, decide_eq_true h, max_ c 1]

set_option maxHeartbeats 4000000 in
theorem v22 (a b c d : Int) : F84 [a, b, c, d] [] = some ([if d = 0 then 0 else if b < c then a else 0, if d = 0 then 0 else if b < c then b else min b (arI .sub .u64 d 1)], [decide (d ≠ 0)]) := by
  refine Eq.trans (Fd_of (n := 4) (m := 0) (t := t84) (C := Tab.fn a84) rfl rfl) ?_
  rw [t84]
  refine st_ite (fun hc => ?_) (fun hc => ?_)
  · replace hc : (d == 0) = true := hc
    have c1 := hc
    clear hc
    refine st_ret ?_
    show some ([0, 0], [false]) = _
    have h : d = 0 := by simpa using c1
    rw [if_pos h, if_pos h, decide_eq_false (by simpa using h)]
  · replace hc : (d == 0) = false := hc
    have c2 := hc
    clear hc
    refine st_ite (fun hc => ?_) (fun hc => ?_)
    · replace hc : (decide (b < c)) = true := hc
      have c3 := hc
      clear hc
      refine st_ret ?_
      show some ([a, b], [true]) = _
      have h : ¬ d = 0 := by simpa using c2
      have h' : b < c := by simpa using c3
      rw [if_neg h, if_neg h, if_pos h', if_pos h', decide_eq_true h]
    · replace hc : (decide (b < c)) = false := hc
      have c4 := hc
      clear hc
      refine st_ret ?_
      show some ([0, (if (arI .sub .u64 d 1) < b then (arI .sub .u64 d 1) else b)], [true]) = _
      have h : ¬ d = 0 := by simpa using c2
      have h' : ¬ b < c := of_decide_eq_false c4
      rw [if_neg h, if_neg h, if_neg h', if_neg h', decide_eq_true h, min_]

def LT256 : List Nat := [0, 1, 2, 2, 3, 3, 3, 3, 4, 4, 4, 4, 4, 4, 4, 4, 5, 5, 5, 5, 5, 5, 5, 5, 5, 5, 5, 5, 5, 5, 5, 5, 6, 6, 6, 6, 6, 6, 6, 6, 6, 6, 6, 6, 6, 6, 6, 6, 6, 6, 6, 6, 6, 6, 6, 6, 6, 6, 6, 6, 6, 6, 6, 6, 7, 7, 7, 7, 7, 7, 7, 7, 7, 7, 7, 7, 7, 7, 7, 7, 7, 7, 7, 7, 7, 7, 7, 7, 7, 7, 7, 7, 7, 7, 7, 7, 7, 7, 7, 7, 7, 7, 7, 7, 7, 7, 7, 7, 7, 7, 7, 7, 7, 7, 7, 7, 7, 7, 7, 7, 7, 7, 7, 7, 7, 7, 7, 7, 8, 8, 8, 8, 8, 8, 8, 8, 8, 8, 8, 8, 8, 8, 8, 8, 8, 8, 8, 8, 8, 8, 8, 8, 8, 8, 8, 8, 8, 8, 8, 8, 8, 8, 8, 8, 8, 8, 8, 8, 8, 8, 8, 8, 8, 8, 8, 8, 8, 8, 8, 8, 8, 8, 8, 8, 8, 8, 8, 8, 8, 8, 8, 8, 8, 8, 8, 8, 8, 8, 8, 8, 8, 8, 8, 8, 8, 8, 8, 8, 8, 8, 8, 8, 8, 8, 8, 8, 8, 8, 8, 8, 8, 8, 8, 8, 8, 8, 8, 8, 8, 8, 8, 8, 8, 8, 8, 8, 8, 8, 8, 8, 8, 8, 8, 8, 8, 8, 8, 8, 8, 8, 8, 8, 8, 8, 8, 8]

theorem LT256_of : ∀ n : Fin 256, LT256.getD n.val 0 = Go.Lib.bitLen n.val := by decide +kernel
def len (x : Int) : Int := (Go.Lib.bitLen x.toNat : Int)
theorem sh8 (x : Int) : arI .shr .u64 x 8 = x / 256 := arShr x 8 (by decide) (by decide)
theorem sh16 (x : Int) : arI .shr .u64 x 16 = x / 65536 := arShr x 16 (by decide) (by decide)
theorem sh32 (x : Int) : arI .shr .u64 x 32 = x / 4294967296 := arShr x 32 (by decide) (by decide)
theorem leafL (x y K : Int) (k D : Nat) (hk : k ≤ 56) (hK : K = (k : Int)) (hy : 0 ≤ y ∧ y < 256) (hD : y.toNat = x.toNat / D) (hb : Go.Lib.bitLen x.toNat = k + Go.Lib.bitLen (x.toNat / D)) :
    arI .add .i64 K (IntKind.wrap .i64 ((LT256.getD (IntKind.wrap .u8 y).toNat 0 : Nat) : Int)) = len x := by
  have h1 : IntKind.u8.wrap y = y := by rw [wrap_u8]; omega
  have h2 := LT256_of ⟨y.toNat, by omega⟩
  have h3 := Go.Lib.bitLen_le8 ⟨y.toNat, by omega⟩
  simp only at h2 h3
  unfold len
  rw [h1, h2, hb, ← hD, hK]
  show IntKind.i64.wrap (_ + _) = _
  rw [Go.IntWalk.i64_in (Go.Lib.bitLen y.toNat : Int) (by omega), Go.IntWalk.i64_in _ (by omega)]
  omega
theorem sub64 {x : Int} (h : 0 ≤ x ∧ x ≤ 64) : arI .sub .i64 64 x = 64 - x := by
  show IntKind.i64.wrap (64 - x) = _
  exact Go.IntWalk.i64_in _ (by omega)
theorem len_le (x : Int) (_h : 0 ≤ x) (h1 : x < 18446744073709551616) : 0 ≤ len x ∧ len x ≤ 64 := by
  have := Go.Lib.bitLen_le x.toNat 64 (Nat.le_refl _) (by omega)
  unfold len; omega

set_option maxHeartbeats 4000000 in
theorem v30 (i0 : Int) (h0 : 0 ≤ i0) (h1 : i0 < 18446744073709551616) : F66 [i0] [] = some ([len i0], []) := by
  refine Eq.trans (Fd_of (n := 1) (m := 0) (t := t66) (C := Tab.fn a66) rfl rfl) ?_
  rw [t66]
  refine st_ite (fun hc => ?_) (fun hc => ?_)
  · replace hc : (decide (i0 ≥ 4294967296)) = true := hc
    have c1 := hc
    clear hc
    refine st_ite (fun hc => ?_) (fun hc => ?_)
    · replace hc : (decide ((arI .shr .u64 i0 32) ≥ 65536)) = true := hc
      have c2 := hc
      clear hc
      refine st_lb fun b0 hb0 => ?_
      replace hb0 : b0 = (decide ((arI .shr .u64 (arI .shr .u64 i0 32) 16) ≥ 256)) := hb0
      show T.den _ _ [i0] [b0] = _
      refine st_ite (fun hc => ?_) (fun hc => ?_)
      · replace hc : b0 = true := hc
        have c3 := hc
        clear hc
        refine st_li fun i1 hi1 => ?_
        replace hi1 : i1 = (arI .shr .u64 (arI .shr .u64 (arI .shr .u64 i0 32) 16) 8) := hi1
        show T.den _ _ [i0, i1] [b0] = _
        refine st_rq (show ((decide ((IntKind.wrap .u8 i1) ≥ 0)) && (decide ((IntKind.wrap .u8 i1) < 256))) = true from ?_) ?_
        · rw [hb0] at c3
          simp only [sh8, sh16, sh32, ge_iff_le, decide_eq_true_eq, decide_eq_false_iff_not] at c1 c2 c3
          subst hi1
          simp only [Bool.and_eq_true, wrap_u8, sh8, sh16, sh32, ge_iff_le, decide_eq_true_eq, decide_eq_false_iff_not]
          omega
        refine st_ret ?_
        show some ([(arI .add .i64 56 (IntKind.wrap .i64 ((LEN8.getD ((IntKind.wrap .u8 i1)).toNat 0 : Nat) : Int)))], []) = _
        subst hi1
        rw [hb0] at c3
        simp only [sh8, sh16, sh32, ge_iff_le, decide_eq_true_eq, decide_eq_false_iff_not] at c1 c2 c3
        simp only [sh8, sh16, sh32]
        exact r1 (leafL i0 _ _ 56 72057594037927936 (by decide) rfl (by omega) (by omega) (Go.Lib.bitLen_shift56 _ (by omega) (by omega)))
      · replace hc : b0 = false := hc
        have c4 := hc
        clear hc
        refine st_rq (show ((decide ((IntKind.wrap .u8 (arI .shr .u64 (arI .shr .u64 i0 32) 16)) ≥ 0)) && (decide ((IntKind.wrap .u8 (arI .shr .u64 (arI .shr .u64 i0 32) 16)) < 256))) = true from ?_) ?_
        · rw [hb0] at c4
          simp only [sh8, sh16, sh32, ge_iff_le, decide_eq_true_eq, decide_eq_false_iff_not] at c1 c2 c4
          simp only [Bool.and_eq_true, wrap_u8, sh8, sh16, sh32, ge_iff_le, decide_eq_true_eq, decide_eq_false_iff_not]
          omega
        refine st_li fun i1 hi1 => ?_
        replace hi1 : i1 = ((LEN8.getD ((IntKind.wrap .u8 (arI .shr .u64 (arI .shr .u64 i0 32) 16))).toNat 0 : Nat) : Int) := hi1
        show T.den _ _ [i0, i1] [b0] = _
        refine st_ret ?_
        show some ([(arI .add .i64 48 (IntKind.wrap .i64 i1))], []) = _
        subst hi1
        rw [hb0] at c4
        simp only [sh8, sh16, sh32, ge_iff_le, decide_eq_true_eq, decide_eq_false_iff_not] at c1 c2 c4
        simp only [sh8, sh16, sh32]
        exact r1 (leafL i0 _ _ 48 281474976710656 (by decide) rfl (by omega) (by omega) (Go.Lib.bitLen_shift48 _ (by omega) (by omega)))
    · replace hc : (decide ((arI .shr .u64 i0 32) ≥ 65536)) = false := hc
      have c5 := hc
      clear hc
      refine st_ite (fun hc => ?_) (fun hc => ?_)
      · replace hc : (decide ((arI .shr .u64 i0 32) ≥ 256)) = true := hc
        have c6 := hc
        clear hc
        refine st_rq (show ((decide ((IntKind.wrap .u8 (arI .shr .u64 (arI .shr .u64 i0 32) 8)) ≥ 0)) && (decide ((IntKind.wrap .u8 (arI .shr .u64 (arI .shr .u64 i0 32) 8)) < 256))) = true from ?_) ?_
        · simp only [sh8, sh16, sh32, ge_iff_le, decide_eq_true_eq, decide_eq_false_iff_not] at c1 c5 c6
          simp only [Bool.and_eq_true, wrap_u8, sh8, sh16, sh32, ge_iff_le, decide_eq_true_eq, decide_eq_false_iff_not]
          omega
        refine st_li fun i1 hi1 => ?_
        replace hi1 : i1 = ((LEN8.getD ((IntKind.wrap .u8 (arI .shr .u64 (arI .shr .u64 i0 32) 8))).toNat 0 : Nat) : Int) := hi1
        show T.den _ _ [i0, i1] [] = _
        refine st_ret ?_
        show some ([(arI .add .i64 40 (IntKind.wrap .i64 i1))], []) = _
        subst hi1
        simp only [sh8, sh16, sh32, ge_iff_le, decide_eq_true_eq, decide_eq_false_iff_not] at c1 c5 c6
        simp only [sh8, sh16, sh32]
        exact r1 (leafL i0 _ _ 40 1099511627776 (by decide) rfl (by omega) (by omega) (Go.Lib.bitLen_shift40 _ (by omega) (by omega)))
      · replace hc : (decide ((arI .shr .u64 i0 32) ≥ 256)) = false := hc
        have c7 := hc
        clear hc
        refine st_rq (show ((decide ((IntKind.wrap .u8 (arI .shr .u64 i0 32)) ≥ 0)) && (decide ((IntKind.wrap .u8 (arI .shr .u64 i0 32)) < 256))) = true from ?_) ?_
        · simp only [sh8, sh16, sh32, ge_iff_le, decide_eq_true_eq, decide_eq_false_iff_not] at c1 c5 c7
          simp only [Bool.and_eq_true, wrap_u8, sh8, sh16, sh32, ge_iff_le, decide_eq_true_eq, decide_eq_false_iff_not]
          omega
        refine st_li fun i1 hi1 => ?_
        replace hi1 : i1 = (arI .add .i64 32 (IntKind.wrap .i64 ((LEN8.getD ((IntKind.wrap .u8 (arI .shr .u64 i0 32))).toNat 0 : Nat) : Int))) := hi1
        show T.den _ _ [i0, i1] [] = _
        refine st_ret ?_
        show some ([i1], []) = _
        subst hi1
        simp only [sh8, sh16, sh32, ge_iff_le, decide_eq_true_eq, decide_eq_false_iff_not] at c1 c5 c7
        simp only [sh8, sh16, sh32]
        exact r1 (leafL i0 _ _ 32 4294967296 (by decide) rfl (by omega) (by omega) (Go.Lib.bitLen_shift32 _ (by omega) (by omega)))
  · replace hc : (decide (i0 ≥ 4294967296)) = false := hc
    have c8 := hc
    clear hc
    refine st_ite (fun hc => ?_) (fun hc => ?_)
    · replace hc : (decide (i0 ≥ 65536)) = true := hc
      have c9 := hc
      clear hc
      refine st_ite (fun hc => ?_) (fun hc => ?_)
      · replace hc : (decide ((arI .shr .u64 i0 16) ≥ 256)) = true := hc
        have c10 := hc
        clear hc
        refine st_rq (show ((decide ((IntKind.wrap .u8 (arI .shr .u64 (arI .shr .u64 i0 16) 8)) ≥ 0)) && (decide ((IntKind.wrap .u8 (arI .shr .u64 (arI .shr .u64 i0 16) 8)) < 256))) = true from ?_) ?_
        · simp only [sh8, sh16, sh32, ge_iff_le, decide_eq_true_eq, decide_eq_false_iff_not] at c8 c9 c10
          simp only [Bool.and_eq_true, wrap_u8, sh8, sh16, sh32, ge_iff_le, decide_eq_true_eq, decide_eq_false_iff_not]
          omega
        refine st_li fun i1 hi1 => ?_
        replace hi1 : i1 = ((LEN8.getD ((IntKind.wrap .u8 (arI .shr .u64 (arI .shr .u64 i0 16) 8))).toNat 0 : Nat) : Int) := hi1
        show T.den _ _ [i0, i1] [] = _
        refine st_ret ?_
        show some ([(arI .add .i64 24 (IntKind.wrap .i64 i1))], []) = _
        subst hi1
        simp only [sh8, sh16, sh32, ge_iff_le, decide_eq_true_eq, decide_eq_false_iff_not] at c8 c9 c10
        simp only [sh8, sh16, sh32]
        exact r1 (leafL i0 _ _ 24 16777216 (by decide) rfl (by omega) (by omega) (Go.Lib.bitLen_shift24 _ (by omega) (by omega)))
      · replace hc : (decide ((arI .shr .u64 i0 16) ≥ 256)) = false := hc
        have c11 := hc
        clear hc
        refine st_rq (show ((decide ((IntKind.wrap .u8 (arI .shr .u64 i0 16)) ≥ 0)) && (decide ((IntKind.wrap .u8 (arI .shr .u64 i0 16)) < 256))) = true from ?_) ?_
        · simp only [sh8, sh16, sh32, ge_iff_le, decide_eq_true_eq, decide_eq_false_iff_not] at c8 c9 c11
          simp only [Bool.and_eq_true, wrap_u8, sh8, sh16, sh32, ge_iff_le, decide_eq_true_eq, decide_eq_false_iff_not]
          omega
        refine st_li fun i1 hi1 => ?_
        replace hi1 : i1 = (arI .add .i64 16 (IntKind.wrap .i64 ((LEN8.getD ((IntKind.wrap .u8 (arI .shr .u64 i0 16))).toNat 0 : Nat) : Int))) := hi1
        show T.den _ _ [i0, i1] [] = _
        refine st_ret ?_
        show some ([i1], []) = _
        subst hi1
        simp only [sh8, sh16, sh32, ge_iff_le, decide_eq_true_eq, decide_eq_false_iff_not] at c8 c9 c11
        simp only [sh8, sh16, sh32]
        exact r1 (leafL i0 _ _ 16 65536 (by decide) rfl (by omega) (by omega) (Go.Lib.bitLen_shift16 _ (by omega) (by omega)))
    · replace hc : (decide (i0 ≥ 65536)) = false := hc
      have c12 := hc
      clear hc
      refine st_ite (fun hc => ?_) (fun hc => ?_)
      · replace hc : (decide (i0 ≥ 256)) = true := hc
        have c13 := hc
        clear hc
        refine st_rq (show ((decide ((IntKind.wrap .u8 (arI .shr .u64 i0 8)) ≥ 0)) && (decide ((IntKind.wrap .u8 (arI .shr .u64 i0 8)) < 256))) = true from ?_) ?_
        · simp only [sh8, sh16, sh32, ge_iff_le, decide_eq_true_eq, decide_eq_false_iff_not] at c8 c12 c13
          simp only [Bool.and_eq_true, wrap_u8, sh8, sh16, sh32, ge_iff_le, decide_eq_true_eq, decide_eq_false_iff_not]
          omega
        refine st_li fun i1 hi1 => ?_
        replace hi1 : i1 = (arI .add .i64 8 (IntKind.wrap .i64 ((LEN8.getD ((IntKind.wrap .u8 (arI .shr .u64 i0 8))).toNat 0 : Nat) : Int))) := hi1
        show T.den _ _ [i0, i1] [] = _
        refine st_ret ?_
        show some ([i1], []) = _
        subst hi1
        simp only [sh8, sh16, sh32, ge_iff_le, decide_eq_true_eq, decide_eq_false_iff_not] at c8 c12 c13
        simp only [sh8, sh16, sh32]
        exact r1 (leafL i0 _ _ 8 256 (by decide) rfl (by omega) (by omega) (Go.Lib.bitLen_shift8 _ (by omega) (by omega)))
      · replace hc : (decide (i0 ≥ 256)) = false := hc
        have c14 := hc
        clear hc
        refine st_rq (show ((decide ((IntKind.wrap .u8 i0) ≥ 0)) && (decide ((IntKind.wrap .u8 i0) < 256))) = true from ?_) ?_
        · simp only [sh8, sh16, sh32, ge_iff_le, decide_eq_true_eq, decide_eq_false_iff_not] at c8 c12 c14
          simp only [Bool.and_eq_true, wrap_u8, sh8, sh16, sh32, ge_iff_le, decide_eq_true_eq, decide_eq_false_iff_not]
          omega
        refine st_ret ?_
        show some ([(arI .add .i64 0 (IntKind.wrap .i64 ((LEN8.getD ((IntKind.wrap .u8 i0)).toNat 0 : Nat) : Int)))], []) = _
        simp only [sh8, sh16, sh32, ge_iff_le, decide_eq_true_eq, decide_eq_false_iff_not] at c8 c12 c14
        exact r1 (leafL i0 _ _ 0 1 (by decide) rfl (by omega) (by omega) (by rw [Nat.div_one, Nat.zero_add]))

theorem v29 (a b : Int) : F87 [a, b] [] = some ([], [a == b]) := rfl

theorem one2 {a b c d : Int} {x y : Bool} (hx : x = (a == b)) (hy : y = (x && (c == d))) : (a = b ∧ c = d ∧ (x && y) = true) ∨ (¬ (a = b ∧ c = d) ∧ (x && y) = false) := by
  by_cases h : a = b
  · have hx' : x = true := hx.trans (beq_iff_eq.2 h)
    subst hx'
    by_cases h' : c = d
    · exact .inl ⟨h, h', by rw [hy, beq_iff_eq.2 h']; rfl⟩
    · exact .inr ⟨fun z => h' z.2, by rw [hy, beq_eq_false_iff_ne.2 h']; rfl⟩
  · have hx' : x = false := hx.trans (beq_eq_false_iff_ne.2 h)
    subst hx'
    exact .inr ⟨fun z => h z.1, rfl⟩
def anL (a b c d : Int) : Int := if a = b ∧ c = d then arI .and .u64 a c else 0
def anH (a b c d : Int) : Int := if a = b ∧ c = d then arI .and .u64 a c else min b d
def orT (m : Int) : Int := arI .shr .u64 18446744073709551615 (64 - len m)
def orL (a b c d : Int) : Int := if a = b ∧ c = d then arI .or .u64 a c else max a c
def orH (a b c d : Int) : Int := if a = b ∧ c = d then arI .or .u64 a c else orT (max b d)

theorem e85_87 : Tab.fn a85 87 = F87 := Tab.fn_hd
theorem e77_87 : Tab.fn a77 87 = F87 := Tab.fn_hd
theorem e77_66 : Tab.fn a77 66 = F66 := ((Tab.fn_tl rfl).trans Tab.fn_hd)


set_option maxHeartbeats 4000000 in
theorem v23 (a b c d : Int) : F85 [a, b, c, d] [] = some ([anL a b c d, anH a b c d], []) := by
  refine Eq.trans (Fd_of (n := 4) (m := 0) (t := t85) (C := Tab.fn a85) rfl rfl) ?_
  rw [t85]
  refine st_0_1 (e85_87) (g := true) rfl (l := [a, b]) rfl (m := []) rfl (cl_t (v29 a b)) fun b0 hb0 => ?_
  show T.den _ _ [a, b, c, d] [b0] = _
  refine st_0_1 (e85_87) (g := b0) rfl (l := [c, d]) rfl (m := []) rfl (cl_b (v29 c d)) fun b1 hb1 => ?_
  show T.den _ _ [a, b, c, d] [b0, b1] = _
  refine st_ite (fun hc => ?_) (fun hc => ?_)
  · replace hc : (b0 && b1) = true := hc
    have c1 := hc
    clear hc
    refine st_ret ?_
    show some ([(arI .and .u64 a c), (arI .and .u64 a c)], []) = _
    rcases one2 hb0 hb1 with ⟨h1, h2, h3⟩ | ⟨h1, h3⟩
    · refine r2 ?_ ?_
      · unfold anL; rw [if_pos ⟨h1, h2⟩]
      · unfold anH; rw [if_pos ⟨h1, h2⟩]
    · exact absurd (c1.symm.trans h3) (by decide)
  · replace hc : (b0 && b1) = false := hc
    have c2 := hc
    clear hc
    refine st_ret ?_
    show some ([0, (if d < b then d else b)], []) = _
    rcases one2 hb0 hb1 with ⟨h1, h2, h3⟩ | ⟨h1, h3⟩
    · exact absurd (h3.symm.trans c2) (by decide)
    · refine r2 ?_ ?_
      · unfold anL; rw [if_neg h1]
      · unfold anH; rw [if_neg h1, min_]

set_option maxHeartbeats 4000000 in
theorem v24 (a b c d : Int) (h0 : 0 ≤ a) (h1 : a ≤ b) (hb : b < 18446744073709551616) (h2 : 0 ≤ c) (h3 : c ≤ d) (hd : d < 18446744073709551616) : F77 [a, b, c, d] [] = some ([orL a b c d, orH a b c d], []) := by
  refine Eq.trans (Fd_of (n := 4) (m := 0) (t := t77) (C := Tab.fn a77) rfl rfl) ?_
  rw [t77]
  refine st_0_1 (e77_87) (g := true) rfl (l := [a, b]) rfl (m := []) rfl (cl_t (v29 a b)) fun b0 hb0 => ?_
  show T.den _ _ [a, b, c, d] [b0] = _
  refine st_0_1 (e77_87) (g := b0) rfl (l := [c, d]) rfl (m := []) rfl (cl_b (v29 c d)) fun b1 hb1 => ?_
  show T.den _ _ [a, b, c, d] [b0, b1] = _
  refine st_ite (fun hc => ?_) (fun hc => ?_)
  · replace hc : (b0 && b1) = true := hc
    have c1 := hc
    clear hc
    refine st_ret ?_
    show some ([(arI .or .u64 a c), (arI .or .u64 a c)], []) = _
    rcases one2 hb0 hb1 with ⟨h1, h2, h3⟩ | ⟨h1, h3⟩
    · refine r2 ?_ ?_
      · unfold orL; rw [if_pos ⟨h1, h2⟩]
      · unfold orH; rw [if_pos ⟨h1, h2⟩]
    · exact absurd (c1.symm.trans h3) (by decide)
  · replace hc : (b0 && b1) = false := hc
    have c2 := hc
    clear hc
    refine st_1_0 (e77_66) (g := true) rfl (l := [(if d > b then d else b)]) rfl (m := []) rfl (cl_t (v30 (if d > b then d else b) (by split <;> omega) (by split <;> omega))) fun i4 hi4 => ?_
    show T.den _ _ [a, b, c, d, i4] [b0, b1] = _
    refine st_rq (show (decide ((IntKind.wrap .u64 (arI .sub .i64 64 i4)) ≥ 0)) = true from ?_) ?_
    · rw [decide_eq_true_eq, wrap_u64]
      omega
    refine st_ret ?_
    show some ([(if c > a then c else a), (arI .shr .u64 18446744073709551615 (IntKind.wrap .u64 (arI .sub .i64 64 i4)))], []) = _
    rcases one2 hb0 hb1 with ⟨h1, h2, h3⟩ | ⟨h1, h3⟩
    · exact absurd (h3.symm.trans c2) (by decide)
    · refine r2 ?_ ?_
      · unfold orL; rw [if_neg h1, max_]
      · unfold orH orT; rw [if_neg h1, hi4, max_]
        have hl := len_le (if d > b then d else b) (by split <;> omega) (by split <;> omega)
        rw [sub64 hl, wraps_u64 _ (by omega) (by omega)]

theorem and_co (a b : Int) : arI .and .u64 a b = arI .and .u64 b a := by
  show IntKind.u64.wrap ((BitVec.ofInt 64 a &&& BitVec.ofInt 64 b).toNat : Int) = IntKind.u64.wrap ((BitVec.ofInt 64 b &&& BitVec.ofInt 64 a).toNat : Int)
  rw [BitVec.and_comm]
theorem or_co (a b : Int) : arI .or .u64 a b = arI .or .u64 b a := by
  show IntKind.u64.wrap ((BitVec.ofInt 64 a ||| BitVec.ofInt 64 b).toNat : Int) = IntKind.u64.wrap ((BitVec.ofInt 64 b ||| BitVec.ofInt 64 a).toNat : Int)
  rw [BitVec.or_comm]
theorem if_co {a b c d x y u v : Int} (hx : x = y) (hu : u = v) : (if a = b ∧ c = d then x else u) = if c = d ∧ a = b then y else v := by
  by_cases h : a = b ∧ c = d
  · rw [if_pos h, if_pos ⟨h.2, h.1⟩, hx]
  · rw [if_neg h, if_neg (fun z => h ⟨z.2, z.1⟩), hu]
theorem anL_co (a b c d : Int) : anL c d a b = anL a b c d := if_co (and_co c a) rfl
theorem anH_co (a b c d : Int) : anH c d a b = anH a b c d := if_co (and_co c a) (by omega)
theorem orL_co (a b c d : Int) : orL c d a b = orL a b c d := if_co (or_co c a) (by omega)
theorem orH_co (a b c d : Int) : orH c d a b = orH a b c d := if_co (or_co c a) (by rw [show max d b = max b d from by omega])

/-! The low bits that are told, of all numbers with S. -/
def Lo (S : Nat → Prop) (N r : Int) : Prop := ∃ a b : Nat, N = a ∧ r = b ∧ a ≤ 64 ∧ b < 2 ^ a ∧ ∀ v, S v → hs a b v = true
theorem hs_iff {N r n : Nat} : hs N r n = true ↔ n % 2 ^ N = r % 2 ^ N := ⟨fun h => of_decide_eq_true h, fun h => hs_of h⟩
theorem hs_le {N r n k : Nat} (h : hs N r n = true) (hk : k ≤ N) : n % 2 ^ k = r % 2 ^ k := by
  rw [← mod_mod_pow n hk, hs_iff.1 h, mod_mod_pow r hk]
theorem mask_and (r n : Nat) (hr : r < 2 ^ 64) (hn : n ≤ 64) : arI .and .u64 (r : Int) (mk (n : Int)) = ((r % 2 ^ n : Nat) : Int) := by
  rw [mk_nat hn, band r _ hr (mask_lt hn), Nat.and_two_pow_sub_one_eq_mod]
theorem min_nn (N M : Nat) : (if (M : Int) < (N : Int) then (M : Int) else (N : Int)) = ((min N M : Nat) : Int) := by split <;> omega

theorem e82_61 : Tab.fn a82 61 = F61 := Tab.fn_hd
theorem e69_82 : Tab.fn a69 82 = F82 := Tab.fn_hd
theorem e71_82 : Tab.fn a71 82 = F82 := Tab.fn_hd
theorem e73_82 : Tab.fn a73 82 = F82 := Tab.fn_hd
theorem e49_61 : Tab.fn a49 61 = F61 := Tab.fn_hd
theorem e78_49 : Tab.fn a78 49 = F49 := Tab.fn_hd
theorem e79_49 : Tab.fn a79 49 = F49 := Tab.fn_hd
theorem e89_54 : Tab.fn a89 54 = F54 := Tab.fn_hd
theorem e86_89 : Tab.fn a86 89 = F89 := Tab.fn_hd
theorem e86_49 : Tab.fn a86 49 = F49 := ((Tab.fn_tl rfl).trans Tab.fn_hd)
theorem e88_82 : Tab.fn a88 82 = F82 := Tab.fn_hd


def wN (n w : Nat) : Nat := if w = 32 ∧ 32 ≤ n then 64 else n
def wR (n r w : Nat) : Nat := if w = 32 ∧ 32 ≤ n then r % 2 ^ 32 else r % 2 ^ n

set_option maxHeartbeats 4000000 in
theorem q82 (n r w : Nat) (hn : n ≤ 64) (hr : r < 2 ^ 64) : F82 [(n : Int), (r : Int), (w : Int)] [] = some ([((wN n w : Nat) : Int), ((wR n r w : Nat) : Int)], []) := by
  refine Eq.trans (Fd_of (n := 3) (m := 0) (t := t82) (C := Tab.fn a82) rfl rfl) ?_
  rw [t82]
  refine st_lb fun b0 hb0 => ?_
  replace hb0 : b0 = (((w : Int) == 32) && (decide ((n : Int) ≥ 32))) := hb0
  show T.den _ _ [(n : Int), (r : Int), (w : Int)] [b0] = _
  refine st_ite (fun hc => ?_) (fun hc => ?_)
  · replace hc : b0 = true := hc
    have c1 := hc
    clear hc
    refine st_1_0 (e82_61) (g := true) rfl (l := [32]) rfl (m := []) rfl (cl_t (q61 32)) fun i3 hi3 => ?_
    show T.den _ _ [(n : Int), (r : Int), (w : Int), i3] [b0] = _
    refine st_ret ?_
    show some ([64, (arI .and .u64 (r : Int) i3)], []) = _
    rw [hb0] at c1
    have h : w = 32 ∧ 32 ≤ n := by simp only [Bool.and_eq_true, beq_iff_eq, decide_eq_true_eq] at c1; omega
    unfold wN wR; rw [if_pos h, if_pos h, hi3, show (32 : Int) = ((32 : Nat) : Int) from rfl, mask_and r 32 hr (by decide)]; rfl
  · replace hc : b0 = false := hc
    have c2 := hc
    clear hc
    refine st_1_0 (e82_61) (g := true) rfl (l := [(n : Int)]) rfl (m := []) rfl (cl_t (q61 (n : Int))) fun i3 hi3 => ?_
    show T.den _ _ [(n : Int), (r : Int), (w : Int), i3] [b0] = _
    refine st_ret ?_
    show some ([(n : Int), (arI .and .u64 (r : Int) i3)], []) = _
    rw [hb0] at c2
    have h : ¬ (w = 32 ∧ 32 ≤ n) := by simp only [Bool.and_eq_false_iff, beq_eq_false_iff_ne, decide_eq_false_iff_not] at c2; omega
    unfold wN wR; rw [if_neg h, if_neg h, hi3, mask_and r n hr hn]

theorem wide_lo {n r w : Nat} {S : Nat → Prop} (hn : n ≤ 64) (hw : w = 32 ∨ w = 64) (hS : ∀ v, S v → v < 2 ^ w ∧ v % 2 ^ min n w = r % 2 ^ min n w) : Lo S (wN n w : Nat) (wR n r w : Nat) := by
  unfold wN wR
  by_cases h : w = 32 ∧ 32 ≤ n
  · rw [if_pos h, if_pos h]
    refine ⟨64, r % 2 ^ 32, rfl, rfl, by decide, by have := Nat.mod_lt r (show 0 < 2 ^ 32 by decide); omega, fun v hv => ?_⟩
    obtain ⟨h1, h2⟩ := hS v hv
    rw [h.1] at h1 h2
    rw [Nat.min_eq_right h.2, Nat.mod_eq_of_lt h1] at h2
    exact hs_of (by rw [← h2])
  · rw [if_neg h, if_neg h]
    have hle : n ≤ w := by omega
    refine ⟨n, r % 2 ^ n, rfl, rfl, hn, Nat.mod_lt _ (pow_pos n), fun v hv => ?_⟩
    obtain ⟨h1, h2⟩ := hS v hv
    rw [Nat.min_eq_left hle] at h2
    exact hs_of (by rw [h2, Nat.mod_mod])
/-- A reckoning of two numbers that goes together with cutting. -/
def Poly (f : Int → Int → Int) : Prop := ∀ K a b a' b' : Int, a % K = a' % K → b % K = b' % K → f a b % K = f a' b' % K
theorem emod_dvd (x : Int) {i j : Nat} (h : i ≤ j) : x % 2 ^ j % 2 ^ i = x % 2 ^ i := by
  have : (2 : Int) ^ i ∣ 2 ^ j := ⟨2 ^ (j - i), by rw [← Int.pow_add]; congr 1; omega⟩
  exact Int.emod_emod_of_dvd x this
theorem cast_pow (i : Nat) : ((2 ^ i : Nat) : Int) = (2 : Int) ^ i := by rw [Int.natCast_pow]; rfl
theorem poly_lo {f : Int → Int → Int} (hf : Poly f) {N r M q w : Nat} (hN : N ≤ 64) (hw : w = 32 ∨ w = 64) (z : Nat) (hz : (z : Int) = f r q % 18446744073709551616) :
    Lo (fun v => ∃ n m : Nat, hs N r n = true ∧ hs M q m = true ∧ (v : Int) = f n m % 2 ^ w) (wN (min N M) w : Nat) (wR (min N M) z w : Nat) := by
  refine wide_lo (by omega) hw ?_
  rintro v ⟨n, m, h1, h2, h3⟩
  have hp : (0 : Int) < 2 ^ w := Int.pow_pos (by decide)
  have hv := Int.emod_lt_of_pos (f n m) hp
  refine ⟨by rw [← h3, ← cast_pow] at hv; omega, ?_⟩
  have hk : min (min N M) w ≤ 64 := by omega
  have e1 := hs_le h1 (show min (min N M) w ≤ N by omega)
  have e2 := hs_le h2 (show min (min N M) w ≤ M by omega)
  generalize hkk : min (min N M) w = k at *
  have a1 : ((n : Int)) % 2 ^ k = (r : Int) % 2 ^ k := by rw [← cast_pow, ← Int.natCast_emod, ← Int.natCast_emod, e1]
  have a2 : ((m : Int)) % 2 ^ k = (q : Int) % 2 ^ k := by rw [← cast_pow, ← Int.natCast_emod, ← Int.natCast_emod, e2]
  have a3 := hf _ _ _ _ _ a1 a2
  have b1 : (v : Int) % 2 ^ k = f n m % 2 ^ k := by rw [h3, emod_dvd _ (by omega)]
  have b2 : (z : Int) % 2 ^ k = f r q % 2 ^ k := by rw [hz, show (18446744073709551616 : Int) = 2 ^ 64 from rfl, emod_dvd _ hk]
  have b3 : (v : Int) % 2 ^ k = (z : Int) % 2 ^ k := by rw [b1, b2, a3]
  rw [← cast_pow, ← Int.natCast_emod, ← Int.natCast_emod] at b3
  exact Int.ofNat_inj.1 b3
theorem poly_add : Poly (fun a b => a + b) := fun K a b a' b' h1 h2 => by show (a + b) % K = _; rw [Int.add_emod, h1, h2, ← Int.add_emod]
theorem poly_sub : Poly (fun a b => a - b) := fun K a b a' b' h1 h2 => by show (a - b) % K = _; rw [Int.sub_emod, h1, h2, ← Int.sub_emod]
theorem poly_mul : Poly (fun a b => a * b) := fun K a b a' b' h1 h2 => by show (a * b) % K = _; rw [Int.mul_emod, h1, h2, ← Int.mul_emod]

set_option maxHeartbeats 4000000 in
theorem q69 (N r M q : Nat) (hN : N ≤ 64) (hr : r < 2 ^ 64) (hM : M ≤ 64) (hq : q < 2 ^ 64) (w : Nat) : F69 [(N : Int), (r : Int), (M : Int), (q : Int), (w : Int)] [] = some ([((wN (min N M) w : Nat) : Int), ((wR (min N M) (((((r : Int) + (q : Int)) % 18446744073709551616)).toNat) w : Nat) : Int)], []) := by
  refine Eq.trans (Fd_of (n := 5) (m := 0) (t := t69) (C := Tab.fn a69) rfl rfl) ?_
  rw [t69]
  refine st_2_0 (e69_82) (g := true) rfl (l := [(if (M : Int) < (N : Int) then (M : Int) else (N : Int)), (arI .add .u64 (r : Int) (q : Int)), (w : Int)]) rfl (m := []) rfl (cl_t ((show F82 [(if (M : Int) < (N : Int) then (M : Int) else (N : Int)), (arI .add .u64 (r : Int) (q : Int)), (w : Int)] [] = F82 [((min N M : Nat) : Int), ((((((r : Int) + (q : Int)) % 18446744073709551616)).toNat : Nat) : Int), (w : Int)] [] from by rw [min_nn, arAdd, show ((((((r : Int) + (q : Int)) % 18446744073709551616)).toNat : Nat) : Int) = (((r : Int) + (q : Int)) % 18446744073709551616) from by omega]).trans (q82 (min N M) (((((r : Int) + (q : Int)) % 18446744073709551616)).toNat) w (by omega) (by omega)))) fun i5 i6 hi5 hi6 => ?_
  show T.den _ _ [(N : Int), (r : Int), (M : Int), (q : Int), (w : Int), i5, i6] [] = _
  refine st_ret ?_
  show some ([i5, i6], []) = _
  rw [hi5, hi6]

theorem lo_add (N r M q : Nat) (hN : N ≤ 64) (hr : r < 2 ^ 64) (hM : M ≤ 64) (hq : q < 2 ^ 64) {w : Nat} (hw : w = 32 ∨ w = 64) : Lo (fun v => ∃ n m : Nat, hs N r n = true ∧ hs M q m = true ∧ (v : Int) = ((n : Int) + m) % 2 ^ w) (wN (min N M) w : Nat) (wR (min N M) (((((r : Int) + (q : Int)) % 18446744073709551616)).toNat) w : Nat) :=
  poly_lo poly_add hN hw _ (by omega)

set_option maxHeartbeats 4000000 in
theorem q71 (N r M q : Nat) (hN : N ≤ 64) (hr : r < 2 ^ 64) (hM : M ≤ 64) (hq : q < 2 ^ 64) (w : Nat) : F71 [(N : Int), (r : Int), (M : Int), (q : Int), (w : Int)] [] = some ([((wN (min N M) w : Nat) : Int), ((wR (min N M) (((((r : Int) - (q : Int)) % 18446744073709551616)).toNat) w : Nat) : Int)], []) := by
  refine Eq.trans (Fd_of (n := 5) (m := 0) (t := t71) (C := Tab.fn a71) rfl rfl) ?_
  rw [t71]
  refine st_2_0 (e71_82) (g := true) rfl (l := [(if (M : Int) < (N : Int) then (M : Int) else (N : Int)), (arI .sub .u64 (r : Int) (q : Int)), (w : Int)]) rfl (m := []) rfl (cl_t ((show F82 [(if (M : Int) < (N : Int) then (M : Int) else (N : Int)), (arI .sub .u64 (r : Int) (q : Int)), (w : Int)] [] = F82 [((min N M : Nat) : Int), ((((((r : Int) - (q : Int)) % 18446744073709551616)).toNat : Nat) : Int), (w : Int)] [] from by rw [min_nn, arSub, show ((((((r : Int) - (q : Int)) % 18446744073709551616)).toNat : Nat) : Int) = (((r : Int) - (q : Int)) % 18446744073709551616) from by omega]).trans (q82 (min N M) (((((r : Int) - (q : Int)) % 18446744073709551616)).toNat) w (by omega) (by omega)))) fun i5 i6 hi5 hi6 => ?_
  show T.den _ _ [(N : Int), (r : Int), (M : Int), (q : Int), (w : Int), i5, i6] [] = _
  refine st_ret ?_
  show some ([i5, i6], []) = _
  rw [hi5, hi6]

theorem lo_sub (N r M q : Nat) (hN : N ≤ 64) (hr : r < 2 ^ 64) (hM : M ≤ 64) (hq : q < 2 ^ 64) {w : Nat} (hw : w = 32 ∨ w = 64) : Lo (fun v => ∃ n m : Nat, hs N r n = true ∧ hs M q m = true ∧ (v : Int) = ((n : Int) - m) % 2 ^ w) (wN (min N M) w : Nat) (wR (min N M) (((((r : Int) - (q : Int)) % 18446744073709551616)).toNat) w : Nat) :=
  poly_lo poly_sub hN hw _ (by omega)

set_option maxHeartbeats 4000000 in
theorem q73 (N r M q : Nat) (hN : N ≤ 64) (hr : r < 2 ^ 64) (hM : M ≤ 64) (hq : q < 2 ^ 64) (w : Nat) : F73 [(N : Int), (r : Int), (M : Int), (q : Int), (w : Int)] [] = some ([((wN (min N M) w : Nat) : Int), ((wR (min N M) (((((r : Int) * (q : Int)) % 18446744073709551616)).toNat) w : Nat) : Int)], []) := by
  refine Eq.trans (Fd_of (n := 5) (m := 0) (t := t73) (C := Tab.fn a73) rfl rfl) ?_
  rw [t73]
  refine st_2_0 (e73_82) (g := true) rfl (l := [(if (M : Int) < (N : Int) then (M : Int) else (N : Int)), (arI .mul .u64 (r : Int) (q : Int)), (w : Int)]) rfl (m := []) rfl (cl_t ((show F82 [(if (M : Int) < (N : Int) then (M : Int) else (N : Int)), (arI .mul .u64 (r : Int) (q : Int)), (w : Int)] [] = F82 [((min N M : Nat) : Int), ((((((r : Int) * (q : Int)) % 18446744073709551616)).toNat : Nat) : Int), (w : Int)] [] from by rw [min_nn, arMul, show ((((((r : Int) * (q : Int)) % 18446744073709551616)).toNat : Nat) : Int) = (((r : Int) * (q : Int)) % 18446744073709551616) from by omega]).trans (q82 (min N M) (((((r : Int) * (q : Int)) % 18446744073709551616)).toNat) w (by omega) (by omega)))) fun i5 i6 hi5 hi6 => ?_
  show T.den _ _ [(N : Int), (r : Int), (M : Int), (q : Int), (w : Int), i5, i6] [] = _
  refine st_ret ?_
  show some ([i5, i6], []) = _
  rw [hi5, hi6]

theorem lo_mul (N r M q : Nat) (hN : N ≤ 64) (hr : r < 2 ^ 64) (hM : M ≤ 64) (hq : q < 2 ^ 64) {w : Nat} (hw : w = 32 ∨ w = 64) : Lo (fun v => ∃ n m : Nat, hs N r n = true ∧ hs M q m = true ∧ (v : Int) = ((n : Int) * m) % 2 ^ w) (wN (min N M) w : Nat) (wR (min N M) (((((r : Int) * (q : Int)) % 18446744073709551616)).toNat) w : Nat) :=
  poly_lo poly_mul hN hw _ (by omega)

set_option maxHeartbeats 4000000 in
theorem q49 (N r n : Nat) (hN : N ≤ 64) (hr : r < 2 ^ 64) : F49 [(N : Int), (r : Int), (n : Int)] [] = some ([((cN N n : Nat) : Int), ((cR N r n : Nat) : Int)], []) := by
  refine Eq.trans (Fd_of (n := 3) (m := 0) (t := t49) (C := Tab.fn a49) rfl rfl) ?_
  rw [t49]
  refine st_ite (fun hc => ?_) (fun hc => ?_)
  · replace hc : (decide ((n : Int) ≥ (N : Int))) = true := hc
    have c1 := hc
    clear hc
    refine st_ret ?_
    show some ([(N : Int), (r : Int)], []) = _
    simp only [decide_eq_true_eq] at c1
    unfold cN cR; rw [if_pos (by omega), if_pos (by omega)]
  · replace hc : (decide ((n : Int) ≥ (N : Int))) = false := hc
    have c2 := hc
    clear hc
    refine st_1_0 (e49_61) (g := true) rfl (l := [(n : Int)]) rfl (m := []) rfl (cl_t (q61 (n : Int))) fun i3 hi3 => ?_
    show T.den _ _ [(N : Int), (r : Int), (n : Int), i3] [] = _
    refine st_ret ?_
    show some ([(if 0 > (n : Int) then 0 else (n : Int)), (arI .and .u64 (r : Int) i3)], []) = _
    simp only [decide_eq_false_iff_not] at c2
    refine r2 ?_ ?_
    · unfold cN; rw [if_neg (by omega), if_neg (by omega)]
    · unfold cR; rw [if_neg (by omega), hi3, mk_nat (by omega), band r _ hr (mask_lt (by omega)), Nat.and_two_pow_sub_one_eq_mod]

theorem cut64 (x k : Nat) (hx : x < 2 ^ 64) (hk : k ≤ 64) : F49 [64, (x : Int), (k : Int)] [] = some ([((k : Nat) : Int), ((x % 2 ^ k : Nat) : Int)], []) := by
  have h := q49 64 x k (by decide) hx
  have e1 : cN 64 k = k := by unfold cN; split <;> omega
  have e2 : cR 64 x k = x % 2 ^ k := by
    unfold cR; split
    · rw [show k = 64 from by omega, Nat.mod_eq_of_lt hx]
    · rfl
  rw [e1, e2] at h; exact h

set_option maxHeartbeats 4000000 in
theorem q78 (N r M q : Nat) (hN : N ≤ 64) (hr : r < 2 ^ 64) (hM : M ≤ 64) (hq : q < 2 ^ 64) : F78 [(N : Int), (r : Int), (M : Int), (q : Int)] [] = some ([((min N M : Nat) : Int), (((r ||| q) % 2 ^ min N M : Nat) : Int)], []) := by
  refine Eq.trans (Fd_of (n := 4) (m := 0) (t := t78) (C := Tab.fn a78) rfl rfl) ?_
  rw [t78]
  refine st_2_0 (e78_49) (g := true) rfl (l := [64, (arI .or .u64 (r : Int) (q : Int)), (if (M : Int) < (N : Int) then (M : Int) else (N : Int))]) rfl (m := []) rfl (cl_t ((show F49 [64, (arI .or .u64 (r : Int) (q : Int)), (if (M : Int) < (N : Int) then (M : Int) else (N : Int))] [] = F49 [64, ((r ||| q : Nat) : Int), ((min N M : Nat) : Int)] [] from by rw [min_nn, bor r q hr hq]).trans (cut64 _ _ (Nat.or_lt_two_pow hr hq) (by omega)))) fun i4 i5 hi4 hi5 => ?_
  show T.den _ _ [(N : Int), (r : Int), (M : Int), (q : Int), i4, i5] [] = _
  refine st_ret ?_
  show some ([i4, i5], []) = _
  rw [hi4, hi5]

theorem lo_or (N r M q : Nat) (hN : N ≤ 64) (hr : r < 2 ^ 64) (hM : M ≤ 64) (hq : q < 2 ^ 64) : Lo (fun v => ∃ n m : Nat, hs N r n = true ∧ hs M q m = true ∧ v = n ||| m) (min N M : Nat) ((r ||| q) % 2 ^ min N M : Nat) := by
  refine ⟨min N M, _, rfl, rfl, by omega, Nat.mod_lt _ (pow_pos _), ?_⟩
  rintro v ⟨n, m, h1, h2, rfl⟩
  refine hs_of ?_
  rw [Nat.mod_mod, Nat.or_mod_two_pow, Nat.or_mod_two_pow, hs_le h1 (by omega), hs_le h2 (by omega)]

set_option maxHeartbeats 4000000 in
theorem q79 (N r M q : Nat) (hN : N ≤ 64) (hr : r < 2 ^ 64) (hM : M ≤ 64) (hq : q < 2 ^ 64) : F79 [(N : Int), (r : Int), (M : Int), (q : Int)] [] = some ([((min N M : Nat) : Int), (((r ^^^ q) % 2 ^ min N M : Nat) : Int)], []) := by
  refine Eq.trans (Fd_of (n := 4) (m := 0) (t := t79) (C := Tab.fn a79) rfl rfl) ?_
  rw [t79]
  refine st_2_0 (e79_49) (g := true) rfl (l := [64, (arI .xor .u64 (r : Int) (q : Int)), (if (M : Int) < (N : Int) then (M : Int) else (N : Int))]) rfl (m := []) rfl (cl_t ((show F49 [64, (arI .xor .u64 (r : Int) (q : Int)), (if (M : Int) < (N : Int) then (M : Int) else (N : Int))] [] = F49 [64, ((r ^^^ q : Nat) : Int), ((min N M : Nat) : Int)] [] from by rw [min_nn, bxor r q hr hq]).trans (cut64 _ _ (Nat.xor_lt_two_pow hr hq) (by omega)))) fun i4 i5 hi4 hi5 => ?_
  show T.den _ _ [(N : Int), (r : Int), (M : Int), (q : Int), i4, i5] [] = _
  refine st_ret ?_
  show some ([i4, i5], []) = _
  rw [hi4, hi5]

theorem lo_xor (N r M q : Nat) (hN : N ≤ 64) (hr : r < 2 ^ 64) (hM : M ≤ 64) (hq : q < 2 ^ 64) : Lo (fun v => ∃ n m : Nat, hs N r n = true ∧ hs M q m = true ∧ v = n ^^^ m) (min N M : Nat) ((r ^^^ q) % 2 ^ min N M : Nat) := by
  refine ⟨min N M, _, rfl, rfl, by omega, Nat.mod_lt _ (pow_pos _), ?_⟩
  rintro v ⟨n, m, h1, h2, rfl⟩
  refine hs_of ?_
  rw [Nat.mod_mod, Nat.xor_mod_two_pow, Nat.xor_mod_two_pow, hs_le h1 (by omega), hs_le h2 (by omega)]

theorem F54_one (x : Int) : F54 [x] [] = (Tabs.tz64f x).map (fun r => ([r], ([] : List Bool))) := rfl
theorem q54 (x : Nat) (h : x < 2 ^ 64) : F54 [(x : Int)] [] = some ([((Go.Lib.ctz 64 x : Nat) : Int)], []) := by
  have h1 : Tabs.tz64f (x : Int) = some ((Go.Lib.ctz 64 x : Nat) : Int) := by
    unfold Tabs.tz64f
    rw [if_pos (by omega), Int.toNat_natCast]
  rw [F54_one, h1, Option.map_some]
theorem ctz_mod {r j : Nat} (hr : r < 2 ^ 64) (hj : j ≤ Go.Lib.ctz 64 r) (h64 : j ≤ 64) : r % 2 ^ j = 0 := by
  have h := (z_iff r 0 j hr (by decide) h64).2 (by unfold z; rw [Nat.xor_zero]; exact hj)
  rw [h, Nat.zero_mod]

set_option maxHeartbeats 4000000 in
theorem q89 (N r : Nat) (hr : r < 2 ^ 64) : F89 [(N : Int), (r : Int)] [] = some ([((min N (Go.Lib.ctz 64 r) : Nat) : Int)], []) := by
  refine Eq.trans (Fd_of (n := 2) (m := 0) (t := t89) (C := Tab.fn a89) rfl rfl) ?_
  rw [t89]
  refine st_1_0 (e89_54) (g := true) rfl (l := [(r : Int)]) rfl (m := []) rfl (cl_t (q54 r hr)) fun i2 hi2 => ?_
  show T.den _ _ [(N : Int), (r : Int), i2] [] = _
  refine st_ret ?_
  show some ([(if i2 < (N : Int) then i2 else (N : Int))], []) = _
  exact r1 (by rw [hi2]; split <;> omega)

def zA (N r M q : Nat) : Nat := max (min N (Go.Lib.ctz 64 r)) (min M (Go.Lib.ctz 64 q))
def aN (N r M q : Nat) : Nat := if min N M < zA N r M q then zA N r M q else min N M
def aR (N r M q : Nat) : Nat := if min N M < zA N r M q then 0 else (r &&& q) % 2 ^ min N M

set_option maxHeartbeats 4000000 in
theorem q86 (N r M q : Nat) (hN : N ≤ 64) (hr : r < 2 ^ 64) (hM : M ≤ 64) (hq : q < 2 ^ 64) : F86 [(N : Int), (r : Int), (M : Int), (q : Int)] [] = some ([((aN N r M q : Nat) : Int), ((aR N r M q : Nat) : Int)], []) := by
  refine Eq.trans (Fd_of (n := 4) (m := 0) (t := t86) (C := Tab.fn a86) rfl rfl) ?_
  rw [t86]
  refine st_1_0 (e86_89) (g := true) rfl (l := [(N : Int), (r : Int)]) rfl (m := []) rfl (cl_t (q89 N r hr)) fun i4 hi4 => ?_
  show T.den _ _ [(N : Int), (r : Int), (M : Int), (q : Int), i4] [] = _
  refine st_1_0 (e86_89) (g := true) rfl (l := [(M : Int), (q : Int)]) rfl (m := []) rfl (cl_t (q89 M q hq)) fun i5 hi5 => ?_
  show T.den _ _ [(N : Int), (r : Int), (M : Int), (q : Int), i4, i5] [] = _
  refine st_lb fun b0 hb0 => ?_
  replace hb0 : b0 = (decide ((if i5 > i4 then i5 else i4) > (if (M : Int) < (N : Int) then (M : Int) else (N : Int)))) := hb0
  show T.den _ _ [(N : Int), (r : Int), (M : Int), (q : Int), i4, i5] [b0] = _
  refine st_ite (fun hc => ?_) (fun hc => ?_)
  · replace hc : b0 = true := hc
    have c1 := hc
    clear hc
    refine st_ret ?_
    show some ([(if i5 > i4 then i5 else i4), 0], []) = _
    have ez : (if i5 > i4 then i5 else i4) = ((zA N r M q : Nat) : Int) := by rw [hi4, hi5]; unfold zA; split <;> omega
    rw [hb0, ez, min_nn] at c1
    have h : min N M < zA N r M q := by simp only [decide_eq_true_eq] at c1; omega
    refine r2 ?_ ?_
    · rw [ez]; unfold aN; rw [if_pos h]
    · unfold aR; rw [if_pos h]; rfl
  · replace hc : b0 = false := hc
    have c2 := hc
    clear hc
    refine st_2_0 (e86_49) (g := true) rfl (l := [64, (arI .and .u64 (r : Int) (q : Int)), (if (M : Int) < (N : Int) then (M : Int) else (N : Int))]) rfl (m := []) rfl (cl_t ((show F49 [64, (arI .and .u64 (r : Int) (q : Int)), (if (M : Int) < (N : Int) then (M : Int) else (N : Int))] [] = F49 [64, ((r &&& q : Nat) : Int), ((min N M : Nat) : Int)] [] from by rw [min_nn, band r q hr hq]).trans (cut64 _ _ (Nat.lt_of_le_of_lt Nat.and_le_left hr) (by omega)))) fun i6 i7 hi6 hi7 => ?_
    show T.den _ _ [(N : Int), (r : Int), (M : Int), (q : Int), i4, i5, i6, i7] [b0] = _
    refine st_ret ?_
    show some ([i6, i7], []) = _
    have ez : (if i5 > i4 then i5 else i4) = ((zA N r M q : Nat) : Int) := by rw [hi4, hi5]; unfold zA; split <;> omega
    rw [hb0, ez, min_nn] at c2
    have h : ¬ min N M < zA N r M q := by simp only [decide_eq_false_iff_not] at c2; omega
    rw [hi6, hi7]; unfold aN aR; rw [if_neg h, if_neg h]

theorem lo_and (N r M q : Nat) (hN : N ≤ 64) (hr : r < 2 ^ 64) (hM : M ≤ 64) (hq : q < 2 ^ 64) : Lo (fun v => ∃ n m : Nat, hs N r n = true ∧ hs M q m = true ∧ v = n &&& m) (aN N r M q : Nat) (aR N r M q : Nat) := by
  unfold aN aR
  by_cases h : min N M < zA N r M q
  · rw [if_pos h, if_pos h]
    refine ⟨zA N r M q, 0, rfl, rfl, by unfold zA; omega, pow_pos _, ?_⟩
    rintro v ⟨n, m, h1, h2, rfl⟩
    refine hs_of ?_
    rw [Nat.and_mod_two_pow, Nat.zero_mod]
    rcases Nat.le_total (min N (Go.Lib.ctz 64 r)) (min M (Go.Lib.ctz 64 q)) with hle | hle
    · have e : zA N r M q = min M (Go.Lib.ctz 64 q) := by unfold zA; omega
      rw [hs_le h2 (show zA N r M q ≤ M by omega), ctz_mod hq (show zA N r M q ≤ _ by omega) (by omega), Nat.and_zero]
    · have e : zA N r M q = min N (Go.Lib.ctz 64 r) := by unfold zA; omega
      rw [hs_le h1 (show zA N r M q ≤ N by omega), ctz_mod hr (show zA N r M q ≤ _ by omega) (by omega), Nat.zero_and]
  · rw [if_neg h, if_neg h]
    refine ⟨min N M, _, rfl, rfl, by omega, Nat.mod_lt _ (pow_pos _), ?_⟩
    rintro v ⟨n, m, h1, h2, rfl⟩
    refine hs_of ?_
    rw [Nat.mod_mod, Nat.and_mod_two_pow, Nat.and_mod_two_pow, hs_le h1 (by omega), hs_le h2 (by omega)]
theorem wrap_i64_in {x : Int} (h0 : 0 ≤ x) (h1 : x < 9223372036854775808) : IntKind.wrap .i64 x = x := Go.IntWalk.i64_in _ (by omega)
theorem shl_nat (r k : Nat) (hk : k ≤ 64) : arI .shl .u64 (r : Int) (k : Int) = ((r * 2 ^ k % 2 ^ 64 : Nat) : Int) := by
  rw [arShl _ _ (by omega) (by omega), Int.toNat_natCast, Int.natCast_emod, Int.natCast_mul, Int.natCast_pow]; rfl
theorem shr_nat (a s : Nat) (hs : s ≤ 64) : arI .shr .u64 (a : Int) (s : Int) = ((a / 2 ^ s : Nat) : Int) := by
  rw [arShr _ _ (by omega) (by omega), Int.toNat_natCast, Int.natCast_ediv, Int.natCast_pow]; rfl
theorem rem_nat (a w : Nat) : arI .rem .u64 (a : Int) (w : Int) = ((a % w : Nat) : Int) := by
  rw [arRem _ _ (by omega), Int.natCast_emod]

set_option maxHeartbeats 4000000 in
theorem q88_64 (N r s : Nat) (hN : N ≤ 64) (hr : r < 2 ^ 64) : F88 [(N : Int), (r : Int), (s : Int), 64] [] = some ([((wN (min (N + s % 64) 64) 64 : Nat) : Int), ((wR (min (N + s % 64) 64) (r * 2 ^ (s % 64) % 2 ^ 64) 64 : Nat) : Int)], []) := by
  refine Eq.trans (Fd_of (n := 4) (m := 0) (t := t88) (C := Tab.fn a88) rfl rfl) ?_
  rw [t88]
  refine st_itt (show ((64 : Int) != 32) = true from by kernel_rfl) ?_
  refine st_li fun i4 hi4 => ?_
  replace hi4 : i4 = (arI .add .i64 (if 64 < (N : Int) then 64 else (N : Int)) (IntKind.wrap .i64 (arI .rem .u64 (s : Int) 64))) := hi4
  show T.den _ _ [(N : Int), (r : Int), (s : Int), (64 : Int), i4] [] = _
  refine st_rq (show (decide ((IntKind.wrap .u64 (IntKind.wrap .i64 (arI .rem .u64 (s : Int) 64))) ≥ 0)) = true from ?_) ?_
  · rw [show (64 : Int) = ((64 : Nat) : Int) from rfl, rem_nat, wrap_i64_in (by omega) (by omega), wraps_u64 _ (by omega) (by omega), decide_eq_true_eq]; omega
  refine st_li fun i5 hi5 => ?_
  replace hi5 : i5 = (arI .shl .u64 (r : Int) (IntKind.wrap .u64 (IntKind.wrap .i64 (arI .rem .u64 (s : Int) 64)))) := hi5
  have ks : IntKind.wrap .i64 (arI .rem .u64 (s : Int) 64) = ((s % 64 : Nat) : Int) := by rw [show (64 : Int) = ((64 : Nat) : Int) from rfl, rem_nat, wrap_i64_in (by omega) (by omega)]
  have hk5 : i5 = ((r * 2 ^ (s % 64) % 2 ^ 64 : Nat) : Int) := by rw [hi5, ks, wraps_u64 _ (by omega) (by omega), shl_nat r _ (by omega)]
  have hk4 : (if (64 : Int) < i4 then 64 else i4) = ((min (N + s % 64) 64 : Nat) : Int) := by
    rw [hi4, ks, show (if (64 : Int) < (N : Int) then (64 : Int) else (N : Int)) = (N : Int) from by split <;> omega]
    rw [show arI .add .i64 (N : Int) ((s % 64 : Nat) : Int) = ((N + s % 64 : Nat) : Int) from by show IntKind.wrap .i64 _ = _; rw [wrap_i64_in (by omega) (by omega)]; omega]
    split <;> omega
  show T.den _ _ [(N : Int), (r : Int), (s : Int), (64 : Int), i4, i5] [] = _
  refine st_2_0 (e88_82) (g := true) rfl (l := [(if 64 < i4 then 64 else i4), i5, 64]) rfl (m := []) rfl (cl_t ((show F82 [(if 64 < i4 then 64 else i4), i5, 64] [] = F82 [((min (N + s % 64) 64 : Nat) : Int), ((r * 2 ^ (s % 64) % 2 ^ 64 : Nat) : Int), ((64 : Nat) : Int)] [] from by rw [hk4, hk5]; rfl).trans (q82 _ _ 64 (by omega) (Nat.mod_lt _ (by decide))))) fun i6 i7 hi6 hi7 => ?_
  show T.den _ _ [(N : Int), (r : Int), (s : Int), (64 : Int), i4, i5, i6, i7] [] = _
  refine st_ret ?_
  show some ([i6, i7], []) = _
  rw [hi6, hi7]

set_option maxHeartbeats 4000000 in
theorem q88_32 (N r s : Nat) (hN : N ≤ 64) (hr : r < 2 ^ 64) : F88 [(N : Int), (r : Int), (s : Int), 32] [] = some ([((wN (min (N + s % 32) 32) 32 : Nat) : Int), ((wR (min (N + s % 32) 32) (r * 2 ^ (s % 32) % 2 ^ 64) 32 : Nat) : Int)], []) := by
  refine Eq.trans (Fd_of (n := 4) (m := 0) (t := t88) (C := Tab.fn a88) rfl rfl) ?_
  rw [t88]
  refine st_itf (show ((32 : Int) != 32) = false from by kernel_rfl) ?_
  refine st_rq (show ((32 : Int) != 0) = true from by kernel_rfl) ?_
  refine st_li fun i4 hi4 => ?_
  replace hi4 : i4 = (arI .add .i64 (if 64 < (N : Int) then 64 else (N : Int)) (IntKind.wrap .i64 (arI .rem .u64 (s : Int) (32 : Int)))) := hi4
  show T.den _ _ [(N : Int), (r : Int), (s : Int), (32 : Int), i4] [] = _
  refine st_rq (show (decide ((IntKind.wrap .u64 (IntKind.wrap .i64 (arI .rem .u64 (s : Int) (32 : Int)))) ≥ 0)) = true from ?_) ?_
  · rw [show (32 : Int) = ((32 : Nat) : Int) from rfl, rem_nat, wrap_i64_in (by omega) (by omega), wraps_u64 _ (by omega) (by omega), decide_eq_true_eq]; omega
  refine st_li fun i5 hi5 => ?_
  replace hi5 : i5 = (arI .shl .u64 (r : Int) (IntKind.wrap .u64 (IntKind.wrap .i64 (arI .rem .u64 (s : Int) (32 : Int))))) := hi5
  have ks : IntKind.wrap .i64 (arI .rem .u64 (s : Int) 32) = ((s % 32 : Nat) : Int) := by rw [show (32 : Int) = ((32 : Nat) : Int) from rfl, rem_nat, wrap_i64_in (by omega) (by omega)]
  have hk5 : i5 = ((r * 2 ^ (s % 32) % 2 ^ 64 : Nat) : Int) := by rw [hi5, ks, wraps_u64 _ (by omega) (by omega), shl_nat r _ (by omega)]
  have hk4 : (if (32 : Int) < i4 then 32 else i4) = ((min (N + s % 32) 32 : Nat) : Int) := by
    rw [hi4, ks, show (if (64 : Int) < (N : Int) then (64 : Int) else (N : Int)) = (N : Int) from by split <;> omega]
    rw [show arI .add .i64 (N : Int) ((s % 32 : Nat) : Int) = ((N + s % 32 : Nat) : Int) from by show IntKind.wrap .i64 _ = _; rw [wrap_i64_in (by omega) (by omega)]; omega]
    split <;> omega
  show T.den _ _ [(N : Int), (r : Int), (s : Int), (32 : Int), i4, i5] [] = _
  refine st_2_0 (e88_82) (g := true) rfl (l := [(if (32 : Int) < i4 then (32 : Int) else i4), i5, 32]) rfl (m := []) rfl (cl_t ((show F82 [(if (32 : Int) < i4 then (32 : Int) else i4), i5, 32] [] = F82 [((min (N + s % 32) 32 : Nat) : Int), ((r * 2 ^ (s % 32) % 2 ^ 64 : Nat) : Int), ((32 : Nat) : Int)] [] from by rw [hk4, hk5]; rfl).trans (q82 _ _ 32 (by omega) (Nat.mod_lt _ (by decide))))) fun i6 i7 hi6 hi7 => ?_
  show T.den _ _ [(N : Int), (r : Int), (s : Int), (32 : Int), i4, i5, i6, i7] [] = _
  refine st_ret ?_
  show some ([i6, i7], []) = _
  rw [hi6, hi7]

theorem lo_shl {N r w : Nat} (hN : N ≤ 64) (hw : w = 32 ∨ w = 64) (k : Nat) : Lo (fun v => ∃ n : Nat, hs N r n = true ∧ v = n * 2 ^ k % 2 ^ w) (wN (min (N + k) w) w : Nat) (wR (min (N + k) w) (r * 2 ^ k % 2 ^ 64) w : Nat) := by
  refine wide_lo (by omega) hw ?_
  rintro v ⟨n, h1, rfl⟩
  refine ⟨Nat.mod_lt _ (pow_pos w), ?_⟩
  rw [show min (min (N + k) w) w = min (N + k) w from by omega]
  have hj : min (N + k) w ≤ w := by omega
  have hj2 : min (N + k) w ≤ 64 := by omega
  rw [mod_mod_pow _ hj, mod_mod_pow _ hj2, ← mod_mod_pow (n * 2 ^ k) (show min (N + k) w ≤ N + k by omega), ← mod_mod_pow (r * 2 ^ k) (show min (N + k) w ≤ N + k by omega), Nat.pow_add 2 N k, Nat.mul_mod_mul_right, Nat.mul_mod_mul_right, hs_iff.1 h1]
theorem lo_cut {N r : Nat} (hN : N ≤ 64) (hr : r < 2 ^ N) (j : Nat) : Lo (fun v => ∃ n : Nat, hs N r n = true ∧ v = n % 2 ^ j) (cN N j : Nat) (cR N r j : Nat) := by
  have e : cR N r j = r % 2 ^ min N j := cR_eq N r j hr
  rw [cN_eq, e]
  refine ⟨min N j, _, rfl, rfl, by omega, Nat.mod_lt _ (pow_pos _), ?_⟩
  rintro v ⟨n, h1, rfl⟩
  refine hs_of ?_
  rw [Nat.mod_mod, mod_mod_pow n (show min N j ≤ j by omega), hs_le h1 (by omega)]
end Go.Proofs.YtlnikilodakjmaaDoor.ITransTight
