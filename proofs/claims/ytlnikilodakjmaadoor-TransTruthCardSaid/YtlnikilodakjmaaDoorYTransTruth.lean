/-
  What is surely not 0, or surely 0: the plain law of TransTruth.
-/
import Derived.Test.YtlnikilodakjmaaDoorXTransTruth
import Derived.Test.YtlnikilodakjmaaDoorSn
import Derived.Lib.TrailingZeros
namespace Go.Proofs.YtlnikilodakjmaaDoor.YTransTruth
open Go.Proofs.YtlnikilodakjmaaDoor.Sx Go.Proofs.YtlnikilodakjmaaDoor.Sn Go.Proofs.YtlnikilodakjmaaDoor.XTransTruth Go.Proofs.YtlnikilodakjmaaDoor.ETransTruth
set_option linter.unusedSimpArgs false
set_option linter.unusedVariables false
theorem st_0_1 {C : Nat → Sx.Fn} {is : List Int} {bs : List Bool} {r : Option (List Int × List Bool)} {G : E} {f : Nat} {ii bb : List E} {k : Sx.T} {c0 : Bool} {F : Sx.Fn} {g : Bool} {l : List Int} {m : List Bool} (hC : C f = F) (hG : G.B is bs = g) (hl : ii.map (E.I is bs) = l) (hm : bb.map (E.B is bs) = m)
    (h : (bif g then F l m else some (List.replicate 0 0, List.replicate 1 false)) = some ([], [c0]))
    (hk : ∀ (y0 : Bool), y0 = c0 → k.den C (is ++ []) (bs ++ [y0]) = r) : (Sx.T.call G f ii bb 0 1 k).den C is bs = r := st_call _ _ (by rw [hC, hG, hl, hm]; exact h) rfl rfl (hk _ rfl)

theorem st_0_2 {C : Nat → Sx.Fn} {is : List Int} {bs : List Bool} {r : Option (List Int × List Bool)} {G : E} {f : Nat} {ii bb : List E} {k : Sx.T} {c0 c1 : Bool} {F : Sx.Fn} {g : Bool} {l : List Int} {m : List Bool} (hC : C f = F) (hG : G.B is bs = g) (hl : ii.map (E.I is bs) = l) (hm : bb.map (E.B is bs) = m)
    (h : (bif g then F l m else some (List.replicate 0 0, List.replicate 2 false)) = some ([], [c0, c1]))
    (hk : ∀ (y0 y1 : Bool), y0 = c0 → y1 = c1 → k.den C (is ++ []) (bs ++ [y0, y1]) = r) : (Sx.T.call G f ii bb 0 2 k).den C is bs = r := st_call _ _ (by rw [hC, hG, hl, hm]; exact h) rfl rfl (hk _ _ rfl rfl)

theorem st_1_0 {C : Nat → Sx.Fn} {is : List Int} {bs : List Bool} {r : Option (List Int × List Bool)} {G : E} {f : Nat} {ii bb : List E} {k : Sx.T} {a0 : Int} {F : Sx.Fn} {g : Bool} {l : List Int} {m : List Bool} (hC : C f = F) (hG : G.B is bs = g) (hl : ii.map (E.I is bs) = l) (hm : bb.map (E.B is bs) = m)
    (h : (bif g then F l m else some (List.replicate 1 0, List.replicate 0 false)) = some ([a0], []))
    (hk : ∀ (x0 : Int), x0 = a0 → k.den C (is ++ [x0]) (bs ++ []) = r) : (Sx.T.call G f ii bb 1 0 k).den C is bs = r := st_call _ _ (by rw [hC, hG, hl, hm]; exact h) rfl rfl (hk _ rfl)
theorem r1 {a b : Int} (h : a = b) : (some ([a], []) : Option (List Int × List Bool)) = some ([b], []) := by rw [h]
theorem rb {a b : Bool} (h : a = b) : (some ([], [a]) : Option (List Int × List Bool)) = some ([], [b]) := by rw [h]
def mk (N : Int) : Int := if N ≥ 64 then 18446744073709551615 else arI .sub .u64 (arI .shl .u64 1 (IntKind.wrap .u64 (if 0 > N then 0 else N))) 1
def hL (N r n : Int) : Bool := (arI .and .u64 (arI .xor .u64 n r) (mk N)) == 0
def rL (N r : Int) : Bool := ((decide (N ≥ 0)) && (decide (N ≤ 64))) && ((arI .andNot .u64 r (mk N)) == 0)
theorem and_z (x : Int) : arI .and .u64 x 0 = 0 := by
  show IntKind.u64.wrap ((BitVec.ofInt 64 x &&& BitVec.ofInt 64 0).toNat : Int) = 0
  rw [show BitVec.ofInt 64 0 = 0#64 from rfl, BitVec.and_zero]; decide
theorem z_and (x : Int) : arI .and .u64 0 x = 0 := by
  show IntKind.u64.wrap ((BitVec.ofInt 64 0 &&& BitVec.ofInt 64 x).toNat : Int) = 0
  rw [show BitVec.ofInt 64 0 = 0#64 from rfl, BitVec.zero_and]; decide
theorem xor_self (x : Int) : arI .xor .u64 x x = 0 := by
  show IntKind.u64.wrap ((BitVec.ofInt 64 x ^^^ BitVec.ofInt 64 x).toNat : Int) = 0
  rw [BitVec.xor_self]; decide
theorem hL_0 (r n : Int) : hL 0 r n = true := by
  unfold hL; rw [show mk 0 = 0 from by decide +kernel, and_z]; rfl
theorem hL_self (N n : Int) : hL N n n = true := by
  unfold hL; rw [xor_self, z_and]; rfl
theorem rL_00 : rL 0 0 = true := by decide +kernel

set_option maxHeartbeats 4000000 in
theorem q61 (N : Int) : F61 [N] [] = some ([mk N], []) := by
  refine Eq.trans (Fd_of (n := 1) (m := 0) (t := t61) (C := Tab.fn a61) rfl rfl) ?_
  rw [t61]
  refine st_ite (fun hc => ?_) (fun hc => ?_)
  · replace hc : (decide (N ≥ 64)) = true := hc
    have c1 := hc
    clear hc
    refine st_ret ?_
    show some ([18446744073709551615], []) = _
    exact r1 (by unfold mk; rw [if_pos (of_decide_eq_true c1)])
  · replace hc : (decide (N ≥ 64)) = false := hc
    have c2 := hc
    clear hc
    refine st_rq (show (decide ((IntKind.wrap .u64 (if 0 > N then 0 else N)) ≥ 0)) = true from ?_) ?_
    · rw [decide_eq_true_eq, wrap_u64]
      exact Int.emod_nonneg _ (by decide)
    refine st_li fun i1 hi1 => ?_
    replace hi1 : i1 = (arI .sub .u64 (arI .shl .u64 1 (IntKind.wrap .u64 (if 0 > N then 0 else N))) 1) := hi1
    show T.den _ _ [N, i1] [] = _
    refine st_ret ?_
    show some ([i1], []) = _
    exact r1 (by unfold mk; rw [if_neg (of_decide_eq_false c2)]; exact hi1)

theorem e37_61 : Tab.fn a37 61 = F61 := Tab.fn_hd
theorem e30_61 : Tab.fn a30 61 = F61 := Tab.fn_hd

set_option maxHeartbeats 4000000 in
theorem q37 (N r n : Int) : F37 [N, r, n] [] = some ([], [hL N r n]) := by
  refine Eq.trans (Fd_of (n := 3) (m := 0) (t := t37) (C := Tab.fn a37) rfl rfl) ?_
  rw [t37]
  refine st_1_0 (e37_61) (g := true) rfl (l := [N]) rfl (m := []) rfl (cl_t (q61 N)) fun i3 hi3 => ?_
  show T.den _ _ [N, r, n, i3] [] = _
  refine st_lb fun b0 hb0 => ?_
  replace hb0 : b0 = ((arI .and .u64 (arI .xor .u64 n r) i3) == 0) := hb0
  show T.den _ _ [N, r, n, i3] [b0] = _
  refine st_ret ?_
  show some ([], [b0]) = _
  exact rb (by rw [hb0, hi3]; rfl)

set_option maxHeartbeats 4000000 in
theorem q30 (N r : Int) : F30 [N, r] [] = some ([], [rL N r]) := by
  refine Eq.trans (Fd_of (n := 2) (m := 0) (t := t30) (C := Tab.fn a30) rfl rfl) ?_
  rw [t30]
  refine st_lb fun b0 hb0 => ?_
  replace hb0 : b0 = ((decide (N ≥ 0)) && (decide (N ≤ 64))) := hb0
  show T.den _ _ [N, r] [b0] = _
  refine st_1_0 (e30_61) (g := b0) rfl (l := [N]) rfl (m := []) rfl (cl_1 (q61 N)) fun i2 hi2 => ?_
  show T.den _ _ [N, r, i2] [b0] = _
  refine st_lb fun b1 hb1 => ?_
  replace hb1 : b1 = (b0 && ((arI .andNot .u64 r i2) == 0)) := hb1
  show T.den _ _ [N, r, i2] [b0, b1] = _
  refine st_ret ?_
  show some ([], [b1]) = _
  refine rb ?_
  rw [hb1, hi2]; unfold rL; rw [← hb0]
  cases b0 <;> rfl

theorem pow_pos (i : Nat) : 0 < 2 ^ i := Nat.two_pow_pos i
theorem pow_lt {i : Nat} (h : i < 64) : 2 ^ i < 2 ^ 64 := Nat.pow_lt_pow_right (by decide) h
theorem pow_le {i j : Nat} (h : i ≤ j) : 2 ^ i ≤ 2 ^ j := Nat.pow_le_pow_right (by decide) h
theorem mod_lt64 (a i : Nat) (h : a < 2 ^ 64) : a % 2 ^ i < 2 ^ 64 := Nat.lt_of_le_of_lt (Nat.mod_le _ _) h
theorem mod_mod_pow (n : Nat) {i j : Nat} (h : i ≤ j) : n % 2 ^ j % 2 ^ i = n % 2 ^ i := Nat.mod_mod_of_dvd _ (Nat.pow_dvd_pow 2 h)
def hs (N r n : Nat) : Bool := decide (n % 2 ^ N = r % 2 ^ N)
theorem xor_mask_eq_zero (n r i : Nat) : (n ^^^ r) &&& (2 ^ i - 1) = 0 ↔ n % 2 ^ i = r % 2 ^ i := by
  rw [Nat.and_two_pow_sub_one_eq_mod, Nat.xor_mod_two_pow]
  constructor
  · intro h
    refine Nat.eq_of_testBit_eq fun j => ?_
    have h1 := congrArg (fun x => Nat.testBit x j) h
    simp only [Nat.testBit_xor, Nat.zero_testBit] at h1
    revert h1
    cases Nat.testBit (n % 2 ^ i) j <;> cases Nat.testBit (r % 2 ^ i) j <;> simp
  · intro h; rw [h, Nat.xor_self]
theorem mask_lt {N : Nat} (h : N ≤ 64) : 2 ^ N - 1 < 2 ^ 64 := by have := pow_le h; have := pow_pos N; omega
theorem bandNot (a b : Nat) (ha : a < 2 ^ 64) (hb : b < 2 ^ 64) : arI .andNot .u64 (a : Int) (b : Int) = ((a &&& (2 ^ 64 - (b + 1)) : Nat) : Int) := by
  show IntKind.u64.wrap ((BitVec.ofInt 64 (a : Int) &&& ~~~(BitVec.ofInt 64 (b : Int))).toNat : Int) = _
  have e : 2 ^ 64 - 1 - b = 2 ^ 64 - (b + 1) := by omega
  rw [BitVec.toNat_and, BitVec.toNat_not, toN a ha, toN b hb, e]
  exact wraps_u64 _ (by omega) (by have := @Nat.and_le_left a (2 ^ 64 - (b + 1)); omega)
theorem and_not_mask_eq_zero {r i : Nat} (hr : r < 2 ^ 64) (hi : i ≤ 64) : r &&& (2 ^ 64 - (2 ^ i - 1 + 1)) = 0 ↔ r < 2 ^ i := by
  have e : 2 ^ 64 - (2 ^ i - 1 + 1) = 2 ^ 64 - 2 ^ i := by have := pow_pos i; omega
  have d : 2 ^ 64 - 2 ^ i = (2 ^ (64 - i) - 1) * 2 ^ i := by rw [Nat.sub_mul, ← Nat.pow_add, Nat.sub_add_cancel hi, Nat.one_mul]
  have k : r &&& (2 ^ 64 - (2 ^ i - 1 + 1)) = r / 2 ^ i * 2 ^ i := by
    rw [e, d]
    refine Nat.eq_of_testBit_eq fun j => ?_
    rw [Nat.testBit_and, Nat.testBit_mul_two_pow, Nat.testBit_mul_two_pow, Nat.testBit_two_pow_sub_one, Nat.testBit_div_two_pow]
    by_cases h : i ≤ j
    · by_cases h2 : j < 64
      · simp [h, show j - i < 64 - i from by omega, Nat.sub_add_cancel h]
      · have : r.testBit j = false := Nat.testBit_lt_two_pow (Nat.lt_of_lt_of_le hr (pow_le (by omega)))
        simp [h, this, Nat.sub_add_cancel h]
    · simp [h]
  rw [k]
  have h1 := Nat.div_add_mod r (2 ^ i)
  have h2 := Nat.mod_lt r (pow_pos i)
  constructor
  · intro h; rw [Nat.mul_comm] at h1; omega
  · intro h; rw [Nat.div_eq_of_lt h, Nat.zero_mul]
theorem mk_nat {N : Nat} (h : N ≤ 64) : mk (N : Int) = ((2 ^ N - 1 : Nat) : Int) := by
  unfold mk
  by_cases h1 : N = 64
  · subst h1; decide +kernel
  · have hp := pow_lt (i := N) (by omega)
    have hp0 := pow_pos N
    rw [if_neg (by omega), if_neg (by omega), wraps_u64 _ (by omega) (by omega), arShl _ _ (by omega) (by omega), Int.toNat_natCast, Int.one_mul, show (2 : Int) ^ N = ((2 ^ N : Nat) : Int) from by rw [Int.natCast_pow]; rfl, arSub]; omega
theorem hL_nat (N r n : Nat) (hN : N ≤ 64) (hr : r < 2 ^ 64) (hn : n < 2 ^ 64) : hL N r n = hs N r n := by
  unfold hL hs
  rw [mk_nat hN, bxor n r hn hr, band _ _ (Nat.xor_lt_two_pow hn hr) (mask_lt hN), Bool.eq_iff_iff, beq_iff_eq, decide_eq_true_iff, ← xor_mask_eq_zero]
  omega
theorem rL_nat (N r : Nat) (hN : N ≤ 64) (hr : r < 2 ^ 64) : rL N r = decide (r < 2 ^ N) := by
  unfold rL
  rw [mk_nat hN, bandNot r _ hr (mask_lt hN), decide_eq_true (by omega), decide_eq_true (by omega), Bool.true_and, Bool.true_and, Bool.eq_iff_iff, beq_iff_eq, decide_eq_true_iff, ← and_not_mask_eq_zero hr hN]
  omega
theorem nats {a : Int} (h : 0 ≤ a) : ∃ n : Nat, a = n := Int.eq_ofNat_of_zero_le h
theorem rL_true {N r : Int} (h : rL N r = true) (hr : 0 ≤ r ∧ r < 18446744073709551616) : ∃ n m : Nat, N = n ∧ r = m ∧ n ≤ 64 ∧ m < 2 ^ 64 ∧ m < 2 ^ n := by
  have h' := h
  unfold rL at h'
  simp only [Bool.and_eq_true, decide_eq_true_eq] at h'
  obtain ⟨n, rfl⟩ := nats h'.1.1
  obtain ⟨m, rfl⟩ := nats hr.1
  have hn : n ≤ 64 := by omega
  have hm : m < 2 ^ 64 := by omega
  rw [rL_nat n m hn hm] at h
  exact ⟨n, m, rfl, rfl, hn, hm, of_decide_eq_true h⟩
def cN (N n : Nat) : Nat := if N ≤ n then N else n
def cR (N r n : Nat) : Nat := if N ≤ n then r else r % 2 ^ n
def z (r q : Nat) : Nat := Go.Lib.ctz 64 (r ^^^ q)
theorem xor_zero (a b : Nat) : a ^^^ b = 0 ↔ a = b := by
  constructor
  · intro h
    refine Nat.eq_of_testBit_eq fun j => ?_
    have h1 := congrArg (fun x => Nat.testBit x j) h
    simp only [Nat.testBit_xor, Nat.zero_testBit] at h1
    revert h1
    cases Nat.testBit a j <;> cases Nat.testBit b j <;> simp
  · intro h; rw [h, Nat.xor_self]
theorem z_iff (r q i : Nat) (hr : r < 2 ^ 64) (hq : q < 2 ^ 64) (hi : i ≤ 64) : r % 2 ^ i = q % 2 ^ i ↔ i ≤ z r q := by
  have hx : r ^^^ q < 2 ^ 64 := Nat.xor_lt_two_pow hr hq
  rw [← xor_zero, ← Nat.xor_mod_two_pow]
  unfold z Go.Lib.ctz
  by_cases h0 : r ^^^ q = 0
  · rw [if_pos h0, h0, Nat.zero_mod]; simp [hi]
  · rw [if_neg h0]
    obtain ⟨m, e, _⟩ := Go.Lib.ctzFrom_spec 64 (r ^^^ q) (by omega) hx
    generalize Go.Lib.ctzFrom 64 (r ^^^ q) = c at *
    rw [e]
    constructor
    · intro h
      by_cases hc : i ≤ c
      · exact hc
      · exfalso
        have h1 := Nat.dvd_of_mod_eq_zero h
        have h2 : 2 ^ (c + 1) ∣ 2 ^ c * (2 * m + 1) := Nat.dvd_trans (Nat.pow_dvd_pow 2 (by omega)) h1
        rw [Nat.pow_succ] at h2
        have h3 := Nat.dvd_of_mul_dvd_mul_left (pow_pos c) h2
        omega
    · intro h
      exact Nat.mod_eq_zero_of_dvd (Nat.dvd_trans (Nat.pow_dvd_pow 2 h) (Nat.dvd_mul_right _ _))
theorem z_comm (r q : Nat) : z q r = z r q := by unfold z; rw [Nat.xor_comm]
theorem cN_eq (N n : Nat) : cN N n = min N n := by unfold cN; split <;> omega
theorem cR_eq (N r n : Nat) (h : r < 2 ^ N) : cR N r n = r % 2 ^ min N n := by
  unfold cR
  split
  · rw [Nat.min_eq_left (by omega), Nat.mod_eq_of_lt h]
  · rw [Nat.min_eq_right (by omega)]
theorem hs_of {N r n : Nat} (h : n % 2 ^ N = r % 2 ^ N) : hs N r n = true := decide_eq_true h
theorem wt {N M q r : Nat} (h : M ≤ N) (h2 : r % 2 ^ M = q % 2 ^ M) : (decide (M ≤ N) && hs M q r) = true := by rw [decide_eq_true h, hs_of h2]; rfl


theorem q10 : F10 [] [] = some ([], [true]) := by decide +kernel
theorem q29 (a b : Int) : F29 [a, b] [] = some ([], [decide (a ≤ b)]) := rfl
theorem q36 (a b n : Int) : F36 [a, b, n] [] = some ([], [decide (n ≥ a) && decide (n ≤ b)]) := rfl
def rA (a b N r : Int) : Bool := decide (a ≤ b) && rL N r
def hA (a b N r n : Int) : Bool := (decide (n ≥ a) && decide (n ≤ b)) && hL N r n

theorem e11_29 : Tab.fn a11 29 = F29 := Tab.fn_hd
theorem e11_30 : Tab.fn a11 30 = F30 := ((Tab.fn_tl rfl).trans Tab.fn_hd)
theorem e15_36 : Tab.fn a15 36 = F36 := Tab.fn_hd
theorem e15_37 : Tab.fn a15 37 = F37 := ((Tab.fn_tl rfl).trans Tab.fn_hd)
theorem e18_15 : Tab.fn a18 15 = F15 := Tab.fn_hd
theorem e4_10 : Tab.fn a4 10 = F10 := Tab.fn_hd
theorem e4_11 : Tab.fn a4 11 = F11 := ((Tab.fn_tl rfl).trans Tab.fn_hd)
theorem e4_18 : Tab.fn a4 18 = F18 := ((Tab.fn_tl rfl).trans ((Tab.fn_tl rfl).trans Tab.fn_hd))
theorem e4_15 : Tab.fn a4 15 = F15 := ((Tab.fn_tl rfl).trans ((Tab.fn_tl rfl).trans ((Tab.fn_tl rfl).trans Tab.fn_hd)))

set_option maxHeartbeats 4000000 in
theorem q11 (a b N r : Int) : F11 [a, b, N, r] [] = some ([], [rA a b N r]) := by
  unfold rA
  refine Eq.trans (Fd_of (n := 4) (m := 0) (t := t11) (C := Tab.fn a11) rfl rfl) ?_
  rw [t11]
  refine st_0_1 (e11_29) (g := true) rfl (l := [a, b]) rfl (m := []) rfl (cl_t (q29 a b)) fun b0 hb0 => ?_
  show T.den _ _ [a, b, N, r] [b0] = _
  refine st_0_1 (e11_30) (g := b0) rfl (l := [N, r]) rfl (m := []) rfl (cl_b (q30 N r)) fun b1 hb1 => ?_
  show T.den _ _ [a, b, N, r] [b0, b1] = _
  refine st_ret ?_
  show some ([], [(b0 && b1)]) = _
  exact rb (by rw [hb1, ← hb0, ← Bool.and_assoc, Bool.and_self])

set_option maxHeartbeats 4000000 in
theorem q15 (a b N r n : Int) : F15 [a, b, N, r, n] [] = some ([], [hA a b N r n]) := by
  unfold hA
  refine Eq.trans (Fd_of (n := 5) (m := 0) (t := t15) (C := Tab.fn a15) rfl rfl) ?_
  rw [t15]
  refine st_0_1 (e15_36) (g := true) rfl (l := [a, b, n]) rfl (m := []) rfl (cl_t (q36 a b n)) fun b0 hb0 => ?_
  show T.den _ _ [a, b, N, r, n] [b0] = _
  refine st_0_1 (e15_37) (g := b0) rfl (l := [N, r, n]) rfl (m := []) rfl (cl_b (q37 N r n)) fun b1 hb1 => ?_
  show T.den _ _ [a, b, N, r, n] [b0, b1] = _
  refine st_ret ?_
  show some ([], [(b0 && b1)]) = _
  exact rb (by rw [hb1, ← hb0, ← Bool.and_assoc, Bool.and_self])

def yes (a b N r : Int) : Bool := !(hA a b N r 0)
def sure (a b N r : Int) : Bool := !(hA a b N r 0) || ((b == 0) || (N == 64))

set_option maxHeartbeats 4000000 in
theorem q18 (a b N r : Int) : F18 [a, b, N, r] [] = some ([], [yes a b N r, sure a b N r]) := by
  refine Eq.trans (Fd_of (n := 4) (m := 0) (t := t18) (C := Tab.fn a18) rfl rfl) ?_
  rw [t18]
  refine st_0_1 (e18_15) (g := true) rfl (l := [a, b, N, r, 0]) rfl (m := []) rfl (cl_t (q15 a b N r 0)) fun b0 hb0 => ?_
  show T.den _ _ [a, b, N, r] [b0] = _
  refine st_ite (fun hc => ?_) (fun hc => ?_)
  · replace hc : (!b0) = true := hc
    have c1 := hc
    clear hc
    refine st_ret ?_
    show some ([], [true, true]) = _
    rw [hb0] at c1
    unfold yes sure; rw [c1]; rfl
  · replace hc : (!b0) = false := hc
    have c2 := hc
    clear hc
    refine st_lb fun b1 hb1 => ?_
    replace hb1 : b1 = ((b == 0) || (N == 64)) := hb1
    show T.den _ _ [a, b, N, r] [b0, b1] = _
    refine st_ite (fun hc => ?_) (fun hc => ?_)
    · replace hc : b1 = true := hc
      have c3 := hc
      clear hc
      refine st_ret ?_
      show some ([], [false, true]) = _
      rw [hb0] at c2; unfold yes sure; rw [c2, ← hb1, c3]; rfl
    · replace hc : b1 = false := hc
      have c4 := hc
      clear hc
      refine st_ret ?_
      show some ([], [false, false]) = _
      rw [hb0] at c2; unfold yes sure; rw [c2, ← hb1, c4]; rfl

theorem hA_true {a b N r n : Int} (h : hA a b N r n = true) : a ≤ n ∧ n ≤ b ∧ hL N r n = true := by
  unfold hA at h
  simp only [Bool.and_eq_true, decide_eq_true_eq] at h
  exact ⟨h.1.1, h.1.2, h.2⟩
theorem full_eq {r n m : Int} (hr : 0 ≤ r ∧ r < 18446744073709551616) (hn : 0 ≤ n ∧ n < 18446744073709551616) (hm : 0 ≤ m ∧ m < 18446744073709551616) (h1 : hL 64 r n = true) (h2 : hL 64 r m = true) : n = m := by
  obtain ⟨r, rfl⟩ := nats hr.1
  obtain ⟨n, rfl⟩ := nats hn.1
  obtain ⟨m, rfl⟩ := nats hm.1
  rw [show (64 : Int) = ((64 : Nat) : Int) from rfl, hL_nat 64 r _ (by decide) (by omega) (by omega)] at h1 h2
  have e1 := of_decide_eq_true h1
  have e2 := of_decide_eq_true h2
  omega

theorem rA_true {a b N r : Int} (h : rA a b N r = true) (hr : 0 ≤ r ∧ r < 18446744073709551616) : a ≤ b ∧ ∃ n m : Nat, N = n ∧ r = m ∧ n ≤ 64 ∧ m < 2 ^ 64 ∧ m < 2 ^ n := by
  unfold rA at h
  rw [Bool.and_eq_true, decide_eq_true_iff] at h
  exact ⟨h.1, rL_true h.2 hr⟩
theorem key (a b N r n : Int) (ha : 0 ≤ a ∧ a < 18446744073709551616) (hb : 0 ≤ b ∧ b < 18446744073709551616) (hr : 0 ≤ r ∧ r < 18446744073709551616) (hn : 0 ≤ n ∧ n < 18446744073709551616) (hs : (!(sure a b N r)) = false) :
    ((!(hA a b N r n)) || (yes a b N r == (n != 0))) = true := by
  cases h : hA a b N r n
  · rfl
  · unfold sure at hs
    unfold yes
    cases h0 : hA a b N r 0
    · have : n ≠ 0 := fun e => by rw [e, h0] at h; cases h
      simp [this]
    · rw [h0] at hs
      have h1 := hA_true h
      have h2 := hA_true h0
      have e : n = 0 := by
        by_cases hz : b = 0
        · omega
        · have h64 : N = 64 := by simpa [hz] using hs
          subst h64
          exact full_eq hr hn ⟨by omega, by omega⟩ h1.2.2 h2.2.2
      subst e; rfl

set_option maxHeartbeats 4000000 in
theorem law (a b N r n : Int) (wa : (Lit.int .u64 a).wf = true) (wb : (Lit.int .u64 b).wf = true) (wN : (Lit.int .i64 N).wf = true) (wr : (Lit.int .u64 r).wf = true) (wn : (Lit.int .u64 n).wf = true) : F4 [a, b, N, r, n] [] = some ([], [true]) := by
  have ha := wf_u64 wa
  have hb := wf_u64 wb
  have hr := wf_u64 wr
  have hn := wf_u64 wn
  refine Eq.trans (Fd_of (n := 5) (m := 0) (t := t4) (C := Tab.fn a4) rfl rfl) ?_
  rw [t4]
  refine st_0_1 (e4_10) (g := true) rfl (l := []) rfl (m := []) rfl (cl_t q10) fun b0 hb0 => ?_
  show T.den _ _ [a, b, N, r, n] [b0] = _
  refine st_ite (fun hc => ?_) (fun hc => ?_)
  · replace hc : (!b0) = true := hc
    have c1 := hc
    clear hc
    refine st_ret ?_
    show some ([], [false]) = _
    rw [hb0] at c1; cases c1
  · replace hc : (!b0) = false := hc
    have c2 := hc
    clear hc
    refine st_0_1 (e4_11) (g := true) rfl (l := [a, b, N, r]) rfl (m := []) rfl (cl_t (q11 a b N r)) fun b1 hb1 => ?_
    show T.den _ _ [a, b, N, r, n] [b0, b1] = _
    refine st_ite (fun hc => ?_) (fun hc => ?_)
    · replace hc : (!b1) = true := hc
      have c3 := hc
      clear hc
      refine st_ret ?_
      show some ([], [true]) = _
      rfl
    · replace hc : (!b1) = false := hc
      have c4 := hc
      clear hc
      refine st_0_2 (e4_18) (g := true) rfl (l := [a, b, N, r]) rfl (m := []) rfl (cl_t (q18 a b N r)) fun b2 b3 hb2 hb3 => ?_
      show T.den _ _ [a, b, N, r, n] [b0, b1, b2, b3] = _
      refine st_ite (fun hc => ?_) (fun hc => ?_)
      · replace hc : (!b3) = true := hc
        have c5 := hc
        clear hc
        refine st_0_1 (e4_15) (g := (!b2)) rfl (l := [a, b, N, r, 0]) rfl (m := []) rfl (cl_b (q15 a b N r 0)) fun b4 hb4 => ?_
        show T.den _ _ [a, b, N, r, n] [b0, b1, b2, b3, b4] = _
        refine st_lb fun b5 hb5 => ?_
        replace hb5 : b5 = (((!b2) && b4) && (decide (N < 64))) := hb5
        show T.den _ _ [a, b, N, r, n] [b0, b1, b2, b3, b4, b5] = _
        refine st_ret ?_
        show some ([], [(b5 && (decide (b > 0)))]) = _
        rw [hb1, Bool.not_eq_false'] at c4
        have hR := c4
        rw [hb3] at c5
        refine rb ?_
        have h1 : yes a b N r = false ∧ b ≠ 0 ∧ N ≠ 64 := by
          unfold sure at c5; unfold yes; simpa [Bool.or_eq_false_iff] using c5
        have h2 : hA a b N r 0 = true := by have := h1.1; unfold yes at this; simpa using this
        obtain ⟨k1, n', m', e1, e2, e3, _⟩ := rA_true hR hr
        rw [hb5, hb4, hb2, h1.1, h2, decide_eq_true (show N < 64 by omega), decide_eq_true (show b > 0 by have := (hA_true h2).2.1; omega)]; rfl
      · replace hc : (!b3) = false := hc
        have c6 := hc
        clear hc
        refine st_0_1 (e4_15) (g := true) rfl (l := [a, b, N, r, n]) rfl (m := []) rfl (cl_t (q15 a b N r n)) fun b4 hb4 => ?_
        show T.den _ _ [a, b, N, r, n] [b0, b1, b2, b3, b4] = _
        refine st_lb fun b5 hb5 => ?_
        replace hb5 : b5 = ((!b4) || (b2 == (n != 0))) := hb5
        show T.den _ _ [a, b, N, r, n] [b0, b1, b2, b3, b4, b5] = _
        refine st_ret ?_
        show some ([], [b5]) = _
        rw [hb1, Bool.not_eq_false'] at c4
        have hR := c4
        rw [hb3] at c6
        refine rb ?_
        rw [hb5, hb4, hb2]
        exact key a b N r n ha hb hr hn c6
end Go.Proofs.YtlnikilodakjmaaDoor.YTransTruth
