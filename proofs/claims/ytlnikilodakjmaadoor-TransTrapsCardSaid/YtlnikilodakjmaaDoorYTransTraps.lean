/-
  What surely traps does: the plain law of TransTraps.
-/
import Derived.Test.YtlnikilodakjmaaDoorXTransTraps
import Derived.Test.YtlnikilodakjmaaDoorSn
import Derived.Lib.TrailingZeros
namespace Go.Proofs.YtlnikilodakjmaaDoor.YTransTraps
open Go.Proofs.YtlnikilodakjmaaDoor.Sx Go.Proofs.YtlnikilodakjmaaDoor.Sn Go.Proofs.YtlnikilodakjmaaDoor.XTransTraps Go.Proofs.YtlnikilodakjmaaDoor.ETransTraps
set_option linter.unusedSimpArgs false
set_option linter.unusedVariables false
theorem st_0_1 {C : Nat → Sx.Fn} {is : List Int} {bs : List Bool} {r : Option (List Int × List Bool)} {G : E} {f : Nat} {ii bb : List E} {k : Sx.T} {c0 : Bool} {F : Sx.Fn} {g : Bool} {l : List Int} {m : List Bool} (hC : C f = F) (hG : G.B is bs = g) (hl : ii.map (E.I is bs) = l) (hm : bb.map (E.B is bs) = m)
    (h : (bif g then F l m else some (List.replicate 0 0, List.replicate 1 false)) = some ([], [c0]))
    (hk : ∀ (y0 : Bool), y0 = c0 → k.den C (is ++ []) (bs ++ [y0]) = r) : (Sx.T.call G f ii bb 0 1 k).den C is bs = r := st_call _ _ (by rw [hC, hG, hl, hm]; exact h) rfl rfl (hk _ rfl)

theorem st_0_2 {C : Nat → Sx.Fn} {is : List Int} {bs : List Bool} {r : Option (List Int × List Bool)} {G : E} {f : Nat} {ii bb : List E} {k : Sx.T} {c0 c1 : Bool} {F : Sx.Fn} {g : Bool} {l : List Int} {m : List Bool} (hC : C f = F) (hG : G.B is bs = g) (hl : ii.map (E.I is bs) = l) (hm : bb.map (E.B is bs) = m)
    (h : (bif g then F l m else some (List.replicate 0 0, List.replicate 2 false)) = some ([], [c0, c1]))
    (hk : ∀ (y0 y1 : Bool), y0 = c0 → y1 = c1 → k.den C (is ++ []) (bs ++ [y0, y1]) = r) : (Sx.T.call G f ii bb 0 2 k).den C is bs = r := st_call _ _ (by rw [hC, hG, hl, hm]; exact h) rfl rfl (hk _ _ rfl rfl)

theorem st_1_0 {C : Nat → Sx.Fn} {is : List Int} {bs : List Bool} {r : Option (List Int × List Bool)} {G : E} {f : Nat} {ii bb : List E} {k : Sx.T} {a0 : Int} {F : Sx.Fn} {g : Bool} {l : List Int} {m : List Bool} (hC : C f = F) (hG : G.B is bs = g) (hl : ii.map (E.I is bs) = l) (hm : bb.map (E.B is bs) = m)
    (h : (bif g then F l m else some (List.replicate 1 0, List.replicate 0 false)) = some ([a0], []))
    (hk : ∀ (x0 : Int), x0 = a0 → k.den C (is ++ [x0]) (bs ++ []) = r) : (Sx.T.call G f ii bb 1 0 k).den C is bs = r := st_call _ _ (by rw [hC, hG, hl, hm]; exact h) rfl rfl (hk _ rfl)

theorem st_1_1 {C : Nat → Sx.Fn} {is : List Int} {bs : List Bool} {r : Option (List Int × List Bool)} {G : E} {f : Nat} {ii bb : List E} {k : Sx.T} {a0 : Int} {c0 : Bool} {F : Sx.Fn} {g : Bool} {l : List Int} {m : List Bool} (hC : C f = F) (hG : G.B is bs = g) (hl : ii.map (E.I is bs) = l) (hm : bb.map (E.B is bs) = m)
    (h : (bif g then F l m else some (List.replicate 1 0, List.replicate 1 false)) = some ([a0], [c0]))
    (hk : ∀ (x0 : Int) (y0 : Bool), x0 = a0 → y0 = c0 → k.den C (is ++ [x0]) (bs ++ [y0]) = r) : (Sx.T.call G f ii bb 1 1 k).den C is bs = r := st_call _ _ (by rw [hC, hG, hl, hm]; exact h) rfl rfl (hk _ _ rfl rfl)

theorem st_2_0 {C : Nat → Sx.Fn} {is : List Int} {bs : List Bool} {r : Option (List Int × List Bool)} {G : E} {f : Nat} {ii bb : List E} {k : Sx.T} {a0 a1 : Int} {F : Sx.Fn} {g : Bool} {l : List Int} {m : List Bool} (hC : C f = F) (hG : G.B is bs = g) (hl : ii.map (E.I is bs) = l) (hm : bb.map (E.B is bs) = m)
    (h : (bif g then F l m else some (List.replicate 2 0, List.replicate 0 false)) = some ([a0, a1], []))
    (hk : ∀ (x0 x1 : Int), x0 = a0 → x1 = a1 → k.den C (is ++ [x0, x1]) (bs ++ []) = r) : (Sx.T.call G f ii bb 2 0 k).den C is bs = r := st_call _ _ (by rw [hC, hG, hl, hm]; exact h) rfl rfl (hk _ _ rfl rfl)

theorem st_2_1 {C : Nat → Sx.Fn} {is : List Int} {bs : List Bool} {r : Option (List Int × List Bool)} {G : E} {f : Nat} {ii bb : List E} {k : Sx.T} {a0 a1 : Int} {c0 : Bool} {F : Sx.Fn} {g : Bool} {l : List Int} {m : List Bool} (hC : C f = F) (hG : G.B is bs = g) (hl : ii.map (E.I is bs) = l) (hm : bb.map (E.B is bs) = m)
    (h : (bif g then F l m else some (List.replicate 2 0, List.replicate 1 false)) = some ([a0, a1], [c0]))
    (hk : ∀ (x0 x1 : Int) (y0 : Bool), x0 = a0 → x1 = a1 → y0 = c0 → k.den C (is ++ [x0, x1]) (bs ++ [y0]) = r) : (Sx.T.call G f ii bb 2 1 k).den C is bs = r := st_call _ _ (by rw [hC, hG, hl, hm]; exact h) rfl rfl (hk _ _ _ rfl rfl rfl)

theorem st_4_0 {C : Nat → Sx.Fn} {is : List Int} {bs : List Bool} {r : Option (List Int × List Bool)} {G : E} {f : Nat} {ii bb : List E} {k : Sx.T} {a0 a1 a2 a3 : Int} {F : Sx.Fn} {g : Bool} {l : List Int} {m : List Bool} (hC : C f = F) (hG : G.B is bs = g) (hl : ii.map (E.I is bs) = l) (hm : bb.map (E.B is bs) = m)
    (h : (bif g then F l m else some (List.replicate 4 0, List.replicate 0 false)) = some ([a0, a1, a2, a3], []))
    (hk : ∀ (x0 x1 x2 x3 : Int), x0 = a0 → x1 = a1 → x2 = a2 → x3 = a3 → k.den C (is ++ [x0, x1, x2, x3]) (bs ++ []) = r) : (Sx.T.call G f ii bb 4 0 k).den C is bs = r := st_call _ _ (by rw [hC, hG, hl, hm]; exact h) rfl rfl (hk _ _ _ _ rfl rfl rfl rfl)

theorem st_4_1 {C : Nat → Sx.Fn} {is : List Int} {bs : List Bool} {r : Option (List Int × List Bool)} {G : E} {f : Nat} {ii bb : List E} {k : Sx.T} {a0 a1 a2 a3 : Int} {c0 : Bool} {F : Sx.Fn} {g : Bool} {l : List Int} {m : List Bool} (hC : C f = F) (hG : G.B is bs = g) (hl : ii.map (E.I is bs) = l) (hm : bb.map (E.B is bs) = m)
    (h : (bif g then F l m else some (List.replicate 4 0, List.replicate 1 false)) = some ([a0, a1, a2, a3], [c0]))
    (hk : ∀ (x0 x1 x2 x3 : Int) (y0 : Bool), x0 = a0 → x1 = a1 → x2 = a2 → x3 = a3 → y0 = c0 → k.den C (is ++ [x0, x1, x2, x3]) (bs ++ [y0]) = r) : (Sx.T.call G f ii bb 4 1 k).den C is bs = r := st_call _ _ (by rw [hC, hG, hl, hm]; exact h) rfl rfl (hk _ _ _ _ _ rfl rfl rfl rfl rfl)
theorem r1 {a b : Int} (h : a = b) : (some ([a], []) : Option (List Int × List Bool)) = some ([b], []) := by rw [h]
theorem rb {a b : Bool} (h : a = b) : (some ([], [a]) : Option (List Int × List Bool)) = some ([], [b]) := by rw [h]
def mk (N : Int) : Int := if N ≥ 64 then 18446744073709551615 else arI .sub .u64 (arI .shl .u64 1 (IntKind.wrap .u64 (if 0 > N then 0 else N))) 1
def hL (N r n : Int) : Bool := (arI .and .u64 (arI .xor .u64 n r) (mk N)) == 0
def rL (N r : Int) : Bool := ((decide (N ≥ 0)) && (decide (N ≤ 64))) && ((arI .andNot .u64 r (mk N)) == 0)
theorem and_z (x : Int) : arI .and .u64 x 0 = 0 := by
  show IntKind.u64.wrap ((BitVec.ofInt 64 x &&& BitVec.ofInt 64 0).toNat : Int) = 0
  rw [show BitVec.ofInt 64 0 = 0#64 from rfl, BitVec.and_zero]; decide
theorem z_and (x : Int) : arI .and .u64 0 x = 0 := by
  show IntKind.u64.wrap ((BitVec.ofInt 64 0 &&& BitVec.ofInt 64 x).toNat : Int) = 0
  rw [show BitVec.ofInt 64 0 = 0#64 from rfl, BitVec.zero_and]; decide
theorem xor_self (x : Int) : arI .xor .u64 x x = 0 := by
  show IntKind.u64.wrap ((BitVec.ofInt 64 x ^^^ BitVec.ofInt 64 x).toNat : Int) = 0
  rw [BitVec.xor_self]; decide
theorem hL_0 (r n : Int) : hL 0 r n = true := by
  unfold hL; rw [show mk 0 = 0 from by decide +kernel, and_z]; rfl
theorem hL_self (N n : Int) : hL N n n = true := by
  unfold hL; rw [xor_self, z_and]; rfl
theorem rL_00 : rL 0 0 = true := by decide +kernel

set_option maxHeartbeats 4000000 in
theorem q61 (N : Int) : F61 [N] [] = some ([mk N], []) := by
  refine Eq.trans (Fd_of (n := 1) (m := 0) (t := t61) (C := Tab.fn a61) rfl rfl) ?_
  rw [t61]
  refine st_ite (fun hc => ?_) (fun hc => ?_)
  · replace hc : (decide (N ≥ 64)) = true := hc
    have c1 := hc
    clear hc
    refine st_ret ?_
    show some ([18446744073709551615], []) = _
    exact r1 (by unfold mk; rw [if_pos (of_decide_eq_true c1)])
  · replace hc : (decide (N ≥ 64)) = false := hc
    have c2 := hc
    clear hc
    refine st_rq (show (decide ((IntKind.wrap .u64 (if 0 > N then 0 else N)) ≥ 0)) = true from ?_) ?_
    · rw [decide_eq_true_eq, wrap_u64]
      exact Int.emod_nonneg _ (by decide)
    refine st_li fun i1 hi1 => ?_
    replace hi1 : i1 = (arI .sub .u64 (arI .shl .u64 1 (IntKind.wrap .u64 (if 0 > N then 0 else N))) 1) := hi1
    show T.den _ _ [N, i1] [] = _
    refine st_ret ?_
    show some ([i1], []) = _
    exact r1 (by unfold mk; rw [if_neg (of_decide_eq_false c2)]; exact hi1)

theorem e37_61 : Tab.fn a37 61 = F61 := Tab.fn_hd
theorem e30_61 : Tab.fn a30 61 = F61 := Tab.fn_hd

set_option maxHeartbeats 4000000 in
theorem q37 (N r n : Int) : F37 [N, r, n] [] = some ([], [hL N r n]) := by
  refine Eq.trans (Fd_of (n := 3) (m := 0) (t := t37) (C := Tab.fn a37) rfl rfl) ?_
  rw [t37]
  refine st_1_0 (e37_61) (g := true) rfl (l := [N]) rfl (m := []) rfl (cl_t (q61 N)) fun i3 hi3 => ?_
  show T.den _ _ [N, r, n, i3] [] = _
  refine st_lb fun b0 hb0 => ?_
  replace hb0 : b0 = ((arI .and .u64 (arI .xor .u64 n r) i3) == 0) := hb0
  show T.den _ _ [N, r, n, i3] [b0] = _
  refine st_ret ?_
  show some ([], [b0]) = _
  exact rb (by rw [hb0, hi3]; rfl)

set_option maxHeartbeats 4000000 in
theorem q30 (N r : Int) : F30 [N, r] [] = some ([], [rL N r]) := by
  refine Eq.trans (Fd_of (n := 2) (m := 0) (t := t30) (C := Tab.fn a30) rfl rfl) ?_
  rw [t30]
  refine st_lb fun b0 hb0 => ?_
  replace hb0 : b0 = ((decide (N ≥ 0)) && (decide (N ≤ 64))) := hb0
  show T.den _ _ [N, r] [b0] = _
  refine st_1_0 (e30_61) (g := b0) rfl (l := [N]) rfl (m := []) rfl (cl_1 (q61 N)) fun i2 hi2 => ?_
  show T.den _ _ [N, r, i2] [b0] = _
  refine st_lb fun b1 hb1 => ?_
  replace hb1 : b1 = (b0 && ((arI .andNot .u64 r i2) == 0)) := hb1
  show T.den _ _ [N, r, i2] [b0, b1] = _
  refine st_ret ?_
  show some ([], [b1]) = _
  refine rb ?_
  rw [hb1, hi2]; unfold rL; rw [← hb0]
  cases b0 <;> rfl

theorem pow_pos (i : Nat) : 0 < 2 ^ i := Nat.two_pow_pos i
theorem pow_lt {i : Nat} (h : i < 64) : 2 ^ i < 2 ^ 64 := Nat.pow_lt_pow_right (by decide) h
theorem pow_le {i j : Nat} (h : i ≤ j) : 2 ^ i ≤ 2 ^ j := Nat.pow_le_pow_right (by decide) h
theorem mod_lt64 (a i : Nat) (h : a < 2 ^ 64) : a % 2 ^ i < 2 ^ 64 := Nat.lt_of_le_of_lt (Nat.mod_le _ _) h
theorem mod_mod_pow (n : Nat) {i j : Nat} (h : i ≤ j) : n % 2 ^ j % 2 ^ i = n % 2 ^ i := Nat.mod_mod_of_dvd _ (Nat.pow_dvd_pow 2 h)
def hs (N r n : Nat) : Bool := decide (n % 2 ^ N = r % 2 ^ N)
theorem xor_mask_eq_zero (n r i : Nat) : (n ^^^ r) &&& (2 ^ i - 1) = 0 ↔ n % 2 ^ i = r % 2 ^ i := by
  rw [Nat.and_two_pow_sub_one_eq_mod, Nat.xor_mod_two_pow]
  constructor
  · intro h
    refine Nat.eq_of_testBit_eq fun j => ?_
    have h1 := congrArg (fun x => Nat.testBit x j) h
    simp only [Nat.testBit_xor, Nat.zero_testBit] at h1
    revert h1
    cases Nat.testBit (n % 2 ^ i) j <;> cases Nat.testBit (r % 2 ^ i) j <;> simp
  · intro h; rw [h, Nat.xor_self]
theorem mask_lt {N : Nat} (h : N ≤ 64) : 2 ^ N - 1 < 2 ^ 64 := by have := pow_le h; have := pow_pos N; omega
theorem bandNot (a b : Nat) (ha : a < 2 ^ 64) (hb : b < 2 ^ 64) : arI .andNot .u64 (a : Int) (b : Int) = ((a &&& (2 ^ 64 - (b + 1)) : Nat) : Int) := by
  show IntKind.u64.wrap ((BitVec.ofInt 64 (a : Int) &&& ~~~(BitVec.ofInt 64 (b : Int))).toNat : Int) = _
  have e : 2 ^ 64 - 1 - b = 2 ^ 64 - (b + 1) := by omega
  rw [BitVec.toNat_and, BitVec.toNat_not, toN a ha, toN b hb, e]
  exact wraps_u64 _ (by omega) (by have := @Nat.and_le_left a (2 ^ 64 - (b + 1)); omega)
theorem and_not_mask_eq_zero {r i : Nat} (hr : r < 2 ^ 64) (hi : i ≤ 64) : r &&& (2 ^ 64 - (2 ^ i - 1 + 1)) = 0 ↔ r < 2 ^ i := by
  have e : 2 ^ 64 - (2 ^ i - 1 + 1) = 2 ^ 64 - 2 ^ i := by have := pow_pos i; omega
  have d : 2 ^ 64 - 2 ^ i = (2 ^ (64 - i) - 1) * 2 ^ i := by rw [Nat.sub_mul, ← Nat.pow_add, Nat.sub_add_cancel hi, Nat.one_mul]
  have k : r &&& (2 ^ 64 - (2 ^ i - 1 + 1)) = r / 2 ^ i * 2 ^ i := by
    rw [e, d]
    refine Nat.eq_of_testBit_eq fun j => ?_
    rw [Nat.testBit_and, Nat.testBit_mul_two_pow, Nat.testBit_mul_two_pow, Nat.testBit_two_pow_sub_one, Nat.testBit_div_two_pow]
    by_cases h : i ≤ j
    · by_cases h2 : j < 64
      · simp [h, show j - i < 64 - i from by omega, Nat.sub_add_cancel h]
      · have : r.testBit j = false := Nat.testBit_lt_two_pow (Nat.lt_of_lt_of_le hr (pow_le (by omega)))
        simp [h, this, Nat.sub_add_cancel h]
    · simp [h]
  rw [k]
  have h1 := Nat.div_add_mod r (2 ^ i)
  have h2 := Nat.mod_lt r (pow_pos i)
  constructor
  · intro h; rw [Nat.mul_comm] at h1; omega
  · intro h; rw [Nat.div_eq_of_lt h, Nat.zero_mul]
theorem mk_nat {N : Nat} (h : N ≤ 64) : mk (N : Int) = ((2 ^ N - 1 : Nat) : Int) := by
  unfold mk
  by_cases h1 : N = 64
  · subst h1; decide +kernel
  · have hp := pow_lt (i := N) (by omega)
    have hp0 := pow_pos N
    rw [if_neg (by omega), if_neg (by omega), wraps_u64 _ (by omega) (by omega), arShl _ _ (by omega) (by omega), Int.toNat_natCast, Int.one_mul, show (2 : Int) ^ N = ((2 ^ N : Nat) : Int) from by rw [Int.natCast_pow]; rfl, arSub]; omega
theorem hL_nat (N r n : Nat) (hN : N ≤ 64) (hr : r < 2 ^ 64) (hn : n < 2 ^ 64) : hL N r n = hs N r n := by
  unfold hL hs
  rw [mk_nat hN, bxor n r hn hr, band _ _ (Nat.xor_lt_two_pow hn hr) (mask_lt hN), Bool.eq_iff_iff, beq_iff_eq, decide_eq_true_iff, ← xor_mask_eq_zero]
  omega
theorem rL_nat (N r : Nat) (hN : N ≤ 64) (hr : r < 2 ^ 64) : rL N r = decide (r < 2 ^ N) := by
  unfold rL
  rw [mk_nat hN, bandNot r _ hr (mask_lt hN), decide_eq_true (by omega), decide_eq_true (by omega), Bool.true_and, Bool.true_and, Bool.eq_iff_iff, beq_iff_eq, decide_eq_true_iff, ← and_not_mask_eq_zero hr hN]
  omega
theorem nats {a : Int} (h : 0 ≤ a) : ∃ n : Nat, a = n := Int.eq_ofNat_of_zero_le h
theorem rL_true {N r : Int} (h : rL N r = true) (hr : 0 ≤ r ∧ r < 18446744073709551616) : ∃ n m : Nat, N = n ∧ r = m ∧ n ≤ 64 ∧ m < 2 ^ 64 ∧ m < 2 ^ n := by
  have h' := h
  unfold rL at h'
  simp only [Bool.and_eq_true, decide_eq_true_eq] at h'
  obtain ⟨n, rfl⟩ := nats h'.1.1
  obtain ⟨m, rfl⟩ := nats hr.1
  have hn : n ≤ 64 := by omega
  have hm : m < 2 ^ 64 := by omega
  rw [rL_nat n m hn hm] at h
  exact ⟨n, m, rfl, rfl, hn, hm, of_decide_eq_true h⟩
def cN (N n : Nat) : Nat := if N ≤ n then N else n
def cR (N r n : Nat) : Nat := if N ≤ n then r else r % 2 ^ n
def z (r q : Nat) : Nat := Go.Lib.ctz 64 (r ^^^ q)
theorem xor_zero (a b : Nat) : a ^^^ b = 0 ↔ a = b := by
  constructor
  · intro h
    refine Nat.eq_of_testBit_eq fun j => ?_
    have h1 := congrArg (fun x => Nat.testBit x j) h
    simp only [Nat.testBit_xor, Nat.zero_testBit] at h1
    revert h1
    cases Nat.testBit a j <;> cases Nat.testBit b j <;> simp
  · intro h; rw [h, Nat.xor_self]
theorem z_iff (r q i : Nat) (hr : r < 2 ^ 64) (hq : q < 2 ^ 64) (hi : i ≤ 64) : r % 2 ^ i = q % 2 ^ i ↔ i ≤ z r q := by
  have hx : r ^^^ q < 2 ^ 64 := Nat.xor_lt_two_pow hr hq
  rw [← xor_zero, ← Nat.xor_mod_two_pow]
  unfold z Go.Lib.ctz
  by_cases h0 : r ^^^ q = 0
  · rw [if_pos h0, h0, Nat.zero_mod]; simp [hi]
  · rw [if_neg h0]
    obtain ⟨m, e, _⟩ := Go.Lib.ctzFrom_spec 64 (r ^^^ q) (by omega) hx
    generalize Go.Lib.ctzFrom 64 (r ^^^ q) = c at *
    rw [e]
    constructor
    · intro h
      by_cases hc : i ≤ c
      · exact hc
      · exfalso
        have h1 := Nat.dvd_of_mod_eq_zero h
        have h2 : 2 ^ (c + 1) ∣ 2 ^ c * (2 * m + 1) := Nat.dvd_trans (Nat.pow_dvd_pow 2 (by omega)) h1
        rw [Nat.pow_succ] at h2
        have h3 := Nat.dvd_of_mul_dvd_mul_left (pow_pos c) h2
        omega
    · intro h
      exact Nat.mod_eq_zero_of_dvd (Nat.dvd_trans (Nat.pow_dvd_pow 2 h) (Nat.dvd_mul_right _ _))
theorem z_comm (r q : Nat) : z q r = z r q := by unfold z; rw [Nat.xor_comm]
theorem cN_eq (N n : Nat) : cN N n = min N n := by unfold cN; split <;> omega
theorem cR_eq (N r n : Nat) (h : r < 2 ^ N) : cR N r n = r % 2 ^ min N n := by
  unfold cR
  split
  · rw [Nat.min_eq_left (by omega), Nat.mod_eq_of_lt h]
  · rw [Nat.min_eq_right (by omega)]
theorem hs_of {N r n : Nat} (h : n % 2 ^ N = r % 2 ^ N) : hs N r n = true := decide_eq_true h
theorem wt {N M q r : Nat} (h : M ≤ N) (h2 : r % 2 ^ M = q % 2 ^ M) : (decide (M ≤ N) && hs M q r) = true := by rw [decide_eq_true h, hs_of h2]; rfl


theorem q10 : F10 [] [] = some ([], [true]) := by decide +kernel
theorem q29 (a b : Int) : F29 [a, b] [] = some ([], [decide (a ≤ b)]) := rfl
theorem q36 (a b n : Int) : F36 [a, b, n] [] = some ([], [decide (n ≥ a) && decide (n ≤ b)]) := rfl
def rA (a b N r : Int) : Bool := decide (a ≤ b) && rL N r
def hA (a b N r n : Int) : Bool := (decide (n ≥ a) && decide (n ≤ b)) && hL N r n

theorem e11_29 : Tab.fn a11 29 = F29 := Tab.fn_hd
theorem e11_30 : Tab.fn a11 30 = F30 := ((Tab.fn_tl rfl).trans Tab.fn_hd)
theorem e15_36 : Tab.fn a15 36 = F36 := Tab.fn_hd
theorem e15_37 : Tab.fn a15 37 = F37 := ((Tab.fn_tl rfl).trans Tab.fn_hd)

set_option maxHeartbeats 4000000 in
theorem q11 (a b N r : Int) : F11 [a, b, N, r] [] = some ([], [rA a b N r]) := by
  unfold rA
  refine Eq.trans (Fd_of (n := 4) (m := 0) (t := t11) (C := Tab.fn a11) rfl rfl) ?_
  rw [t11]
  refine st_0_1 (e11_29) (g := true) rfl (l := [a, b]) rfl (m := []) rfl (cl_t (q29 a b)) fun b0 hb0 => ?_
  show T.den _ _ [a, b, N, r] [b0] = _
  refine st_0_1 (e11_30) (g := b0) rfl (l := [N, r]) rfl (m := []) rfl (cl_b (q30 N r)) fun b1 hb1 => ?_
  show T.den _ _ [a, b, N, r] [b0, b1] = _
  refine st_ret ?_
  show some ([], [(b0 && b1)]) = _
  exact rb (by rw [hb1, ← hb0, ← Bool.and_assoc, Bool.and_self])

set_option maxHeartbeats 4000000 in
theorem q15 (a b N r n : Int) : F15 [a, b, N, r, n] [] = some ([], [hA a b N r n]) := by
  unfold hA
  refine Eq.trans (Fd_of (n := 5) (m := 0) (t := t15) (C := Tab.fn a15) rfl rfl) ?_
  rw [t15]
  refine st_0_1 (e15_36) (g := true) rfl (l := [a, b, n]) rfl (m := []) rfl (cl_t (q36 a b n)) fun b0 hb0 => ?_
  show T.den _ _ [a, b, N, r, n] [b0] = _
  refine st_0_1 (e15_37) (g := b0) rfl (l := [N, r, n]) rfl (m := []) rfl (cl_b (q37 N r n)) fun b1 hb1 => ?_
  show T.den _ _ [a, b, N, r, n] [b0, b1] = _
  refine st_ret ?_
  show some ([], [(b0 && b1)]) = _
  exact rb (by rw [hb1, ← hb0, ← Bool.and_assoc, Bool.and_self])

theorem hA_true {a b N r n : Int} (h : hA a b N r n = true) : a ≤ n ∧ n ≤ b ∧ hL N r n = true := by
  unfold hA at h
  simp only [Bool.and_eq_true, decide_eq_true_eq] at h
  exact ⟨h.1.1, h.1.2, h.2⟩
theorem hA_of {a b N r n : Int} (h1 : a ≤ n) (h2 : n ≤ b) (h3 : hL N r n = true) : hA a b N r n = true := by
  unfold hA; rw [h3, decide_eq_true (show n ≥ a from h1), decide_eq_true h2]; rfl
theorem full_eq {r n m : Int} (hr : 0 ≤ r ∧ r < 18446744073709551616) (hn : 0 ≤ n ∧ n < 18446744073709551616) (hm : 0 ≤ m ∧ m < 18446744073709551616) (h1 : hL 64 r n = true) (h2 : hL 64 r m = true) : n = m := by
  obtain ⟨r, rfl⟩ := nats hr.1
  obtain ⟨n, rfl⟩ := nats hn.1
  obtain ⟨m, rfl⟩ := nats hm.1
  rw [show (64 : Int) = ((64 : Nat) : Int) from rfl, hL_nat 64 r _ (by decide) (by omega) (by omega)] at h1 h2
  have e1 := of_decide_eq_true h1
  have e2 := of_decide_eq_true h2
  omega
theorem full_r {r n : Int} (hr : 0 ≤ r ∧ r < 18446744073709551616) (hn : 0 ≤ n ∧ n < 18446744073709551616) (h : hL 64 r n = true) : n = r := full_eq hr hn hr h (hL_self 64 r)
theorem rA_true {a b N r : Int} (h : rA a b N r = true) (hr : 0 ≤ r ∧ r < 18446744073709551616) : a ≤ b ∧ ∃ n m : Nat, N = n ∧ r = m ∧ n ≤ 64 ∧ m < 2 ^ 64 ∧ m < 2 ^ n := by
  unfold rA at h
  rw [Bool.and_eq_true, decide_eq_true_iff] at h
  exact ⟨h.1, rL_true h.2 hr⟩

theorem e18_15 : Tab.fn a18 15 = F15 := Tab.fn_hd

def yes (a b N r : Int) : Bool := !(hA a b N r 0)
def sure (a b N r : Int) : Bool := !(hA a b N r 0) || ((b == 0) || (N == 64))

set_option maxHeartbeats 4000000 in
theorem q18 (a b N r : Int) : F18 [a, b, N, r] [] = some ([], [yes a b N r, sure a b N r]) := by
  refine Eq.trans (Fd_of (n := 4) (m := 0) (t := t18) (C := Tab.fn a18) rfl rfl) ?_
  rw [t18]
  refine st_0_1 (e18_15) (g := true) rfl (l := [a, b, N, r, 0]) rfl (m := []) rfl (cl_t (q15 a b N r 0)) fun b0 hb0 => ?_
  show T.den _ _ [a, b, N, r] [b0] = _
  refine st_ite (fun hc => ?_) (fun hc => ?_)
  · replace hc : (!b0) = true := hc
    have c1 := hc
    clear hc
    refine st_ret ?_
    show some ([], [true, true]) = _
    rw [hb0] at c1
    unfold yes sure; rw [c1]; rfl
  · replace hc : (!b0) = false := hc
    have c2 := hc
    clear hc
    refine st_lb fun b1 hb1 => ?_
    replace hb1 : b1 = ((b == 0) || (N == 64)) := hb1
    show T.den _ _ [a, b, N, r] [b0, b1] = _
    refine st_ite (fun hc => ?_) (fun hc => ?_)
    · replace hc : b1 = true := hc
      have c3 := hc
      clear hc
      refine st_ret ?_
      show some ([], [false, true]) = _
      rw [hb0] at c2; unfold yes sure; rw [c2, ← hb1, c3]; rfl
    · replace hc : b1 = false := hc
      have c4 := hc
      clear hc
      refine st_ret ?_
      show some ([], [false, false]) = _
      rw [hb0] at c2; unfold yes sure; rw [c2, ← hb1, c4]; rfl

theorem key (a b N r n : Int) (hb : 0 ≤ b ∧ b < 18446744073709551616) (hr : 0 ≤ r ∧ r < 18446744073709551616) (hn : 0 ≤ n ∧ n < 18446744073709551616) (hs : (!(sure a b N r)) = false) :
    ((!(hA a b N r n)) || (yes a b N r == (n != 0))) = true := by
  cases h : hA a b N r n
  · rfl
  · unfold sure at hs
    unfold yes
    cases h0 : hA a b N r 0
    · have : n ≠ 0 := fun e => by rw [e, h0] at h; cases h
      simp [this]
    · rw [h0] at hs
      have h1 := hA_true h
      have h2 := hA_true h0
      have e : n = 0 := by
        by_cases hz : b = 0
        · omega
        · have h64 : N = 64 := by simpa [hz] using hs
          subst h64
          exact full_eq hr hn ⟨by omega, by omega⟩ h1.2.2 h2.2.2
      subst e; rfl
/-- What is surely 0 is 0. -/
theorem sure_no {a b N r n : Int} (hb : 0 ≤ b ∧ b < 18446744073709551616) (hr : 0 ≤ r ∧ r < 18446744073709551616) (hn : 0 ≤ n ∧ n < 18446744073709551616) (hs : (sure a b N r && !(yes a b N r)) = true) (h : hA a b N r n = true) : n = 0 := by
  rw [Bool.and_eq_true, Bool.not_eq_true'] at hs
  have := key a b N r n hb hr hn (by rw [hs.1]; rfl)
  rw [h, hs.2] at this
  simpa using this

theorem e26_58 : Tab.fn a26 58 = F58 := Tab.fn_hd
theorem e26_48 : Tab.fn a26 48 = F48 := ((Tab.fn_tl rfl).trans Tab.fn_hd)
theorem e32_48 : Tab.fn a32 48 = F48 := Tab.fn_hd
theorem e32_62 : Tab.fn a32 62 = F62 := ((Tab.fn_tl rfl).trans Tab.fn_hd)
theorem e32_26 : Tab.fn a32 26 = F26 := ((Tab.fn_tl rfl).trans ((Tab.fn_tl rfl).trans Tab.fn_hd))
theorem e62_29 : Tab.fn a62 29 = F29 := Tab.fn_hd
theorem e20_43 : Tab.fn a20 43 = F43 := Tab.fn_hd

theorem q48 : F48 [32] [] = some ([0, 4294967295], []) := by kernel_rfl
theorem q26 (t : Int) : F26 [t] [] = some ([0, if t = 127 then 4294967295 else 18446744073709551615, 0, 0], []) := by
  by_cases h : t = 127
  · subst h; kernel_rfl
  · rw [if_neg h]
    refine Eq.trans (Fd_of (n := 1) (m := 0) (t := t26) (C := Tab.fn a26) rfl rfl) ?_
    rw [t26]
    refine st_call (C := Tab.fn a26) [64] [] ?_ rfl rfl ?_
    · show F58 [t] [] = _
      refine Eq.trans (Fd_of (n := 1) (m := 0) (t := t58) (C := Tab.fn a58) rfl rfl) ?_
      rw [t58]
      refine st_itf (show (t == 127) = false from by simpa using h) ?_
      rfl
    · kernel_rfl
theorem q20 (n : Int) : F20 [n] [] = some ([n, n, 64, n], []) := by kernel_rfl
theorem q62 (a b c d : Int) : F62 [a, b, c, d] [] = some ([if max a c ≤ min b d then max a c else 0, if max a c ≤ min b d then min b d else 0], [decide (max a c ≤ min b d)]) := by
  rw [max_, min_]
  refine Eq.trans (Fd_of (n := 4) (m := 0) (t := t62) (C := Tab.fn a62) rfl rfl) ?_
  rw [t62]
  refine st_0_1 (e62_29) (g := true) rfl (l := [(if c > a then c else a), (if d < b then d else b)]) rfl (m := []) rfl (cl_t (q29 _ _)) fun b0 hb0 => ?_
  refine st_ite (fun hc => ?_) (fun hc => ?_)
  · replace hc : (!b0) = true := hc
    rw [hb0, Bool.not_eq_true'] at hc
    refine st_ret ?_
    rw [if_neg (of_decide_eq_false hc), if_neg (of_decide_eq_false hc), hc]; rfl
  · replace hc : (!b0) = false := hc
    rw [hb0, Bool.not_eq_false'] at hc
    refine st_ret ?_
    rw [if_pos (of_decide_eq_true hc), if_pos (of_decide_eq_true hc), hc]; rfl
/-! What is known of a number of a type. -/
def cc1 (a b t : Int) : Int := if t = 127 then (if a ≤ min b 4294967295 then a else 0) else a
def cc2 (a b t : Int) : Int := if t = 127 then (if a ≤ min b 4294967295 then min b 4294967295 else 4294967295) else b
def cc3 (a b t N : Int) : Int := if t = 127 then (if a ≤ min b 4294967295 then N else 0) else N
def cc4 (a b t r : Int) : Int := if t = 127 then (if a ≤ min b 4294967295 then r else 0) else r

set_option maxHeartbeats 4000000 in
theorem q32 (a b N r t : Int) (ha : 0 ≤ a) : F32 [a, b, N, r, t] [] = some ([cc1 a b t, cc2 a b t, cc3 a b t N, cc4 a b t r], []) := by
  refine Eq.trans (Fd_of (n := 5) (m := 0) (t := t32) (C := Tab.fn a32) rfl rfl) ?_
  rw [t32]
  refine st_ite (fun hc => ?_) (fun hc => ?_)
  · replace hc : (t != 127) = true := hc
    have c1 := hc
    clear hc
    refine st_ret ?_
    show some ([a, b, N, r], []) = _
    have ht : t ≠ 127 := by simpa using c1
    unfold cc1 cc2 cc3 cc4; simp only [if_neg ht]
  · replace hc : (t != 127) = false := hc
    have c2 := hc
    clear hc
    refine st_2_0 (e32_48) (g := true) rfl (l := [32]) rfl (m := []) rfl (cl_t q48) fun i5 i6 hi5 hi6 => ?_
    show T.den _ _ [a, b, N, r, t, i5, i6] [] = _
    refine st_2_1 (e32_62) (g := true) rfl (l := [a, b, i5, i6]) rfl (m := []) rfl (cl_t ((show F62 [a, b, i5, i6] [] = F62 [a, b, 0, 4294967295] [] from by rw [hi5, hi6]).trans (q62 a b 0 4294967295))) fun i7 i8 b0 hi7 hi8 hb0 => ?_
    show T.den _ _ [a, b, N, r, t, i5, i6, i7, i8] [b0] = _
    refine st_ite (fun hc => ?_) (fun hc => ?_)
    · replace hc : (!b0) = true := hc
      have c3 := hc
      clear hc
      refine st_4_0 (e32_26) (g := true) rfl (l := [t]) rfl (m := []) rfl (cl_t (q26 t)) fun i9 i10 i11 i12 hi9 hi10 hi11 hi12 => ?_
      show T.den _ _ [a, b, N, r, t, i5, i6, i7, i8, i9, i10, i11, i12] [b0] = _
      refine st_ret ?_
      show some ([i9, i10, i11, i12], []) = _
      have ht : t = 127 := by simpa using c2
      rw [show max a 0 = a from Int.max_eq_left ha] at hi7 hi8 hb0
      rw [hb0, Bool.not_eq_true'] at c3
      have hc := of_decide_eq_false c3
      unfold cc1 cc2 cc3 cc4; rw [hi9, hi10, hi11, hi12]; simp only [if_pos ht, if_neg hc]
    · replace hc : (!b0) = false := hc
      have c4 := hc
      clear hc
      refine st_ret ?_
      show some ([i7, i8, N, r], []) = _
      have ht : t = 127 := by simpa using c2
      rw [show max a 0 = a from Int.max_eq_left ha] at hi7 hi8 hb0
      rw [hb0, Bool.not_eq_false'] at c4
      have hc := of_decide_eq_true c4
      unfold cc1 cc2 cc3 cc4; rw [hi7, hi8]; simp only [if_pos ht, if_pos hc]

theorem cut_has {a b N r t n : Int} (ht : t = 127 → n < 4294967296) (h : hA a b N r n = true) : hA (cc1 a b t) (cc2 a b t) (cc3 a b t N) (cc4 a b t r) n = true := by
  unfold cc1 cc2 cc3 cc4
  by_cases e : t = 127
  · obtain ⟨h1, h2, h3⟩ := hA_true h
    have h4 := ht e
    have h5 : a ≤ min b 4294967295 := by omega
    simp only [if_pos e, if_pos h5]
    exact hA_of h1 (by omega) h3
  · simp only [if_neg e]; exact h
theorem cc1_in {a b t : Int} (ha : 0 ≤ a ∧ a < 18446744073709551616) : 0 ≤ cc1 a b t ∧ cc1 a b t < 18446744073709551616 := by unfold cc1; (repeat' split) <;> omega
theorem cc2_in {a b t : Int} (ha : 0 ≤ a) (hb : 0 ≤ b ∧ b < 18446744073709551616) : 0 ≤ cc2 a b t ∧ cc2 a b t < 18446744073709551616 := by unfold cc2; (repeat' split) <;> omega
theorem cc4_in {a b t r : Int} (hr : 0 ≤ r ∧ r < 18446744073709551616) : 0 ≤ cc4 a b t r ∧ cc4 a b t r < 18446744073709551616 := by unfold cc4; (repeat' split) <;> omega
theorem cut_const {n t : Int} (ht : t = 127 → n < 4294967296) : cc1 n n t = n ∧ cc2 n n t = n ∧ cc3 n n t 64 = 64 ∧ cc4 n n t n = n := by
  unfold cc1 cc2 cc3 cc4
  by_cases e : t = 127
  · have h4 := ht e
    have h5 : n ≤ min n 4294967295 := by omega
    simp only [if_pos e, if_pos h5, and_self, true_and, and_true]; omega
  · simp only [if_neg e, and_self]
/-! One number. -/
def ov (a b N r : Int) : Int := if a = b then a else if N = 64 then r else 0
def ob (a b N : Int) : Bool := decide (a = b ∨ N = 64)
theorem q42 (a b N r : Int) : F42 [a, b, N, r] [] = some ([ov a b N r], [ob a b N]) := by
  unfold ov ob
  refine Eq.trans (Fd_of (n := 4) (m := 0) (t := t42) (C := Tab.fn a42) rfl rfl) ?_
  rw [t42]
  refine st_ite (fun hc => ?_) (fun hc => ?_)
  · have h : a = b := by simpa using (show (a == b) = true from hc)
    rw [if_pos h, decide_eq_true (Or.inl h)]; rfl
  · have h : a ≠ b := by simpa using (show (a == b) = false from hc)
    refine st_ite (fun hc => ?_) (fun hc => ?_)
    · have h2 : N = 64 := by simpa using (show (N == 64) = true from hc)
      rw [if_neg h, if_pos h2, decide_eq_true (Or.inr h2)]; rfl
    · have h2 : N ≠ 64 := by simpa using (show (N == 64) = false from hc)
      rw [if_neg h, if_neg h2, decide_eq_false (by rintro (h3 | h3) <;> contradiction)]; rfl
theorem ov_in {a b N r : Int} (ha : 0 ≤ a ∧ a < 18446744073709551616) (hr : 0 ≤ r ∧ r < 18446744073709551616) : 0 ≤ ov a b N r ∧ ov a b N r < 18446744073709551616 := by
  unfold ov; (repeat' split) <;> omega
theorem one_has {a b N r n : Int} (hr : 0 ≤ r ∧ r < 18446744073709551616) (hn : 0 ≤ n ∧ n < 18446744073709551616) (h1 : ob a b N = true) (h : hA a b N r n = true) : ov a b N r = n := by
  obtain ⟨k1, k2, k3⟩ := hA_true h
  unfold ov
  by_cases e : a = b
  · rw [if_pos e]; omega
  · rw [if_neg e]
    have e2 : N = 64 := by
      rcases of_decide_eq_true h1 with h | h
      · exact absurd h e
      · exact h
    rw [if_pos e2]; subst e2
    exact (full_r hr hn k3).symm
theorem ob_const (n : Int) : ob n n 64 = true ∧ ov n n 64 n = n := by unfold ob ov; exact ⟨decide_eq_true (.inl rfl), if_pos rfl⟩
theorem truth_const (n : Int) : (sure n n 64 n && !(yes n n 64 n)) = (n == 0) := by
  unfold sure yes
  have e : ((n == 0) || ((64 : Int) == 64)) = true := by simp
  rw [e, Bool.or_true, Bool.true_and, Bool.not_not]
  by_cases h : n = 0
  · subst h; rw [hA_of (Int.le_refl _) (Int.le_refl _) (hL_self _ _)]; rfl
  · rw [show (n == 0) = false from by simpa using h]
    cases h2 : hA n n 64 n 0
    · rfl
    · have := hA_true h2; omega

theorem e16_39 : Tab.fn a16 39 = F39 := Tab.fn_hd
theorem e16_38 : Tab.fn a16 38 = F38 := ((Tab.fn_tl rfl).trans Tab.fn_hd)
theorem e16_40 : Tab.fn a16 40 = F40 := ((Tab.fn_tl rfl).trans ((Tab.fn_tl rfl).trans Tab.fn_hd))
theorem e40_64 : Tab.fn a40 64 = F64 := Tab.fn_hd

theorem rem_ge (b : Int) (w : Int) (h : 0 ≤ b) : (decide (arI .rem .u64 b w ≥ 0)) = true := by
  rw [arRem _ _ h, decide_eq_true_eq]
  by_cases hw : w = 0
  · subst hw; rw [Int.emod_zero]; exact h
  · exact Int.emod_nonneg _ hw

theorem sub_ge (x y : Int) : (decide (arI .sub .u64 x y ≥ 0)) = true := by rw [arSub, decide_eq_true_eq]; omega

theorem q16 (b : Bool) : F38 [] [b] = some ([bif b then 1 else 0], []) := by cases b <;> rfl

theorem u32_ge (x : Int) : 0 ≤ IntKind.wrap .u64 (IntKind.wrap .u32 x) := by rw [wrap_u64]; omega
theorem shlN (a s : Nat) (hs : s ≤ 64) : arI .shl .u64 (a : Int) (s : Int) = ((a * 2 ^ s % 2 ^ 64 : Nat) : Int) := by
  rw [arShl _ _ (by omega) (by omega), Int.toNat_natCast, Int.natCast_emod, Int.natCast_mul, Int.natCast_pow]; rfl
theorem shrN (a s : Nat) (hs : s ≤ 64) : arI .shr .u64 (a : Int) (s : Int) = ((a / 2 ^ s : Nat) : Int) := by
  rw [arShr _ _ (by omega) (by omega), Int.toNat_natCast, Int.natCast_ediv, Int.natCast_pow]; rfl
theorem remN (a w : Nat) : arI .rem .u64 (a : Int) (w : Int) = ((a % w : Nat) : Int) := by
  rw [arRem _ _ (by omega), Int.natCast_emod]
theorem subN (a b : Nat) (h : b ≤ a) (ha : a < 2 ^ 64) : arI .sub .u64 (a : Int) (b : Int) = ((a - b : Nat) : Int) := by
  rw [arSub]; omega
theorem shl_lt (a s : Nat) : a * 2 ^ s % 2 ^ 64 < 2 ^ 64 := Nat.mod_lt _ (by decide)
theorem shr_lt (a s : Nat) (h : a < 2 ^ 64) : a / 2 ^ s < 2 ^ 64 := Nat.lt_of_le_of_lt (Nat.div_le_self _ _) h
/-! Turned left by s, of 64 bits. -/
def rl (a s : Nat) : Nat := (a % 2 ^ (64 - s)) * 2 ^ s + a / 2 ^ (64 - s)
theorem rl_or (a s : Nat) (ha : a < 2 ^ 64) (hs : s ≤ 64) : (a * 2 ^ s % 2 ^ 64) ||| (a / 2 ^ (64 - s)) = rl a s := by
  have e : 2 ^ 64 = 2 ^ (64 - s) * 2 ^ s := by rw [← Nat.pow_add, Nat.sub_add_cancel hs]
  have h : a / 2 ^ (64 - s) < 2 ^ s := Nat.div_lt_of_lt_mul (by rw [← e]; exact ha)
  rw [e, Nat.mul_mod_mul_right, Nat.mul_comm _ (2 ^ s), ← Nat.two_pow_add_eq_or_of_lt h, Nat.mul_comm (2 ^ s)]
  rfl
theorem rl_lt (a s : Nat) (ha : a < 2 ^ 64) (hs : s ≤ 64) : rl a s < 2 ^ 64 := by
  rw [← rl_or a s ha hs]
  exact Nat.or_lt_two_pow (shl_lt a s) (shr_lt a _ ha)
theorem rl_back (a s : Nat) (ha : a < 2 ^ 64) (hs : s ≤ 64) : rl (rl a s) (64 - s) = a := by
  have e : 2 ^ 64 = 2 ^ (64 - s) * 2 ^ s := by rw [← Nat.pow_add, Nat.sub_add_cancel hs]
  have h : a / 2 ^ (64 - s) < 2 ^ s := Nat.div_lt_of_lt_mul (by rw [← e]; exact ha)
  unfold rl
  rw [show 64 - (64 - s) = s from by omega, Nat.mul_comm _ (2 ^ s), Nat.mul_add_mod, Nat.mod_eq_of_lt h, Nat.mul_add_div (Nat.two_pow_pos s), Nat.div_eq_of_lt h, Nat.add_zero, Nat.mul_comm, Nat.add_comm, Nat.mod_add_div]


theorem wrap_u32 (n : Int) : IntKind.u32.wrap n = n % 4294967296 := by simp [IntKind.wrap, IntKind.bits, IntKind.signed]
theorem wrap_u8 (n : Int) : IntKind.u8.wrap n = n % 256 := by simp [IntKind.wrap, IntKind.bits, IntKind.signed]
theorem wrap_i64 (n : Int) : IntKind.i64.wrap n = (n + 9223372036854775808) % 18446744073709551616 - 9223372036854775808 := by simp [IntKind.wrap, IntKind.bits, IntKind.signed]; split <;> omega
theorem wrap_i32 (n : Int) : IntKind.i32.wrap n = (n + 2147483648) % 4294967296 - 2147483648 := by simp [IntKind.wrap, IntKind.bits, IntKind.signed]; split <;> omega
theorem wrap_i16 (n : Int) : IntKind.i16.wrap n = (n + 32768) % 65536 - 32768 := by simp [IntKind.wrap, IntKind.bits, IntKind.signed]; split <;> omega
theorem wrap_i8 (n : Int) : IntKind.i8.wrap n = (n + 128) % 256 - 128 := by simp [IntKind.wrap, IntKind.bits, IntKind.signed]; split <;> omega

def dt (b x y l : Int) : Int := if b = 0 then 6 else if x = l ∧ y = -1 then 7 else 0
def dq (b x y l : Int) : Int := if b = 0 then 0 else if x = l ∧ y = -1 then 0 else IntKind.wrap .u64 (arI .quo .i64 x y)
def dz (b : Int) : Int := if b = 0 then 6 else 0
def uq (a b : Int) : Int := if b = 0 then 0 else arI .quo .u64 a b
def dr (b x y : Int) : Int := if b = 0 then 0 else if y = -1 then 0 else IntKind.wrap .u64 (arI .rem .i64 x y)
def ur (a b : Int) : Int := if b = 0 then 0 else arI .rem .u64 a b
theorem i32_ne (b : Int) (h : 0 ≤ b) (h1 : b < 4294967296) : b ≠ 0 → IntKind.wrap .i64 (IntKind.wrap .i32 b) ≠ 0 := by
  simp only [IntKind.wrap, IntKind.bits, IntKind.signed]; omega
theorem i64_ne (b : Int) (h : 0 ≤ b) (h1 : b < 18446744073709551616) : b ≠ 0 → IntKind.wrap .i64 b ≠ 0 := by
  simp only [IntKind.wrap, IntKind.bits, IntKind.signed]; omega
theorem u32_lt (x : Int) : IntKind.wrap .u64 (IntKind.wrap .u32 x) < 4294967296 := by
  have h : IntKind.u32.wrap x = x % 4294967296 := by simp [IntKind.wrap, IntKind.bits, IntKind.signed]
  rw [wrap_u64, h]; omega

theorem q36_0 (a b x y l : Int) (hy : b ≠ 0 → y ≠ 0) : F64 [(0 : Int), a, b, x, y, l] [] = some ([dq b x y l, dt b x y l], []) := by
  refine Eq.trans (Fd_of (n := 6) (m := 0) (t := t64) (C := Tab.fn a64) rfl rfl) ?_
  rw [t64]
  refine st_ite (fun hc => ?_) (fun hc => ?_)
  · replace hc : (b == 0) = true := hc
    have c1 := hc
    clear hc
    refine st_ret ?_
    show some ([0, 6], []) = _
    unfold dq dt
    refine r2 ?_ ?_ <;> simp_all
  · replace hc : (b == 0) = false := hc
    have c2 := hc
    clear hc
    refine st_lb fun b0 hb0 => ?_
    replace hb0 : b0 = (((0 : Int) == 0) && (x == l)) := hb0
    show T.den _ _ [(0 : Int), a, b, x, y, l] [b0] = _
    refine st_ite (fun hc => ?_) (fun hc => ?_)
    · replace hc : (b0 && (y == (-1))) = true := hc
      have c3 := hc
      clear hc
      refine st_ret ?_
      show some ([0, 7], []) = _
      unfold dq dt
      refine r2 ?_ ?_ <;> simp_all
    · replace hc : (b0 && (y == (-1))) = false := hc
      have c4 := hc
      clear hc
      refine st_itt (show ((0 : Int) == 0) = true from by kernel_rfl) ?_
      refine st_rq (show (y != 0) = true from ?_) ?_
      · simp_all
      refine st_ret ?_
      show some ([(IntKind.wrap .u64 (arI .quo .i64 x y)), 0], []) = _
      unfold dq dt
      refine r2 ?_ ?_ <;> simp_all

theorem q36_1 (a b x y l : Int) (hy : b ≠ 0 → y ≠ 0) : F64 [(1 : Int), a, b, x, y, l] [] = some ([uq a b, dz b], []) := by
  refine Eq.trans (Fd_of (n := 6) (m := 0) (t := t64) (C := Tab.fn a64) rfl rfl) ?_
  rw [t64]
  refine st_ite (fun hc => ?_) (fun hc => ?_)
  · replace hc : (b == 0) = true := hc
    have c1 := hc
    clear hc
    refine st_ret ?_
    show some ([0, 6], []) = _
    unfold uq dz
    refine r2 ?_ ?_ <;> simp_all
  · replace hc : (b == 0) = false := hc
    have c2 := hc
    clear hc
    refine st_lbc (show (((1 : Int) == 0) && (x == l)) = false from by kernel_rfl) ?_
    show T.den _ _ [(1 : Int), a, b, x, y, l] [false] = _
    refine st_itf (show (false && (y == (-1))) = false from by kernel_rfl) ?_
    refine st_itf (show ((1 : Int) == 0) = false from by kernel_rfl) ?_
    refine st_itt (show ((1 : Int) == 1) = true from by kernel_rfl) ?_
    refine st_rq (show (b != 0) = true from ?_) ?_
    · simp_all
    refine st_ret ?_
    show some ([(arI .quo .u64 a b), 0], []) = _
    unfold uq dz
    refine r2 ?_ ?_ <;> simp_all

theorem q36_2 (a b x y l : Int) (hy : b ≠ 0 → y ≠ 0) : F64 [(2 : Int), a, b, x, y, l] [] = some ([dr b x y, dz b], []) := by
  refine Eq.trans (Fd_of (n := 6) (m := 0) (t := t64) (C := Tab.fn a64) rfl rfl) ?_
  rw [t64]
  refine st_ite (fun hc => ?_) (fun hc => ?_)
  · replace hc : (b == 0) = true := hc
    have c1 := hc
    clear hc
    refine st_ret ?_
    show some ([0, 6], []) = _
    unfold dr dz
    refine r2 ?_ ?_ <;> simp_all
  · replace hc : (b == 0) = false := hc
    have c2 := hc
    clear hc
    refine st_lbc (show (((2 : Int) == 0) && (x == l)) = false from by kernel_rfl) ?_
    show T.den _ _ [(2 : Int), a, b, x, y, l] [false] = _
    refine st_itf (show (false && (y == (-1))) = false from by kernel_rfl) ?_
    refine st_itf (show ((2 : Int) == 0) = false from by kernel_rfl) ?_
    refine st_itf (show ((2 : Int) == 1) = false from by kernel_rfl) ?_
    refine st_lb fun b1 hb1 => ?_
    replace hb1 : b1 = (((2 : Int) == 2) && (y == (-1))) := hb1
    show T.den _ _ [(2 : Int), a, b, x, y, l] [false, b1] = _
    refine st_ite (fun hc => ?_) (fun hc => ?_)
    · replace hc : b1 = true := hc
      have c3 := hc
      clear hc
      refine st_ret ?_
      show some ([0, 0], []) = _
      unfold dr dz
      refine r2 ?_ ?_ <;> simp_all
    · replace hc : b1 = false := hc
      have c4 := hc
      clear hc
      refine st_itt (show ((2 : Int) == 2) = true from by kernel_rfl) ?_
      refine st_rq (show (y != 0) = true from ?_) ?_
      · simp_all
      refine st_ret ?_
      show some ([(IntKind.wrap .u64 (arI .rem .i64 x y)), 0], []) = _
      unfold dr dz
      refine r2 ?_ ?_ <;> simp_all

theorem q36_3 (a b x y l : Int) (hy : b ≠ 0 → y ≠ 0) : F64 [(3 : Int), a, b, x, y, l] [] = some ([ur a b, dz b], []) := by
  refine Eq.trans (Fd_of (n := 6) (m := 0) (t := t64) (C := Tab.fn a64) rfl rfl) ?_
  rw [t64]
  refine st_ite (fun hc => ?_) (fun hc => ?_)
  · replace hc : (b == 0) = true := hc
    have c1 := hc
    clear hc
    refine st_ret ?_
    show some ([0, 6], []) = _
    unfold ur dz
    refine r2 ?_ ?_ <;> simp_all
  · replace hc : (b == 0) = false := hc
    have c2 := hc
    clear hc
    refine st_lbc (show (((3 : Int) == 0) && (x == l)) = false from by kernel_rfl) ?_
    show T.den _ _ [(3 : Int), a, b, x, y, l] [false] = _
    refine st_itf (show (false && (y == (-1))) = false from by kernel_rfl) ?_
    refine st_itf (show ((3 : Int) == 0) = false from by kernel_rfl) ?_
    refine st_itf (show ((3 : Int) == 1) = false from by kernel_rfl) ?_
    refine st_lbc (show (((3 : Int) == 2) && (y == (-1))) = false from by kernel_rfl) ?_
    show T.den _ _ [(3 : Int), a, b, x, y, l] [false, false] = _
    refine st_itf (show false = false from by kernel_rfl) ?_
    refine st_itf (show ((3 : Int) == 2) = false from by kernel_rfl) ?_
    refine st_rq (show (b != 0) = true from ?_) ?_
    · simp_all
    refine st_ret ?_
    show some ([(arI .rem .u64 a b), 0], []) = _
    unfold ur dz
    refine r2 ?_ ?_ <;> simp_all

theorem q17_0 (a b x y : Int) : F39 [0, a, b, x, y] [] = some ([], [(a == b)]) := by kernel_rfl

set_option maxHeartbeats 4000000 in
theorem q10_70 (a b : Int) : F16 [(70 : Int), a, b] [] = some ([(bif ((IntKind.wrap .u64 (IntKind.wrap .u32 a)) == (IntKind.wrap .u64 (IntKind.wrap .u32 b))) then 1 else 0), 0], [true]) := by
  refine Eq.trans (Fd_of (n := 3) (m := 0) (t := t16) (C := Tab.fn a16) rfl rfl) ?_
  rw [t16]
  refine st_lbc (show ((decide ((70 : Int) ≥ 70)) && (decide ((70 : Int) ≤ 79))) = true from by kernel_rfl) ?_
  show T.den _ _ [(70 : Int), a, b] [true] = _
  refine st_itt (show true = true from by kernel_rfl) ?_
  refine st_0_1 (e16_39) (g := true) rfl (l := [0, (IntKind.wrap .u64 (IntKind.wrap .u32 a)), (IntKind.wrap .u64 (IntKind.wrap .u32 b)), (IntKind.wrap .i64 (IntKind.wrap .i32 (IntKind.wrap .u64 (IntKind.wrap .u32 a)))), (IntKind.wrap .i64 (IntKind.wrap .i32 (IntKind.wrap .u64 (IntKind.wrap .u32 b))))]) rfl (m := []) rfl (cl_t (q17_0 (IntKind.wrap .u64 (IntKind.wrap .u32 a)) (IntKind.wrap .u64 (IntKind.wrap .u32 b)) (IntKind.wrap .i64 (IntKind.wrap .i32 (IntKind.wrap .u64 (IntKind.wrap .u32 a)))) (IntKind.wrap .i64 (IntKind.wrap .i32 (IntKind.wrap .u64 (IntKind.wrap .u32 b)))))) fun b1 hb1 => ?_
  show T.den _ _ [(70 : Int), a, b] [true, b1] = _
  refine st_1_0 (e16_38) (g := true) rfl (l := []) rfl (m := [b1]) rfl (cl_t (q16 b1)) fun i3 hi3 => ?_
  show T.den _ _ [(70 : Int), a, b, i3] [true, b1] = _
  refine st_ret ?_
  show some ([i3, 0], [true]) = _
  subst hb1 hi3
  rfl

theorem q17_1 (a b x y : Int) : F39 [1, a, b, x, y] [] = some ([], [(a != b)]) := by kernel_rfl

set_option maxHeartbeats 4000000 in
theorem q10_71 (a b : Int) : F16 [(71 : Int), a, b] [] = some ([(bif ((IntKind.wrap .u64 (IntKind.wrap .u32 a)) != (IntKind.wrap .u64 (IntKind.wrap .u32 b))) then 1 else 0), 0], [true]) := by
  refine Eq.trans (Fd_of (n := 3) (m := 0) (t := t16) (C := Tab.fn a16) rfl rfl) ?_
  rw [t16]
  refine st_lbc (show ((decide ((71 : Int) ≥ 70)) && (decide ((71 : Int) ≤ 79))) = true from by kernel_rfl) ?_
  show T.den _ _ [(71 : Int), a, b] [true] = _
  refine st_itt (show true = true from by kernel_rfl) ?_
  refine st_0_1 (e16_39) (g := true) rfl (l := [1, (IntKind.wrap .u64 (IntKind.wrap .u32 a)), (IntKind.wrap .u64 (IntKind.wrap .u32 b)), (IntKind.wrap .i64 (IntKind.wrap .i32 (IntKind.wrap .u64 (IntKind.wrap .u32 a)))), (IntKind.wrap .i64 (IntKind.wrap .i32 (IntKind.wrap .u64 (IntKind.wrap .u32 b))))]) rfl (m := []) rfl (cl_t (q17_1 (IntKind.wrap .u64 (IntKind.wrap .u32 a)) (IntKind.wrap .u64 (IntKind.wrap .u32 b)) (IntKind.wrap .i64 (IntKind.wrap .i32 (IntKind.wrap .u64 (IntKind.wrap .u32 a)))) (IntKind.wrap .i64 (IntKind.wrap .i32 (IntKind.wrap .u64 (IntKind.wrap .u32 b)))))) fun b1 hb1 => ?_
  show T.den _ _ [(71 : Int), a, b] [true, b1] = _
  refine st_1_0 (e16_38) (g := true) rfl (l := []) rfl (m := [b1]) rfl (cl_t (q16 b1)) fun i3 hi3 => ?_
  show T.den _ _ [(71 : Int), a, b, i3] [true, b1] = _
  refine st_ret ?_
  show some ([i3, 0], [true]) = _
  subst hb1 hi3
  rfl

theorem q17_2 (a b x y : Int) : F39 [2, a, b, x, y] [] = some ([], [(decide (x < y))]) := by kernel_rfl

set_option maxHeartbeats 4000000 in
theorem q10_72 (a b : Int) : F16 [(72 : Int), a, b] [] = some ([(bif (decide ((IntKind.wrap .i64 (IntKind.wrap .i32 (IntKind.wrap .u64 (IntKind.wrap .u32 a)))) < (IntKind.wrap .i64 (IntKind.wrap .i32 (IntKind.wrap .u64 (IntKind.wrap .u32 b)))))) then 1 else 0), 0], [true]) := by
  refine Eq.trans (Fd_of (n := 3) (m := 0) (t := t16) (C := Tab.fn a16) rfl rfl) ?_
  rw [t16]
  refine st_lbc (show ((decide ((72 : Int) ≥ 70)) && (decide ((72 : Int) ≤ 79))) = true from by kernel_rfl) ?_
  show T.den _ _ [(72 : Int), a, b] [true] = _
  refine st_itt (show true = true from by kernel_rfl) ?_
  refine st_0_1 (e16_39) (g := true) rfl (l := [2, (IntKind.wrap .u64 (IntKind.wrap .u32 a)), (IntKind.wrap .u64 (IntKind.wrap .u32 b)), (IntKind.wrap .i64 (IntKind.wrap .i32 (IntKind.wrap .u64 (IntKind.wrap .u32 a)))), (IntKind.wrap .i64 (IntKind.wrap .i32 (IntKind.wrap .u64 (IntKind.wrap .u32 b))))]) rfl (m := []) rfl (cl_t (q17_2 (IntKind.wrap .u64 (IntKind.wrap .u32 a)) (IntKind.wrap .u64 (IntKind.wrap .u32 b)) (IntKind.wrap .i64 (IntKind.wrap .i32 (IntKind.wrap .u64 (IntKind.wrap .u32 a)))) (IntKind.wrap .i64 (IntKind.wrap .i32 (IntKind.wrap .u64 (IntKind.wrap .u32 b)))))) fun b1 hb1 => ?_
  show T.den _ _ [(72 : Int), a, b] [true, b1] = _
  refine st_1_0 (e16_38) (g := true) rfl (l := []) rfl (m := [b1]) rfl (cl_t (q16 b1)) fun i3 hi3 => ?_
  show T.den _ _ [(72 : Int), a, b, i3] [true, b1] = _
  refine st_ret ?_
  show some ([i3, 0], [true]) = _
  subst hb1 hi3
  rfl

theorem q17_3 (a b x y : Int) : F39 [3, a, b, x, y] [] = some ([], [(decide (a < b))]) := by kernel_rfl

set_option maxHeartbeats 4000000 in
theorem q10_73 (a b : Int) : F16 [(73 : Int), a, b] [] = some ([(bif (decide ((IntKind.wrap .u64 (IntKind.wrap .u32 a)) < (IntKind.wrap .u64 (IntKind.wrap .u32 b)))) then 1 else 0), 0], [true]) := by
  refine Eq.trans (Fd_of (n := 3) (m := 0) (t := t16) (C := Tab.fn a16) rfl rfl) ?_
  rw [t16]
  refine st_lbc (show ((decide ((73 : Int) ≥ 70)) && (decide ((73 : Int) ≤ 79))) = true from by kernel_rfl) ?_
  show T.den _ _ [(73 : Int), a, b] [true] = _
  refine st_itt (show true = true from by kernel_rfl) ?_
  refine st_0_1 (e16_39) (g := true) rfl (l := [3, (IntKind.wrap .u64 (IntKind.wrap .u32 a)), (IntKind.wrap .u64 (IntKind.wrap .u32 b)), (IntKind.wrap .i64 (IntKind.wrap .i32 (IntKind.wrap .u64 (IntKind.wrap .u32 a)))), (IntKind.wrap .i64 (IntKind.wrap .i32 (IntKind.wrap .u64 (IntKind.wrap .u32 b))))]) rfl (m := []) rfl (cl_t (q17_3 (IntKind.wrap .u64 (IntKind.wrap .u32 a)) (IntKind.wrap .u64 (IntKind.wrap .u32 b)) (IntKind.wrap .i64 (IntKind.wrap .i32 (IntKind.wrap .u64 (IntKind.wrap .u32 a)))) (IntKind.wrap .i64 (IntKind.wrap .i32 (IntKind.wrap .u64 (IntKind.wrap .u32 b)))))) fun b1 hb1 => ?_
  show T.den _ _ [(73 : Int), a, b] [true, b1] = _
  refine st_1_0 (e16_38) (g := true) rfl (l := []) rfl (m := [b1]) rfl (cl_t (q16 b1)) fun i3 hi3 => ?_
  show T.den _ _ [(73 : Int), a, b, i3] [true, b1] = _
  refine st_ret ?_
  show some ([i3, 0], [true]) = _
  subst hb1 hi3
  rfl

theorem q17_4 (a b x y : Int) : F39 [4, a, b, x, y] [] = some ([], [(decide (x > y))]) := by kernel_rfl

set_option maxHeartbeats 4000000 in
theorem q10_74 (a b : Int) : F16 [(74 : Int), a, b] [] = some ([(bif (decide ((IntKind.wrap .i64 (IntKind.wrap .i32 (IntKind.wrap .u64 (IntKind.wrap .u32 a)))) > (IntKind.wrap .i64 (IntKind.wrap .i32 (IntKind.wrap .u64 (IntKind.wrap .u32 b)))))) then 1 else 0), 0], [true]) := by
  refine Eq.trans (Fd_of (n := 3) (m := 0) (t := t16) (C := Tab.fn a16) rfl rfl) ?_
  rw [t16]
  refine st_lbc (show ((decide ((74 : Int) ≥ 70)) && (decide ((74 : Int) ≤ 79))) = true from by kernel_rfl) ?_
  show T.den _ _ [(74 : Int), a, b] [true] = _
  refine st_itt (show true = true from by kernel_rfl) ?_
  refine st_0_1 (e16_39) (g := true) rfl (l := [4, (IntKind.wrap .u64 (IntKind.wrap .u32 a)), (IntKind.wrap .u64 (IntKind.wrap .u32 b)), (IntKind.wrap .i64 (IntKind.wrap .i32 (IntKind.wrap .u64 (IntKind.wrap .u32 a)))), (IntKind.wrap .i64 (IntKind.wrap .i32 (IntKind.wrap .u64 (IntKind.wrap .u32 b))))]) rfl (m := []) rfl (cl_t (q17_4 (IntKind.wrap .u64 (IntKind.wrap .u32 a)) (IntKind.wrap .u64 (IntKind.wrap .u32 b)) (IntKind.wrap .i64 (IntKind.wrap .i32 (IntKind.wrap .u64 (IntKind.wrap .u32 a)))) (IntKind.wrap .i64 (IntKind.wrap .i32 (IntKind.wrap .u64 (IntKind.wrap .u32 b)))))) fun b1 hb1 => ?_
  show T.den _ _ [(74 : Int), a, b] [true, b1] = _
  refine st_1_0 (e16_38) (g := true) rfl (l := []) rfl (m := [b1]) rfl (cl_t (q16 b1)) fun i3 hi3 => ?_
  show T.den _ _ [(74 : Int), a, b, i3] [true, b1] = _
  refine st_ret ?_
  show some ([i3, 0], [true]) = _
  subst hb1 hi3
  rfl

theorem q17_5 (a b x y : Int) : F39 [5, a, b, x, y] [] = some ([], [(decide (a > b))]) := by kernel_rfl

set_option maxHeartbeats 4000000 in
theorem q10_75 (a b : Int) : F16 [(75 : Int), a, b] [] = some ([(bif (decide ((IntKind.wrap .u64 (IntKind.wrap .u32 a)) > (IntKind.wrap .u64 (IntKind.wrap .u32 b)))) then 1 else 0), 0], [true]) := by
  refine Eq.trans (Fd_of (n := 3) (m := 0) (t := t16) (C := Tab.fn a16) rfl rfl) ?_
  rw [t16]
  refine st_lbc (show ((decide ((75 : Int) ≥ 70)) && (decide ((75 : Int) ≤ 79))) = true from by kernel_rfl) ?_
  show T.den _ _ [(75 : Int), a, b] [true] = _
  refine st_itt (show true = true from by kernel_rfl) ?_
  refine st_0_1 (e16_39) (g := true) rfl (l := [5, (IntKind.wrap .u64 (IntKind.wrap .u32 a)), (IntKind.wrap .u64 (IntKind.wrap .u32 b)), (IntKind.wrap .i64 (IntKind.wrap .i32 (IntKind.wrap .u64 (IntKind.wrap .u32 a)))), (IntKind.wrap .i64 (IntKind.wrap .i32 (IntKind.wrap .u64 (IntKind.wrap .u32 b))))]) rfl (m := []) rfl (cl_t (q17_5 (IntKind.wrap .u64 (IntKind.wrap .u32 a)) (IntKind.wrap .u64 (IntKind.wrap .u32 b)) (IntKind.wrap .i64 (IntKind.wrap .i32 (IntKind.wrap .u64 (IntKind.wrap .u32 a)))) (IntKind.wrap .i64 (IntKind.wrap .i32 (IntKind.wrap .u64 (IntKind.wrap .u32 b)))))) fun b1 hb1 => ?_
  show T.den _ _ [(75 : Int), a, b] [true, b1] = _
  refine st_1_0 (e16_38) (g := true) rfl (l := []) rfl (m := [b1]) rfl (cl_t (q16 b1)) fun i3 hi3 => ?_
  show T.den _ _ [(75 : Int), a, b, i3] [true, b1] = _
  refine st_ret ?_
  show some ([i3, 0], [true]) = _
  subst hb1 hi3
  rfl

theorem q17_6 (a b x y : Int) : F39 [6, a, b, x, y] [] = some ([], [(decide (x ≤ y))]) := by kernel_rfl

set_option maxHeartbeats 4000000 in
theorem q10_76 (a b : Int) : F16 [(76 : Int), a, b] [] = some ([(bif (decide ((IntKind.wrap .i64 (IntKind.wrap .i32 (IntKind.wrap .u64 (IntKind.wrap .u32 a)))) ≤ (IntKind.wrap .i64 (IntKind.wrap .i32 (IntKind.wrap .u64 (IntKind.wrap .u32 b)))))) then 1 else 0), 0], [true]) := by
  refine Eq.trans (Fd_of (n := 3) (m := 0) (t := t16) (C := Tab.fn a16) rfl rfl) ?_
  rw [t16]
  refine st_lbc (show ((decide ((76 : Int) ≥ 70)) && (decide ((76 : Int) ≤ 79))) = true from by kernel_rfl) ?_
  show T.den _ _ [(76 : Int), a, b] [true] = _
  refine st_itt (show true = true from by kernel_rfl) ?_
  refine st_0_1 (e16_39) (g := true) rfl (l := [6, (IntKind.wrap .u64 (IntKind.wrap .u32 a)), (IntKind.wrap .u64 (IntKind.wrap .u32 b)), (IntKind.wrap .i64 (IntKind.wrap .i32 (IntKind.wrap .u64 (IntKind.wrap .u32 a)))), (IntKind.wrap .i64 (IntKind.wrap .i32 (IntKind.wrap .u64 (IntKind.wrap .u32 b))))]) rfl (m := []) rfl (cl_t (q17_6 (IntKind.wrap .u64 (IntKind.wrap .u32 a)) (IntKind.wrap .u64 (IntKind.wrap .u32 b)) (IntKind.wrap .i64 (IntKind.wrap .i32 (IntKind.wrap .u64 (IntKind.wrap .u32 a)))) (IntKind.wrap .i64 (IntKind.wrap .i32 (IntKind.wrap .u64 (IntKind.wrap .u32 b)))))) fun b1 hb1 => ?_
  show T.den _ _ [(76 : Int), a, b] [true, b1] = _
  refine st_1_0 (e16_38) (g := true) rfl (l := []) rfl (m := [b1]) rfl (cl_t (q16 b1)) fun i3 hi3 => ?_
  show T.den _ _ [(76 : Int), a, b, i3] [true, b1] = _
  refine st_ret ?_
  show some ([i3, 0], [true]) = _
  subst hb1 hi3
  rfl

theorem q17_7 (a b x y : Int) : F39 [7, a, b, x, y] [] = some ([], [(decide (a ≤ b))]) := by kernel_rfl

set_option maxHeartbeats 4000000 in
theorem q10_77 (a b : Int) : F16 [(77 : Int), a, b] [] = some ([(bif (decide ((IntKind.wrap .u64 (IntKind.wrap .u32 a)) ≤ (IntKind.wrap .u64 (IntKind.wrap .u32 b)))) then 1 else 0), 0], [true]) := by
  refine Eq.trans (Fd_of (n := 3) (m := 0) (t := t16) (C := Tab.fn a16) rfl rfl) ?_
  rw [t16]
  refine st_lbc (show ((decide ((77 : Int) ≥ 70)) && (decide ((77 : Int) ≤ 79))) = true from by kernel_rfl) ?_
  show T.den _ _ [(77 : Int), a, b] [true] = _
  refine st_itt (show true = true from by kernel_rfl) ?_
  refine st_0_1 (e16_39) (g := true) rfl (l := [7, (IntKind.wrap .u64 (IntKind.wrap .u32 a)), (IntKind.wrap .u64 (IntKind.wrap .u32 b)), (IntKind.wrap .i64 (IntKind.wrap .i32 (IntKind.wrap .u64 (IntKind.wrap .u32 a)))), (IntKind.wrap .i64 (IntKind.wrap .i32 (IntKind.wrap .u64 (IntKind.wrap .u32 b))))]) rfl (m := []) rfl (cl_t (q17_7 (IntKind.wrap .u64 (IntKind.wrap .u32 a)) (IntKind.wrap .u64 (IntKind.wrap .u32 b)) (IntKind.wrap .i64 (IntKind.wrap .i32 (IntKind.wrap .u64 (IntKind.wrap .u32 a)))) (IntKind.wrap .i64 (IntKind.wrap .i32 (IntKind.wrap .u64 (IntKind.wrap .u32 b)))))) fun b1 hb1 => ?_
  show T.den _ _ [(77 : Int), a, b] [true, b1] = _
  refine st_1_0 (e16_38) (g := true) rfl (l := []) rfl (m := [b1]) rfl (cl_t (q16 b1)) fun i3 hi3 => ?_
  show T.den _ _ [(77 : Int), a, b, i3] [true, b1] = _
  refine st_ret ?_
  show some ([i3, 0], [true]) = _
  subst hb1 hi3
  rfl

theorem q17_8 (a b x y : Int) : F39 [8, a, b, x, y] [] = some ([], [(decide (x ≥ y))]) := by kernel_rfl

set_option maxHeartbeats 4000000 in
theorem q10_78 (a b : Int) : F16 [(78 : Int), a, b] [] = some ([(bif (decide ((IntKind.wrap .i64 (IntKind.wrap .i32 (IntKind.wrap .u64 (IntKind.wrap .u32 a)))) ≥ (IntKind.wrap .i64 (IntKind.wrap .i32 (IntKind.wrap .u64 (IntKind.wrap .u32 b)))))) then 1 else 0), 0], [true]) := by
  refine Eq.trans (Fd_of (n := 3) (m := 0) (t := t16) (C := Tab.fn a16) rfl rfl) ?_
  rw [t16]
  refine st_lbc (show ((decide ((78 : Int) ≥ 70)) && (decide ((78 : Int) ≤ 79))) = true from by kernel_rfl) ?_
  show T.den _ _ [(78 : Int), a, b] [true] = _
  refine st_itt (show true = true from by kernel_rfl) ?_
  refine st_0_1 (e16_39) (g := true) rfl (l := [8, (IntKind.wrap .u64 (IntKind.wrap .u32 a)), (IntKind.wrap .u64 (IntKind.wrap .u32 b)), (IntKind.wrap .i64 (IntKind.wrap .i32 (IntKind.wrap .u64 (IntKind.wrap .u32 a)))), (IntKind.wrap .i64 (IntKind.wrap .i32 (IntKind.wrap .u64 (IntKind.wrap .u32 b))))]) rfl (m := []) rfl (cl_t (q17_8 (IntKind.wrap .u64 (IntKind.wrap .u32 a)) (IntKind.wrap .u64 (IntKind.wrap .u32 b)) (IntKind.wrap .i64 (IntKind.wrap .i32 (IntKind.wrap .u64 (IntKind.wrap .u32 a)))) (IntKind.wrap .i64 (IntKind.wrap .i32 (IntKind.wrap .u64 (IntKind.wrap .u32 b)))))) fun b1 hb1 => ?_
  show T.den _ _ [(78 : Int), a, b] [true, b1] = _
  refine st_1_0 (e16_38) (g := true) rfl (l := []) rfl (m := [b1]) rfl (cl_t (q16 b1)) fun i3 hi3 => ?_
  show T.den _ _ [(78 : Int), a, b, i3] [true, b1] = _
  refine st_ret ?_
  show some ([i3, 0], [true]) = _
  subst hb1 hi3
  rfl

theorem q17_9 (a b x y : Int) : F39 [9, a, b, x, y] [] = some ([], [(decide (a ≥ b))]) := by kernel_rfl

set_option maxHeartbeats 4000000 in
theorem q10_79 (a b : Int) : F16 [(79 : Int), a, b] [] = some ([(bif (decide ((IntKind.wrap .u64 (IntKind.wrap .u32 a)) ≥ (IntKind.wrap .u64 (IntKind.wrap .u32 b)))) then 1 else 0), 0], [true]) := by
  refine Eq.trans (Fd_of (n := 3) (m := 0) (t := t16) (C := Tab.fn a16) rfl rfl) ?_
  rw [t16]
  refine st_lbc (show ((decide ((79 : Int) ≥ 70)) && (decide ((79 : Int) ≤ 79))) = true from by kernel_rfl) ?_
  show T.den _ _ [(79 : Int), a, b] [true] = _
  refine st_itt (show true = true from by kernel_rfl) ?_
  refine st_0_1 (e16_39) (g := true) rfl (l := [9, (IntKind.wrap .u64 (IntKind.wrap .u32 a)), (IntKind.wrap .u64 (IntKind.wrap .u32 b)), (IntKind.wrap .i64 (IntKind.wrap .i32 (IntKind.wrap .u64 (IntKind.wrap .u32 a)))), (IntKind.wrap .i64 (IntKind.wrap .i32 (IntKind.wrap .u64 (IntKind.wrap .u32 b))))]) rfl (m := []) rfl (cl_t (q17_9 (IntKind.wrap .u64 (IntKind.wrap .u32 a)) (IntKind.wrap .u64 (IntKind.wrap .u32 b)) (IntKind.wrap .i64 (IntKind.wrap .i32 (IntKind.wrap .u64 (IntKind.wrap .u32 a)))) (IntKind.wrap .i64 (IntKind.wrap .i32 (IntKind.wrap .u64 (IntKind.wrap .u32 b)))))) fun b1 hb1 => ?_
  show T.den _ _ [(79 : Int), a, b] [true, b1] = _
  refine st_1_0 (e16_38) (g := true) rfl (l := []) rfl (m := [b1]) rfl (cl_t (q16 b1)) fun i3 hi3 => ?_
  show T.den _ _ [(79 : Int), a, b, i3] [true, b1] = _
  refine st_ret ?_
  show some ([i3, 0], [true]) = _
  subst hb1 hi3
  rfl

set_option maxHeartbeats 4000000 in
theorem q18_0_32 (a b : Int) : F40 [(0 : Int), a, b, (32 : Int)] [] = some ([(arI .add .u64 a b), 0], []) := by
  refine Eq.trans (Fd_of (n := 4) (m := 0) (t := t40) (C := Tab.fn a40) rfl rfl) ?_
  rw [t40]
  refine st_itt (show ((32 : Int) == 32) = true from by kernel_rfl) ?_
  refine st_rq (show ((32 : Int) != 0) = true from by kernel_rfl) ?_
  refine st_itt (show ((0 : Int) == 0) = true from by kernel_rfl) ?_
  refine st_ret ?_
  show some ([(arI .add .u64 a b), 0], []) = _
  rfl

set_option maxHeartbeats 4000000 in
theorem q10_106 (a b : Int) : F16 [(106 : Int), a, b] [] = some ([(IntKind.wrap .u64 (IntKind.wrap .u32 (arI .add .u64 (IntKind.wrap .u64 (IntKind.wrap .u32 a)) (IntKind.wrap .u64 (IntKind.wrap .u32 b))))), 0], [true]) := by
  refine Eq.trans (Fd_of (n := 3) (m := 0) (t := t16) (C := Tab.fn a16) rfl rfl) ?_
  rw [t16]
  refine st_lbc (show ((decide ((106 : Int) ≥ 70)) && (decide ((106 : Int) ≤ 79))) = false from by kernel_rfl) ?_
  show T.den _ _ [(106 : Int), a, b] [false] = _
  refine st_itf (show false = false from by kernel_rfl) ?_
  refine st_lbc (show ((decide ((106 : Int) ≥ 81)) && (decide ((106 : Int) ≤ 90))) = false from by kernel_rfl) ?_
  show T.den _ _ [(106 : Int), a, b] [false, false] = _
  refine st_itf (show false = false from by kernel_rfl) ?_
  refine st_lbc (show ((decide ((106 : Int) ≥ 106)) && (decide ((106 : Int) ≤ 120))) = true from by kernel_rfl) ?_
  show T.den _ _ [(106 : Int), a, b] [false, false, true] = _
  refine st_itt (show true = true from by kernel_rfl) ?_
  refine st_2_0 (e16_40) (g := true) rfl (l := [0, (IntKind.wrap .u64 (IntKind.wrap .u32 a)), (IntKind.wrap .u64 (IntKind.wrap .u32 b)), 32]) rfl (m := []) rfl (cl_t (q18_0_32 (IntKind.wrap .u64 (IntKind.wrap .u32 a)) (IntKind.wrap .u64 (IntKind.wrap .u32 b)) )) fun i3 i4 hi3 hi4 => ?_
  show T.den _ _ [(106 : Int), a, b, i3, i4] [false, false, true] = _
  refine st_ret ?_
  show some ([(IntKind.wrap .u64 (IntKind.wrap .u32 i3)), i4], [true]) = _
  subst hi3 hi4
  rfl

set_option maxHeartbeats 4000000 in
theorem q18_1_32 (a b : Int) : F40 [(1 : Int), a, b, (32 : Int)] [] = some ([(arI .sub .u64 a b), 0], []) := by
  refine Eq.trans (Fd_of (n := 4) (m := 0) (t := t40) (C := Tab.fn a40) rfl rfl) ?_
  rw [t40]
  refine st_itt (show ((32 : Int) == 32) = true from by kernel_rfl) ?_
  refine st_rq (show ((32 : Int) != 0) = true from by kernel_rfl) ?_
  refine st_itf (show ((1 : Int) == 0) = false from by kernel_rfl) ?_
  refine st_itt (show ((1 : Int) == 1) = true from by kernel_rfl) ?_
  refine st_ret ?_
  show some ([(arI .sub .u64 a b), 0], []) = _
  rfl

set_option maxHeartbeats 4000000 in
theorem q10_107 (a b : Int) : F16 [(107 : Int), a, b] [] = some ([(IntKind.wrap .u64 (IntKind.wrap .u32 (arI .sub .u64 (IntKind.wrap .u64 (IntKind.wrap .u32 a)) (IntKind.wrap .u64 (IntKind.wrap .u32 b))))), 0], [true]) := by
  refine Eq.trans (Fd_of (n := 3) (m := 0) (t := t16) (C := Tab.fn a16) rfl rfl) ?_
  rw [t16]
  refine st_lbc (show ((decide ((107 : Int) ≥ 70)) && (decide ((107 : Int) ≤ 79))) = false from by kernel_rfl) ?_
  show T.den _ _ [(107 : Int), a, b] [false] = _
  refine st_itf (show false = false from by kernel_rfl) ?_
  refine st_lbc (show ((decide ((107 : Int) ≥ 81)) && (decide ((107 : Int) ≤ 90))) = false from by kernel_rfl) ?_
  show T.den _ _ [(107 : Int), a, b] [false, false] = _
  refine st_itf (show false = false from by kernel_rfl) ?_
  refine st_lbc (show ((decide ((107 : Int) ≥ 106)) && (decide ((107 : Int) ≤ 120))) = true from by kernel_rfl) ?_
  show T.den _ _ [(107 : Int), a, b] [false, false, true] = _
  refine st_itt (show true = true from by kernel_rfl) ?_
  refine st_2_0 (e16_40) (g := true) rfl (l := [1, (IntKind.wrap .u64 (IntKind.wrap .u32 a)), (IntKind.wrap .u64 (IntKind.wrap .u32 b)), 32]) rfl (m := []) rfl (cl_t (q18_1_32 (IntKind.wrap .u64 (IntKind.wrap .u32 a)) (IntKind.wrap .u64 (IntKind.wrap .u32 b)) )) fun i3 i4 hi3 hi4 => ?_
  show T.den _ _ [(107 : Int), a, b, i3, i4] [false, false, true] = _
  refine st_ret ?_
  show some ([(IntKind.wrap .u64 (IntKind.wrap .u32 i3)), i4], [true]) = _
  subst hi3 hi4
  rfl

set_option maxHeartbeats 4000000 in
theorem q18_2_32 (a b : Int) : F40 [(2 : Int), a, b, (32 : Int)] [] = some ([(arI .mul .u64 a b), 0], []) := by
  refine Eq.trans (Fd_of (n := 4) (m := 0) (t := t40) (C := Tab.fn a40) rfl rfl) ?_
  rw [t40]
  refine st_itt (show ((32 : Int) == 32) = true from by kernel_rfl) ?_
  refine st_rq (show ((32 : Int) != 0) = true from by kernel_rfl) ?_
  refine st_itf (show ((2 : Int) == 0) = false from by kernel_rfl) ?_
  refine st_itf (show ((2 : Int) == 1) = false from by kernel_rfl) ?_
  refine st_itt (show ((2 : Int) == 2) = true from by kernel_rfl) ?_
  refine st_ret ?_
  show some ([(arI .mul .u64 a b), 0], []) = _
  rfl

set_option maxHeartbeats 4000000 in
theorem q10_108 (a b : Int) : F16 [(108 : Int), a, b] [] = some ([(IntKind.wrap .u64 (IntKind.wrap .u32 (arI .mul .u64 (IntKind.wrap .u64 (IntKind.wrap .u32 a)) (IntKind.wrap .u64 (IntKind.wrap .u32 b))))), 0], [true]) := by
  refine Eq.trans (Fd_of (n := 3) (m := 0) (t := t16) (C := Tab.fn a16) rfl rfl) ?_
  rw [t16]
  refine st_lbc (show ((decide ((108 : Int) ≥ 70)) && (decide ((108 : Int) ≤ 79))) = false from by kernel_rfl) ?_
  show T.den _ _ [(108 : Int), a, b] [false] = _
  refine st_itf (show false = false from by kernel_rfl) ?_
  refine st_lbc (show ((decide ((108 : Int) ≥ 81)) && (decide ((108 : Int) ≤ 90))) = false from by kernel_rfl) ?_
  show T.den _ _ [(108 : Int), a, b] [false, false] = _
  refine st_itf (show false = false from by kernel_rfl) ?_
  refine st_lbc (show ((decide ((108 : Int) ≥ 106)) && (decide ((108 : Int) ≤ 120))) = true from by kernel_rfl) ?_
  show T.den _ _ [(108 : Int), a, b] [false, false, true] = _
  refine st_itt (show true = true from by kernel_rfl) ?_
  refine st_2_0 (e16_40) (g := true) rfl (l := [2, (IntKind.wrap .u64 (IntKind.wrap .u32 a)), (IntKind.wrap .u64 (IntKind.wrap .u32 b)), 32]) rfl (m := []) rfl (cl_t (q18_2_32 (IntKind.wrap .u64 (IntKind.wrap .u32 a)) (IntKind.wrap .u64 (IntKind.wrap .u32 b)) )) fun i3 i4 hi3 hi4 => ?_
  show T.den _ _ [(108 : Int), a, b, i3, i4] [false, false, true] = _
  refine st_ret ?_
  show some ([(IntKind.wrap .u64 (IntKind.wrap .u32 i3)), i4], [true]) = _
  subst hi3 hi4
  rfl

set_option maxHeartbeats 4000000 in
theorem q18_3_32 (a b : Int) (hb : 0 ≤ b) (hb2 : b < 4294967296) : F40 [(3 : Int), a, b, (32 : Int)] [] = some ([(dq b (IntKind.wrap .i64 (IntKind.wrap .i32 a)) (IntKind.wrap .i64 (IntKind.wrap .i32 b)) (-2147483648)), (dt b (IntKind.wrap .i64 (IntKind.wrap .i32 a)) (IntKind.wrap .i64 (IntKind.wrap .i32 b)) (-2147483648))], []) := by
  refine Eq.trans (Fd_of (n := 4) (m := 0) (t := t40) (C := Tab.fn a40) rfl rfl) ?_
  rw [t40]
  refine st_itt (show ((32 : Int) == 32) = true from by kernel_rfl) ?_
  refine st_rq (show ((32 : Int) != 0) = true from by kernel_rfl) ?_
  refine st_itf (show ((3 : Int) == 0) = false from by kernel_rfl) ?_
  refine st_itf (show ((3 : Int) == 1) = false from by kernel_rfl) ?_
  refine st_itf (show ((3 : Int) == 2) = false from by kernel_rfl) ?_
  refine st_itt (show ((3 : Int) == 3) = true from by kernel_rfl) ?_
  refine st_itt (show ((3 : Int) == 3) = true from by kernel_rfl) ?_
  refine st_2_0 (e40_64) (g := true) rfl (l := [0, a, b, (IntKind.wrap .i64 (IntKind.wrap .i32 a)), (IntKind.wrap .i64 (IntKind.wrap .i32 b)), (-2147483648)]) rfl (m := []) rfl (cl_t (q36_0 (a) (b) ((IntKind.wrap .i64 (IntKind.wrap .i32 a))) ((IntKind.wrap .i64 (IntKind.wrap .i32 b))) ((-2147483648)) (i32_ne b hb hb2))) fun i4 i5 hi4 hi5 => ?_
  show T.den _ _ [(3 : Int), a, b, (32 : Int), i4, i5] [] = _
  refine st_ret ?_
  show some ([i4, i5], []) = _
  subst hi4 hi5
  rfl

set_option maxHeartbeats 4000000 in
theorem q10_109 (a b : Int) : F16 [(109 : Int), a, b] [] = some ([(IntKind.wrap .u64 (IntKind.wrap .u32 (dq (IntKind.wrap .u64 (IntKind.wrap .u32 b)) (IntKind.wrap .i64 (IntKind.wrap .i32 (IntKind.wrap .u64 (IntKind.wrap .u32 a)))) (IntKind.wrap .i64 (IntKind.wrap .i32 (IntKind.wrap .u64 (IntKind.wrap .u32 b)))) (-2147483648)))), (dt (IntKind.wrap .u64 (IntKind.wrap .u32 b)) (IntKind.wrap .i64 (IntKind.wrap .i32 (IntKind.wrap .u64 (IntKind.wrap .u32 a)))) (IntKind.wrap .i64 (IntKind.wrap .i32 (IntKind.wrap .u64 (IntKind.wrap .u32 b)))) (-2147483648))], [true]) := by
  refine Eq.trans (Fd_of (n := 3) (m := 0) (t := t16) (C := Tab.fn a16) rfl rfl) ?_
  rw [t16]
  refine st_lbc (show ((decide ((109 : Int) ≥ 70)) && (decide ((109 : Int) ≤ 79))) = false from by kernel_rfl) ?_
  show T.den _ _ [(109 : Int), a, b] [false] = _
  refine st_itf (show false = false from by kernel_rfl) ?_
  refine st_lbc (show ((decide ((109 : Int) ≥ 81)) && (decide ((109 : Int) ≤ 90))) = false from by kernel_rfl) ?_
  show T.den _ _ [(109 : Int), a, b] [false, false] = _
  refine st_itf (show false = false from by kernel_rfl) ?_
  refine st_lbc (show ((decide ((109 : Int) ≥ 106)) && (decide ((109 : Int) ≤ 120))) = true from by kernel_rfl) ?_
  show T.den _ _ [(109 : Int), a, b] [false, false, true] = _
  refine st_itt (show true = true from by kernel_rfl) ?_
  refine st_2_0 (e16_40) (g := true) rfl (l := [3, (IntKind.wrap .u64 (IntKind.wrap .u32 a)), (IntKind.wrap .u64 (IntKind.wrap .u32 b)), 32]) rfl (m := []) rfl (cl_t (q18_3_32 (IntKind.wrap .u64 (IntKind.wrap .u32 a)) (IntKind.wrap .u64 (IntKind.wrap .u32 b)) (u32_ge _) (u32_lt _))) fun i3 i4 hi3 hi4 => ?_
  show T.den _ _ [(109 : Int), a, b, i3, i4] [false, false, true] = _
  refine st_ret ?_
  show some ([(IntKind.wrap .u64 (IntKind.wrap .u32 i3)), i4], [true]) = _
  subst hi3 hi4
  rfl

set_option maxHeartbeats 4000000 in
theorem q18_4_32 (a b : Int) (hb : 0 ≤ b) (hb2 : b < 4294967296) : F40 [(4 : Int), a, b, (32 : Int)] [] = some ([(uq a b), (dz b)], []) := by
  refine Eq.trans (Fd_of (n := 4) (m := 0) (t := t40) (C := Tab.fn a40) rfl rfl) ?_
  rw [t40]
  refine st_itt (show ((32 : Int) == 32) = true from by kernel_rfl) ?_
  refine st_rq (show ((32 : Int) != 0) = true from by kernel_rfl) ?_
  refine st_itf (show ((4 : Int) == 0) = false from by kernel_rfl) ?_
  refine st_itf (show ((4 : Int) == 1) = false from by kernel_rfl) ?_
  refine st_itf (show ((4 : Int) == 2) = false from by kernel_rfl) ?_
  refine st_itf (show ((4 : Int) == 3) = false from by kernel_rfl) ?_
  refine st_itt (show ((4 : Int) == 4) = true from by kernel_rfl) ?_
  refine st_itt (show ((4 : Int) == 4) = true from by kernel_rfl) ?_
  refine st_2_0 (e40_64) (g := true) rfl (l := [1, a, b, (IntKind.wrap .i64 (IntKind.wrap .i32 a)), (IntKind.wrap .i64 (IntKind.wrap .i32 b)), (-2147483648)]) rfl (m := []) rfl (cl_t (q36_1 (a) (b) ((IntKind.wrap .i64 (IntKind.wrap .i32 a))) ((IntKind.wrap .i64 (IntKind.wrap .i32 b))) ((-2147483648)) (i32_ne b hb hb2))) fun i4 i5 hi4 hi5 => ?_
  show T.den _ _ [(4 : Int), a, b, (32 : Int), i4, i5] [] = _
  refine st_ret ?_
  show some ([i4, i5], []) = _
  subst hi4 hi5
  rfl

set_option maxHeartbeats 4000000 in
theorem q10_110 (a b : Int) : F16 [(110 : Int), a, b] [] = some ([(IntKind.wrap .u64 (IntKind.wrap .u32 (uq (IntKind.wrap .u64 (IntKind.wrap .u32 a)) (IntKind.wrap .u64 (IntKind.wrap .u32 b))))), (dz (IntKind.wrap .u64 (IntKind.wrap .u32 b)))], [true]) := by
  refine Eq.trans (Fd_of (n := 3) (m := 0) (t := t16) (C := Tab.fn a16) rfl rfl) ?_
  rw [t16]
  refine st_lbc (show ((decide ((110 : Int) ≥ 70)) && (decide ((110 : Int) ≤ 79))) = false from by kernel_rfl) ?_
  show T.den _ _ [(110 : Int), a, b] [false] = _
  refine st_itf (show false = false from by kernel_rfl) ?_
  refine st_lbc (show ((decide ((110 : Int) ≥ 81)) && (decide ((110 : Int) ≤ 90))) = false from by kernel_rfl) ?_
  show T.den _ _ [(110 : Int), a, b] [false, false] = _
  refine st_itf (show false = false from by kernel_rfl) ?_
  refine st_lbc (show ((decide ((110 : Int) ≥ 106)) && (decide ((110 : Int) ≤ 120))) = true from by kernel_rfl) ?_
  show T.den _ _ [(110 : Int), a, b] [false, false, true] = _
  refine st_itt (show true = true from by kernel_rfl) ?_
  refine st_2_0 (e16_40) (g := true) rfl (l := [4, (IntKind.wrap .u64 (IntKind.wrap .u32 a)), (IntKind.wrap .u64 (IntKind.wrap .u32 b)), 32]) rfl (m := []) rfl (cl_t (q18_4_32 (IntKind.wrap .u64 (IntKind.wrap .u32 a)) (IntKind.wrap .u64 (IntKind.wrap .u32 b)) (u32_ge _) (u32_lt _))) fun i3 i4 hi3 hi4 => ?_
  show T.den _ _ [(110 : Int), a, b, i3, i4] [false, false, true] = _
  refine st_ret ?_
  show some ([(IntKind.wrap .u64 (IntKind.wrap .u32 i3)), i4], [true]) = _
  subst hi3 hi4
  rfl

set_option maxHeartbeats 4000000 in
theorem q18_5_32 (a b : Int) (hb : 0 ≤ b) (hb2 : b < 4294967296) : F40 [(5 : Int), a, b, (32 : Int)] [] = some ([(dr b (IntKind.wrap .i64 (IntKind.wrap .i32 a)) (IntKind.wrap .i64 (IntKind.wrap .i32 b))), (dz b)], []) := by
  refine Eq.trans (Fd_of (n := 4) (m := 0) (t := t40) (C := Tab.fn a40) rfl rfl) ?_
  rw [t40]
  refine st_itt (show ((32 : Int) == 32) = true from by kernel_rfl) ?_
  refine st_rq (show ((32 : Int) != 0) = true from by kernel_rfl) ?_
  refine st_itf (show ((5 : Int) == 0) = false from by kernel_rfl) ?_
  refine st_itf (show ((5 : Int) == 1) = false from by kernel_rfl) ?_
  refine st_itf (show ((5 : Int) == 2) = false from by kernel_rfl) ?_
  refine st_itf (show ((5 : Int) == 3) = false from by kernel_rfl) ?_
  refine st_itf (show ((5 : Int) == 4) = false from by kernel_rfl) ?_
  refine st_itt (show ((5 : Int) == 5) = true from by kernel_rfl) ?_
  refine st_itt (show ((5 : Int) == 5) = true from by kernel_rfl) ?_
  refine st_2_0 (e40_64) (g := true) rfl (l := [2, a, b, (IntKind.wrap .i64 (IntKind.wrap .i32 a)), (IntKind.wrap .i64 (IntKind.wrap .i32 b)), (-2147483648)]) rfl (m := []) rfl (cl_t (q36_2 (a) (b) ((IntKind.wrap .i64 (IntKind.wrap .i32 a))) ((IntKind.wrap .i64 (IntKind.wrap .i32 b))) ((-2147483648)) (i32_ne b hb hb2))) fun i4 i5 hi4 hi5 => ?_
  show T.den _ _ [(5 : Int), a, b, (32 : Int), i4, i5] [] = _
  refine st_ret ?_
  show some ([i4, i5], []) = _
  subst hi4 hi5
  rfl

set_option maxHeartbeats 4000000 in
theorem q10_111 (a b : Int) : F16 [(111 : Int), a, b] [] = some ([(IntKind.wrap .u64 (IntKind.wrap .u32 (dr (IntKind.wrap .u64 (IntKind.wrap .u32 b)) (IntKind.wrap .i64 (IntKind.wrap .i32 (IntKind.wrap .u64 (IntKind.wrap .u32 a)))) (IntKind.wrap .i64 (IntKind.wrap .i32 (IntKind.wrap .u64 (IntKind.wrap .u32 b))))))), (dz (IntKind.wrap .u64 (IntKind.wrap .u32 b)))], [true]) := by
  refine Eq.trans (Fd_of (n := 3) (m := 0) (t := t16) (C := Tab.fn a16) rfl rfl) ?_
  rw [t16]
  refine st_lbc (show ((decide ((111 : Int) ≥ 70)) && (decide ((111 : Int) ≤ 79))) = false from by kernel_rfl) ?_
  show T.den _ _ [(111 : Int), a, b] [false] = _
  refine st_itf (show false = false from by kernel_rfl) ?_
  refine st_lbc (show ((decide ((111 : Int) ≥ 81)) && (decide ((111 : Int) ≤ 90))) = false from by kernel_rfl) ?_
  show T.den _ _ [(111 : Int), a, b] [false, false] = _
  refine st_itf (show false = false from by kernel_rfl) ?_
  refine st_lbc (show ((decide ((111 : Int) ≥ 106)) && (decide ((111 : Int) ≤ 120))) = true from by kernel_rfl) ?_
  show T.den _ _ [(111 : Int), a, b] [false, false, true] = _
  refine st_itt (show true = true from by kernel_rfl) ?_
  refine st_2_0 (e16_40) (g := true) rfl (l := [5, (IntKind.wrap .u64 (IntKind.wrap .u32 a)), (IntKind.wrap .u64 (IntKind.wrap .u32 b)), 32]) rfl (m := []) rfl (cl_t (q18_5_32 (IntKind.wrap .u64 (IntKind.wrap .u32 a)) (IntKind.wrap .u64 (IntKind.wrap .u32 b)) (u32_ge _) (u32_lt _))) fun i3 i4 hi3 hi4 => ?_
  show T.den _ _ [(111 : Int), a, b, i3, i4] [false, false, true] = _
  refine st_ret ?_
  show some ([(IntKind.wrap .u64 (IntKind.wrap .u32 i3)), i4], [true]) = _
  subst hi3 hi4
  rfl

set_option maxHeartbeats 4000000 in
theorem q18_6_32 (a b : Int) (hb : 0 ≤ b) (hb2 : b < 4294967296) : F40 [(6 : Int), a, b, (32 : Int)] [] = some ([(ur a b), (dz b)], []) := by
  refine Eq.trans (Fd_of (n := 4) (m := 0) (t := t40) (C := Tab.fn a40) rfl rfl) ?_
  rw [t40]
  refine st_itt (show ((32 : Int) == 32) = true from by kernel_rfl) ?_
  refine st_rq (show ((32 : Int) != 0) = true from by kernel_rfl) ?_
  refine st_itf (show ((6 : Int) == 0) = false from by kernel_rfl) ?_
  refine st_itf (show ((6 : Int) == 1) = false from by kernel_rfl) ?_
  refine st_itf (show ((6 : Int) == 2) = false from by kernel_rfl) ?_
  refine st_itf (show ((6 : Int) == 3) = false from by kernel_rfl) ?_
  refine st_itf (show ((6 : Int) == 4) = false from by kernel_rfl) ?_
  refine st_itf (show ((6 : Int) == 5) = false from by kernel_rfl) ?_
  refine st_itt (show ((6 : Int) == 6) = true from by kernel_rfl) ?_
  refine st_2_0 (e40_64) (g := true) rfl (l := [3, a, b, (IntKind.wrap .i64 (IntKind.wrap .i32 a)), (IntKind.wrap .i64 (IntKind.wrap .i32 b)), (-2147483648)]) rfl (m := []) rfl (cl_t (q36_3 (a) (b) ((IntKind.wrap .i64 (IntKind.wrap .i32 a))) ((IntKind.wrap .i64 (IntKind.wrap .i32 b))) ((-2147483648)) (i32_ne b hb hb2))) fun i4 i5 hi4 hi5 => ?_
  show T.den _ _ [(6 : Int), a, b, (32 : Int), i4, i5] [] = _
  refine st_ret ?_
  show some ([i4, i5], []) = _
  subst hi4 hi5
  rfl

set_option maxHeartbeats 4000000 in
theorem q10_112 (a b : Int) : F16 [(112 : Int), a, b] [] = some ([(IntKind.wrap .u64 (IntKind.wrap .u32 (ur (IntKind.wrap .u64 (IntKind.wrap .u32 a)) (IntKind.wrap .u64 (IntKind.wrap .u32 b))))), (dz (IntKind.wrap .u64 (IntKind.wrap .u32 b)))], [true]) := by
  refine Eq.trans (Fd_of (n := 3) (m := 0) (t := t16) (C := Tab.fn a16) rfl rfl) ?_
  rw [t16]
  refine st_lbc (show ((decide ((112 : Int) ≥ 70)) && (decide ((112 : Int) ≤ 79))) = false from by kernel_rfl) ?_
  show T.den _ _ [(112 : Int), a, b] [false] = _
  refine st_itf (show false = false from by kernel_rfl) ?_
  refine st_lbc (show ((decide ((112 : Int) ≥ 81)) && (decide ((112 : Int) ≤ 90))) = false from by kernel_rfl) ?_
  show T.den _ _ [(112 : Int), a, b] [false, false] = _
  refine st_itf (show false = false from by kernel_rfl) ?_
  refine st_lbc (show ((decide ((112 : Int) ≥ 106)) && (decide ((112 : Int) ≤ 120))) = true from by kernel_rfl) ?_
  show T.den _ _ [(112 : Int), a, b] [false, false, true] = _
  refine st_itt (show true = true from by kernel_rfl) ?_
  refine st_2_0 (e16_40) (g := true) rfl (l := [6, (IntKind.wrap .u64 (IntKind.wrap .u32 a)), (IntKind.wrap .u64 (IntKind.wrap .u32 b)), 32]) rfl (m := []) rfl (cl_t (q18_6_32 (IntKind.wrap .u64 (IntKind.wrap .u32 a)) (IntKind.wrap .u64 (IntKind.wrap .u32 b)) (u32_ge _) (u32_lt _))) fun i3 i4 hi3 hi4 => ?_
  show T.den _ _ [(112 : Int), a, b, i3, i4] [false, false, true] = _
  refine st_ret ?_
  show some ([(IntKind.wrap .u64 (IntKind.wrap .u32 i3)), i4], [true]) = _
  subst hi3 hi4
  rfl

set_option maxHeartbeats 4000000 in
theorem q18_7_32 (a b : Int) : F40 [(7 : Int), a, b, (32 : Int)] [] = some ([(arI .and .u64 a b), 0], []) := by
  refine Eq.trans (Fd_of (n := 4) (m := 0) (t := t40) (C := Tab.fn a40) rfl rfl) ?_
  rw [t40]
  refine st_itt (show ((32 : Int) == 32) = true from by kernel_rfl) ?_
  refine st_rq (show ((32 : Int) != 0) = true from by kernel_rfl) ?_
  refine st_itf (show ((7 : Int) == 0) = false from by kernel_rfl) ?_
  refine st_itf (show ((7 : Int) == 1) = false from by kernel_rfl) ?_
  refine st_itf (show ((7 : Int) == 2) = false from by kernel_rfl) ?_
  refine st_itf (show ((7 : Int) == 3) = false from by kernel_rfl) ?_
  refine st_itf (show ((7 : Int) == 4) = false from by kernel_rfl) ?_
  refine st_itf (show ((7 : Int) == 5) = false from by kernel_rfl) ?_
  refine st_itf (show ((7 : Int) == 6) = false from by kernel_rfl) ?_
  refine st_itt (show ((7 : Int) == 7) = true from by kernel_rfl) ?_
  refine st_ret ?_
  show some ([(arI .and .u64 a b), 0], []) = _
  rfl

set_option maxHeartbeats 4000000 in
theorem q10_113 (a b : Int) : F16 [(113 : Int), a, b] [] = some ([(IntKind.wrap .u64 (IntKind.wrap .u32 (arI .and .u64 (IntKind.wrap .u64 (IntKind.wrap .u32 a)) (IntKind.wrap .u64 (IntKind.wrap .u32 b))))), 0], [true]) := by
  refine Eq.trans (Fd_of (n := 3) (m := 0) (t := t16) (C := Tab.fn a16) rfl rfl) ?_
  rw [t16]
  refine st_lbc (show ((decide ((113 : Int) ≥ 70)) && (decide ((113 : Int) ≤ 79))) = false from by kernel_rfl) ?_
  show T.den _ _ [(113 : Int), a, b] [false] = _
  refine st_itf (show false = false from by kernel_rfl) ?_
  refine st_lbc (show ((decide ((113 : Int) ≥ 81)) && (decide ((113 : Int) ≤ 90))) = false from by kernel_rfl) ?_
  show T.den _ _ [(113 : Int), a, b] [false, false] = _
  refine st_itf (show false = false from by kernel_rfl) ?_
  refine st_lbc (show ((decide ((113 : Int) ≥ 106)) && (decide ((113 : Int) ≤ 120))) = true from by kernel_rfl) ?_
  show T.den _ _ [(113 : Int), a, b] [false, false, true] = _
  refine st_itt (show true = true from by kernel_rfl) ?_
  refine st_2_0 (e16_40) (g := true) rfl (l := [7, (IntKind.wrap .u64 (IntKind.wrap .u32 a)), (IntKind.wrap .u64 (IntKind.wrap .u32 b)), 32]) rfl (m := []) rfl (cl_t (q18_7_32 (IntKind.wrap .u64 (IntKind.wrap .u32 a)) (IntKind.wrap .u64 (IntKind.wrap .u32 b)) )) fun i3 i4 hi3 hi4 => ?_
  show T.den _ _ [(113 : Int), a, b, i3, i4] [false, false, true] = _
  refine st_ret ?_
  show some ([(IntKind.wrap .u64 (IntKind.wrap .u32 i3)), i4], [true]) = _
  subst hi3 hi4
  rfl

set_option maxHeartbeats 4000000 in
theorem q18_8_32 (a b : Int) : F40 [(8 : Int), a, b, (32 : Int)] [] = some ([(arI .or .u64 a b), 0], []) := by
  refine Eq.trans (Fd_of (n := 4) (m := 0) (t := t40) (C := Tab.fn a40) rfl rfl) ?_
  rw [t40]
  refine st_itt (show ((32 : Int) == 32) = true from by kernel_rfl) ?_
  refine st_rq (show ((32 : Int) != 0) = true from by kernel_rfl) ?_
  refine st_itf (show ((8 : Int) == 0) = false from by kernel_rfl) ?_
  refine st_itf (show ((8 : Int) == 1) = false from by kernel_rfl) ?_
  refine st_itf (show ((8 : Int) == 2) = false from by kernel_rfl) ?_
  refine st_itf (show ((8 : Int) == 3) = false from by kernel_rfl) ?_
  refine st_itf (show ((8 : Int) == 4) = false from by kernel_rfl) ?_
  refine st_itf (show ((8 : Int) == 5) = false from by kernel_rfl) ?_
  refine st_itf (show ((8 : Int) == 6) = false from by kernel_rfl) ?_
  refine st_itf (show ((8 : Int) == 7) = false from by kernel_rfl) ?_
  refine st_itt (show ((8 : Int) == 8) = true from by kernel_rfl) ?_
  refine st_ret ?_
  show some ([(arI .or .u64 a b), 0], []) = _
  rfl

set_option maxHeartbeats 4000000 in
theorem q10_114 (a b : Int) : F16 [(114 : Int), a, b] [] = some ([(IntKind.wrap .u64 (IntKind.wrap .u32 (arI .or .u64 (IntKind.wrap .u64 (IntKind.wrap .u32 a)) (IntKind.wrap .u64 (IntKind.wrap .u32 b))))), 0], [true]) := by
  refine Eq.trans (Fd_of (n := 3) (m := 0) (t := t16) (C := Tab.fn a16) rfl rfl) ?_
  rw [t16]
  refine st_lbc (show ((decide ((114 : Int) ≥ 70)) && (decide ((114 : Int) ≤ 79))) = false from by kernel_rfl) ?_
  show T.den _ _ [(114 : Int), a, b] [false] = _
  refine st_itf (show false = false from by kernel_rfl) ?_
  refine st_lbc (show ((decide ((114 : Int) ≥ 81)) && (decide ((114 : Int) ≤ 90))) = false from by kernel_rfl) ?_
  show T.den _ _ [(114 : Int), a, b] [false, false] = _
  refine st_itf (show false = false from by kernel_rfl) ?_
  refine st_lbc (show ((decide ((114 : Int) ≥ 106)) && (decide ((114 : Int) ≤ 120))) = true from by kernel_rfl) ?_
  show T.den _ _ [(114 : Int), a, b] [false, false, true] = _
  refine st_itt (show true = true from by kernel_rfl) ?_
  refine st_2_0 (e16_40) (g := true) rfl (l := [8, (IntKind.wrap .u64 (IntKind.wrap .u32 a)), (IntKind.wrap .u64 (IntKind.wrap .u32 b)), 32]) rfl (m := []) rfl (cl_t (q18_8_32 (IntKind.wrap .u64 (IntKind.wrap .u32 a)) (IntKind.wrap .u64 (IntKind.wrap .u32 b)) )) fun i3 i4 hi3 hi4 => ?_
  show T.den _ _ [(114 : Int), a, b, i3, i4] [false, false, true] = _
  refine st_ret ?_
  show some ([(IntKind.wrap .u64 (IntKind.wrap .u32 i3)), i4], [true]) = _
  subst hi3 hi4
  rfl

set_option maxHeartbeats 4000000 in
theorem q18_9_32 (a b : Int) : F40 [(9 : Int), a, b, (32 : Int)] [] = some ([(arI .xor .u64 a b), 0], []) := by
  refine Eq.trans (Fd_of (n := 4) (m := 0) (t := t40) (C := Tab.fn a40) rfl rfl) ?_
  rw [t40]
  refine st_itt (show ((32 : Int) == 32) = true from by kernel_rfl) ?_
  refine st_rq (show ((32 : Int) != 0) = true from by kernel_rfl) ?_
  refine st_itf (show ((9 : Int) == 0) = false from by kernel_rfl) ?_
  refine st_itf (show ((9 : Int) == 1) = false from by kernel_rfl) ?_
  refine st_itf (show ((9 : Int) == 2) = false from by kernel_rfl) ?_
  refine st_itf (show ((9 : Int) == 3) = false from by kernel_rfl) ?_
  refine st_itf (show ((9 : Int) == 4) = false from by kernel_rfl) ?_
  refine st_itf (show ((9 : Int) == 5) = false from by kernel_rfl) ?_
  refine st_itf (show ((9 : Int) == 6) = false from by kernel_rfl) ?_
  refine st_itf (show ((9 : Int) == 7) = false from by kernel_rfl) ?_
  refine st_itf (show ((9 : Int) == 8) = false from by kernel_rfl) ?_
  refine st_itt (show ((9 : Int) == 9) = true from by kernel_rfl) ?_
  refine st_ret ?_
  show some ([(arI .xor .u64 a b), 0], []) = _
  rfl

set_option maxHeartbeats 4000000 in
theorem q10_115 (a b : Int) : F16 [(115 : Int), a, b] [] = some ([(IntKind.wrap .u64 (IntKind.wrap .u32 (arI .xor .u64 (IntKind.wrap .u64 (IntKind.wrap .u32 a)) (IntKind.wrap .u64 (IntKind.wrap .u32 b))))), 0], [true]) := by
  refine Eq.trans (Fd_of (n := 3) (m := 0) (t := t16) (C := Tab.fn a16) rfl rfl) ?_
  rw [t16]
  refine st_lbc (show ((decide ((115 : Int) ≥ 70)) && (decide ((115 : Int) ≤ 79))) = false from by kernel_rfl) ?_
  show T.den _ _ [(115 : Int), a, b] [false] = _
  refine st_itf (show false = false from by kernel_rfl) ?_
  refine st_lbc (show ((decide ((115 : Int) ≥ 81)) && (decide ((115 : Int) ≤ 90))) = false from by kernel_rfl) ?_
  show T.den _ _ [(115 : Int), a, b] [false, false] = _
  refine st_itf (show false = false from by kernel_rfl) ?_
  refine st_lbc (show ((decide ((115 : Int) ≥ 106)) && (decide ((115 : Int) ≤ 120))) = true from by kernel_rfl) ?_
  show T.den _ _ [(115 : Int), a, b] [false, false, true] = _
  refine st_itt (show true = true from by kernel_rfl) ?_
  refine st_2_0 (e16_40) (g := true) rfl (l := [9, (IntKind.wrap .u64 (IntKind.wrap .u32 a)), (IntKind.wrap .u64 (IntKind.wrap .u32 b)), 32]) rfl (m := []) rfl (cl_t (q18_9_32 (IntKind.wrap .u64 (IntKind.wrap .u32 a)) (IntKind.wrap .u64 (IntKind.wrap .u32 b)) )) fun i3 i4 hi3 hi4 => ?_
  show T.den _ _ [(115 : Int), a, b, i3, i4] [false, false, true] = _
  refine st_ret ?_
  show some ([(IntKind.wrap .u64 (IntKind.wrap .u32 i3)), i4], [true]) = _
  subst hi3 hi4
  rfl

set_option maxHeartbeats 4000000 in
theorem q18_10_32 (a b : Int) (hb : 0 ≤ b) : F40 [(10 : Int), a, b, (32 : Int)] [] = some ([(arI .shl .u64 a (arI .rem .u64 b (32 : Int))), 0], []) := by
  refine Eq.trans (Fd_of (n := 4) (m := 0) (t := t40) (C := Tab.fn a40) rfl rfl) ?_
  rw [t40]
  refine st_itt (show ((32 : Int) == 32) = true from by kernel_rfl) ?_
  refine st_rq (show ((32 : Int) != 0) = true from by kernel_rfl) ?_
  refine st_itf (show ((10 : Int) == 0) = false from by kernel_rfl) ?_
  refine st_itf (show ((10 : Int) == 1) = false from by kernel_rfl) ?_
  refine st_itf (show ((10 : Int) == 2) = false from by kernel_rfl) ?_
  refine st_itf (show ((10 : Int) == 3) = false from by kernel_rfl) ?_
  refine st_itf (show ((10 : Int) == 4) = false from by kernel_rfl) ?_
  refine st_itf (show ((10 : Int) == 5) = false from by kernel_rfl) ?_
  refine st_itf (show ((10 : Int) == 6) = false from by kernel_rfl) ?_
  refine st_itf (show ((10 : Int) == 7) = false from by kernel_rfl) ?_
  refine st_itf (show ((10 : Int) == 8) = false from by kernel_rfl) ?_
  refine st_itf (show ((10 : Int) == 9) = false from by kernel_rfl) ?_
  refine st_itt (show ((10 : Int) == 10) = true from by kernel_rfl) ?_
  refine st_rq (show (decide ((arI .rem .u64 b (32 : Int)) ≥ 0)) = true from ?_) ?_
  · first | exact rem_ge _ _ (by omega) | exact sub_ge _ _ | (subst_vars; exact sub_ge _ _) | (omega)
  refine st_ret ?_
  show some ([(arI .shl .u64 a (arI .rem .u64 b (32 : Int))), 0], []) = _
  rfl

set_option maxHeartbeats 4000000 in
theorem q10_116 (a b : Int) : F16 [(116 : Int), a, b] [] = some ([(IntKind.wrap .u64 (IntKind.wrap .u32 (arI .shl .u64 (IntKind.wrap .u64 (IntKind.wrap .u32 a)) (arI .rem .u64 (IntKind.wrap .u64 (IntKind.wrap .u32 b)) (32 : Int))))), 0], [true]) := by
  refine Eq.trans (Fd_of (n := 3) (m := 0) (t := t16) (C := Tab.fn a16) rfl rfl) ?_
  rw [t16]
  refine st_lbc (show ((decide ((116 : Int) ≥ 70)) && (decide ((116 : Int) ≤ 79))) = false from by kernel_rfl) ?_
  show T.den _ _ [(116 : Int), a, b] [false] = _
  refine st_itf (show false = false from by kernel_rfl) ?_
  refine st_lbc (show ((decide ((116 : Int) ≥ 81)) && (decide ((116 : Int) ≤ 90))) = false from by kernel_rfl) ?_
  show T.den _ _ [(116 : Int), a, b] [false, false] = _
  refine st_itf (show false = false from by kernel_rfl) ?_
  refine st_lbc (show ((decide ((116 : Int) ≥ 106)) && (decide ((116 : Int) ≤ 120))) = true from by kernel_rfl) ?_
  show T.den _ _ [(116 : Int), a, b] [false, false, true] = _
  refine st_itt (show true = true from by kernel_rfl) ?_
  refine st_2_0 (e16_40) (g := true) rfl (l := [10, (IntKind.wrap .u64 (IntKind.wrap .u32 a)), (IntKind.wrap .u64 (IntKind.wrap .u32 b)), 32]) rfl (m := []) rfl (cl_t (q18_10_32 (IntKind.wrap .u64 (IntKind.wrap .u32 a)) (IntKind.wrap .u64 (IntKind.wrap .u32 b)) (u32_ge _))) fun i3 i4 hi3 hi4 => ?_
  show T.den _ _ [(116 : Int), a, b, i3, i4] [false, false, true] = _
  refine st_ret ?_
  show some ([(IntKind.wrap .u64 (IntKind.wrap .u32 i3)), i4], [true]) = _
  subst hi3 hi4
  rfl

set_option maxHeartbeats 4000000 in
theorem q18_11_32 (a b : Int) (hb : 0 ≤ b) : F40 [(11 : Int), a, b, (32 : Int)] [] = some ([(IntKind.wrap .u64 (arI .shr .i64 (IntKind.wrap .i64 (IntKind.wrap .i32 a)) (arI .rem .u64 b (32 : Int)))), 0], []) := by
  refine Eq.trans (Fd_of (n := 4) (m := 0) (t := t40) (C := Tab.fn a40) rfl rfl) ?_
  rw [t40]
  refine st_itt (show ((32 : Int) == 32) = true from by kernel_rfl) ?_
  refine st_rq (show ((32 : Int) != 0) = true from by kernel_rfl) ?_
  refine st_itf (show ((11 : Int) == 0) = false from by kernel_rfl) ?_
  refine st_itf (show ((11 : Int) == 1) = false from by kernel_rfl) ?_
  refine st_itf (show ((11 : Int) == 2) = false from by kernel_rfl) ?_
  refine st_itf (show ((11 : Int) == 3) = false from by kernel_rfl) ?_
  refine st_itf (show ((11 : Int) == 4) = false from by kernel_rfl) ?_
  refine st_itf (show ((11 : Int) == 5) = false from by kernel_rfl) ?_
  refine st_itf (show ((11 : Int) == 6) = false from by kernel_rfl) ?_
  refine st_itf (show ((11 : Int) == 7) = false from by kernel_rfl) ?_
  refine st_itf (show ((11 : Int) == 8) = false from by kernel_rfl) ?_
  refine st_itf (show ((11 : Int) == 9) = false from by kernel_rfl) ?_
  refine st_itf (show ((11 : Int) == 10) = false from by kernel_rfl) ?_
  refine st_itt (show ((11 : Int) == 11) = true from by kernel_rfl) ?_
  refine st_rq (show (decide ((arI .rem .u64 b (32 : Int)) ≥ 0)) = true from ?_) ?_
  · first | exact rem_ge _ _ (by omega) | exact sub_ge _ _ | (subst_vars; exact sub_ge _ _) | (omega)
  refine st_li fun i4 hi4 => ?_
  replace hi4 : i4 = (arI .shr .i64 (IntKind.wrap .i64 (IntKind.wrap .i32 a)) (arI .rem .u64 b (32 : Int))) := hi4
  show T.den _ _ [(11 : Int), a, b, (32 : Int), i4] [] = _
  refine st_ret ?_
  show some ([(IntKind.wrap .u64 i4), 0], []) = _
  subst hi4
  rfl

set_option maxHeartbeats 4000000 in
theorem q10_117 (a b : Int) : F16 [(117 : Int), a, b] [] = some ([(IntKind.wrap .u64 (IntKind.wrap .u32 (IntKind.wrap .u64 (arI .shr .i64 (IntKind.wrap .i64 (IntKind.wrap .i32 (IntKind.wrap .u64 (IntKind.wrap .u32 a)))) (arI .rem .u64 (IntKind.wrap .u64 (IntKind.wrap .u32 b)) (32 : Int)))))), 0], [true]) := by
  refine Eq.trans (Fd_of (n := 3) (m := 0) (t := t16) (C := Tab.fn a16) rfl rfl) ?_
  rw [t16]
  refine st_lbc (show ((decide ((117 : Int) ≥ 70)) && (decide ((117 : Int) ≤ 79))) = false from by kernel_rfl) ?_
  show T.den _ _ [(117 : Int), a, b] [false] = _
  refine st_itf (show false = false from by kernel_rfl) ?_
  refine st_lbc (show ((decide ((117 : Int) ≥ 81)) && (decide ((117 : Int) ≤ 90))) = false from by kernel_rfl) ?_
  show T.den _ _ [(117 : Int), a, b] [false, false] = _
  refine st_itf (show false = false from by kernel_rfl) ?_
  refine st_lbc (show ((decide ((117 : Int) ≥ 106)) && (decide ((117 : Int) ≤ 120))) = true from by kernel_rfl) ?_
  show T.den _ _ [(117 : Int), a, b] [false, false, true] = _
  refine st_itt (show true = true from by kernel_rfl) ?_
  refine st_2_0 (e16_40) (g := true) rfl (l := [11, (IntKind.wrap .u64 (IntKind.wrap .u32 a)), (IntKind.wrap .u64 (IntKind.wrap .u32 b)), 32]) rfl (m := []) rfl (cl_t (q18_11_32 (IntKind.wrap .u64 (IntKind.wrap .u32 a)) (IntKind.wrap .u64 (IntKind.wrap .u32 b)) (u32_ge _))) fun i3 i4 hi3 hi4 => ?_
  show T.den _ _ [(117 : Int), a, b, i3, i4] [false, false, true] = _
  refine st_ret ?_
  show some ([(IntKind.wrap .u64 (IntKind.wrap .u32 i3)), i4], [true]) = _
  subst hi3 hi4
  rfl

set_option maxHeartbeats 4000000 in
theorem q18_12_32 (a b : Int) (hb : 0 ≤ b) : F40 [(12 : Int), a, b, (32 : Int)] [] = some ([(arI .shr .u64 a (arI .rem .u64 b (32 : Int))), 0], []) := by
  refine Eq.trans (Fd_of (n := 4) (m := 0) (t := t40) (C := Tab.fn a40) rfl rfl) ?_
  rw [t40]
  refine st_itt (show ((32 : Int) == 32) = true from by kernel_rfl) ?_
  refine st_rq (show ((32 : Int) != 0) = true from by kernel_rfl) ?_
  refine st_itf (show ((12 : Int) == 0) = false from by kernel_rfl) ?_
  refine st_itf (show ((12 : Int) == 1) = false from by kernel_rfl) ?_
  refine st_itf (show ((12 : Int) == 2) = false from by kernel_rfl) ?_
  refine st_itf (show ((12 : Int) == 3) = false from by kernel_rfl) ?_
  refine st_itf (show ((12 : Int) == 4) = false from by kernel_rfl) ?_
  refine st_itf (show ((12 : Int) == 5) = false from by kernel_rfl) ?_
  refine st_itf (show ((12 : Int) == 6) = false from by kernel_rfl) ?_
  refine st_itf (show ((12 : Int) == 7) = false from by kernel_rfl) ?_
  refine st_itf (show ((12 : Int) == 8) = false from by kernel_rfl) ?_
  refine st_itf (show ((12 : Int) == 9) = false from by kernel_rfl) ?_
  refine st_itf (show ((12 : Int) == 10) = false from by kernel_rfl) ?_
  refine st_itf (show ((12 : Int) == 11) = false from by kernel_rfl) ?_
  refine st_itt (show ((12 : Int) == 12) = true from by kernel_rfl) ?_
  refine st_rq (show (decide ((arI .rem .u64 b (32 : Int)) ≥ 0)) = true from ?_) ?_
  · first | exact rem_ge _ _ (by omega) | exact sub_ge _ _ | (subst_vars; exact sub_ge _ _) | (omega)
  refine st_ret ?_
  show some ([(arI .shr .u64 a (arI .rem .u64 b (32 : Int))), 0], []) = _
  rfl

set_option maxHeartbeats 4000000 in
theorem q10_118 (a b : Int) : F16 [(118 : Int), a, b] [] = some ([(IntKind.wrap .u64 (IntKind.wrap .u32 (arI .shr .u64 (IntKind.wrap .u64 (IntKind.wrap .u32 a)) (arI .rem .u64 (IntKind.wrap .u64 (IntKind.wrap .u32 b)) (32 : Int))))), 0], [true]) := by
  refine Eq.trans (Fd_of (n := 3) (m := 0) (t := t16) (C := Tab.fn a16) rfl rfl) ?_
  rw [t16]
  refine st_lbc (show ((decide ((118 : Int) ≥ 70)) && (decide ((118 : Int) ≤ 79))) = false from by kernel_rfl) ?_
  show T.den _ _ [(118 : Int), a, b] [false] = _
  refine st_itf (show false = false from by kernel_rfl) ?_
  refine st_lbc (show ((decide ((118 : Int) ≥ 81)) && (decide ((118 : Int) ≤ 90))) = false from by kernel_rfl) ?_
  show T.den _ _ [(118 : Int), a, b] [false, false] = _
  refine st_itf (show false = false from by kernel_rfl) ?_
  refine st_lbc (show ((decide ((118 : Int) ≥ 106)) && (decide ((118 : Int) ≤ 120))) = true from by kernel_rfl) ?_
  show T.den _ _ [(118 : Int), a, b] [false, false, true] = _
  refine st_itt (show true = true from by kernel_rfl) ?_
  refine st_2_0 (e16_40) (g := true) rfl (l := [12, (IntKind.wrap .u64 (IntKind.wrap .u32 a)), (IntKind.wrap .u64 (IntKind.wrap .u32 b)), 32]) rfl (m := []) rfl (cl_t (q18_12_32 (IntKind.wrap .u64 (IntKind.wrap .u32 a)) (IntKind.wrap .u64 (IntKind.wrap .u32 b)) (u32_ge _))) fun i3 i4 hi3 hi4 => ?_
  show T.den _ _ [(118 : Int), a, b, i3, i4] [false, false, true] = _
  refine st_ret ?_
  show some ([(IntKind.wrap .u64 (IntKind.wrap .u32 i3)), i4], [true]) = _
  subst hi3 hi4
  rfl

set_option maxHeartbeats 4000000 in
theorem q18_13_32 (a b : Int) (hb : 0 ≤ b) : F40 [(13 : Int), a, b, (32 : Int)] [] = some ([(arI .or .u64 (arI .shl .u64 a (arI .rem .u64 b (32 : Int))) (arI .shr .u64 a (arI .sub .u64 (32 : Int) (arI .rem .u64 b (32 : Int))))), 0], []) := by
  refine Eq.trans (Fd_of (n := 4) (m := 0) (t := t40) (C := Tab.fn a40) rfl rfl) ?_
  rw [t40]
  refine st_itt (show ((32 : Int) == 32) = true from by kernel_rfl) ?_
  refine st_rq (show ((32 : Int) != 0) = true from by kernel_rfl) ?_
  refine st_itf (show ((13 : Int) == 0) = false from by kernel_rfl) ?_
  refine st_itf (show ((13 : Int) == 1) = false from by kernel_rfl) ?_
  refine st_itf (show ((13 : Int) == 2) = false from by kernel_rfl) ?_
  refine st_itf (show ((13 : Int) == 3) = false from by kernel_rfl) ?_
  refine st_itf (show ((13 : Int) == 4) = false from by kernel_rfl) ?_
  refine st_itf (show ((13 : Int) == 5) = false from by kernel_rfl) ?_
  refine st_itf (show ((13 : Int) == 6) = false from by kernel_rfl) ?_
  refine st_itf (show ((13 : Int) == 7) = false from by kernel_rfl) ?_
  refine st_itf (show ((13 : Int) == 8) = false from by kernel_rfl) ?_
  refine st_itf (show ((13 : Int) == 9) = false from by kernel_rfl) ?_
  refine st_itf (show ((13 : Int) == 10) = false from by kernel_rfl) ?_
  refine st_itf (show ((13 : Int) == 11) = false from by kernel_rfl) ?_
  refine st_itf (show ((13 : Int) == 12) = false from by kernel_rfl) ?_
  refine st_itt (show ((13 : Int) == 13) = true from by kernel_rfl) ?_
  refine st_rq (show (decide ((arI .rem .u64 b (32 : Int)) ≥ 0)) = true from ?_) ?_
  · first | exact rem_ge _ _ (by omega) | exact sub_ge _ _ | (subst_vars; exact sub_ge _ _) | (omega)
  refine st_li fun i4 hi4 => ?_
  replace hi4 : i4 = (arI .sub .u64 (32 : Int) (arI .rem .u64 b (32 : Int))) := hi4
  show T.den _ _ [(13 : Int), a, b, (32 : Int), i4] [] = _
  refine st_rq (show (decide (i4 ≥ 0)) = true from ?_) ?_
  · first | exact rem_ge _ _ (by omega) | exact sub_ge _ _ | (subst_vars; exact sub_ge _ _) | (omega)
  refine st_li fun i5 hi5 => ?_
  replace hi5 : i5 = (arI .or .u64 (arI .shl .u64 a (arI .rem .u64 b (32 : Int))) (arI .shr .u64 a i4)) := hi5
  show T.den _ _ [(13 : Int), a, b, (32 : Int), i4, i5] [] = _
  refine st_ret ?_
  show some ([i5, 0], []) = _
  subst hi4 hi5
  rfl

set_option maxHeartbeats 4000000 in
theorem q10_119 (a b : Int) : F16 [(119 : Int), a, b] [] = some ([(IntKind.wrap .u64 (IntKind.wrap .u32 (arI .or .u64 (arI .shl .u64 (IntKind.wrap .u64 (IntKind.wrap .u32 a)) (arI .rem .u64 (IntKind.wrap .u64 (IntKind.wrap .u32 b)) (32 : Int))) (arI .shr .u64 (IntKind.wrap .u64 (IntKind.wrap .u32 a)) (arI .sub .u64 (32 : Int) (arI .rem .u64 (IntKind.wrap .u64 (IntKind.wrap .u32 b)) (32 : Int))))))), 0], [true]) := by
  refine Eq.trans (Fd_of (n := 3) (m := 0) (t := t16) (C := Tab.fn a16) rfl rfl) ?_
  rw [t16]
  refine st_lbc (show ((decide ((119 : Int) ≥ 70)) && (decide ((119 : Int) ≤ 79))) = false from by kernel_rfl) ?_
  show T.den _ _ [(119 : Int), a, b] [false] = _
  refine st_itf (show false = false from by kernel_rfl) ?_
  refine st_lbc (show ((decide ((119 : Int) ≥ 81)) && (decide ((119 : Int) ≤ 90))) = false from by kernel_rfl) ?_
  show T.den _ _ [(119 : Int), a, b] [false, false] = _
  refine st_itf (show false = false from by kernel_rfl) ?_
  refine st_lbc (show ((decide ((119 : Int) ≥ 106)) && (decide ((119 : Int) ≤ 120))) = true from by kernel_rfl) ?_
  show T.den _ _ [(119 : Int), a, b] [false, false, true] = _
  refine st_itt (show true = true from by kernel_rfl) ?_
  refine st_2_0 (e16_40) (g := true) rfl (l := [13, (IntKind.wrap .u64 (IntKind.wrap .u32 a)), (IntKind.wrap .u64 (IntKind.wrap .u32 b)), 32]) rfl (m := []) rfl (cl_t (q18_13_32 (IntKind.wrap .u64 (IntKind.wrap .u32 a)) (IntKind.wrap .u64 (IntKind.wrap .u32 b)) (u32_ge _))) fun i3 i4 hi3 hi4 => ?_
  show T.den _ _ [(119 : Int), a, b, i3, i4] [false, false, true] = _
  refine st_ret ?_
  show some ([(IntKind.wrap .u64 (IntKind.wrap .u32 i3)), i4], [true]) = _
  subst hi3 hi4
  rfl

set_option maxHeartbeats 4000000 in
theorem q18_14_32 (a b : Int) (hb : 0 ≤ b) : F40 [(14 : Int), a, b, (32 : Int)] [] = some ([(arI .or .u64 (arI .shr .u64 a (arI .rem .u64 b (32 : Int))) (arI .shl .u64 a (arI .sub .u64 (32 : Int) (arI .rem .u64 b (32 : Int))))), 0], []) := by
  refine Eq.trans (Fd_of (n := 4) (m := 0) (t := t40) (C := Tab.fn a40) rfl rfl) ?_
  rw [t40]
  refine st_itt (show ((32 : Int) == 32) = true from by kernel_rfl) ?_
  refine st_rq (show ((32 : Int) != 0) = true from by kernel_rfl) ?_
  refine st_itf (show ((14 : Int) == 0) = false from by kernel_rfl) ?_
  refine st_itf (show ((14 : Int) == 1) = false from by kernel_rfl) ?_
  refine st_itf (show ((14 : Int) == 2) = false from by kernel_rfl) ?_
  refine st_itf (show ((14 : Int) == 3) = false from by kernel_rfl) ?_
  refine st_itf (show ((14 : Int) == 4) = false from by kernel_rfl) ?_
  refine st_itf (show ((14 : Int) == 5) = false from by kernel_rfl) ?_
  refine st_itf (show ((14 : Int) == 6) = false from by kernel_rfl) ?_
  refine st_itf (show ((14 : Int) == 7) = false from by kernel_rfl) ?_
  refine st_itf (show ((14 : Int) == 8) = false from by kernel_rfl) ?_
  refine st_itf (show ((14 : Int) == 9) = false from by kernel_rfl) ?_
  refine st_itf (show ((14 : Int) == 10) = false from by kernel_rfl) ?_
  refine st_itf (show ((14 : Int) == 11) = false from by kernel_rfl) ?_
  refine st_itf (show ((14 : Int) == 12) = false from by kernel_rfl) ?_
  refine st_itf (show ((14 : Int) == 13) = false from by kernel_rfl) ?_
  refine st_rq (show (decide ((arI .rem .u64 b (32 : Int)) ≥ 0)) = true from ?_) ?_
  · first | exact rem_ge _ _ (by omega) | exact sub_ge _ _ | (subst_vars; exact sub_ge _ _) | (omega)
  refine st_li fun i4 hi4 => ?_
  replace hi4 : i4 = (arI .sub .u64 (32 : Int) (arI .rem .u64 b (32 : Int))) := hi4
  show T.den _ _ [(14 : Int), a, b, (32 : Int), i4] [] = _
  refine st_rq (show (decide (i4 ≥ 0)) = true from ?_) ?_
  · first | exact rem_ge _ _ (by omega) | exact sub_ge _ _ | (subst_vars; exact sub_ge _ _) | (omega)
  refine st_li fun i5 hi5 => ?_
  replace hi5 : i5 = (arI .or .u64 (arI .shr .u64 a (arI .rem .u64 b (32 : Int))) (arI .shl .u64 a i4)) := hi5
  show T.den _ _ [(14 : Int), a, b, (32 : Int), i4, i5] [] = _
  refine st_ret ?_
  show some ([i5, 0], []) = _
  subst hi4 hi5
  rfl

set_option maxHeartbeats 4000000 in
theorem q10_120 (a b : Int) : F16 [(120 : Int), a, b] [] = some ([(IntKind.wrap .u64 (IntKind.wrap .u32 (arI .or .u64 (arI .shr .u64 (IntKind.wrap .u64 (IntKind.wrap .u32 a)) (arI .rem .u64 (IntKind.wrap .u64 (IntKind.wrap .u32 b)) (32 : Int))) (arI .shl .u64 (IntKind.wrap .u64 (IntKind.wrap .u32 a)) (arI .sub .u64 (32 : Int) (arI .rem .u64 (IntKind.wrap .u64 (IntKind.wrap .u32 b)) (32 : Int))))))), 0], [true]) := by
  refine Eq.trans (Fd_of (n := 3) (m := 0) (t := t16) (C := Tab.fn a16) rfl rfl) ?_
  rw [t16]
  refine st_lbc (show ((decide ((120 : Int) ≥ 70)) && (decide ((120 : Int) ≤ 79))) = false from by kernel_rfl) ?_
  show T.den _ _ [(120 : Int), a, b] [false] = _
  refine st_itf (show false = false from by kernel_rfl) ?_
  refine st_lbc (show ((decide ((120 : Int) ≥ 81)) && (decide ((120 : Int) ≤ 90))) = false from by kernel_rfl) ?_
  show T.den _ _ [(120 : Int), a, b] [false, false] = _
  refine st_itf (show false = false from by kernel_rfl) ?_
  refine st_lbc (show ((decide ((120 : Int) ≥ 106)) && (decide ((120 : Int) ≤ 120))) = true from by kernel_rfl) ?_
  show T.den _ _ [(120 : Int), a, b] [false, false, true] = _
  refine st_itt (show true = true from by kernel_rfl) ?_
  refine st_2_0 (e16_40) (g := true) rfl (l := [14, (IntKind.wrap .u64 (IntKind.wrap .u32 a)), (IntKind.wrap .u64 (IntKind.wrap .u32 b)), 32]) rfl (m := []) rfl (cl_t (q18_14_32 (IntKind.wrap .u64 (IntKind.wrap .u32 a)) (IntKind.wrap .u64 (IntKind.wrap .u32 b)) (u32_ge _))) fun i3 i4 hi3 hi4 => ?_
  show T.den _ _ [(120 : Int), a, b, i3, i4] [false, false, true] = _
  refine st_ret ?_
  show some ([(IntKind.wrap .u64 (IntKind.wrap .u32 i3)), i4], [true]) = _
  subst hi3 hi4
  rfl

set_option maxHeartbeats 4000000 in
theorem q10_81 (a b : Int) : F16 [(81 : Int), a, b] [] = some ([(bif (a == b) then 1 else 0), 0], [true]) := by
  refine Eq.trans (Fd_of (n := 3) (m := 0) (t := t16) (C := Tab.fn a16) rfl rfl) ?_
  rw [t16]
  refine st_lbc (show ((decide ((81 : Int) ≥ 70)) && (decide ((81 : Int) ≤ 79))) = false from by kernel_rfl) ?_
  show T.den _ _ [(81 : Int), a, b] [false] = _
  refine st_itf (show false = false from by kernel_rfl) ?_
  refine st_lbc (show ((decide ((81 : Int) ≥ 81)) && (decide ((81 : Int) ≤ 90))) = true from by kernel_rfl) ?_
  show T.den _ _ [(81 : Int), a, b] [false, true] = _
  refine st_itt (show true = true from by kernel_rfl) ?_
  refine st_0_1 (e16_39) (g := true) rfl (l := [0, a, b, (IntKind.wrap .i64 a), (IntKind.wrap .i64 b)]) rfl (m := []) rfl (cl_t (q17_0 a b (IntKind.wrap .i64 a) (IntKind.wrap .i64 b))) fun b2 hb2 => ?_
  show T.den _ _ [(81 : Int), a, b] [false, true, b2] = _
  refine st_1_0 (e16_38) (g := true) rfl (l := []) rfl (m := [b2]) rfl (cl_t (q16 b2)) fun i3 hi3 => ?_
  show T.den _ _ [(81 : Int), a, b, i3] [false, true, b2] = _
  refine st_ret ?_
  show some ([i3, 0], [true]) = _
  subst hb2 hi3
  rfl

set_option maxHeartbeats 4000000 in
theorem q10_82 (a b : Int) : F16 [(82 : Int), a, b] [] = some ([(bif (a != b) then 1 else 0), 0], [true]) := by
  refine Eq.trans (Fd_of (n := 3) (m := 0) (t := t16) (C := Tab.fn a16) rfl rfl) ?_
  rw [t16]
  refine st_lbc (show ((decide ((82 : Int) ≥ 70)) && (decide ((82 : Int) ≤ 79))) = false from by kernel_rfl) ?_
  show T.den _ _ [(82 : Int), a, b] [false] = _
  refine st_itf (show false = false from by kernel_rfl) ?_
  refine st_lbc (show ((decide ((82 : Int) ≥ 81)) && (decide ((82 : Int) ≤ 90))) = true from by kernel_rfl) ?_
  show T.den _ _ [(82 : Int), a, b] [false, true] = _
  refine st_itt (show true = true from by kernel_rfl) ?_
  refine st_0_1 (e16_39) (g := true) rfl (l := [1, a, b, (IntKind.wrap .i64 a), (IntKind.wrap .i64 b)]) rfl (m := []) rfl (cl_t (q17_1 a b (IntKind.wrap .i64 a) (IntKind.wrap .i64 b))) fun b2 hb2 => ?_
  show T.den _ _ [(82 : Int), a, b] [false, true, b2] = _
  refine st_1_0 (e16_38) (g := true) rfl (l := []) rfl (m := [b2]) rfl (cl_t (q16 b2)) fun i3 hi3 => ?_
  show T.den _ _ [(82 : Int), a, b, i3] [false, true, b2] = _
  refine st_ret ?_
  show some ([i3, 0], [true]) = _
  subst hb2 hi3
  rfl

set_option maxHeartbeats 4000000 in
theorem q10_83 (a b : Int) : F16 [(83 : Int), a, b] [] = some ([(bif (decide ((IntKind.wrap .i64 a) < (IntKind.wrap .i64 b))) then 1 else 0), 0], [true]) := by
  refine Eq.trans (Fd_of (n := 3) (m := 0) (t := t16) (C := Tab.fn a16) rfl rfl) ?_
  rw [t16]
  refine st_lbc (show ((decide ((83 : Int) ≥ 70)) && (decide ((83 : Int) ≤ 79))) = false from by kernel_rfl) ?_
  show T.den _ _ [(83 : Int), a, b] [false] = _
  refine st_itf (show false = false from by kernel_rfl) ?_
  refine st_lbc (show ((decide ((83 : Int) ≥ 81)) && (decide ((83 : Int) ≤ 90))) = true from by kernel_rfl) ?_
  show T.den _ _ [(83 : Int), a, b] [false, true] = _
  refine st_itt (show true = true from by kernel_rfl) ?_
  refine st_0_1 (e16_39) (g := true) rfl (l := [2, a, b, (IntKind.wrap .i64 a), (IntKind.wrap .i64 b)]) rfl (m := []) rfl (cl_t (q17_2 a b (IntKind.wrap .i64 a) (IntKind.wrap .i64 b))) fun b2 hb2 => ?_
  show T.den _ _ [(83 : Int), a, b] [false, true, b2] = _
  refine st_1_0 (e16_38) (g := true) rfl (l := []) rfl (m := [b2]) rfl (cl_t (q16 b2)) fun i3 hi3 => ?_
  show T.den _ _ [(83 : Int), a, b, i3] [false, true, b2] = _
  refine st_ret ?_
  show some ([i3, 0], [true]) = _
  subst hb2 hi3
  rfl

set_option maxHeartbeats 4000000 in
theorem q10_84 (a b : Int) : F16 [(84 : Int), a, b] [] = some ([(bif (decide (a < b)) then 1 else 0), 0], [true]) := by
  refine Eq.trans (Fd_of (n := 3) (m := 0) (t := t16) (C := Tab.fn a16) rfl rfl) ?_
  rw [t16]
  refine st_lbc (show ((decide ((84 : Int) ≥ 70)) && (decide ((84 : Int) ≤ 79))) = false from by kernel_rfl) ?_
  show T.den _ _ [(84 : Int), a, b] [false] = _
  refine st_itf (show false = false from by kernel_rfl) ?_
  refine st_lbc (show ((decide ((84 : Int) ≥ 81)) && (decide ((84 : Int) ≤ 90))) = true from by kernel_rfl) ?_
  show T.den _ _ [(84 : Int), a, b] [false, true] = _
  refine st_itt (show true = true from by kernel_rfl) ?_
  refine st_0_1 (e16_39) (g := true) rfl (l := [3, a, b, (IntKind.wrap .i64 a), (IntKind.wrap .i64 b)]) rfl (m := []) rfl (cl_t (q17_3 a b (IntKind.wrap .i64 a) (IntKind.wrap .i64 b))) fun b2 hb2 => ?_
  show T.den _ _ [(84 : Int), a, b] [false, true, b2] = _
  refine st_1_0 (e16_38) (g := true) rfl (l := []) rfl (m := [b2]) rfl (cl_t (q16 b2)) fun i3 hi3 => ?_
  show T.den _ _ [(84 : Int), a, b, i3] [false, true, b2] = _
  refine st_ret ?_
  show some ([i3, 0], [true]) = _
  subst hb2 hi3
  rfl

set_option maxHeartbeats 4000000 in
theorem q10_85 (a b : Int) : F16 [(85 : Int), a, b] [] = some ([(bif (decide ((IntKind.wrap .i64 a) > (IntKind.wrap .i64 b))) then 1 else 0), 0], [true]) := by
  refine Eq.trans (Fd_of (n := 3) (m := 0) (t := t16) (C := Tab.fn a16) rfl rfl) ?_
  rw [t16]
  refine st_lbc (show ((decide ((85 : Int) ≥ 70)) && (decide ((85 : Int) ≤ 79))) = false from by kernel_rfl) ?_
  show T.den _ _ [(85 : Int), a, b] [false] = _
  refine st_itf (show false = false from by kernel_rfl) ?_
  refine st_lbc (show ((decide ((85 : Int) ≥ 81)) && (decide ((85 : Int) ≤ 90))) = true from by kernel_rfl) ?_
  show T.den _ _ [(85 : Int), a, b] [false, true] = _
  refine st_itt (show true = true from by kernel_rfl) ?_
  refine st_0_1 (e16_39) (g := true) rfl (l := [4, a, b, (IntKind.wrap .i64 a), (IntKind.wrap .i64 b)]) rfl (m := []) rfl (cl_t (q17_4 a b (IntKind.wrap .i64 a) (IntKind.wrap .i64 b))) fun b2 hb2 => ?_
  show T.den _ _ [(85 : Int), a, b] [false, true, b2] = _
  refine st_1_0 (e16_38) (g := true) rfl (l := []) rfl (m := [b2]) rfl (cl_t (q16 b2)) fun i3 hi3 => ?_
  show T.den _ _ [(85 : Int), a, b, i3] [false, true, b2] = _
  refine st_ret ?_
  show some ([i3, 0], [true]) = _
  subst hb2 hi3
  rfl

set_option maxHeartbeats 4000000 in
theorem q10_86 (a b : Int) : F16 [(86 : Int), a, b] [] = some ([(bif (decide (a > b)) then 1 else 0), 0], [true]) := by
  refine Eq.trans (Fd_of (n := 3) (m := 0) (t := t16) (C := Tab.fn a16) rfl rfl) ?_
  rw [t16]
  refine st_lbc (show ((decide ((86 : Int) ≥ 70)) && (decide ((86 : Int) ≤ 79))) = false from by kernel_rfl) ?_
  show T.den _ _ [(86 : Int), a, b] [false] = _
  refine st_itf (show false = false from by kernel_rfl) ?_
  refine st_lbc (show ((decide ((86 : Int) ≥ 81)) && (decide ((86 : Int) ≤ 90))) = true from by kernel_rfl) ?_
  show T.den _ _ [(86 : Int), a, b] [false, true] = _
  refine st_itt (show true = true from by kernel_rfl) ?_
  refine st_0_1 (e16_39) (g := true) rfl (l := [5, a, b, (IntKind.wrap .i64 a), (IntKind.wrap .i64 b)]) rfl (m := []) rfl (cl_t (q17_5 a b (IntKind.wrap .i64 a) (IntKind.wrap .i64 b))) fun b2 hb2 => ?_
  show T.den _ _ [(86 : Int), a, b] [false, true, b2] = _
  refine st_1_0 (e16_38) (g := true) rfl (l := []) rfl (m := [b2]) rfl (cl_t (q16 b2)) fun i3 hi3 => ?_
  show T.den _ _ [(86 : Int), a, b, i3] [false, true, b2] = _
  refine st_ret ?_
  show some ([i3, 0], [true]) = _
  subst hb2 hi3
  rfl

set_option maxHeartbeats 4000000 in
theorem q10_87 (a b : Int) : F16 [(87 : Int), a, b] [] = some ([(bif (decide ((IntKind.wrap .i64 a) ≤ (IntKind.wrap .i64 b))) then 1 else 0), 0], [true]) := by
  refine Eq.trans (Fd_of (n := 3) (m := 0) (t := t16) (C := Tab.fn a16) rfl rfl) ?_
  rw [t16]
  refine st_lbc (show ((decide ((87 : Int) ≥ 70)) && (decide ((87 : Int) ≤ 79))) = false from by kernel_rfl) ?_
  show T.den _ _ [(87 : Int), a, b] [false] = _
  refine st_itf (show false = false from by kernel_rfl) ?_
  refine st_lbc (show ((decide ((87 : Int) ≥ 81)) && (decide ((87 : Int) ≤ 90))) = true from by kernel_rfl) ?_
  show T.den _ _ [(87 : Int), a, b] [false, true] = _
  refine st_itt (show true = true from by kernel_rfl) ?_
  refine st_0_1 (e16_39) (g := true) rfl (l := [6, a, b, (IntKind.wrap .i64 a), (IntKind.wrap .i64 b)]) rfl (m := []) rfl (cl_t (q17_6 a b (IntKind.wrap .i64 a) (IntKind.wrap .i64 b))) fun b2 hb2 => ?_
  show T.den _ _ [(87 : Int), a, b] [false, true, b2] = _
  refine st_1_0 (e16_38) (g := true) rfl (l := []) rfl (m := [b2]) rfl (cl_t (q16 b2)) fun i3 hi3 => ?_
  show T.den _ _ [(87 : Int), a, b, i3] [false, true, b2] = _
  refine st_ret ?_
  show some ([i3, 0], [true]) = _
  subst hb2 hi3
  rfl

set_option maxHeartbeats 4000000 in
theorem q10_88 (a b : Int) : F16 [(88 : Int), a, b] [] = some ([(bif (decide (a ≤ b)) then 1 else 0), 0], [true]) := by
  refine Eq.trans (Fd_of (n := 3) (m := 0) (t := t16) (C := Tab.fn a16) rfl rfl) ?_
  rw [t16]
  refine st_lbc (show ((decide ((88 : Int) ≥ 70)) && (decide ((88 : Int) ≤ 79))) = false from by kernel_rfl) ?_
  show T.den _ _ [(88 : Int), a, b] [false] = _
  refine st_itf (show false = false from by kernel_rfl) ?_
  refine st_lbc (show ((decide ((88 : Int) ≥ 81)) && (decide ((88 : Int) ≤ 90))) = true from by kernel_rfl) ?_
  show T.den _ _ [(88 : Int), a, b] [false, true] = _
  refine st_itt (show true = true from by kernel_rfl) ?_
  refine st_0_1 (e16_39) (g := true) rfl (l := [7, a, b, (IntKind.wrap .i64 a), (IntKind.wrap .i64 b)]) rfl (m := []) rfl (cl_t (q17_7 a b (IntKind.wrap .i64 a) (IntKind.wrap .i64 b))) fun b2 hb2 => ?_
  show T.den _ _ [(88 : Int), a, b] [false, true, b2] = _
  refine st_1_0 (e16_38) (g := true) rfl (l := []) rfl (m := [b2]) rfl (cl_t (q16 b2)) fun i3 hi3 => ?_
  show T.den _ _ [(88 : Int), a, b, i3] [false, true, b2] = _
  refine st_ret ?_
  show some ([i3, 0], [true]) = _
  subst hb2 hi3
  rfl

set_option maxHeartbeats 4000000 in
theorem q10_89 (a b : Int) : F16 [(89 : Int), a, b] [] = some ([(bif (decide ((IntKind.wrap .i64 a) ≥ (IntKind.wrap .i64 b))) then 1 else 0), 0], [true]) := by
  refine Eq.trans (Fd_of (n := 3) (m := 0) (t := t16) (C := Tab.fn a16) rfl rfl) ?_
  rw [t16]
  refine st_lbc (show ((decide ((89 : Int) ≥ 70)) && (decide ((89 : Int) ≤ 79))) = false from by kernel_rfl) ?_
  show T.den _ _ [(89 : Int), a, b] [false] = _
  refine st_itf (show false = false from by kernel_rfl) ?_
  refine st_lbc (show ((decide ((89 : Int) ≥ 81)) && (decide ((89 : Int) ≤ 90))) = true from by kernel_rfl) ?_
  show T.den _ _ [(89 : Int), a, b] [false, true] = _
  refine st_itt (show true = true from by kernel_rfl) ?_
  refine st_0_1 (e16_39) (g := true) rfl (l := [8, a, b, (IntKind.wrap .i64 a), (IntKind.wrap .i64 b)]) rfl (m := []) rfl (cl_t (q17_8 a b (IntKind.wrap .i64 a) (IntKind.wrap .i64 b))) fun b2 hb2 => ?_
  show T.den _ _ [(89 : Int), a, b] [false, true, b2] = _
  refine st_1_0 (e16_38) (g := true) rfl (l := []) rfl (m := [b2]) rfl (cl_t (q16 b2)) fun i3 hi3 => ?_
  show T.den _ _ [(89 : Int), a, b, i3] [false, true, b2] = _
  refine st_ret ?_
  show some ([i3, 0], [true]) = _
  subst hb2 hi3
  rfl

set_option maxHeartbeats 4000000 in
theorem q10_90 (a b : Int) : F16 [(90 : Int), a, b] [] = some ([(bif (decide (a ≥ b)) then 1 else 0), 0], [true]) := by
  refine Eq.trans (Fd_of (n := 3) (m := 0) (t := t16) (C := Tab.fn a16) rfl rfl) ?_
  rw [t16]
  refine st_lbc (show ((decide ((90 : Int) ≥ 70)) && (decide ((90 : Int) ≤ 79))) = false from by kernel_rfl) ?_
  show T.den _ _ [(90 : Int), a, b] [false] = _
  refine st_itf (show false = false from by kernel_rfl) ?_
  refine st_lbc (show ((decide ((90 : Int) ≥ 81)) && (decide ((90 : Int) ≤ 90))) = true from by kernel_rfl) ?_
  show T.den _ _ [(90 : Int), a, b] [false, true] = _
  refine st_itt (show true = true from by kernel_rfl) ?_
  refine st_0_1 (e16_39) (g := true) rfl (l := [9, a, b, (IntKind.wrap .i64 a), (IntKind.wrap .i64 b)]) rfl (m := []) rfl (cl_t (q17_9 a b (IntKind.wrap .i64 a) (IntKind.wrap .i64 b))) fun b2 hb2 => ?_
  show T.den _ _ [(90 : Int), a, b] [false, true, b2] = _
  refine st_1_0 (e16_38) (g := true) rfl (l := []) rfl (m := [b2]) rfl (cl_t (q16 b2)) fun i3 hi3 => ?_
  show T.den _ _ [(90 : Int), a, b, i3] [false, true, b2] = _
  refine st_ret ?_
  show some ([i3, 0], [true]) = _
  subst hb2 hi3
  rfl

set_option maxHeartbeats 4000000 in
theorem q18_0_64 (a b : Int) : F40 [(0 : Int), a, b, (64 : Int)] [] = some ([(arI .add .u64 a b), 0], []) := by
  refine Eq.trans (Fd_of (n := 4) (m := 0) (t := t40) (C := Tab.fn a40) rfl rfl) ?_
  rw [t40]
  refine st_itf (show ((64 : Int) == 32) = false from by kernel_rfl) ?_
  refine st_rq (show ((64 : Int) != 0) = true from by kernel_rfl) ?_
  refine st_itt (show ((0 : Int) == 0) = true from by kernel_rfl) ?_
  refine st_ret ?_
  show some ([(arI .add .u64 a b), 0], []) = _
  rfl

set_option maxHeartbeats 4000000 in
theorem q10_124 (a b : Int) : F16 [(124 : Int), a, b] [] = some ([(arI .add .u64 a b), 0], [true]) := by
  refine Eq.trans (Fd_of (n := 3) (m := 0) (t := t16) (C := Tab.fn a16) rfl rfl) ?_
  rw [t16]
  refine st_lbc (show ((decide ((124 : Int) ≥ 70)) && (decide ((124 : Int) ≤ 79))) = false from by kernel_rfl) ?_
  show T.den _ _ [(124 : Int), a, b] [false] = _
  refine st_itf (show false = false from by kernel_rfl) ?_
  refine st_lbc (show ((decide ((124 : Int) ≥ 81)) && (decide ((124 : Int) ≤ 90))) = false from by kernel_rfl) ?_
  show T.den _ _ [(124 : Int), a, b] [false, false] = _
  refine st_itf (show false = false from by kernel_rfl) ?_
  refine st_lbc (show ((decide ((124 : Int) ≥ 106)) && (decide ((124 : Int) ≤ 120))) = false from by kernel_rfl) ?_
  show T.den _ _ [(124 : Int), a, b] [false, false, false] = _
  refine st_itf (show false = false from by kernel_rfl) ?_
  refine st_lbc (show ((decide ((124 : Int) ≥ 124)) && (decide ((124 : Int) ≤ 138))) = true from by kernel_rfl) ?_
  show T.den _ _ [(124 : Int), a, b] [false, false, false, true] = _
  refine st_itt (show true = true from by kernel_rfl) ?_
  refine st_2_0 (e16_40) (g := true) rfl (l := [0, a, b, 64]) rfl (m := []) rfl (cl_t (q18_0_64 a b )) fun i3 i4 hi3 hi4 => ?_
  show T.den _ _ [(124 : Int), a, b, i3, i4] [false, false, false, true] = _
  refine st_ret ?_
  show some ([i3, i4], [true]) = _
  subst hi3 hi4
  rfl

set_option maxHeartbeats 4000000 in
theorem q18_1_64 (a b : Int) : F40 [(1 : Int), a, b, (64 : Int)] [] = some ([(arI .sub .u64 a b), 0], []) := by
  refine Eq.trans (Fd_of (n := 4) (m := 0) (t := t40) (C := Tab.fn a40) rfl rfl) ?_
  rw [t40]
  refine st_itf (show ((64 : Int) == 32) = false from by kernel_rfl) ?_
  refine st_rq (show ((64 : Int) != 0) = true from by kernel_rfl) ?_
  refine st_itf (show ((1 : Int) == 0) = false from by kernel_rfl) ?_
  refine st_itt (show ((1 : Int) == 1) = true from by kernel_rfl) ?_
  refine st_ret ?_
  show some ([(arI .sub .u64 a b), 0], []) = _
  rfl

set_option maxHeartbeats 4000000 in
theorem q10_125 (a b : Int) : F16 [(125 : Int), a, b] [] = some ([(arI .sub .u64 a b), 0], [true]) := by
  refine Eq.trans (Fd_of (n := 3) (m := 0) (t := t16) (C := Tab.fn a16) rfl rfl) ?_
  rw [t16]
  refine st_lbc (show ((decide ((125 : Int) ≥ 70)) && (decide ((125 : Int) ≤ 79))) = false from by kernel_rfl) ?_
  show T.den _ _ [(125 : Int), a, b] [false] = _
  refine st_itf (show false = false from by kernel_rfl) ?_
  refine st_lbc (show ((decide ((125 : Int) ≥ 81)) && (decide ((125 : Int) ≤ 90))) = false from by kernel_rfl) ?_
  show T.den _ _ [(125 : Int), a, b] [false, false] = _
  refine st_itf (show false = false from by kernel_rfl) ?_
  refine st_lbc (show ((decide ((125 : Int) ≥ 106)) && (decide ((125 : Int) ≤ 120))) = false from by kernel_rfl) ?_
  show T.den _ _ [(125 : Int), a, b] [false, false, false] = _
  refine st_itf (show false = false from by kernel_rfl) ?_
  refine st_lbc (show ((decide ((125 : Int) ≥ 124)) && (decide ((125 : Int) ≤ 138))) = true from by kernel_rfl) ?_
  show T.den _ _ [(125 : Int), a, b] [false, false, false, true] = _
  refine st_itt (show true = true from by kernel_rfl) ?_
  refine st_2_0 (e16_40) (g := true) rfl (l := [1, a, b, 64]) rfl (m := []) rfl (cl_t (q18_1_64 a b )) fun i3 i4 hi3 hi4 => ?_
  show T.den _ _ [(125 : Int), a, b, i3, i4] [false, false, false, true] = _
  refine st_ret ?_
  show some ([i3, i4], [true]) = _
  subst hi3 hi4
  rfl

set_option maxHeartbeats 4000000 in
theorem q18_2_64 (a b : Int) : F40 [(2 : Int), a, b, (64 : Int)] [] = some ([(arI .mul .u64 a b), 0], []) := by
  refine Eq.trans (Fd_of (n := 4) (m := 0) (t := t40) (C := Tab.fn a40) rfl rfl) ?_
  rw [t40]
  refine st_itf (show ((64 : Int) == 32) = false from by kernel_rfl) ?_
  refine st_rq (show ((64 : Int) != 0) = true from by kernel_rfl) ?_
  refine st_itf (show ((2 : Int) == 0) = false from by kernel_rfl) ?_
  refine st_itf (show ((2 : Int) == 1) = false from by kernel_rfl) ?_
  refine st_itt (show ((2 : Int) == 2) = true from by kernel_rfl) ?_
  refine st_ret ?_
  show some ([(arI .mul .u64 a b), 0], []) = _
  rfl

set_option maxHeartbeats 4000000 in
theorem q10_126 (a b : Int) : F16 [(126 : Int), a, b] [] = some ([(arI .mul .u64 a b), 0], [true]) := by
  refine Eq.trans (Fd_of (n := 3) (m := 0) (t := t16) (C := Tab.fn a16) rfl rfl) ?_
  rw [t16]
  refine st_lbc (show ((decide ((126 : Int) ≥ 70)) && (decide ((126 : Int) ≤ 79))) = false from by kernel_rfl) ?_
  show T.den _ _ [(126 : Int), a, b] [false] = _
  refine st_itf (show false = false from by kernel_rfl) ?_
  refine st_lbc (show ((decide ((126 : Int) ≥ 81)) && (decide ((126 : Int) ≤ 90))) = false from by kernel_rfl) ?_
  show T.den _ _ [(126 : Int), a, b] [false, false] = _
  refine st_itf (show false = false from by kernel_rfl) ?_
  refine st_lbc (show ((decide ((126 : Int) ≥ 106)) && (decide ((126 : Int) ≤ 120))) = false from by kernel_rfl) ?_
  show T.den _ _ [(126 : Int), a, b] [false, false, false] = _
  refine st_itf (show false = false from by kernel_rfl) ?_
  refine st_lbc (show ((decide ((126 : Int) ≥ 124)) && (decide ((126 : Int) ≤ 138))) = true from by kernel_rfl) ?_
  show T.den _ _ [(126 : Int), a, b] [false, false, false, true] = _
  refine st_itt (show true = true from by kernel_rfl) ?_
  refine st_2_0 (e16_40) (g := true) rfl (l := [2, a, b, 64]) rfl (m := []) rfl (cl_t (q18_2_64 a b )) fun i3 i4 hi3 hi4 => ?_
  show T.den _ _ [(126 : Int), a, b, i3, i4] [false, false, false, true] = _
  refine st_ret ?_
  show some ([i3, i4], [true]) = _
  subst hi3 hi4
  rfl

set_option maxHeartbeats 4000000 in
theorem q18_3_64 (a b : Int) (hb : 0 ≤ b) (hb2 : b < 18446744073709551616) : F40 [(3 : Int), a, b, (64 : Int)] [] = some ([(dq b (IntKind.wrap .i64 a) (IntKind.wrap .i64 b) (-9223372036854775808)), (dt b (IntKind.wrap .i64 a) (IntKind.wrap .i64 b) (-9223372036854775808))], []) := by
  refine Eq.trans (Fd_of (n := 4) (m := 0) (t := t40) (C := Tab.fn a40) rfl rfl) ?_
  rw [t40]
  refine st_itf (show ((64 : Int) == 32) = false from by kernel_rfl) ?_
  refine st_rq (show ((64 : Int) != 0) = true from by kernel_rfl) ?_
  refine st_itf (show ((3 : Int) == 0) = false from by kernel_rfl) ?_
  refine st_itf (show ((3 : Int) == 1) = false from by kernel_rfl) ?_
  refine st_itf (show ((3 : Int) == 2) = false from by kernel_rfl) ?_
  refine st_itt (show ((3 : Int) == 3) = true from by kernel_rfl) ?_
  refine st_itt (show ((3 : Int) == 3) = true from by kernel_rfl) ?_
  refine st_2_0 (e40_64) (g := true) rfl (l := [0, a, b, (IntKind.wrap .i64 a), (IntKind.wrap .i64 b), (-9223372036854775808)]) rfl (m := []) rfl (cl_t (q36_0 (a) (b) ((IntKind.wrap .i64 a)) ((IntKind.wrap .i64 b)) ((-9223372036854775808)) (i64_ne b hb hb2))) fun i4 i5 hi4 hi5 => ?_
  show T.den _ _ [(3 : Int), a, b, (64 : Int), i4, i5] [] = _
  refine st_ret ?_
  show some ([i4, i5], []) = _
  subst hi4 hi5
  rfl

set_option maxHeartbeats 4000000 in
theorem q10_127 (a b : Int) (hb : 0 ≤ b) (hb2 : b < 18446744073709551616) : F16 [(127 : Int), a, b] [] = some ([(dq b (IntKind.wrap .i64 a) (IntKind.wrap .i64 b) (-9223372036854775808)), (dt b (IntKind.wrap .i64 a) (IntKind.wrap .i64 b) (-9223372036854775808))], [true]) := by
  refine Eq.trans (Fd_of (n := 3) (m := 0) (t := t16) (C := Tab.fn a16) rfl rfl) ?_
  rw [t16]
  refine st_lbc (show ((decide ((127 : Int) ≥ 70)) && (decide ((127 : Int) ≤ 79))) = false from by kernel_rfl) ?_
  show T.den _ _ [(127 : Int), a, b] [false] = _
  refine st_itf (show false = false from by kernel_rfl) ?_
  refine st_lbc (show ((decide ((127 : Int) ≥ 81)) && (decide ((127 : Int) ≤ 90))) = false from by kernel_rfl) ?_
  show T.den _ _ [(127 : Int), a, b] [false, false] = _
  refine st_itf (show false = false from by kernel_rfl) ?_
  refine st_lbc (show ((decide ((127 : Int) ≥ 106)) && (decide ((127 : Int) ≤ 120))) = false from by kernel_rfl) ?_
  show T.den _ _ [(127 : Int), a, b] [false, false, false] = _
  refine st_itf (show false = false from by kernel_rfl) ?_
  refine st_lbc (show ((decide ((127 : Int) ≥ 124)) && (decide ((127 : Int) ≤ 138))) = true from by kernel_rfl) ?_
  show T.den _ _ [(127 : Int), a, b] [false, false, false, true] = _
  refine st_itt (show true = true from by kernel_rfl) ?_
  refine st_2_0 (e16_40) (g := true) rfl (l := [3, a, b, 64]) rfl (m := []) rfl (cl_t (q18_3_64 a b hb hb2)) fun i3 i4 hi3 hi4 => ?_
  show T.den _ _ [(127 : Int), a, b, i3, i4] [false, false, false, true] = _
  refine st_ret ?_
  show some ([i3, i4], [true]) = _
  subst hi3 hi4
  rfl

set_option maxHeartbeats 4000000 in
theorem q18_4_64 (a b : Int) (hb : 0 ≤ b) (hb2 : b < 18446744073709551616) : F40 [(4 : Int), a, b, (64 : Int)] [] = some ([(uq a b), (dz b)], []) := by
  refine Eq.trans (Fd_of (n := 4) (m := 0) (t := t40) (C := Tab.fn a40) rfl rfl) ?_
  rw [t40]
  refine st_itf (show ((64 : Int) == 32) = false from by kernel_rfl) ?_
  refine st_rq (show ((64 : Int) != 0) = true from by kernel_rfl) ?_
  refine st_itf (show ((4 : Int) == 0) = false from by kernel_rfl) ?_
  refine st_itf (show ((4 : Int) == 1) = false from by kernel_rfl) ?_
  refine st_itf (show ((4 : Int) == 2) = false from by kernel_rfl) ?_
  refine st_itf (show ((4 : Int) == 3) = false from by kernel_rfl) ?_
  refine st_itt (show ((4 : Int) == 4) = true from by kernel_rfl) ?_
  refine st_itt (show ((4 : Int) == 4) = true from by kernel_rfl) ?_
  refine st_2_0 (e40_64) (g := true) rfl (l := [1, a, b, (IntKind.wrap .i64 a), (IntKind.wrap .i64 b), (-9223372036854775808)]) rfl (m := []) rfl (cl_t (q36_1 (a) (b) ((IntKind.wrap .i64 a)) ((IntKind.wrap .i64 b)) ((-9223372036854775808)) (i64_ne b hb hb2))) fun i4 i5 hi4 hi5 => ?_
  show T.den _ _ [(4 : Int), a, b, (64 : Int), i4, i5] [] = _
  refine st_ret ?_
  show some ([i4, i5], []) = _
  subst hi4 hi5
  rfl

set_option maxHeartbeats 4000000 in
theorem q10_128 (a b : Int) (hb : 0 ≤ b) (hb2 : b < 18446744073709551616) : F16 [(128 : Int), a, b] [] = some ([(uq a b), (dz b)], [true]) := by
  refine Eq.trans (Fd_of (n := 3) (m := 0) (t := t16) (C := Tab.fn a16) rfl rfl) ?_
  rw [t16]
  refine st_lbc (show ((decide ((128 : Int) ≥ 70)) && (decide ((128 : Int) ≤ 79))) = false from by kernel_rfl) ?_
  show T.den _ _ [(128 : Int), a, b] [false] = _
  refine st_itf (show false = false from by kernel_rfl) ?_
  refine st_lbc (show ((decide ((128 : Int) ≥ 81)) && (decide ((128 : Int) ≤ 90))) = false from by kernel_rfl) ?_
  show T.den _ _ [(128 : Int), a, b] [false, false] = _
  refine st_itf (show false = false from by kernel_rfl) ?_
  refine st_lbc (show ((decide ((128 : Int) ≥ 106)) && (decide ((128 : Int) ≤ 120))) = false from by kernel_rfl) ?_
  show T.den _ _ [(128 : Int), a, b] [false, false, false] = _
  refine st_itf (show false = false from by kernel_rfl) ?_
  refine st_lbc (show ((decide ((128 : Int) ≥ 124)) && (decide ((128 : Int) ≤ 138))) = true from by kernel_rfl) ?_
  show T.den _ _ [(128 : Int), a, b] [false, false, false, true] = _
  refine st_itt (show true = true from by kernel_rfl) ?_
  refine st_2_0 (e16_40) (g := true) rfl (l := [4, a, b, 64]) rfl (m := []) rfl (cl_t (q18_4_64 a b hb hb2)) fun i3 i4 hi3 hi4 => ?_
  show T.den _ _ [(128 : Int), a, b, i3, i4] [false, false, false, true] = _
  refine st_ret ?_
  show some ([i3, i4], [true]) = _
  subst hi3 hi4
  rfl

set_option maxHeartbeats 4000000 in
theorem q18_5_64 (a b : Int) (hb : 0 ≤ b) (hb2 : b < 18446744073709551616) : F40 [(5 : Int), a, b, (64 : Int)] [] = some ([(dr b (IntKind.wrap .i64 a) (IntKind.wrap .i64 b)), (dz b)], []) := by
  refine Eq.trans (Fd_of (n := 4) (m := 0) (t := t40) (C := Tab.fn a40) rfl rfl) ?_
  rw [t40]
  refine st_itf (show ((64 : Int) == 32) = false from by kernel_rfl) ?_
  refine st_rq (show ((64 : Int) != 0) = true from by kernel_rfl) ?_
  refine st_itf (show ((5 : Int) == 0) = false from by kernel_rfl) ?_
  refine st_itf (show ((5 : Int) == 1) = false from by kernel_rfl) ?_
  refine st_itf (show ((5 : Int) == 2) = false from by kernel_rfl) ?_
  refine st_itf (show ((5 : Int) == 3) = false from by kernel_rfl) ?_
  refine st_itf (show ((5 : Int) == 4) = false from by kernel_rfl) ?_
  refine st_itt (show ((5 : Int) == 5) = true from by kernel_rfl) ?_
  refine st_itt (show ((5 : Int) == 5) = true from by kernel_rfl) ?_
  refine st_2_0 (e40_64) (g := true) rfl (l := [2, a, b, (IntKind.wrap .i64 a), (IntKind.wrap .i64 b), (-9223372036854775808)]) rfl (m := []) rfl (cl_t (q36_2 (a) (b) ((IntKind.wrap .i64 a)) ((IntKind.wrap .i64 b)) ((-9223372036854775808)) (i64_ne b hb hb2))) fun i4 i5 hi4 hi5 => ?_
  show T.den _ _ [(5 : Int), a, b, (64 : Int), i4, i5] [] = _
  refine st_ret ?_
  show some ([i4, i5], []) = _
  subst hi4 hi5
  rfl

set_option maxHeartbeats 4000000 in
theorem q10_129 (a b : Int) (hb : 0 ≤ b) (hb2 : b < 18446744073709551616) : F16 [(129 : Int), a, b] [] = some ([(dr b (IntKind.wrap .i64 a) (IntKind.wrap .i64 b)), (dz b)], [true]) := by
  refine Eq.trans (Fd_of (n := 3) (m := 0) (t := t16) (C := Tab.fn a16) rfl rfl) ?_
  rw [t16]
  refine st_lbc (show ((decide ((129 : Int) ≥ 70)) && (decide ((129 : Int) ≤ 79))) = false from by kernel_rfl) ?_
  show T.den _ _ [(129 : Int), a, b] [false] = _
  refine st_itf (show false = false from by kernel_rfl) ?_
  refine st_lbc (show ((decide ((129 : Int) ≥ 81)) && (decide ((129 : Int) ≤ 90))) = false from by kernel_rfl) ?_
  show T.den _ _ [(129 : Int), a, b] [false, false] = _
  refine st_itf (show false = false from by kernel_rfl) ?_
  refine st_lbc (show ((decide ((129 : Int) ≥ 106)) && (decide ((129 : Int) ≤ 120))) = false from by kernel_rfl) ?_
  show T.den _ _ [(129 : Int), a, b] [false, false, false] = _
  refine st_itf (show false = false from by kernel_rfl) ?_
  refine st_lbc (show ((decide ((129 : Int) ≥ 124)) && (decide ((129 : Int) ≤ 138))) = true from by kernel_rfl) ?_
  show T.den _ _ [(129 : Int), a, b] [false, false, false, true] = _
  refine st_itt (show true = true from by kernel_rfl) ?_
  refine st_2_0 (e16_40) (g := true) rfl (l := [5, a, b, 64]) rfl (m := []) rfl (cl_t (q18_5_64 a b hb hb2)) fun i3 i4 hi3 hi4 => ?_
  show T.den _ _ [(129 : Int), a, b, i3, i4] [false, false, false, true] = _
  refine st_ret ?_
  show some ([i3, i4], [true]) = _
  subst hi3 hi4
  rfl

set_option maxHeartbeats 4000000 in
theorem q18_6_64 (a b : Int) (hb : 0 ≤ b) (hb2 : b < 18446744073709551616) : F40 [(6 : Int), a, b, (64 : Int)] [] = some ([(ur a b), (dz b)], []) := by
  refine Eq.trans (Fd_of (n := 4) (m := 0) (t := t40) (C := Tab.fn a40) rfl rfl) ?_
  rw [t40]
  refine st_itf (show ((64 : Int) == 32) = false from by kernel_rfl) ?_
  refine st_rq (show ((64 : Int) != 0) = true from by kernel_rfl) ?_
  refine st_itf (show ((6 : Int) == 0) = false from by kernel_rfl) ?_
  refine st_itf (show ((6 : Int) == 1) = false from by kernel_rfl) ?_
  refine st_itf (show ((6 : Int) == 2) = false from by kernel_rfl) ?_
  refine st_itf (show ((6 : Int) == 3) = false from by kernel_rfl) ?_
  refine st_itf (show ((6 : Int) == 4) = false from by kernel_rfl) ?_
  refine st_itf (show ((6 : Int) == 5) = false from by kernel_rfl) ?_
  refine st_itt (show ((6 : Int) == 6) = true from by kernel_rfl) ?_
  refine st_2_0 (e40_64) (g := true) rfl (l := [3, a, b, (IntKind.wrap .i64 a), (IntKind.wrap .i64 b), (-9223372036854775808)]) rfl (m := []) rfl (cl_t (q36_3 (a) (b) ((IntKind.wrap .i64 a)) ((IntKind.wrap .i64 b)) ((-9223372036854775808)) (i64_ne b hb hb2))) fun i4 i5 hi4 hi5 => ?_
  show T.den _ _ [(6 : Int), a, b, (64 : Int), i4, i5] [] = _
  refine st_ret ?_
  show some ([i4, i5], []) = _
  subst hi4 hi5
  rfl

set_option maxHeartbeats 4000000 in
theorem q10_130 (a b : Int) (hb : 0 ≤ b) (hb2 : b < 18446744073709551616) : F16 [(130 : Int), a, b] [] = some ([(ur a b), (dz b)], [true]) := by
  refine Eq.trans (Fd_of (n := 3) (m := 0) (t := t16) (C := Tab.fn a16) rfl rfl) ?_
  rw [t16]
  refine st_lbc (show ((decide ((130 : Int) ≥ 70)) && (decide ((130 : Int) ≤ 79))) = false from by kernel_rfl) ?_
  show T.den _ _ [(130 : Int), a, b] [false] = _
  refine st_itf (show false = false from by kernel_rfl) ?_
  refine st_lbc (show ((decide ((130 : Int) ≥ 81)) && (decide ((130 : Int) ≤ 90))) = false from by kernel_rfl) ?_
  show T.den _ _ [(130 : Int), a, b] [false, false] = _
  refine st_itf (show false = false from by kernel_rfl) ?_
  refine st_lbc (show ((decide ((130 : Int) ≥ 106)) && (decide ((130 : Int) ≤ 120))) = false from by kernel_rfl) ?_
  show T.den _ _ [(130 : Int), a, b] [false, false, false] = _
  refine st_itf (show false = false from by kernel_rfl) ?_
  refine st_lbc (show ((decide ((130 : Int) ≥ 124)) && (decide ((130 : Int) ≤ 138))) = true from by kernel_rfl) ?_
  show T.den _ _ [(130 : Int), a, b] [false, false, false, true] = _
  refine st_itt (show true = true from by kernel_rfl) ?_
  refine st_2_0 (e16_40) (g := true) rfl (l := [6, a, b, 64]) rfl (m := []) rfl (cl_t (q18_6_64 a b hb hb2)) fun i3 i4 hi3 hi4 => ?_
  show T.den _ _ [(130 : Int), a, b, i3, i4] [false, false, false, true] = _
  refine st_ret ?_
  show some ([i3, i4], [true]) = _
  subst hi3 hi4
  rfl

set_option maxHeartbeats 4000000 in
theorem q18_7_64 (a b : Int) : F40 [(7 : Int), a, b, (64 : Int)] [] = some ([(arI .and .u64 a b), 0], []) := by
  refine Eq.trans (Fd_of (n := 4) (m := 0) (t := t40) (C := Tab.fn a40) rfl rfl) ?_
  rw [t40]
  refine st_itf (show ((64 : Int) == 32) = false from by kernel_rfl) ?_
  refine st_rq (show ((64 : Int) != 0) = true from by kernel_rfl) ?_
  refine st_itf (show ((7 : Int) == 0) = false from by kernel_rfl) ?_
  refine st_itf (show ((7 : Int) == 1) = false from by kernel_rfl) ?_
  refine st_itf (show ((7 : Int) == 2) = false from by kernel_rfl) ?_
  refine st_itf (show ((7 : Int) == 3) = false from by kernel_rfl) ?_
  refine st_itf (show ((7 : Int) == 4) = false from by kernel_rfl) ?_
  refine st_itf (show ((7 : Int) == 5) = false from by kernel_rfl) ?_
  refine st_itf (show ((7 : Int) == 6) = false from by kernel_rfl) ?_
  refine st_itt (show ((7 : Int) == 7) = true from by kernel_rfl) ?_
  refine st_ret ?_
  show some ([(arI .and .u64 a b), 0], []) = _
  rfl

set_option maxHeartbeats 4000000 in
theorem q10_131 (a b : Int) : F16 [(131 : Int), a, b] [] = some ([(arI .and .u64 a b), 0], [true]) := by
  refine Eq.trans (Fd_of (n := 3) (m := 0) (t := t16) (C := Tab.fn a16) rfl rfl) ?_
  rw [t16]
  refine st_lbc (show ((decide ((131 : Int) ≥ 70)) && (decide ((131 : Int) ≤ 79))) = false from by kernel_rfl) ?_
  show T.den _ _ [(131 : Int), a, b] [false] = _
  refine st_itf (show false = false from by kernel_rfl) ?_
  refine st_lbc (show ((decide ((131 : Int) ≥ 81)) && (decide ((131 : Int) ≤ 90))) = false from by kernel_rfl) ?_
  show T.den _ _ [(131 : Int), a, b] [false, false] = _
  refine st_itf (show false = false from by kernel_rfl) ?_
  refine st_lbc (show ((decide ((131 : Int) ≥ 106)) && (decide ((131 : Int) ≤ 120))) = false from by kernel_rfl) ?_
  show T.den _ _ [(131 : Int), a, b] [false, false, false] = _
  refine st_itf (show false = false from by kernel_rfl) ?_
  refine st_lbc (show ((decide ((131 : Int) ≥ 124)) && (decide ((131 : Int) ≤ 138))) = true from by kernel_rfl) ?_
  show T.den _ _ [(131 : Int), a, b] [false, false, false, true] = _
  refine st_itt (show true = true from by kernel_rfl) ?_
  refine st_2_0 (e16_40) (g := true) rfl (l := [7, a, b, 64]) rfl (m := []) rfl (cl_t (q18_7_64 a b )) fun i3 i4 hi3 hi4 => ?_
  show T.den _ _ [(131 : Int), a, b, i3, i4] [false, false, false, true] = _
  refine st_ret ?_
  show some ([i3, i4], [true]) = _
  subst hi3 hi4
  rfl

set_option maxHeartbeats 4000000 in
theorem q18_8_64 (a b : Int) : F40 [(8 : Int), a, b, (64 : Int)] [] = some ([(arI .or .u64 a b), 0], []) := by
  refine Eq.trans (Fd_of (n := 4) (m := 0) (t := t40) (C := Tab.fn a40) rfl rfl) ?_
  rw [t40]
  refine st_itf (show ((64 : Int) == 32) = false from by kernel_rfl) ?_
  refine st_rq (show ((64 : Int) != 0) = true from by kernel_rfl) ?_
  refine st_itf (show ((8 : Int) == 0) = false from by kernel_rfl) ?_
  refine st_itf (show ((8 : Int) == 1) = false from by kernel_rfl) ?_
  refine st_itf (show ((8 : Int) == 2) = false from by kernel_rfl) ?_
  refine st_itf (show ((8 : Int) == 3) = false from by kernel_rfl) ?_
  refine st_itf (show ((8 : Int) == 4) = false from by kernel_rfl) ?_
  refine st_itf (show ((8 : Int) == 5) = false from by kernel_rfl) ?_
  refine st_itf (show ((8 : Int) == 6) = false from by kernel_rfl) ?_
  refine st_itf (show ((8 : Int) == 7) = false from by kernel_rfl) ?_
  refine st_itt (show ((8 : Int) == 8) = true from by kernel_rfl) ?_
  refine st_ret ?_
  show some ([(arI .or .u64 a b), 0], []) = _
  rfl

set_option maxHeartbeats 4000000 in
theorem q10_132 (a b : Int) : F16 [(132 : Int), a, b] [] = some ([(arI .or .u64 a b), 0], [true]) := by
  refine Eq.trans (Fd_of (n := 3) (m := 0) (t := t16) (C := Tab.fn a16) rfl rfl) ?_
  rw [t16]
  refine st_lbc (show ((decide ((132 : Int) ≥ 70)) && (decide ((132 : Int) ≤ 79))) = false from by kernel_rfl) ?_
  show T.den _ _ [(132 : Int), a, b] [false] = _
  refine st_itf (show false = false from by kernel_rfl) ?_
  refine st_lbc (show ((decide ((132 : Int) ≥ 81)) && (decide ((132 : Int) ≤ 90))) = false from by kernel_rfl) ?_
  show T.den _ _ [(132 : Int), a, b] [false, false] = _
  refine st_itf (show false = false from by kernel_rfl) ?_
  refine st_lbc (show ((decide ((132 : Int) ≥ 106)) && (decide ((132 : Int) ≤ 120))) = false from by kernel_rfl) ?_
  show T.den _ _ [(132 : Int), a, b] [false, false, false] = _
  refine st_itf (show false = false from by kernel_rfl) ?_
  refine st_lbc (show ((decide ((132 : Int) ≥ 124)) && (decide ((132 : Int) ≤ 138))) = true from by kernel_rfl) ?_
  show T.den _ _ [(132 : Int), a, b] [false, false, false, true] = _
  refine st_itt (show true = true from by kernel_rfl) ?_
  refine st_2_0 (e16_40) (g := true) rfl (l := [8, a, b, 64]) rfl (m := []) rfl (cl_t (q18_8_64 a b )) fun i3 i4 hi3 hi4 => ?_
  show T.den _ _ [(132 : Int), a, b, i3, i4] [false, false, false, true] = _
  refine st_ret ?_
  show some ([i3, i4], [true]) = _
  subst hi3 hi4
  rfl

set_option maxHeartbeats 4000000 in
theorem q18_9_64 (a b : Int) : F40 [(9 : Int), a, b, (64 : Int)] [] = some ([(arI .xor .u64 a b), 0], []) := by
  refine Eq.trans (Fd_of (n := 4) (m := 0) (t := t40) (C := Tab.fn a40) rfl rfl) ?_
  rw [t40]
  refine st_itf (show ((64 : Int) == 32) = false from by kernel_rfl) ?_
  refine st_rq (show ((64 : Int) != 0) = true from by kernel_rfl) ?_
  refine st_itf (show ((9 : Int) == 0) = false from by kernel_rfl) ?_
  refine st_itf (show ((9 : Int) == 1) = false from by kernel_rfl) ?_
  refine st_itf (show ((9 : Int) == 2) = false from by kernel_rfl) ?_
  refine st_itf (show ((9 : Int) == 3) = false from by kernel_rfl) ?_
  refine st_itf (show ((9 : Int) == 4) = false from by kernel_rfl) ?_
  refine st_itf (show ((9 : Int) == 5) = false from by kernel_rfl) ?_
  refine st_itf (show ((9 : Int) == 6) = false from by kernel_rfl) ?_
  refine st_itf (show ((9 : Int) == 7) = false from by kernel_rfl) ?_
  refine st_itf (show ((9 : Int) == 8) = false from by kernel_rfl) ?_
  refine st_itt (show ((9 : Int) == 9) = true from by kernel_rfl) ?_
  refine st_ret ?_
  show some ([(arI .xor .u64 a b), 0], []) = _
  rfl

set_option maxHeartbeats 4000000 in
theorem q10_133 (a b : Int) : F16 [(133 : Int), a, b] [] = some ([(arI .xor .u64 a b), 0], [true]) := by
  refine Eq.trans (Fd_of (n := 3) (m := 0) (t := t16) (C := Tab.fn a16) rfl rfl) ?_
  rw [t16]
  refine st_lbc (show ((decide ((133 : Int) ≥ 70)) && (decide ((133 : Int) ≤ 79))) = false from by kernel_rfl) ?_
  show T.den _ _ [(133 : Int), a, b] [false] = _
  refine st_itf (show false = false from by kernel_rfl) ?_
  refine st_lbc (show ((decide ((133 : Int) ≥ 81)) && (decide ((133 : Int) ≤ 90))) = false from by kernel_rfl) ?_
  show T.den _ _ [(133 : Int), a, b] [false, false] = _
  refine st_itf (show false = false from by kernel_rfl) ?_
  refine st_lbc (show ((decide ((133 : Int) ≥ 106)) && (decide ((133 : Int) ≤ 120))) = false from by kernel_rfl) ?_
  show T.den _ _ [(133 : Int), a, b] [false, false, false] = _
  refine st_itf (show false = false from by kernel_rfl) ?_
  refine st_lbc (show ((decide ((133 : Int) ≥ 124)) && (decide ((133 : Int) ≤ 138))) = true from by kernel_rfl) ?_
  show T.den _ _ [(133 : Int), a, b] [false, false, false, true] = _
  refine st_itt (show true = true from by kernel_rfl) ?_
  refine st_2_0 (e16_40) (g := true) rfl (l := [9, a, b, 64]) rfl (m := []) rfl (cl_t (q18_9_64 a b )) fun i3 i4 hi3 hi4 => ?_
  show T.den _ _ [(133 : Int), a, b, i3, i4] [false, false, false, true] = _
  refine st_ret ?_
  show some ([i3, i4], [true]) = _
  subst hi3 hi4
  rfl

set_option maxHeartbeats 4000000 in
theorem q18_10_64 (a b : Int) (hb : 0 ≤ b) : F40 [(10 : Int), a, b, (64 : Int)] [] = some ([(arI .shl .u64 a (arI .rem .u64 b (64 : Int))), 0], []) := by
  refine Eq.trans (Fd_of (n := 4) (m := 0) (t := t40) (C := Tab.fn a40) rfl rfl) ?_
  rw [t40]
  refine st_itf (show ((64 : Int) == 32) = false from by kernel_rfl) ?_
  refine st_rq (show ((64 : Int) != 0) = true from by kernel_rfl) ?_
  refine st_itf (show ((10 : Int) == 0) = false from by kernel_rfl) ?_
  refine st_itf (show ((10 : Int) == 1) = false from by kernel_rfl) ?_
  refine st_itf (show ((10 : Int) == 2) = false from by kernel_rfl) ?_
  refine st_itf (show ((10 : Int) == 3) = false from by kernel_rfl) ?_
  refine st_itf (show ((10 : Int) == 4) = false from by kernel_rfl) ?_
  refine st_itf (show ((10 : Int) == 5) = false from by kernel_rfl) ?_
  refine st_itf (show ((10 : Int) == 6) = false from by kernel_rfl) ?_
  refine st_itf (show ((10 : Int) == 7) = false from by kernel_rfl) ?_
  refine st_itf (show ((10 : Int) == 8) = false from by kernel_rfl) ?_
  refine st_itf (show ((10 : Int) == 9) = false from by kernel_rfl) ?_
  refine st_itt (show ((10 : Int) == 10) = true from by kernel_rfl) ?_
  refine st_rq (show (decide ((arI .rem .u64 b (64 : Int)) ≥ 0)) = true from ?_) ?_
  · first | exact rem_ge _ _ (by omega) | exact sub_ge _ _ | (subst_vars; exact sub_ge _ _) | (omega)
  refine st_ret ?_
  show some ([(arI .shl .u64 a (arI .rem .u64 b (64 : Int))), 0], []) = _
  rfl

set_option maxHeartbeats 4000000 in
theorem q10_134 (a b : Int) (hb : 0 ≤ b) : F16 [(134 : Int), a, b] [] = some ([(arI .shl .u64 a (arI .rem .u64 b (64 : Int))), 0], [true]) := by
  refine Eq.trans (Fd_of (n := 3) (m := 0) (t := t16) (C := Tab.fn a16) rfl rfl) ?_
  rw [t16]
  refine st_lbc (show ((decide ((134 : Int) ≥ 70)) && (decide ((134 : Int) ≤ 79))) = false from by kernel_rfl) ?_
  show T.den _ _ [(134 : Int), a, b] [false] = _
  refine st_itf (show false = false from by kernel_rfl) ?_
  refine st_lbc (show ((decide ((134 : Int) ≥ 81)) && (decide ((134 : Int) ≤ 90))) = false from by kernel_rfl) ?_
  show T.den _ _ [(134 : Int), a, b] [false, false] = _
  refine st_itf (show false = false from by kernel_rfl) ?_
  refine st_lbc (show ((decide ((134 : Int) ≥ 106)) && (decide ((134 : Int) ≤ 120))) = false from by kernel_rfl) ?_
  show T.den _ _ [(134 : Int), a, b] [false, false, false] = _
  refine st_itf (show false = false from by kernel_rfl) ?_
  refine st_lbc (show ((decide ((134 : Int) ≥ 124)) && (decide ((134 : Int) ≤ 138))) = true from by kernel_rfl) ?_
  show T.den _ _ [(134 : Int), a, b] [false, false, false, true] = _
  refine st_itt (show true = true from by kernel_rfl) ?_
  refine st_2_0 (e16_40) (g := true) rfl (l := [10, a, b, 64]) rfl (m := []) rfl (cl_t (q18_10_64 a b hb)) fun i3 i4 hi3 hi4 => ?_
  show T.den _ _ [(134 : Int), a, b, i3, i4] [false, false, false, true] = _
  refine st_ret ?_
  show some ([i3, i4], [true]) = _
  subst hi3 hi4
  rfl

set_option maxHeartbeats 4000000 in
theorem q18_11_64 (a b : Int) (hb : 0 ≤ b) : F40 [(11 : Int), a, b, (64 : Int)] [] = some ([(IntKind.wrap .u64 (arI .shr .i64 (IntKind.wrap .i64 a) (arI .rem .u64 b (64 : Int)))), 0], []) := by
  refine Eq.trans (Fd_of (n := 4) (m := 0) (t := t40) (C := Tab.fn a40) rfl rfl) ?_
  rw [t40]
  refine st_itf (show ((64 : Int) == 32) = false from by kernel_rfl) ?_
  refine st_rq (show ((64 : Int) != 0) = true from by kernel_rfl) ?_
  refine st_itf (show ((11 : Int) == 0) = false from by kernel_rfl) ?_
  refine st_itf (show ((11 : Int) == 1) = false from by kernel_rfl) ?_
  refine st_itf (show ((11 : Int) == 2) = false from by kernel_rfl) ?_
  refine st_itf (show ((11 : Int) == 3) = false from by kernel_rfl) ?_
  refine st_itf (show ((11 : Int) == 4) = false from by kernel_rfl) ?_
  refine st_itf (show ((11 : Int) == 5) = false from by kernel_rfl) ?_
  refine st_itf (show ((11 : Int) == 6) = false from by kernel_rfl) ?_
  refine st_itf (show ((11 : Int) == 7) = false from by kernel_rfl) ?_
  refine st_itf (show ((11 : Int) == 8) = false from by kernel_rfl) ?_
  refine st_itf (show ((11 : Int) == 9) = false from by kernel_rfl) ?_
  refine st_itf (show ((11 : Int) == 10) = false from by kernel_rfl) ?_
  refine st_itt (show ((11 : Int) == 11) = true from by kernel_rfl) ?_
  refine st_rq (show (decide ((arI .rem .u64 b (64 : Int)) ≥ 0)) = true from ?_) ?_
  · first | exact rem_ge _ _ (by omega) | exact sub_ge _ _ | (subst_vars; exact sub_ge _ _) | (omega)
  refine st_li fun i4 hi4 => ?_
  replace hi4 : i4 = (arI .shr .i64 (IntKind.wrap .i64 a) (arI .rem .u64 b (64 : Int))) := hi4
  show T.den _ _ [(11 : Int), a, b, (64 : Int), i4] [] = _
  refine st_ret ?_
  show some ([(IntKind.wrap .u64 i4), 0], []) = _
  subst hi4
  rfl

set_option maxHeartbeats 4000000 in
theorem q10_135 (a b : Int) (hb : 0 ≤ b) : F16 [(135 : Int), a, b] [] = some ([(IntKind.wrap .u64 (arI .shr .i64 (IntKind.wrap .i64 a) (arI .rem .u64 b (64 : Int)))), 0], [true]) := by
  refine Eq.trans (Fd_of (n := 3) (m := 0) (t := t16) (C := Tab.fn a16) rfl rfl) ?_
  rw [t16]
  refine st_lbc (show ((decide ((135 : Int) ≥ 70)) && (decide ((135 : Int) ≤ 79))) = false from by kernel_rfl) ?_
  show T.den _ _ [(135 : Int), a, b] [false] = _
  refine st_itf (show false = false from by kernel_rfl) ?_
  refine st_lbc (show ((decide ((135 : Int) ≥ 81)) && (decide ((135 : Int) ≤ 90))) = false from by kernel_rfl) ?_
  show T.den _ _ [(135 : Int), a, b] [false, false] = _
  refine st_itf (show false = false from by kernel_rfl) ?_
  refine st_lbc (show ((decide ((135 : Int) ≥ 106)) && (decide ((135 : Int) ≤ 120))) = false from by kernel_rfl) ?_
  show T.den _ _ [(135 : Int), a, b] [false, false, false] = _
  refine st_itf (show false = false from by kernel_rfl) ?_
  refine st_lbc (show ((decide ((135 : Int) ≥ 124)) && (decide ((135 : Int) ≤ 138))) = true from by kernel_rfl) ?_
  show T.den _ _ [(135 : Int), a, b] [false, false, false, true] = _
  refine st_itt (show true = true from by kernel_rfl) ?_
  refine st_2_0 (e16_40) (g := true) rfl (l := [11, a, b, 64]) rfl (m := []) rfl (cl_t (q18_11_64 a b hb)) fun i3 i4 hi3 hi4 => ?_
  show T.den _ _ [(135 : Int), a, b, i3, i4] [false, false, false, true] = _
  refine st_ret ?_
  show some ([i3, i4], [true]) = _
  subst hi3 hi4
  rfl

set_option maxHeartbeats 4000000 in
theorem q18_12_64 (a b : Int) (hb : 0 ≤ b) : F40 [(12 : Int), a, b, (64 : Int)] [] = some ([(arI .shr .u64 a (arI .rem .u64 b (64 : Int))), 0], []) := by
  refine Eq.trans (Fd_of (n := 4) (m := 0) (t := t40) (C := Tab.fn a40) rfl rfl) ?_
  rw [t40]
  refine st_itf (show ((64 : Int) == 32) = false from by kernel_rfl) ?_
  refine st_rq (show ((64 : Int) != 0) = true from by kernel_rfl) ?_
  refine st_itf (show ((12 : Int) == 0) = false from by kernel_rfl) ?_
  refine st_itf (show ((12 : Int) == 1) = false from by kernel_rfl) ?_
  refine st_itf (show ((12 : Int) == 2) = false from by kernel_rfl) ?_
  refine st_itf (show ((12 : Int) == 3) = false from by kernel_rfl) ?_
  refine st_itf (show ((12 : Int) == 4) = false from by kernel_rfl) ?_
  refine st_itf (show ((12 : Int) == 5) = false from by kernel_rfl) ?_
  refine st_itf (show ((12 : Int) == 6) = false from by kernel_rfl) ?_
  refine st_itf (show ((12 : Int) == 7) = false from by kernel_rfl) ?_
  refine st_itf (show ((12 : Int) == 8) = false from by kernel_rfl) ?_
  refine st_itf (show ((12 : Int) == 9) = false from by kernel_rfl) ?_
  refine st_itf (show ((12 : Int) == 10) = false from by kernel_rfl) ?_
  refine st_itf (show ((12 : Int) == 11) = false from by kernel_rfl) ?_
  refine st_itt (show ((12 : Int) == 12) = true from by kernel_rfl) ?_
  refine st_rq (show (decide ((arI .rem .u64 b (64 : Int)) ≥ 0)) = true from ?_) ?_
  · first | exact rem_ge _ _ (by omega) | exact sub_ge _ _ | (subst_vars; exact sub_ge _ _) | (omega)
  refine st_ret ?_
  show some ([(arI .shr .u64 a (arI .rem .u64 b (64 : Int))), 0], []) = _
  rfl

set_option maxHeartbeats 4000000 in
theorem q10_136 (a b : Int) (hb : 0 ≤ b) : F16 [(136 : Int), a, b] [] = some ([(arI .shr .u64 a (arI .rem .u64 b (64 : Int))), 0], [true]) := by
  refine Eq.trans (Fd_of (n := 3) (m := 0) (t := t16) (C := Tab.fn a16) rfl rfl) ?_
  rw [t16]
  refine st_lbc (show ((decide ((136 : Int) ≥ 70)) && (decide ((136 : Int) ≤ 79))) = false from by kernel_rfl) ?_
  show T.den _ _ [(136 : Int), a, b] [false] = _
  refine st_itf (show false = false from by kernel_rfl) ?_
  refine st_lbc (show ((decide ((136 : Int) ≥ 81)) && (decide ((136 : Int) ≤ 90))) = false from by kernel_rfl) ?_
  show T.den _ _ [(136 : Int), a, b] [false, false] = _
  refine st_itf (show false = false from by kernel_rfl) ?_
  refine st_lbc (show ((decide ((136 : Int) ≥ 106)) && (decide ((136 : Int) ≤ 120))) = false from by kernel_rfl) ?_
  show T.den _ _ [(136 : Int), a, b] [false, false, false] = _
  refine st_itf (show false = false from by kernel_rfl) ?_
  refine st_lbc (show ((decide ((136 : Int) ≥ 124)) && (decide ((136 : Int) ≤ 138))) = true from by kernel_rfl) ?_
  show T.den _ _ [(136 : Int), a, b] [false, false, false, true] = _
  refine st_itt (show true = true from by kernel_rfl) ?_
  refine st_2_0 (e16_40) (g := true) rfl (l := [12, a, b, 64]) rfl (m := []) rfl (cl_t (q18_12_64 a b hb)) fun i3 i4 hi3 hi4 => ?_
  show T.den _ _ [(136 : Int), a, b, i3, i4] [false, false, false, true] = _
  refine st_ret ?_
  show some ([i3, i4], [true]) = _
  subst hi3 hi4
  rfl

set_option maxHeartbeats 4000000 in
theorem q18_13_64 (a b : Int) (hb : 0 ≤ b) : F40 [(13 : Int), a, b, (64 : Int)] [] = some ([(arI .or .u64 (arI .shl .u64 a (arI .rem .u64 b (64 : Int))) (arI .shr .u64 a (arI .sub .u64 (64 : Int) (arI .rem .u64 b (64 : Int))))), 0], []) := by
  refine Eq.trans (Fd_of (n := 4) (m := 0) (t := t40) (C := Tab.fn a40) rfl rfl) ?_
  rw [t40]
  refine st_itf (show ((64 : Int) == 32) = false from by kernel_rfl) ?_
  refine st_rq (show ((64 : Int) != 0) = true from by kernel_rfl) ?_
  refine st_itf (show ((13 : Int) == 0) = false from by kernel_rfl) ?_
  refine st_itf (show ((13 : Int) == 1) = false from by kernel_rfl) ?_
  refine st_itf (show ((13 : Int) == 2) = false from by kernel_rfl) ?_
  refine st_itf (show ((13 : Int) == 3) = false from by kernel_rfl) ?_
  refine st_itf (show ((13 : Int) == 4) = false from by kernel_rfl) ?_
  refine st_itf (show ((13 : Int) == 5) = false from by kernel_rfl) ?_
  refine st_itf (show ((13 : Int) == 6) = false from by kernel_rfl) ?_
  refine st_itf (show ((13 : Int) == 7) = false from by kernel_rfl) ?_
  refine st_itf (show ((13 : Int) == 8) = false from by kernel_rfl) ?_
  refine st_itf (show ((13 : Int) == 9) = false from by kernel_rfl) ?_
  refine st_itf (show ((13 : Int) == 10) = false from by kernel_rfl) ?_
  refine st_itf (show ((13 : Int) == 11) = false from by kernel_rfl) ?_
  refine st_itf (show ((13 : Int) == 12) = false from by kernel_rfl) ?_
  refine st_itt (show ((13 : Int) == 13) = true from by kernel_rfl) ?_
  refine st_rq (show (decide ((arI .rem .u64 b (64 : Int)) ≥ 0)) = true from ?_) ?_
  · first | exact rem_ge _ _ (by omega) | exact sub_ge _ _ | (subst_vars; exact sub_ge _ _) | (omega)
  refine st_li fun i4 hi4 => ?_
  replace hi4 : i4 = (arI .sub .u64 (64 : Int) (arI .rem .u64 b (64 : Int))) := hi4
  show T.den _ _ [(13 : Int), a, b, (64 : Int), i4] [] = _
  refine st_rq (show (decide (i4 ≥ 0)) = true from ?_) ?_
  · first | exact rem_ge _ _ (by omega) | exact sub_ge _ _ | (subst_vars; exact sub_ge _ _) | (omega)
  refine st_li fun i5 hi5 => ?_
  replace hi5 : i5 = (arI .or .u64 (arI .shl .u64 a (arI .rem .u64 b (64 : Int))) (arI .shr .u64 a i4)) := hi5
  show T.den _ _ [(13 : Int), a, b, (64 : Int), i4, i5] [] = _
  refine st_ret ?_
  show some ([i5, 0], []) = _
  subst hi4 hi5
  rfl

set_option maxHeartbeats 4000000 in
theorem q10_137 (a b : Int) (hb : 0 ≤ b) : F16 [(137 : Int), a, b] [] = some ([(arI .or .u64 (arI .shl .u64 a (arI .rem .u64 b (64 : Int))) (arI .shr .u64 a (arI .sub .u64 (64 : Int) (arI .rem .u64 b (64 : Int))))), 0], [true]) := by
  refine Eq.trans (Fd_of (n := 3) (m := 0) (t := t16) (C := Tab.fn a16) rfl rfl) ?_
  rw [t16]
  refine st_lbc (show ((decide ((137 : Int) ≥ 70)) && (decide ((137 : Int) ≤ 79))) = false from by kernel_rfl) ?_
  show T.den _ _ [(137 : Int), a, b] [false] = _
  refine st_itf (show false = false from by kernel_rfl) ?_
  refine st_lbc (show ((decide ((137 : Int) ≥ 81)) && (decide ((137 : Int) ≤ 90))) = false from by kernel_rfl) ?_
  show T.den _ _ [(137 : Int), a, b] [false, false] = _
  refine st_itf (show false = false from by kernel_rfl) ?_
  refine st_lbc (show ((decide ((137 : Int) ≥ 106)) && (decide ((137 : Int) ≤ 120))) = false from by kernel_rfl) ?_
  show T.den _ _ [(137 : Int), a, b] [false, false, false] = _
  refine st_itf (show false = false from by kernel_rfl) ?_
  refine st_lbc (show ((decide ((137 : Int) ≥ 124)) && (decide ((137 : Int) ≤ 138))) = true from by kernel_rfl) ?_
  show T.den _ _ [(137 : Int), a, b] [false, false, false, true] = _
  refine st_itt (show true = true from by kernel_rfl) ?_
  refine st_2_0 (e16_40) (g := true) rfl (l := [13, a, b, 64]) rfl (m := []) rfl (cl_t (q18_13_64 a b hb)) fun i3 i4 hi3 hi4 => ?_
  show T.den _ _ [(137 : Int), a, b, i3, i4] [false, false, false, true] = _
  refine st_ret ?_
  show some ([i3, i4], [true]) = _
  subst hi3 hi4
  rfl

set_option maxHeartbeats 4000000 in
theorem q18_14_64 (a b : Int) (hb : 0 ≤ b) : F40 [(14 : Int), a, b, (64 : Int)] [] = some ([(arI .or .u64 (arI .shr .u64 a (arI .rem .u64 b (64 : Int))) (arI .shl .u64 a (arI .sub .u64 (64 : Int) (arI .rem .u64 b (64 : Int))))), 0], []) := by
  refine Eq.trans (Fd_of (n := 4) (m := 0) (t := t40) (C := Tab.fn a40) rfl rfl) ?_
  rw [t40]
  refine st_itf (show ((64 : Int) == 32) = false from by kernel_rfl) ?_
  refine st_rq (show ((64 : Int) != 0) = true from by kernel_rfl) ?_
  refine st_itf (show ((14 : Int) == 0) = false from by kernel_rfl) ?_
  refine st_itf (show ((14 : Int) == 1) = false from by kernel_rfl) ?_
  refine st_itf (show ((14 : Int) == 2) = false from by kernel_rfl) ?_
  refine st_itf (show ((14 : Int) == 3) = false from by kernel_rfl) ?_
  refine st_itf (show ((14 : Int) == 4) = false from by kernel_rfl) ?_
  refine st_itf (show ((14 : Int) == 5) = false from by kernel_rfl) ?_
  refine st_itf (show ((14 : Int) == 6) = false from by kernel_rfl) ?_
  refine st_itf (show ((14 : Int) == 7) = false from by kernel_rfl) ?_
  refine st_itf (show ((14 : Int) == 8) = false from by kernel_rfl) ?_
  refine st_itf (show ((14 : Int) == 9) = false from by kernel_rfl) ?_
  refine st_itf (show ((14 : Int) == 10) = false from by kernel_rfl) ?_
  refine st_itf (show ((14 : Int) == 11) = false from by kernel_rfl) ?_
  refine st_itf (show ((14 : Int) == 12) = false from by kernel_rfl) ?_
  refine st_itf (show ((14 : Int) == 13) = false from by kernel_rfl) ?_
  refine st_rq (show (decide ((arI .rem .u64 b (64 : Int)) ≥ 0)) = true from ?_) ?_
  · first | exact rem_ge _ _ (by omega) | exact sub_ge _ _ | (subst_vars; exact sub_ge _ _) | (omega)
  refine st_li fun i4 hi4 => ?_
  replace hi4 : i4 = (arI .sub .u64 (64 : Int) (arI .rem .u64 b (64 : Int))) := hi4
  show T.den _ _ [(14 : Int), a, b, (64 : Int), i4] [] = _
  refine st_rq (show (decide (i4 ≥ 0)) = true from ?_) ?_
  · first | exact rem_ge _ _ (by omega) | exact sub_ge _ _ | (subst_vars; exact sub_ge _ _) | (omega)
  refine st_li fun i5 hi5 => ?_
  replace hi5 : i5 = (arI .or .u64 (arI .shr .u64 a (arI .rem .u64 b (64 : Int))) (arI .shl .u64 a i4)) := hi5
  show T.den _ _ [(14 : Int), a, b, (64 : Int), i4, i5] [] = _
  refine st_ret ?_
  show some ([i5, 0], []) = _
  subst hi4 hi5
  rfl

set_option maxHeartbeats 4000000 in
theorem q10_138 (a b : Int) (hb : 0 ≤ b) : F16 [(138 : Int), a, b] [] = some ([(arI .or .u64 (arI .shr .u64 a (arI .rem .u64 b (64 : Int))) (arI .shl .u64 a (arI .sub .u64 (64 : Int) (arI .rem .u64 b (64 : Int))))), 0], [true]) := by
  refine Eq.trans (Fd_of (n := 3) (m := 0) (t := t16) (C := Tab.fn a16) rfl rfl) ?_
  rw [t16]
  refine st_lbc (show ((decide ((138 : Int) ≥ 70)) && (decide ((138 : Int) ≤ 79))) = false from by kernel_rfl) ?_
  show T.den _ _ [(138 : Int), a, b] [false] = _
  refine st_itf (show false = false from by kernel_rfl) ?_
  refine st_lbc (show ((decide ((138 : Int) ≥ 81)) && (decide ((138 : Int) ≤ 90))) = false from by kernel_rfl) ?_
  show T.den _ _ [(138 : Int), a, b] [false, false] = _
  refine st_itf (show false = false from by kernel_rfl) ?_
  refine st_lbc (show ((decide ((138 : Int) ≥ 106)) && (decide ((138 : Int) ≤ 120))) = false from by kernel_rfl) ?_
  show T.den _ _ [(138 : Int), a, b] [false, false, false] = _
  refine st_itf (show false = false from by kernel_rfl) ?_
  refine st_lbc (show ((decide ((138 : Int) ≥ 124)) && (decide ((138 : Int) ≤ 138))) = true from by kernel_rfl) ?_
  show T.den _ _ [(138 : Int), a, b] [false, false, false, true] = _
  refine st_itt (show true = true from by kernel_rfl) ?_
  refine st_2_0 (e16_40) (g := true) rfl (l := [14, a, b, 64]) rfl (m := []) rfl (cl_t (q18_14_64 a b hb)) fun i3 i4 hi3 hi4 => ?_
  show T.den _ _ [(138 : Int), a, b, i3, i4] [false, false, false, true] = _
  refine st_ret ?_
  show some ([i3, i4], [true]) = _
  subst hi3 hi4
  rfl

theorem q14_of (k : Nat) (T : List (Option (List Int × List Bool))) (h : (List.range 256).map (fun k : Nat => F13 [(k : Int)] []) = T) (hk : k < 256) : F13 [(k : Int)] [] = T.getD k none := by
  subst h; rw [List.getD_eq_getElem?_getD, List.getElem?_map, List.getElem?_range hk]; rfl

theorem q14_69 : F13 [69] [] = some ([1, 127, 0, 127], [true]) := by kernel_rfl

theorem q14_103 : F13 [103] [] = some ([1, 127, 0, 127], [true]) := by kernel_rfl

theorem q14_104 : F13 [104] [] = some ([1, 127, 0, 127], [true]) := by kernel_rfl

theorem q14_105 : F13 [105] [] = some ([1, 127, 0, 127], [true]) := by kernel_rfl

theorem q14_192 : F13 [192] [] = some ([1, 127, 0, 127], [true]) := by kernel_rfl

theorem q14_193 : F13 [193] [] = some ([1, 127, 0, 127], [true]) := by kernel_rfl

theorem q14_80 : F13 [80] [] = some ([1, 126, 0, 127], [true]) := by kernel_rfl

theorem q14_167 : F13 [167] [] = some ([1, 126, 0, 127], [true]) := by kernel_rfl

theorem q14_121 : F13 [121] [] = some ([1, 126, 0, 126], [true]) := by kernel_rfl

theorem q14_122 : F13 [122] [] = some ([1, 126, 0, 126], [true]) := by kernel_rfl

theorem q14_123 : F13 [123] [] = some ([1, 126, 0, 126], [true]) := by kernel_rfl

theorem q14_194 : F13 [194] [] = some ([1, 126, 0, 126], [true]) := by kernel_rfl

theorem q14_195 : F13 [195] [] = some ([1, 126, 0, 126], [true]) := by kernel_rfl

theorem q14_196 : F13 [196] [] = some ([1, 126, 0, 126], [true]) := by kernel_rfl

theorem q14_172 : F13 [172] [] = some ([1, 127, 0, 126], [true]) := by kernel_rfl

theorem q14_173 : F13 [173] [] = some ([1, 127, 0, 126], [true]) := by kernel_rfl

theorem q14_70 : F13 [70] [] = some ([2, 127, 127, 127], [true]) := by kernel_rfl

theorem q14_71 : F13 [71] [] = some ([2, 127, 127, 127], [true]) := by kernel_rfl

theorem q14_72 : F13 [72] [] = some ([2, 127, 127, 127], [true]) := by kernel_rfl

theorem q14_73 : F13 [73] [] = some ([2, 127, 127, 127], [true]) := by kernel_rfl

theorem q14_74 : F13 [74] [] = some ([2, 127, 127, 127], [true]) := by kernel_rfl

theorem q14_75 : F13 [75] [] = some ([2, 127, 127, 127], [true]) := by kernel_rfl

theorem q14_76 : F13 [76] [] = some ([2, 127, 127, 127], [true]) := by kernel_rfl

theorem q14_77 : F13 [77] [] = some ([2, 127, 127, 127], [true]) := by kernel_rfl

theorem q14_78 : F13 [78] [] = some ([2, 127, 127, 127], [true]) := by kernel_rfl

theorem q14_79 : F13 [79] [] = some ([2, 127, 127, 127], [true]) := by kernel_rfl

theorem q14_106 : F13 [106] [] = some ([2, 127, 127, 127], [true]) := by kernel_rfl

theorem q14_107 : F13 [107] [] = some ([2, 127, 127, 127], [true]) := by kernel_rfl

theorem q14_108 : F13 [108] [] = some ([2, 127, 127, 127], [true]) := by kernel_rfl

theorem q14_109 : F13 [109] [] = some ([2, 127, 127, 127], [true]) := by kernel_rfl

theorem q14_110 : F13 [110] [] = some ([2, 127, 127, 127], [true]) := by kernel_rfl

theorem q14_111 : F13 [111] [] = some ([2, 127, 127, 127], [true]) := by kernel_rfl

theorem q14_112 : F13 [112] [] = some ([2, 127, 127, 127], [true]) := by kernel_rfl

theorem q14_113 : F13 [113] [] = some ([2, 127, 127, 127], [true]) := by kernel_rfl

theorem q14_114 : F13 [114] [] = some ([2, 127, 127, 127], [true]) := by kernel_rfl

theorem q14_115 : F13 [115] [] = some ([2, 127, 127, 127], [true]) := by kernel_rfl

theorem q14_116 : F13 [116] [] = some ([2, 127, 127, 127], [true]) := by kernel_rfl

theorem q14_117 : F13 [117] [] = some ([2, 127, 127, 127], [true]) := by kernel_rfl

theorem q14_118 : F13 [118] [] = some ([2, 127, 127, 127], [true]) := by kernel_rfl

theorem q14_119 : F13 [119] [] = some ([2, 127, 127, 127], [true]) := by kernel_rfl

theorem q14_120 : F13 [120] [] = some ([2, 127, 127, 127], [true]) := by kernel_rfl

theorem q14_81 : F13 [81] [] = some ([2, 126, 126, 127], [true]) := by kernel_rfl

theorem q14_82 : F13 [82] [] = some ([2, 126, 126, 127], [true]) := by kernel_rfl

theorem q14_83 : F13 [83] [] = some ([2, 126, 126, 127], [true]) := by kernel_rfl

theorem q14_84 : F13 [84] [] = some ([2, 126, 126, 127], [true]) := by kernel_rfl

theorem q14_85 : F13 [85] [] = some ([2, 126, 126, 127], [true]) := by kernel_rfl

theorem q14_86 : F13 [86] [] = some ([2, 126, 126, 127], [true]) := by kernel_rfl

theorem q14_87 : F13 [87] [] = some ([2, 126, 126, 127], [true]) := by kernel_rfl

theorem q14_88 : F13 [88] [] = some ([2, 126, 126, 127], [true]) := by kernel_rfl

theorem q14_89 : F13 [89] [] = some ([2, 126, 126, 127], [true]) := by kernel_rfl

theorem q14_90 : F13 [90] [] = some ([2, 126, 126, 127], [true]) := by kernel_rfl

theorem q14_124 : F13 [124] [] = some ([2, 126, 126, 126], [true]) := by kernel_rfl

theorem q14_125 : F13 [125] [] = some ([2, 126, 126, 126], [true]) := by kernel_rfl

theorem q14_126 : F13 [126] [] = some ([2, 126, 126, 126], [true]) := by kernel_rfl

theorem q14_127 : F13 [127] [] = some ([2, 126, 126, 126], [true]) := by kernel_rfl

theorem q14_128 : F13 [128] [] = some ([2, 126, 126, 126], [true]) := by kernel_rfl

theorem q14_129 : F13 [129] [] = some ([2, 126, 126, 126], [true]) := by kernel_rfl

theorem q14_130 : F13 [130] [] = some ([2, 126, 126, 126], [true]) := by kernel_rfl

theorem q14_131 : F13 [131] [] = some ([2, 126, 126, 126], [true]) := by kernel_rfl

theorem q14_132 : F13 [132] [] = some ([2, 126, 126, 126], [true]) := by kernel_rfl

theorem q14_133 : F13 [133] [] = some ([2, 126, 126, 126], [true]) := by kernel_rfl

theorem q14_134 : F13 [134] [] = some ([2, 126, 126, 126], [true]) := by kernel_rfl

theorem q14_135 : F13 [135] [] = some ([2, 126, 126, 126], [true]) := by kernel_rfl

theorem q14_136 : F13 [136] [] = some ([2, 126, 126, 126], [true]) := by kernel_rfl

theorem q14_137 : F13 [137] [] = some ([2, 126, 126, 126], [true]) := by kernel_rfl

theorem q14_138 : F13 [138] [] = some ([2, 126, 126, 126], [true]) := by kernel_rfl

set_option maxHeartbeats 4000000 in
theorem q14_out (op : Int) (h : (op < 69 ∨ (91 ≤ op ∧ op ≤ 102) ∨ (139 ≤ op ∧ op ≤ 166) ∨ (168 ≤ op ∧ op ≤ 171) ∨ (174 ≤ op ∧ op ≤ 191) ∨ 196 < op)) : F13 [op] [] = some ([0, 0, 0, 0], [false]) := by
  refine Eq.trans (Fd_of (n := 1) (m := 0) (t := t13) (C := Tab.fn a13) rfl rfl) ?_
  rw [t13]
  refine st_itf (show (op == 69) = false from by simp only [Bool.and_eq_false_iff, Bool.or_eq_false_iff, decide_eq_false_iff_not, beq_eq_false_iff_ne, ne_eq, Bool.or_false, Bool.false_or, Bool.and_false, Bool.false_and] <;> omega) ?_
  refine st_lbc (show ((decide (op ≥ 103)) && (decide (op ≤ 105))) = false from by simp only [Bool.and_eq_false_iff, Bool.or_eq_false_iff, decide_eq_false_iff_not, beq_eq_false_iff_ne, ne_eq, Bool.or_false, Bool.false_or, Bool.and_false, Bool.false_and] <;> omega) ?_
  show T.den _ _ [op] [false] = _
  refine st_itf (show false = false from by simp only [Bool.and_eq_false_iff, Bool.or_eq_false_iff, decide_eq_false_iff_not, beq_eq_false_iff_ne, ne_eq, Bool.or_false, Bool.false_or, Bool.and_false, Bool.false_and] <;> omega) ?_
  refine st_itf (show (op == 192) = false from by simp only [Bool.and_eq_false_iff, Bool.or_eq_false_iff, decide_eq_false_iff_not, beq_eq_false_iff_ne, ne_eq, Bool.or_false, Bool.false_or, Bool.and_false, Bool.false_and] <;> omega) ?_
  refine st_itf (show (op == 193) = false from by simp only [Bool.and_eq_false_iff, Bool.or_eq_false_iff, decide_eq_false_iff_not, beq_eq_false_iff_ne, ne_eq, Bool.or_false, Bool.false_or, Bool.and_false, Bool.false_and] <;> omega) ?_
  refine st_itf (show (op == 80) = false from by simp only [Bool.and_eq_false_iff, Bool.or_eq_false_iff, decide_eq_false_iff_not, beq_eq_false_iff_ne, ne_eq, Bool.or_false, Bool.false_or, Bool.and_false, Bool.false_and] <;> omega) ?_
  refine st_itf (show (op == 167) = false from by simp only [Bool.and_eq_false_iff, Bool.or_eq_false_iff, decide_eq_false_iff_not, beq_eq_false_iff_ne, ne_eq, Bool.or_false, Bool.false_or, Bool.and_false, Bool.false_and] <;> omega) ?_
  refine st_lbc (show ((decide (op ≥ 121)) && (decide (op ≤ 123))) = false from by simp only [Bool.and_eq_false_iff, Bool.or_eq_false_iff, decide_eq_false_iff_not, beq_eq_false_iff_ne, ne_eq, Bool.or_false, Bool.false_or, Bool.and_false, Bool.false_and] <;> omega) ?_
  show T.den _ _ [op] [false, false] = _
  refine st_itf (show false = false from by simp only [Bool.and_eq_false_iff, Bool.or_eq_false_iff, decide_eq_false_iff_not, beq_eq_false_iff_ne, ne_eq, Bool.or_false, Bool.false_or, Bool.and_false, Bool.false_and] <;> omega) ?_
  refine st_lbc (show ((decide (op ≥ 194)) && (decide (op ≤ 196))) = false from by simp only [Bool.and_eq_false_iff, Bool.or_eq_false_iff, decide_eq_false_iff_not, beq_eq_false_iff_ne, ne_eq, Bool.or_false, Bool.false_or, Bool.and_false, Bool.false_and] <;> omega) ?_
  show T.den _ _ [op] [false, false, false] = _
  refine st_itf (show false = false from by simp only [Bool.and_eq_false_iff, Bool.or_eq_false_iff, decide_eq_false_iff_not, beq_eq_false_iff_ne, ne_eq, Bool.or_false, Bool.false_or, Bool.and_false, Bool.false_and] <;> omega) ?_
  refine st_itf (show (op == 172) = false from by simp only [Bool.and_eq_false_iff, Bool.or_eq_false_iff, decide_eq_false_iff_not, beq_eq_false_iff_ne, ne_eq, Bool.or_false, Bool.false_or, Bool.and_false, Bool.false_and] <;> omega) ?_
  refine st_itf (show (op == 173) = false from by simp only [Bool.and_eq_false_iff, Bool.or_eq_false_iff, decide_eq_false_iff_not, beq_eq_false_iff_ne, ne_eq, Bool.or_false, Bool.false_or, Bool.and_false, Bool.false_and] <;> omega) ?_
  refine st_lbc (show ((decide (op ≥ 70)) && (decide (op ≤ 79))) = false from by simp only [Bool.and_eq_false_iff, Bool.or_eq_false_iff, decide_eq_false_iff_not, beq_eq_false_iff_ne, ne_eq, Bool.or_false, Bool.false_or, Bool.and_false, Bool.false_and] <;> omega) ?_
  show T.den _ _ [op] [false, false, false, false] = _
  refine st_itf (show false = false from by simp only [Bool.and_eq_false_iff, Bool.or_eq_false_iff, decide_eq_false_iff_not, beq_eq_false_iff_ne, ne_eq, Bool.or_false, Bool.false_or, Bool.and_false, Bool.false_and] <;> omega) ?_
  refine st_lbc (show ((decide (op ≥ 106)) && (decide (op ≤ 120))) = false from by simp only [Bool.and_eq_false_iff, Bool.or_eq_false_iff, decide_eq_false_iff_not, beq_eq_false_iff_ne, ne_eq, Bool.or_false, Bool.false_or, Bool.and_false, Bool.false_and] <;> omega) ?_
  show T.den _ _ [op] [false, false, false, false, false] = _
  refine st_itf (show false = false from by simp only [Bool.and_eq_false_iff, Bool.or_eq_false_iff, decide_eq_false_iff_not, beq_eq_false_iff_ne, ne_eq, Bool.or_false, Bool.false_or, Bool.and_false, Bool.false_and] <;> omega) ?_
  refine st_lbc (show ((decide (op ≥ 81)) && (decide (op ≤ 90))) = false from by simp only [Bool.and_eq_false_iff, Bool.or_eq_false_iff, decide_eq_false_iff_not, beq_eq_false_iff_ne, ne_eq, Bool.or_false, Bool.false_or, Bool.and_false, Bool.false_and] <;> omega) ?_
  show T.den _ _ [op] [false, false, false, false, false, false] = _
  refine st_itf (show false = false from by simp only [Bool.and_eq_false_iff, Bool.or_eq_false_iff, decide_eq_false_iff_not, beq_eq_false_iff_ne, ne_eq, Bool.or_false, Bool.false_or, Bool.and_false, Bool.false_and] <;> omega) ?_
  refine st_lbc (show ((decide (op ≥ 124)) && (decide (op ≤ 138))) = false from by simp only [Bool.and_eq_false_iff, Bool.or_eq_false_iff, decide_eq_false_iff_not, beq_eq_false_iff_ne, ne_eq, Bool.or_false, Bool.false_or, Bool.and_false, Bool.false_and] <;> omega) ?_
  show T.den _ _ [op] [false, false, false, false, false, false, false] = _
  refine st_itf (show false = false from by simp only [Bool.and_eq_false_iff, Bool.or_eq_false_iff, decide_eq_false_iff_not, beq_eq_false_iff_ne, ne_eq, Bool.or_false, Bool.false_or, Bool.and_false, Bool.false_and] <;> omega) ?_
  refine st_ret ?_
  show some ([0, 0, 0, 0], [false]) = _
  rfl

def InR (a : Int) : Prop := 0 ≤ a ∧ a < 18446744073709551616
def dv (op : Int) : Bool := ((decide (op ≥ 109)) && (decide (op ≤ 112))) || ((decide (op ≥ 127)) && (decide (op ≤ 130)))
def U (op : Int) : Prop := ∃ i o : Int, F13 [op] [] = some ([1, i, 0, o], [true]) ∧ dv op = false
def B (op : Int) : Prop := ∃ i o : Int, F13 [op] [] = some ([2, i, i, o], [true]) ∧ ∃ f g : Int → Int → Int, (∀ a b, InR a → InR b → F16 [op, a, b] [] = some ([f a b, g a b], [true])) ∧
  (i = 127 → ∀ a x b y, IntKind.wrap .u32 a = IntKind.wrap .u32 x → IntKind.wrap .u32 b = IntKind.wrap .u32 y → f a b = f x y ∧ g a b = g x y) ∧ (∀ a b, o = 126 ∨ f a b < 4294967296) ∧ (∀ a b, g a b = 0 ∨ f a b = 0) ∧ (dv op = true → ∀ a, g a 0 = 6) ∧ (dv op = false → ∀ a b, g a b = 0)
theorem nat32 (a : Int) : ∃ A : Nat, IntKind.wrap .u32 a = A ∧ A < 4294967296 ∧ (IntKind.wrap .u32 a).toNat = A := by
  rw [wrap_u32]; exact ⟨(a % 4294967296).toNat, by omega, by omega, rfl⟩
theorem w64_lt (n : Nat) (h : n < 4294967296) : IntKind.wrap .u64 (n : Int) < 4294967296 := by rw [wrap_u64]; omega
theorem bif_lt (b : Bool) : (bif b then (1 : Int) else 0) < 4294967296 := by cases b <;> decide
theorem dt_dq (b x y l : Int) : dt b x y l = 0 ∨ dq b x y l = 0 := by
  unfold dt dq; by_cases h : b = 0
  · right; rw [if_pos h]
  · rw [if_neg h, if_neg h]; by_cases h2 : x = l ∧ y = -1
    · right; rw [if_pos h2]
    · left; rw [if_neg h2]
theorem dz_0 (b v : Int) : dz b = 0 ∨ (if b = 0 then 0 else v) = 0 := by
  unfold dz; by_cases h : b = 0
  · right; rw [if_pos h]
  · left; rw [if_neg h]
theorem w0 {v : Int} (h : v = 0) : IntKind.wrap .u64 (IntKind.wrap .u32 v) = 0 := by subst h; decide
theorem ctz_le (w x : Nat) (h : x < 2 ^ w) : Lib.ctz w x ≤ w := by
  unfold Lib.ctz
  by_cases h0 : x = 0
  · rw [if_pos h0]; exact Nat.le_refl _
  · rw [if_neg h0]
    obtain ⟨m, e, h1⟩ := Lib.ctzFrom_spec w x (by omega) h
    omega

theorem U_69 : U 69 := ⟨127, 127, q14_69, by decide⟩

theorem U_103 : U 103 := ⟨127, 127, q14_103, by decide⟩

theorem U_104 : U 104 := ⟨127, 127, q14_104, by decide⟩

theorem U_105 : U 105 := ⟨127, 127, q14_105, by decide⟩

theorem U_192 : U 192 := ⟨127, 127, q14_192, by decide⟩

theorem U_193 : U 193 := ⟨127, 127, q14_193, by decide⟩

theorem U_80 : U 80 := ⟨126, 127, q14_80, by decide⟩

theorem U_167 : U 167 := ⟨126, 127, q14_167, by decide⟩

theorem U_121 : U 121 := ⟨126, 126, q14_121, by decide⟩

theorem U_122 : U 122 := ⟨126, 126, q14_122, by decide⟩

theorem U_123 : U 123 := ⟨126, 126, q14_123, by decide⟩

theorem U_194 : U 194 := ⟨126, 126, q14_194, by decide⟩

theorem U_195 : U 195 := ⟨126, 126, q14_195, by decide⟩

theorem U_196 : U 196 := ⟨126, 126, q14_196, by decide⟩

theorem U_172 : U 172 := ⟨127, 126, q14_172, by decide⟩

theorem U_173 : U 173 := ⟨127, 126, q14_173, by decide⟩

theorem B_70 : B 70 := by
  refine ⟨127, 127, q14_70, fun a b => (bif ((IntKind.wrap .u64 (IntKind.wrap .u32 a)) == (IntKind.wrap .u64 (IntKind.wrap .u32 b))) then 1 else 0), fun a b => 0, ?_, ?_, ?_, ?_, (fun h => by cases h), (fun _ a b => rfl)⟩
  · exact fun a b ha hb => q10_70 a b
  · exact fun _ a x b y h1 h2 => by simp only [h1, h2, and_self]
  · exact fun a b => .inr (bif_lt _)
  · exact fun a b => .inl rfl

theorem B_71 : B 71 := by
  refine ⟨127, 127, q14_71, fun a b => (bif ((IntKind.wrap .u64 (IntKind.wrap .u32 a)) != (IntKind.wrap .u64 (IntKind.wrap .u32 b))) then 1 else 0), fun a b => 0, ?_, ?_, ?_, ?_, (fun h => by cases h), (fun _ a b => rfl)⟩
  · exact fun a b ha hb => q10_71 a b
  · exact fun _ a x b y h1 h2 => by simp only [h1, h2, and_self]
  · exact fun a b => .inr (bif_lt _)
  · exact fun a b => .inl rfl

theorem B_72 : B 72 := by
  refine ⟨127, 127, q14_72, fun a b => (bif (decide ((IntKind.wrap .i64 (IntKind.wrap .i32 (IntKind.wrap .u64 (IntKind.wrap .u32 a)))) < (IntKind.wrap .i64 (IntKind.wrap .i32 (IntKind.wrap .u64 (IntKind.wrap .u32 b)))))) then 1 else 0), fun a b => 0, ?_, ?_, ?_, ?_, (fun h => by cases h), (fun _ a b => rfl)⟩
  · exact fun a b ha hb => q10_72 a b
  · exact fun _ a x b y h1 h2 => by simp only [h1, h2, and_self]
  · exact fun a b => .inr (bif_lt _)
  · exact fun a b => .inl rfl

theorem B_73 : B 73 := by
  refine ⟨127, 127, q14_73, fun a b => (bif (decide ((IntKind.wrap .u64 (IntKind.wrap .u32 a)) < (IntKind.wrap .u64 (IntKind.wrap .u32 b)))) then 1 else 0), fun a b => 0, ?_, ?_, ?_, ?_, (fun h => by cases h), (fun _ a b => rfl)⟩
  · exact fun a b ha hb => q10_73 a b
  · exact fun _ a x b y h1 h2 => by simp only [h1, h2, and_self]
  · exact fun a b => .inr (bif_lt _)
  · exact fun a b => .inl rfl

theorem B_74 : B 74 := by
  refine ⟨127, 127, q14_74, fun a b => (bif (decide ((IntKind.wrap .i64 (IntKind.wrap .i32 (IntKind.wrap .u64 (IntKind.wrap .u32 a)))) > (IntKind.wrap .i64 (IntKind.wrap .i32 (IntKind.wrap .u64 (IntKind.wrap .u32 b)))))) then 1 else 0), fun a b => 0, ?_, ?_, ?_, ?_, (fun h => by cases h), (fun _ a b => rfl)⟩
  · exact fun a b ha hb => q10_74 a b
  · exact fun _ a x b y h1 h2 => by simp only [h1, h2, and_self]
  · exact fun a b => .inr (bif_lt _)
  · exact fun a b => .inl rfl

theorem B_75 : B 75 := by
  refine ⟨127, 127, q14_75, fun a b => (bif (decide ((IntKind.wrap .u64 (IntKind.wrap .u32 a)) > (IntKind.wrap .u64 (IntKind.wrap .u32 b)))) then 1 else 0), fun a b => 0, ?_, ?_, ?_, ?_, (fun h => by cases h), (fun _ a b => rfl)⟩
  · exact fun a b ha hb => q10_75 a b
  · exact fun _ a x b y h1 h2 => by simp only [h1, h2, and_self]
  · exact fun a b => .inr (bif_lt _)
  · exact fun a b => .inl rfl

theorem B_76 : B 76 := by
  refine ⟨127, 127, q14_76, fun a b => (bif (decide ((IntKind.wrap .i64 (IntKind.wrap .i32 (IntKind.wrap .u64 (IntKind.wrap .u32 a)))) ≤ (IntKind.wrap .i64 (IntKind.wrap .i32 (IntKind.wrap .u64 (IntKind.wrap .u32 b)))))) then 1 else 0), fun a b => 0, ?_, ?_, ?_, ?_, (fun h => by cases h), (fun _ a b => rfl)⟩
  · exact fun a b ha hb => q10_76 a b
  · exact fun _ a x b y h1 h2 => by simp only [h1, h2, and_self]
  · exact fun a b => .inr (bif_lt _)
  · exact fun a b => .inl rfl

theorem B_77 : B 77 := by
  refine ⟨127, 127, q14_77, fun a b => (bif (decide ((IntKind.wrap .u64 (IntKind.wrap .u32 a)) ≤ (IntKind.wrap .u64 (IntKind.wrap .u32 b)))) then 1 else 0), fun a b => 0, ?_, ?_, ?_, ?_, (fun h => by cases h), (fun _ a b => rfl)⟩
  · exact fun a b ha hb => q10_77 a b
  · exact fun _ a x b y h1 h2 => by simp only [h1, h2, and_self]
  · exact fun a b => .inr (bif_lt _)
  · exact fun a b => .inl rfl

theorem B_78 : B 78 := by
  refine ⟨127, 127, q14_78, fun a b => (bif (decide ((IntKind.wrap .i64 (IntKind.wrap .i32 (IntKind.wrap .u64 (IntKind.wrap .u32 a)))) ≥ (IntKind.wrap .i64 (IntKind.wrap .i32 (IntKind.wrap .u64 (IntKind.wrap .u32 b)))))) then 1 else 0), fun a b => 0, ?_, ?_, ?_, ?_, (fun h => by cases h), (fun _ a b => rfl)⟩
  · exact fun a b ha hb => q10_78 a b
  · exact fun _ a x b y h1 h2 => by simp only [h1, h2, and_self]
  · exact fun a b => .inr (bif_lt _)
  · exact fun a b => .inl rfl

theorem B_79 : B 79 := by
  refine ⟨127, 127, q14_79, fun a b => (bif (decide ((IntKind.wrap .u64 (IntKind.wrap .u32 a)) ≥ (IntKind.wrap .u64 (IntKind.wrap .u32 b)))) then 1 else 0), fun a b => 0, ?_, ?_, ?_, ?_, (fun h => by cases h), (fun _ a b => rfl)⟩
  · exact fun a b ha hb => q10_79 a b
  · exact fun _ a x b y h1 h2 => by simp only [h1, h2, and_self]
  · exact fun a b => .inr (bif_lt _)
  · exact fun a b => .inl rfl

theorem B_106 : B 106 := by
  refine ⟨127, 127, q14_106, fun a b => (IntKind.wrap .u64 (IntKind.wrap .u32 (arI .add .u64 (IntKind.wrap .u64 (IntKind.wrap .u32 a)) (IntKind.wrap .u64 (IntKind.wrap .u32 b))))), fun a b => 0, ?_, ?_, ?_, ?_, (fun h => by cases h), (fun _ a b => rfl)⟩
  · exact fun a b ha hb => q10_106 a b
  · exact fun _ a x b y h1 h2 => by simp only [h1, h2, and_self]
  · exact fun a b => .inr (u32_lt _)
  · exact fun a b => .inl rfl

theorem B_107 : B 107 := by
  refine ⟨127, 127, q14_107, fun a b => (IntKind.wrap .u64 (IntKind.wrap .u32 (arI .sub .u64 (IntKind.wrap .u64 (IntKind.wrap .u32 a)) (IntKind.wrap .u64 (IntKind.wrap .u32 b))))), fun a b => 0, ?_, ?_, ?_, ?_, (fun h => by cases h), (fun _ a b => rfl)⟩
  · exact fun a b ha hb => q10_107 a b
  · exact fun _ a x b y h1 h2 => by simp only [h1, h2, and_self]
  · exact fun a b => .inr (u32_lt _)
  · exact fun a b => .inl rfl

theorem B_108 : B 108 := by
  refine ⟨127, 127, q14_108, fun a b => (IntKind.wrap .u64 (IntKind.wrap .u32 (arI .mul .u64 (IntKind.wrap .u64 (IntKind.wrap .u32 a)) (IntKind.wrap .u64 (IntKind.wrap .u32 b))))), fun a b => 0, ?_, ?_, ?_, ?_, (fun h => by cases h), (fun _ a b => rfl)⟩
  · exact fun a b ha hb => q10_108 a b
  · exact fun _ a x b y h1 h2 => by simp only [h1, h2, and_self]
  · exact fun a b => .inr (u32_lt _)
  · exact fun a b => .inl rfl

theorem B_109 : B 109 := by
  refine ⟨127, 127, q14_109, fun a b => (IntKind.wrap .u64 (IntKind.wrap .u32 (dq (IntKind.wrap .u64 (IntKind.wrap .u32 b)) (IntKind.wrap .i64 (IntKind.wrap .i32 (IntKind.wrap .u64 (IntKind.wrap .u32 a)))) (IntKind.wrap .i64 (IntKind.wrap .i32 (IntKind.wrap .u64 (IntKind.wrap .u32 b)))) (-2147483648)))), fun a b => (dt (IntKind.wrap .u64 (IntKind.wrap .u32 b)) (IntKind.wrap .i64 (IntKind.wrap .i32 (IntKind.wrap .u64 (IntKind.wrap .u32 a)))) (IntKind.wrap .i64 (IntKind.wrap .i32 (IntKind.wrap .u64 (IntKind.wrap .u32 b)))) (-2147483648)), ?_, ?_, ?_, ?_, (fun _ a => if_pos (by decide)), (fun h => by cases h)⟩
  · exact fun a b ha hb => q10_109 a b
  · exact fun _ a x b y h1 h2 => by simp only [h1, h2, and_self]
  · exact fun a b => .inr (u32_lt _)
  · exact fun a b => (dt_dq _ _ _ _).imp id w0

theorem B_110 : B 110 := by
  refine ⟨127, 127, q14_110, fun a b => (IntKind.wrap .u64 (IntKind.wrap .u32 (uq (IntKind.wrap .u64 (IntKind.wrap .u32 a)) (IntKind.wrap .u64 (IntKind.wrap .u32 b))))), fun a b => (dz (IntKind.wrap .u64 (IntKind.wrap .u32 b))), ?_, ?_, ?_, ?_, (fun _ a => if_pos (by decide)), (fun h => by cases h)⟩
  · exact fun a b ha hb => q10_110 a b
  · exact fun _ a x b y h1 h2 => by simp only [h1, h2, and_self]
  · exact fun a b => .inr (u32_lt _)
  · exact fun a b => (dz_0 _ _).imp id w0

theorem B_111 : B 111 := by
  refine ⟨127, 127, q14_111, fun a b => (IntKind.wrap .u64 (IntKind.wrap .u32 (dr (IntKind.wrap .u64 (IntKind.wrap .u32 b)) (IntKind.wrap .i64 (IntKind.wrap .i32 (IntKind.wrap .u64 (IntKind.wrap .u32 a)))) (IntKind.wrap .i64 (IntKind.wrap .i32 (IntKind.wrap .u64 (IntKind.wrap .u32 b))))))), fun a b => (dz (IntKind.wrap .u64 (IntKind.wrap .u32 b))), ?_, ?_, ?_, ?_, (fun _ a => if_pos (by decide)), (fun h => by cases h)⟩
  · exact fun a b ha hb => q10_111 a b
  · exact fun _ a x b y h1 h2 => by simp only [h1, h2, and_self]
  · exact fun a b => .inr (u32_lt _)
  · exact fun a b => (dz_0 _ _).imp id w0

theorem B_112 : B 112 := by
  refine ⟨127, 127, q14_112, fun a b => (IntKind.wrap .u64 (IntKind.wrap .u32 (ur (IntKind.wrap .u64 (IntKind.wrap .u32 a)) (IntKind.wrap .u64 (IntKind.wrap .u32 b))))), fun a b => (dz (IntKind.wrap .u64 (IntKind.wrap .u32 b))), ?_, ?_, ?_, ?_, (fun _ a => if_pos (by decide)), (fun h => by cases h)⟩
  · exact fun a b ha hb => q10_112 a b
  · exact fun _ a x b y h1 h2 => by simp only [h1, h2, and_self]
  · exact fun a b => .inr (u32_lt _)
  · exact fun a b => (dz_0 _ _).imp id w0

theorem B_113 : B 113 := by
  refine ⟨127, 127, q14_113, fun a b => (IntKind.wrap .u64 (IntKind.wrap .u32 (arI .and .u64 (IntKind.wrap .u64 (IntKind.wrap .u32 a)) (IntKind.wrap .u64 (IntKind.wrap .u32 b))))), fun a b => 0, ?_, ?_, ?_, ?_, (fun h => by cases h), (fun _ a b => rfl)⟩
  · exact fun a b ha hb => q10_113 a b
  · exact fun _ a x b y h1 h2 => by simp only [h1, h2, and_self]
  · exact fun a b => .inr (u32_lt _)
  · exact fun a b => .inl rfl

theorem B_114 : B 114 := by
  refine ⟨127, 127, q14_114, fun a b => (IntKind.wrap .u64 (IntKind.wrap .u32 (arI .or .u64 (IntKind.wrap .u64 (IntKind.wrap .u32 a)) (IntKind.wrap .u64 (IntKind.wrap .u32 b))))), fun a b => 0, ?_, ?_, ?_, ?_, (fun h => by cases h), (fun _ a b => rfl)⟩
  · exact fun a b ha hb => q10_114 a b
  · exact fun _ a x b y h1 h2 => by simp only [h1, h2, and_self]
  · exact fun a b => .inr (u32_lt _)
  · exact fun a b => .inl rfl

theorem B_115 : B 115 := by
  refine ⟨127, 127, q14_115, fun a b => (IntKind.wrap .u64 (IntKind.wrap .u32 (arI .xor .u64 (IntKind.wrap .u64 (IntKind.wrap .u32 a)) (IntKind.wrap .u64 (IntKind.wrap .u32 b))))), fun a b => 0, ?_, ?_, ?_, ?_, (fun h => by cases h), (fun _ a b => rfl)⟩
  · exact fun a b ha hb => q10_115 a b
  · exact fun _ a x b y h1 h2 => by simp only [h1, h2, and_self]
  · exact fun a b => .inr (u32_lt _)
  · exact fun a b => .inl rfl

theorem B_116 : B 116 := by
  refine ⟨127, 127, q14_116, fun a b => (IntKind.wrap .u64 (IntKind.wrap .u32 (arI .shl .u64 (IntKind.wrap .u64 (IntKind.wrap .u32 a)) (arI .rem .u64 (IntKind.wrap .u64 (IntKind.wrap .u32 b)) (32 : Int))))), fun a b => 0, ?_, ?_, ?_, ?_, (fun h => by cases h), (fun _ a b => rfl)⟩
  · exact fun a b ha hb => q10_116 a b
  · exact fun _ a x b y h1 h2 => by simp only [h1, h2, and_self]
  · exact fun a b => .inr (u32_lt _)
  · exact fun a b => .inl rfl

theorem B_117 : B 117 := by
  refine ⟨127, 127, q14_117, fun a b => (IntKind.wrap .u64 (IntKind.wrap .u32 (IntKind.wrap .u64 (arI .shr .i64 (IntKind.wrap .i64 (IntKind.wrap .i32 (IntKind.wrap .u64 (IntKind.wrap .u32 a)))) (arI .rem .u64 (IntKind.wrap .u64 (IntKind.wrap .u32 b)) (32 : Int)))))), fun a b => 0, ?_, ?_, ?_, ?_, (fun h => by cases h), (fun _ a b => rfl)⟩
  · exact fun a b ha hb => q10_117 a b
  · exact fun _ a x b y h1 h2 => by simp only [h1, h2, and_self]
  · exact fun a b => .inr (u32_lt _)
  · exact fun a b => .inl rfl

theorem B_118 : B 118 := by
  refine ⟨127, 127, q14_118, fun a b => (IntKind.wrap .u64 (IntKind.wrap .u32 (arI .shr .u64 (IntKind.wrap .u64 (IntKind.wrap .u32 a)) (arI .rem .u64 (IntKind.wrap .u64 (IntKind.wrap .u32 b)) (32 : Int))))), fun a b => 0, ?_, ?_, ?_, ?_, (fun h => by cases h), (fun _ a b => rfl)⟩
  · exact fun a b ha hb => q10_118 a b
  · exact fun _ a x b y h1 h2 => by simp only [h1, h2, and_self]
  · exact fun a b => .inr (u32_lt _)
  · exact fun a b => .inl rfl

theorem B_119 : B 119 := by
  refine ⟨127, 127, q14_119, fun a b => (IntKind.wrap .u64 (IntKind.wrap .u32 (arI .or .u64 (arI .shl .u64 (IntKind.wrap .u64 (IntKind.wrap .u32 a)) (arI .rem .u64 (IntKind.wrap .u64 (IntKind.wrap .u32 b)) (32 : Int))) (arI .shr .u64 (IntKind.wrap .u64 (IntKind.wrap .u32 a)) (arI .sub .u64 (32 : Int) (arI .rem .u64 (IntKind.wrap .u64 (IntKind.wrap .u32 b)) (32 : Int))))))), fun a b => 0, ?_, ?_, ?_, ?_, (fun h => by cases h), (fun _ a b => rfl)⟩
  · exact fun a b ha hb => q10_119 a b
  · exact fun _ a x b y h1 h2 => by simp only [h1, h2, and_self]
  · exact fun a b => .inr (u32_lt _)
  · exact fun a b => .inl rfl

theorem B_120 : B 120 := by
  refine ⟨127, 127, q14_120, fun a b => (IntKind.wrap .u64 (IntKind.wrap .u32 (arI .or .u64 (arI .shr .u64 (IntKind.wrap .u64 (IntKind.wrap .u32 a)) (arI .rem .u64 (IntKind.wrap .u64 (IntKind.wrap .u32 b)) (32 : Int))) (arI .shl .u64 (IntKind.wrap .u64 (IntKind.wrap .u32 a)) (arI .sub .u64 (32 : Int) (arI .rem .u64 (IntKind.wrap .u64 (IntKind.wrap .u32 b)) (32 : Int))))))), fun a b => 0, ?_, ?_, ?_, ?_, (fun h => by cases h), (fun _ a b => rfl)⟩
  · exact fun a b ha hb => q10_120 a b
  · exact fun _ a x b y h1 h2 => by simp only [h1, h2, and_self]
  · exact fun a b => .inr (u32_lt _)
  · exact fun a b => .inl rfl

theorem B_81 : B 81 := by
  refine ⟨126, 127, q14_81, fun a b => (bif (a == b) then 1 else 0), fun a b => 0, ?_, ?_, ?_, ?_, (fun h => by cases h), (fun _ a b => rfl)⟩
  · exact fun a b ha hb => q10_81 a b
  · exact fun h => by omega
  · exact fun a b => .inr (bif_lt _)
  · exact fun a b => .inl rfl

theorem B_82 : B 82 := by
  refine ⟨126, 127, q14_82, fun a b => (bif (a != b) then 1 else 0), fun a b => 0, ?_, ?_, ?_, ?_, (fun h => by cases h), (fun _ a b => rfl)⟩
  · exact fun a b ha hb => q10_82 a b
  · exact fun h => by omega
  · exact fun a b => .inr (bif_lt _)
  · exact fun a b => .inl rfl

theorem B_83 : B 83 := by
  refine ⟨126, 127, q14_83, fun a b => (bif (decide ((IntKind.wrap .i64 a) < (IntKind.wrap .i64 b))) then 1 else 0), fun a b => 0, ?_, ?_, ?_, ?_, (fun h => by cases h), (fun _ a b => rfl)⟩
  · exact fun a b ha hb => q10_83 a b
  · exact fun h => by omega
  · exact fun a b => .inr (bif_lt _)
  · exact fun a b => .inl rfl

theorem B_84 : B 84 := by
  refine ⟨126, 127, q14_84, fun a b => (bif (decide (a < b)) then 1 else 0), fun a b => 0, ?_, ?_, ?_, ?_, (fun h => by cases h), (fun _ a b => rfl)⟩
  · exact fun a b ha hb => q10_84 a b
  · exact fun h => by omega
  · exact fun a b => .inr (bif_lt _)
  · exact fun a b => .inl rfl

theorem B_85 : B 85 := by
  refine ⟨126, 127, q14_85, fun a b => (bif (decide ((IntKind.wrap .i64 a) > (IntKind.wrap .i64 b))) then 1 else 0), fun a b => 0, ?_, ?_, ?_, ?_, (fun h => by cases h), (fun _ a b => rfl)⟩
  · exact fun a b ha hb => q10_85 a b
  · exact fun h => by omega
  · exact fun a b => .inr (bif_lt _)
  · exact fun a b => .inl rfl

theorem B_86 : B 86 := by
  refine ⟨126, 127, q14_86, fun a b => (bif (decide (a > b)) then 1 else 0), fun a b => 0, ?_, ?_, ?_, ?_, (fun h => by cases h), (fun _ a b => rfl)⟩
  · exact fun a b ha hb => q10_86 a b
  · exact fun h => by omega
  · exact fun a b => .inr (bif_lt _)
  · exact fun a b => .inl rfl

theorem B_87 : B 87 := by
  refine ⟨126, 127, q14_87, fun a b => (bif (decide ((IntKind.wrap .i64 a) ≤ (IntKind.wrap .i64 b))) then 1 else 0), fun a b => 0, ?_, ?_, ?_, ?_, (fun h => by cases h), (fun _ a b => rfl)⟩
  · exact fun a b ha hb => q10_87 a b
  · exact fun h => by omega
  · exact fun a b => .inr (bif_lt _)
  · exact fun a b => .inl rfl

theorem B_88 : B 88 := by
  refine ⟨126, 127, q14_88, fun a b => (bif (decide (a ≤ b)) then 1 else 0), fun a b => 0, ?_, ?_, ?_, ?_, (fun h => by cases h), (fun _ a b => rfl)⟩
  · exact fun a b ha hb => q10_88 a b
  · exact fun h => by omega
  · exact fun a b => .inr (bif_lt _)
  · exact fun a b => .inl rfl

theorem B_89 : B 89 := by
  refine ⟨126, 127, q14_89, fun a b => (bif (decide ((IntKind.wrap .i64 a) ≥ (IntKind.wrap .i64 b))) then 1 else 0), fun a b => 0, ?_, ?_, ?_, ?_, (fun h => by cases h), (fun _ a b => rfl)⟩
  · exact fun a b ha hb => q10_89 a b
  · exact fun h => by omega
  · exact fun a b => .inr (bif_lt _)
  · exact fun a b => .inl rfl

theorem B_90 : B 90 := by
  refine ⟨126, 127, q14_90, fun a b => (bif (decide (a ≥ b)) then 1 else 0), fun a b => 0, ?_, ?_, ?_, ?_, (fun h => by cases h), (fun _ a b => rfl)⟩
  · exact fun a b ha hb => q10_90 a b
  · exact fun h => by omega
  · exact fun a b => .inr (bif_lt _)
  · exact fun a b => .inl rfl

theorem B_124 : B 124 := by
  refine ⟨126, 126, q14_124, fun a b => (arI .add .u64 a b), fun a b => 0, ?_, ?_, ?_, ?_, (fun h => by cases h), (fun _ a b => rfl)⟩
  · exact fun a b ha hb => q10_124 a b
  · exact fun h => by omega
  · exact fun a b => .inl rfl
  · exact fun a b => .inl rfl

theorem B_125 : B 125 := by
  refine ⟨126, 126, q14_125, fun a b => (arI .sub .u64 a b), fun a b => 0, ?_, ?_, ?_, ?_, (fun h => by cases h), (fun _ a b => rfl)⟩
  · exact fun a b ha hb => q10_125 a b
  · exact fun h => by omega
  · exact fun a b => .inl rfl
  · exact fun a b => .inl rfl

theorem B_126 : B 126 := by
  refine ⟨126, 126, q14_126, fun a b => (arI .mul .u64 a b), fun a b => 0, ?_, ?_, ?_, ?_, (fun h => by cases h), (fun _ a b => rfl)⟩
  · exact fun a b ha hb => q10_126 a b
  · exact fun h => by omega
  · exact fun a b => .inl rfl
  · exact fun a b => .inl rfl

theorem B_127 : B 127 := by
  refine ⟨126, 126, q14_127, fun a b => (dq b (IntKind.wrap .i64 a) (IntKind.wrap .i64 b) (-9223372036854775808)), fun a b => (dt b (IntKind.wrap .i64 a) (IntKind.wrap .i64 b) (-9223372036854775808)), ?_, ?_, ?_, ?_, (fun _ a => if_pos (by decide)), (fun h => by cases h)⟩
  · exact fun a b ha hb => q10_127 a b hb.1 hb.2
  · exact fun h => by omega
  · exact fun a b => .inl rfl
  · exact fun a b => dt_dq _ _ _ _

theorem B_128 : B 128 := by
  refine ⟨126, 126, q14_128, fun a b => (uq a b), fun a b => (dz b), ?_, ?_, ?_, ?_, (fun _ a => if_pos (by decide)), (fun h => by cases h)⟩
  · exact fun a b ha hb => q10_128 a b hb.1 hb.2
  · exact fun h => by omega
  · exact fun a b => .inl rfl
  · exact fun a b => dz_0 _ _

theorem B_129 : B 129 := by
  refine ⟨126, 126, q14_129, fun a b => (dr b (IntKind.wrap .i64 a) (IntKind.wrap .i64 b)), fun a b => (dz b), ?_, ?_, ?_, ?_, (fun _ a => if_pos (by decide)), (fun h => by cases h)⟩
  · exact fun a b ha hb => q10_129 a b hb.1 hb.2
  · exact fun h => by omega
  · exact fun a b => .inl rfl
  · exact fun a b => dz_0 _ _

theorem B_130 : B 130 := by
  refine ⟨126, 126, q14_130, fun a b => (ur a b), fun a b => (dz b), ?_, ?_, ?_, ?_, (fun _ a => if_pos (by decide)), (fun h => by cases h)⟩
  · exact fun a b ha hb => q10_130 a b hb.1 hb.2
  · exact fun h => by omega
  · exact fun a b => .inl rfl
  · exact fun a b => dz_0 _ _

theorem B_131 : B 131 := by
  refine ⟨126, 126, q14_131, fun a b => (arI .and .u64 a b), fun a b => 0, ?_, ?_, ?_, ?_, (fun h => by cases h), (fun _ a b => rfl)⟩
  · exact fun a b ha hb => q10_131 a b
  · exact fun h => by omega
  · exact fun a b => .inl rfl
  · exact fun a b => .inl rfl

theorem B_132 : B 132 := by
  refine ⟨126, 126, q14_132, fun a b => (arI .or .u64 a b), fun a b => 0, ?_, ?_, ?_, ?_, (fun h => by cases h), (fun _ a b => rfl)⟩
  · exact fun a b ha hb => q10_132 a b
  · exact fun h => by omega
  · exact fun a b => .inl rfl
  · exact fun a b => .inl rfl

theorem B_133 : B 133 := by
  refine ⟨126, 126, q14_133, fun a b => (arI .xor .u64 a b), fun a b => 0, ?_, ?_, ?_, ?_, (fun h => by cases h), (fun _ a b => rfl)⟩
  · exact fun a b ha hb => q10_133 a b
  · exact fun h => by omega
  · exact fun a b => .inl rfl
  · exact fun a b => .inl rfl

theorem B_134 : B 134 := by
  refine ⟨126, 126, q14_134, fun a b => (arI .shl .u64 a (arI .rem .u64 b (64 : Int))), fun a b => 0, ?_, ?_, ?_, ?_, (fun h => by cases h), (fun _ a b => rfl)⟩
  · exact fun a b ha hb => q10_134 a b hb.1
  · exact fun h => by omega
  · exact fun a b => .inl rfl
  · exact fun a b => .inl rfl

theorem B_135 : B 135 := by
  refine ⟨126, 126, q14_135, fun a b => (IntKind.wrap .u64 (arI .shr .i64 (IntKind.wrap .i64 a) (arI .rem .u64 b (64 : Int)))), fun a b => 0, ?_, ?_, ?_, ?_, (fun h => by cases h), (fun _ a b => rfl)⟩
  · exact fun a b ha hb => q10_135 a b hb.1
  · exact fun h => by omega
  · exact fun a b => .inl rfl
  · exact fun a b => .inl rfl

theorem B_136 : B 136 := by
  refine ⟨126, 126, q14_136, fun a b => (arI .shr .u64 a (arI .rem .u64 b (64 : Int))), fun a b => 0, ?_, ?_, ?_, ?_, (fun h => by cases h), (fun _ a b => rfl)⟩
  · exact fun a b ha hb => q10_136 a b hb.1
  · exact fun h => by omega
  · exact fun a b => .inl rfl
  · exact fun a b => .inl rfl

theorem B_137 : B 137 := by
  refine ⟨126, 126, q14_137, fun a b => (arI .or .u64 (arI .shl .u64 a (arI .rem .u64 b (64 : Int))) (arI .shr .u64 a (arI .sub .u64 (64 : Int) (arI .rem .u64 b (64 : Int))))), fun a b => 0, ?_, ?_, ?_, ?_, (fun h => by cases h), (fun _ a b => rfl)⟩
  · exact fun a b ha hb => q10_137 a b hb.1
  · exact fun h => by omega
  · exact fun a b => .inl rfl
  · exact fun a b => .inl rfl

theorem B_138 : B 138 := by
  refine ⟨126, 126, q14_138, fun a b => (arI .or .u64 (arI .shr .u64 a (arI .rem .u64 b (64 : Int))) (arI .shl .u64 a (arI .sub .u64 (64 : Int) (arI .rem .u64 b (64 : Int))))), fun a b => 0, ?_, ?_, ?_, ?_, (fun h => by cases h), (fun _ a b => rfl)⟩
  · exact fun a b ha hb => q10_138 a b hb.1
  · exact fun h => by omega
  · exact fun a b => .inl rfl
  · exact fun a b => .inl rfl

theorem cases (op : Int) : F13 [op] [] = some ([0, 0, 0, 0], [false]) ∨ U op ∨ B op := by

  by_cases h69 : 69 ≤ op ∧ op ≤ 90

  · by_cases e69 : op = 69
    · subst e69; exact .inr (.inl U_69)

    by_cases e70 : op = 70
    · subst e70; exact .inr (.inr B_70)

    by_cases e71 : op = 71
    · subst e71; exact .inr (.inr B_71)

    by_cases e72 : op = 72
    · subst e72; exact .inr (.inr B_72)

    by_cases e73 : op = 73
    · subst e73; exact .inr (.inr B_73)

    by_cases e74 : op = 74
    · subst e74; exact .inr (.inr B_74)

    by_cases e75 : op = 75
    · subst e75; exact .inr (.inr B_75)

    by_cases e76 : op = 76
    · subst e76; exact .inr (.inr B_76)

    by_cases e77 : op = 77
    · subst e77; exact .inr (.inr B_77)

    by_cases e78 : op = 78
    · subst e78; exact .inr (.inr B_78)

    by_cases e79 : op = 79
    · subst e79; exact .inr (.inr B_79)

    by_cases e80 : op = 80
    · subst e80; exact .inr (.inl U_80)

    by_cases e81 : op = 81
    · subst e81; exact .inr (.inr B_81)

    by_cases e82 : op = 82
    · subst e82; exact .inr (.inr B_82)

    by_cases e83 : op = 83
    · subst e83; exact .inr (.inr B_83)

    by_cases e84 : op = 84
    · subst e84; exact .inr (.inr B_84)

    by_cases e85 : op = 85
    · subst e85; exact .inr (.inr B_85)

    by_cases e86 : op = 86
    · subst e86; exact .inr (.inr B_86)

    by_cases e87 : op = 87
    · subst e87; exact .inr (.inr B_87)

    by_cases e88 : op = 88
    · subst e88; exact .inr (.inr B_88)

    by_cases e89 : op = 89
    · subst e89; exact .inr (.inr B_89)

    have e90 : op = 90 := by omega
    subst e90; exact .inr (.inr B_90)

  by_cases h103 : 103 ≤ op ∧ op ≤ 138

  · by_cases e103 : op = 103
    · subst e103; exact .inr (.inl U_103)

    by_cases e104 : op = 104
    · subst e104; exact .inr (.inl U_104)

    by_cases e105 : op = 105
    · subst e105; exact .inr (.inl U_105)

    by_cases e106 : op = 106
    · subst e106; exact .inr (.inr B_106)

    by_cases e107 : op = 107
    · subst e107; exact .inr (.inr B_107)

    by_cases e108 : op = 108
    · subst e108; exact .inr (.inr B_108)

    by_cases e109 : op = 109
    · subst e109; exact .inr (.inr B_109)

    by_cases e110 : op = 110
    · subst e110; exact .inr (.inr B_110)

    by_cases e111 : op = 111
    · subst e111; exact .inr (.inr B_111)

    by_cases e112 : op = 112
    · subst e112; exact .inr (.inr B_112)

    by_cases e113 : op = 113
    · subst e113; exact .inr (.inr B_113)

    by_cases e114 : op = 114
    · subst e114; exact .inr (.inr B_114)

    by_cases e115 : op = 115
    · subst e115; exact .inr (.inr B_115)

    by_cases e116 : op = 116
    · subst e116; exact .inr (.inr B_116)

    by_cases e117 : op = 117
    · subst e117; exact .inr (.inr B_117)

    by_cases e118 : op = 118
    · subst e118; exact .inr (.inr B_118)

    by_cases e119 : op = 119
    · subst e119; exact .inr (.inr B_119)

    by_cases e120 : op = 120
    · subst e120; exact .inr (.inr B_120)

    by_cases e121 : op = 121
    · subst e121; exact .inr (.inl U_121)

    by_cases e122 : op = 122
    · subst e122; exact .inr (.inl U_122)

    by_cases e123 : op = 123
    · subst e123; exact .inr (.inl U_123)

    by_cases e124 : op = 124
    · subst e124; exact .inr (.inr B_124)

    by_cases e125 : op = 125
    · subst e125; exact .inr (.inr B_125)

    by_cases e126 : op = 126
    · subst e126; exact .inr (.inr B_126)

    by_cases e127 : op = 127
    · subst e127; exact .inr (.inr B_127)

    by_cases e128 : op = 128
    · subst e128; exact .inr (.inr B_128)

    by_cases e129 : op = 129
    · subst e129; exact .inr (.inr B_129)

    by_cases e130 : op = 130
    · subst e130; exact .inr (.inr B_130)

    by_cases e131 : op = 131
    · subst e131; exact .inr (.inr B_131)

    by_cases e132 : op = 132
    · subst e132; exact .inr (.inr B_132)

    by_cases e133 : op = 133
    · subst e133; exact .inr (.inr B_133)

    by_cases e134 : op = 134
    · subst e134; exact .inr (.inr B_134)

    by_cases e135 : op = 135
    · subst e135; exact .inr (.inr B_135)

    by_cases e136 : op = 136
    · subst e136; exact .inr (.inr B_136)

    by_cases e137 : op = 137
    · subst e137; exact .inr (.inr B_137)

    have e138 : op = 138 := by omega
    subst e138; exact .inr (.inr B_138)

  by_cases h167 : 167 ≤ op ∧ op ≤ 167

  · have e167 : op = 167 := by omega
    subst e167; exact .inr (.inl U_167)

  by_cases h172 : 172 ≤ op ∧ op ≤ 173

  · by_cases e172 : op = 172
    · subst e172; exact .inr (.inl U_172)

    have e173 : op = 173 := by omega
    subst e173; exact .inr (.inl U_173)

  by_cases h192 : 192 ≤ op ∧ op ≤ 196

  · by_cases e192 : op = 192
    · subst e192; exact .inr (.inl U_192)

    by_cases e193 : op = 193
    · subst e193; exact .inr (.inl U_193)

    by_cases e194 : op = 194
    · subst e194; exact .inr (.inl U_194)

    by_cases e195 : op = 195
    · subst e195; exact .inr (.inl U_195)

    have e196 : op = 196 := by omega
    subst e196; exact .inr (.inl U_196)

  exact .inl (q14_out op (by omega))

theorem e5_10 : Tab.fn a5 10 = F10 := Tab.fn_hd
theorem e5_11 : Tab.fn a5 11 = F11 := ((Tab.fn_tl rfl).trans Tab.fn_hd)
theorem e5_13 : Tab.fn a5 13 = F13 := ((Tab.fn_tl rfl).trans ((Tab.fn_tl rfl).trans Tab.fn_hd))
theorem e5_19 : Tab.fn a5 19 = F19 := ((Tab.fn_tl rfl).trans ((Tab.fn_tl rfl).trans ((Tab.fn_tl rfl).trans Tab.fn_hd)))
theorem e5_14 : Tab.fn a5 14 = F14 := ((Tab.fn_tl rfl).trans ((Tab.fn_tl rfl).trans ((Tab.fn_tl rfl).trans ((Tab.fn_tl rfl).trans Tab.fn_hd))))
theorem e5_16 : Tab.fn a5 16 = F16 := ((Tab.fn_tl rfl).trans ((Tab.fn_tl rfl).trans ((Tab.fn_tl rfl).trans ((Tab.fn_tl rfl).trans ((Tab.fn_tl rfl).trans Tab.fn_hd)))))
theorem e5_20 : Tab.fn a5 20 = F20 := ((Tab.fn_tl rfl).trans ((Tab.fn_tl rfl).trans ((Tab.fn_tl rfl).trans ((Tab.fn_tl rfl).trans ((Tab.fn_tl rfl).trans ((Tab.fn_tl rfl).trans Tab.fn_hd))))))
theorem e5_15 : Tab.fn a5 15 = F15 := ((Tab.fn_tl rfl).trans ((Tab.fn_tl rfl).trans ((Tab.fn_tl rfl).trans ((Tab.fn_tl rfl).trans ((Tab.fn_tl rfl).trans ((Tab.fn_tl rfl).trans ((Tab.fn_tl rfl).trans Tab.fn_hd)))))))
theorem e19_13 : Tab.fn a19 13 = F13 := Tab.fn_hd
theorem e19_41 : Tab.fn a19 41 = F41 := ((Tab.fn_tl rfl).trans Tab.fn_hd)
theorem e19_32 : Tab.fn a19 32 = F32 := ((Tab.fn_tl rfl).trans ((Tab.fn_tl rfl).trans Tab.fn_hd))
theorem e19_18 : Tab.fn a19 18 = F18 := ((Tab.fn_tl rfl).trans ((Tab.fn_tl rfl).trans ((Tab.fn_tl rfl).trans Tab.fn_hd)))
theorem e19_42 : Tab.fn a19 42 = F42 := ((Tab.fn_tl rfl).trans ((Tab.fn_tl rfl).trans ((Tab.fn_tl rfl).trans ((Tab.fn_tl rfl).trans Tab.fn_hd))))
theorem e19_16 : Tab.fn a19 16 = F16 := ((Tab.fn_tl rfl).trans ((Tab.fn_tl rfl).trans ((Tab.fn_tl rfl).trans ((Tab.fn_tl rfl).trans ((Tab.fn_tl rfl).trans Tab.fn_hd)))))

theorem q41 (op : Int) : F41 [op] [] = some ([], [dv op]) := rfl
theorem q14 (t n : Int) : F14 [t, n] [] = some ([], [(t != 127) || (decide (n < 4294967296))]) := rfl
theorem len_ne {i : Int} {n m : Int} (h : i = n) (hc : (i == m) = true) (hn : n ≠ m) : False := by rw [beq_iff_eq] at hc; omega
theorem len_no {i : Int} {n m : Int} (h : i = n) (hc : (i == m) = false) (hn : n = m) : False := by rw [beq_eq_false_iff_ne] at hc; omega
theorem dv_out {op : Int} (h : (op < 69 ∨ (91 ≤ op ∧ op ≤ 102) ∨ (139 ≤ op ∧ op ≤ 166) ∨ (168 ≤ op ∧ op ≤ 171) ∨ (174 ≤ op ∧ op ≤ 191) ∨ 196 < op)) : dv op = false := by
  unfold dv
  rw [Bool.or_eq_false_iff, Bool.and_eq_false_iff, Bool.and_eq_false_iff, decide_eq_false_iff_not, decide_eq_false_iff_not, decide_eq_false_iff_not, decide_eq_false_iff_not]
  omega

def tr (g : Int → Int → Int) (i a b N r c d M q : Int) : Bool :=
  (sure (cc1 c d i) (cc2 c d i) (cc3 c d i M) (cc4 c d i q) && !(yes (cc1 c d i) (cc2 c d i) (cc3 c d i M) (cc4 c d i q))) ||
  ((ob (cc1 a b i) (cc2 a b i) (cc3 a b i N) && ob (cc1 c d i) (cc2 c d i) (cc3 c d i M)) && (g (ov (cc1 a b i) (cc2 a b i) (cc3 a b i N) (cc4 a b i r)) (ov (cc1 c d i) (cc2 c d i) (cc3 c d i M) (cc4 c d i q)) != 0))

set_option maxHeartbeats 4000000 in
theorem q19_o (op a b N r c d M q : Int) (ha : InR a) (hb : InR b) (hr : InR r) (hc : InR c) (hd : InR d) (hq : InR q) (hT : F13 [op] [] = some ([0, 0, 0, 0], [false])) : F19 [op, a, b, N, r, c, d, M, q] [] = some ([], [false]) := by
  refine Eq.trans (Fd_of (n := 9) (m := 0) (t := t19) (C := Tab.fn a19) rfl rfl) ?_
  rw [t19]
  refine st_4_1 (e19_13) (g := true) rfl (l := [op]) rfl (m := []) rfl (cl_t hT) fun i9 i10 i11 i12 b0 hi9 hi10 hi11 hi12 hb0 => ?_
  show T.den _ _ [op, a, b, N, r, c, d, M, q, i9, i10, i11, i12] [b0] = _
  refine st_ite (fun hc => ?_) (fun hc => ?_)
  · replace hc : (i9 == 0) = true := hc
    have c1 := hc
    clear hc
    refine st_0_1 (e19_41) (g := b0) rfl (l := [op]) rfl (m := []) rfl (cl_b (q41 op)) fun b1 hb1 => ?_
    show T.den _ _ [op, a, b, N, r, c, d, M, q, i9, i10, i11, i12] [b0, b1] = _
    refine st_ite (fun hc => ?_) (fun hc => ?_)
    · replace hc : ((!b0) || (!b1)) = true := hc
      have c2 := hc
      clear hc
      refine st_ret ?_
      show some ([], [false]) = _
      rfl
    · replace hc : ((!b0) || (!b1)) = false := hc
      have c3 := hc
      clear hc
      rw [hb0] at c3; cases c3
  · replace hc : (i9 == 0) = false := hc
    have c4 := hc
    clear hc
    exact (len_no hi9 c4 rfl).elim

set_option maxHeartbeats 4000000 in
theorem q19_u (op a b N r c d M q : Int) (ha : InR a) (hb : InR b) (hr : InR r) (hc : InR c) (hd : InR d) (hq : InR q) (hU : U op) : F19 [op, a, b, N, r, c, d, M, q] [] = some ([], [false]) := by
  obtain ⟨i, o, hT, hdv⟩ := hU
  refine Eq.trans (Fd_of (n := 9) (m := 0) (t := t19) (C := Tab.fn a19) rfl rfl) ?_
  rw [t19]
  refine st_4_1 (e19_13) (g := true) rfl (l := [op]) rfl (m := []) rfl (cl_t hT) fun i9 i10 i11 i12 b0 hi9 hi10 hi11 hi12 hb0 => ?_
  show T.den _ _ [op, a, b, N, r, c, d, M, q, i9, i10, i11, i12] [b0] = _
  refine st_ite (fun hc => ?_) (fun hc => ?_)
  · replace hc : (i9 == 0) = true := hc
    have c1 := hc
    clear hc
    exact (len_ne hi9 c1 (by decide)).elim
  · replace hc : (i9 == 0) = false := hc
    have c2 := hc
    clear hc
    refine st_ite (fun hc => ?_) (fun hc => ?_)
    · replace hc : (i9 == 1) = true := hc
      have c3 := hc
      clear hc
      refine st_0_1 (e19_41) (g := b0) rfl (l := [op]) rfl (m := []) rfl (cl_b (q41 op)) fun b1 hb1 => ?_
      show T.den _ _ [op, a, b, N, r, c, d, M, q, i9, i10, i11, i12] [b0, b1] = _
      refine st_ite (fun hc => ?_) (fun hc => ?_)
      · replace hc : ((!b0) || (!b1)) = true := hc
        have c4 := hc
        clear hc
        refine st_ret ?_
        show some ([], [false]) = _
        rfl
      · replace hc : ((!b0) || (!b1)) = false := hc
        have c5 := hc
        clear hc
        refine st_4_0 (e19_32) (g := true) rfl (l := [a, b, N, r, i10]) rfl (m := []) rfl (cl_t ((show F32 [a, b, N, r, i10] [] = F32 [a, b, N, r, i] [] from by rw [hi10]).trans (q32 a b N r i ha.1))) fun i13 i14 i15 i16 hi13 hi14 hi15 hi16 => ?_
        show T.den _ _ [op, a, b, N, r, c, d, M, q, i9, i10, i11, i12, i13, i14, i15, i16] [b0, b1] = _
        rw [hb1, hb0, hdv] at c5; cases c5
    · replace hc : (i9 == 1) = false := hc
      have c6 := hc
      clear hc
      exact (len_no hi9 c6 rfl).elim

set_option maxHeartbeats 4000000 in
theorem q19_b (op a b N r c d M q : Int) (ha : InR a) (hb : InR b) (hr : InR r) (hc : InR c) (hd : InR d) (hq : InR q) (i o : Int) (f g : Int → Int → Int) (hT : F13 [op] [] = some ([2, i, i, o], [true])) (hf : ∀ a b, InR a → InR b → F16 [op, a, b] [] = some ([f a b, g a b], [true])) : F19 [op, a, b, N, r, c, d, M, q] [] = some ([], [dv op && tr g i a b N r c d M q]) := by
  refine Eq.trans (Fd_of (n := 9) (m := 0) (t := t19) (C := Tab.fn a19) rfl rfl) ?_
  rw [t19]
  refine st_4_1 (e19_13) (g := true) rfl (l := [op]) rfl (m := []) rfl (cl_t hT) fun i9 i10 i11 i12 b0 hi9 hi10 hi11 hi12 hb0 => ?_
  show T.den _ _ [op, a, b, N, r, c, d, M, q, i9, i10, i11, i12] [b0] = _
  refine st_ite (fun hc => ?_) (fun hc => ?_)
  · replace hc : (i9 == 0) = true := hc
    have c1 := hc
    clear hc
    exact (len_ne hi9 c1 (by decide)).elim
  · replace hc : (i9 == 0) = false := hc
    have c2 := hc
    clear hc
    refine st_ite (fun hc => ?_) (fun hc => ?_)
    · replace hc : (i9 == 1) = true := hc
      have c3 := hc
      clear hc
      exact (len_ne hi9 c3 (by decide)).elim
    · replace hc : (i9 == 1) = false := hc
      have c4 := hc
      clear hc
      refine st_ite (fun hc => ?_) (fun hc => ?_)
      · replace hc : (i9 == 2) = true := hc
        have c5 := hc
        clear hc
        refine st_0_1 (e19_41) (g := b0) rfl (l := [op]) rfl (m := []) rfl (cl_b (q41 op)) fun b1 hb1 => ?_
        show T.den _ _ [op, a, b, N, r, c, d, M, q, i9, i10, i11, i12] [b0, b1] = _
        refine st_ite (fun hc => ?_) (fun hc => ?_)
        · replace hc : ((!b0) || (!b1)) = true := hc
          have c6 := hc
          clear hc
          refine st_ret ?_
          show some ([], [false]) = _
          refine rb ?_
          have e : dv op = false := by rw [hb1, hb0] at c6; simpa using c6
          rw [e]; rfl
        · replace hc : ((!b0) || (!b1)) = false := hc
          have c7 := hc
          clear hc
          refine st_4_0 (e19_32) (g := true) rfl (l := [a, b, N, r, i10]) rfl (m := []) rfl (cl_t ((show F32 [a, b, N, r, i10] [] = F32 [a, b, N, r, i] [] from by rw [hi10]).trans (q32 a b N r i ha.1))) fun i13 i14 i15 i16 hi13 hi14 hi15 hi16 => ?_
          show T.den _ _ [op, a, b, N, r, c, d, M, q, i9, i10, i11, i12, i13, i14, i15, i16] [b0, b1] = _
          refine st_4_0 (e19_32) (g := true) rfl (l := [c, d, M, q, i11]) rfl (m := []) rfl (cl_t ((show F32 [c, d, M, q, i11] [] = F32 [c, d, M, q, i] [] from by rw [hi11]).trans (q32 c d M q i hc.1))) fun i17 i18 i19 i20 hi17 hi18 hi19 hi20 => ?_
          show T.den _ _ [op, a, b, N, r, c, d, M, q, i9, i10, i11, i12, i13, i14, i15, i16, i17, i18, i19, i20] [b0, b1] = _
          refine st_0_2 (e19_18) (g := true) rfl (l := [i17, i18, i19, i20]) rfl (m := []) rfl (cl_t (q18 i17 i18 i19 i20)) fun b2 b3 hb2 hb3 => ?_
          show T.den _ _ [op, a, b, N, r, c, d, M, q, i9, i10, i11, i12, i13, i14, i15, i16, i17, i18, i19, i20] [b0, b1, b2, b3] = _
          refine st_ite (fun hc => ?_) (fun hc => ?_)
          · replace hc : (b3 && (!b2)) = true := hc
            have c8 := hc
            clear hc
            refine st_ret ?_
            show some ([], [true]) = _
            have e : dv op = true := by rw [hb1, hb0] at c7; simpa using c7
            refine rb ?_
            rw [e, Bool.true_and]; unfold tr
            rw [hb3, hb2] at c8; rw [← hi17, ← hi18, ← hi19, ← hi20, c8]; rfl
          · replace hc : (b3 && (!b2)) = false := hc
            have c9 := hc
            clear hc
            refine st_1_1 (e19_42) (g := true) rfl (l := [i13, i14, i15, i16]) rfl (m := []) rfl (cl_t (q42 i13 i14 i15 i16)) fun i21 b4 hi21 hb4 => ?_
            show T.den _ _ [op, a, b, N, r, c, d, M, q, i9, i10, i11, i12, i13, i14, i15, i16, i17, i18, i19, i20, i21] [b0, b1, b2, b3, b4] = _
            refine st_1_1 (e19_42) (g := true) rfl (l := [i17, i18, i19, i20]) rfl (m := []) rfl (cl_t (q42 i17 i18 i19 i20)) fun i22 b5 hi22 hb5 => ?_
            show T.den _ _ [op, a, b, N, r, c, d, M, q, i9, i10, i11, i12, i13, i14, i15, i16, i17, i18, i19, i20, i21, i22] [b0, b1, b2, b3, b4, b5] = _
            refine st_ite (fun hc => ?_) (fun hc => ?_)
            · replace hc : ((!b4) || (!b5)) = true := hc
              have c10 := hc
              clear hc
              refine st_ret ?_
              show some ([], [false]) = _
              have e : dv op = true := by rw [hb1, hb0] at c7; simpa using c7
              refine rb ?_
              rw [e, Bool.true_and]; unfold tr
              rw [hb3, hb2] at c9
              rw [hb4, hb5] at c10
              rw [← hi13, ← hi14, ← hi15, ← hi17, ← hi18, ← hi19, ← hi20, c9, Bool.false_or]
              have e2 : (ob i13 i14 i15 && ob i17 i18 i19) = false := by revert c10; cases ob i13 i14 i15 <;> cases ob i17 i18 i19 <;> simp
              rw [e2]; rfl
            · replace hc : ((!b4) || (!b5)) = false := hc
              have c11 := hc
              clear hc
              refine st_2_1 (e19_16) (g := true) rfl (l := [op, i21, i22]) rfl (m := []) rfl (cl_t (hf i21 i22 (by rw [hi21, hi13, hi14, hi15, hi16]; exact ov_in (cc1_in ha) (cc4_in hr)) (by rw [hi22, hi17, hi18, hi19, hi20]; exact ov_in (cc1_in hc) (cc4_in hq)))) fun i23 i24 b6 hi23 hi24 hb6 => ?_
              show T.den _ _ [op, a, b, N, r, c, d, M, q, i9, i10, i11, i12, i13, i14, i15, i16, i17, i18, i19, i20, i21, i22, i23, i24] [b0, b1, b2, b3, b4, b5, b6] = _
              refine st_ret ?_
              show some ([], [(i24 != 0)]) = _
              have e : dv op = true := by rw [hb1, hb0] at c7; simpa using c7
              refine rb ?_
              rw [e, Bool.true_and]; unfold tr
              rw [hb3, hb2] at c9
              rw [hb4, hb5] at c11
              rw [← hi13, ← hi14, ← hi15, ← hi16, ← hi17, ← hi18, ← hi19, ← hi20, c9, Bool.false_or]
              have e2 : (ob i13 i14 i15 && ob i17 i18 i19) = true := by revert c11; cases ob i13 i14 i15 <;> cases ob i17 i18 i19 <;> simp
              rw [e2, hi24, hi21, hi22]; rfl
      · replace hc : (i9 == 2) = false := hc
        have c12 := hc
        clear hc
        exact (len_no hi9 c12 rfl).elim

/-- What surely traps does. -/
theorem tr_has {g : Int → Int → Int} (hg : ∀ x, g x 0 = 6) {i a b N r c d M q n m : Int} (ha : InR a) (hb : InR b) (hr : InR r) (hc : InR c) (hd : InR d) (hq : InR q) (hn : InR n) (hm : InR m) (hin : i = 127 → n < 4294967296) (him : i = 127 → m < 4294967296)
    (h1 : hA a b N r n = true) (h2 : hA c d M q m = true) (h : tr g i a b N r c d M q = true) : g n m ≠ 0 := by
  have k1 := cut_has hin h1
  have k2 := cut_has him h2
  unfold tr at h
  rw [Bool.or_eq_true, Bool.and_eq_true (_ && _), Bool.and_eq_true (ob _ _ _)] at h
  rcases h with h | ⟨⟨h3, h4⟩, h5⟩
  · have := sure_no (cc2_in hc.1 hd) (cc4_in hq) hm h k2
    rw [this, hg]; decide
  · rw [one_has (cc4_in hr) hn h3 k1, one_has (cc4_in hq) hm h4 k2] at h5
    simpa using h5
theorem tr_const {g : Int → Int → Int} (hg : ∀ x, g x 0 = 6) {i n m : Int} (hin : i = 127 → n < 4294967296) (him : i = 127 → m < 4294967296) : tr g i n n 64 n m m 64 m = (g n m != 0) := by
  obtain ⟨a1, a2, a3, a4⟩ := cut_const hin
  obtain ⟨b1, b2, b3, b4⟩ := cut_const him
  unfold tr
  rw [a1, a2, a3, a4, b1, b2, b3, b4, truth_const, (ob_const n).1, (ob_const n).2, (ob_const m).1, (ob_const m).2]
  by_cases h : m = 0
  · subst h; rw [hg]; rfl
  · rw [show (m == 0) = false from by simpa using h]; rfl

theorem fits2 {i n m : Int} (h : (((!true) || (!(true && ((i != 127) || (decide (n < 4294967296)))))) || (!((!((!true) || (!(true && ((i != 127) || (decide (n < 4294967296))))))) && ((i != 127) || (decide (m < 4294967296)))))) = false) : (i = 127 → n < 4294967296) ∧ (i = 127 → m < 4294967296) := by
  constructor <;> intro e <;> subst e <;> simp at h
  · exact h.1
  · exact h.2
theorem fin_law {op : Int} {g : Int → Int → Int} {i a b N r c d M q n m : Int} (ha : InR a) (hb : InR b) (hr : InR r) (hc : InR c) (hd : InR d) (hq : InR q) (hn : InR n) (hm : InR m) (hin : i = 127 → n < 4294967296) (him : i = 127 → m < 4294967296)
    (hg6 : dv op = true → ∀ x, g x 0 = 6) (hg0 : dv op = false → ∀ x y, g x y = 0) :
    ((((!(hA a b N r n)) || (!((hA a b N r n) && (hA c d M q m)))) || (!((!((!(hA a b N r n)) || (!((hA a b N r n) && (hA c d M q m))))) && (dv op && tr g i a b N r c d M q)))) || (g n m != 0)) = true := by
  cases h1 : hA a b N r n
  · rfl
  · cases h2 : hA c d M q m
    · rfl
    · cases hdv : dv op
      · rfl
      · cases h3 : tr g i a b N r c d M q
        · rfl
        · have := tr_has (hg6 hdv) ha hb hr hc hd hq hn hm hin him h1 h2 h3
          simpa using this

set_option maxHeartbeats 4000000 in
theorem law_o (op a b N r c d M q n m : Int) (ha : InR a) (hb : InR b) (hr : InR r) (hc : InR c) (hd : InR d) (hq : InR q) (hn : InR n) (hm : InR m) (hT : F13 [op] [] = some ([0, 0, 0, 0], [false])) : F5 [op, a, b, N, r, c, d, M, q, n, m] [] = some ([], [true]) := by
  refine Eq.trans (Fd_of (n := 11) (m := 0) (t := t5) (C := Tab.fn a5) rfl rfl) ?_
  rw [t5]
  refine st_0_1 (e5_10) (g := true) rfl (l := []) rfl (m := []) rfl (cl_t q10) fun b0 hb0 => ?_
  show T.den _ _ [op, a, b, N, r, c, d, M, q, n, m] [b0] = _
  refine st_ite (fun hc => ?_) (fun hc => ?_)
  · replace hc : (!b0) = true := hc
    have c1 := hc
    clear hc
    refine st_ret ?_
    show some ([], [false]) = _
    rw [hb0] at c1; cases c1
  · replace hc : (!b0) = false := hc
    have c2 := hc
    clear hc
    refine st_0_1 (e5_11) (g := true) rfl (l := [a, b, N, r]) rfl (m := []) rfl (cl_t (q11 a b N r)) fun b1 hb1 => ?_
    show T.den _ _ [op, a, b, N, r, c, d, M, q, n, m] [b0, b1] = _
    refine st_0_1 (e5_11) (g := b1) rfl (l := [c, d, M, q]) rfl (m := []) rfl (cl_b (q11 c d M q)) fun b2 hb2 => ?_
    show T.den _ _ [op, a, b, N, r, c, d, M, q, n, m] [b0, b1, b2] = _
    refine st_ite (fun hc => ?_) (fun hc => ?_)
    · replace hc : ((!b1) || (!b2)) = true := hc
      have c3 := hc
      clear hc
      refine st_ret ?_
      show some ([], [true]) = _
      rfl
    · replace hc : ((!b1) || (!b2)) = false := hc
      have c4 := hc
      clear hc
      refine st_4_1 (e5_13) (g := true) rfl (l := [op]) rfl (m := []) rfl (cl_t hT) fun i11 i12 i13 i14 b3 hi11 hi12 hi13 hi14 hb3 => ?_
      show T.den _ _ [op, a, b, N, r, c, d, M, q, n, m, i11, i12, i13, i14] [b0, b1, b2, b3] = _
      refine st_ite (fun hc => ?_) (fun hc => ?_)
      · replace hc : (i11 == 0) = true := hc
        have c5 := hc
        clear hc
        refine st_0_1 (e5_19) (g := (!(b3 && false))) rfl (l := [op, a, b, N, r, c, d, M, q]) rfl (m := []) rfl (cl_b (q19_o op a b N r c d M q ha hb hr hc hd hq hT)) fun b4 hb4 => ?_
        show T.den _ _ [op, a, b, N, r, c, d, M, q, n, m, i11, i12, i13, i14] [b0, b1, b2, b3, b4] = _
        refine st_ret ?_
        show some ([], [((b3 && false) || (!b4))]) = _
        refine rb ?_
        rw [hb4]; simp
      · replace hc : (i11 == 0) = false := hc
        have c6 := hc
        clear hc
        exact (len_no hi11 c6 rfl).elim

set_option maxHeartbeats 4000000 in
theorem law_u (op a b N r c d M q n m : Int) (ha : InR a) (hb : InR b) (hr : InR r) (hc : InR c) (hd : InR d) (hq : InR q) (hn : InR n) (hm : InR m) (hU : U op) : F5 [op, a, b, N, r, c, d, M, q, n, m] [] = some ([], [true]) := by
  have hU' := hU
  obtain ⟨i, o, hT, hdv⟩ := hU'
  refine Eq.trans (Fd_of (n := 11) (m := 0) (t := t5) (C := Tab.fn a5) rfl rfl) ?_
  rw [t5]
  refine st_0_1 (e5_10) (g := true) rfl (l := []) rfl (m := []) rfl (cl_t q10) fun b0 hb0 => ?_
  show T.den _ _ [op, a, b, N, r, c, d, M, q, n, m] [b0] = _
  refine st_ite (fun hc => ?_) (fun hc => ?_)
  · replace hc : (!b0) = true := hc
    have c1 := hc
    clear hc
    refine st_ret ?_
    show some ([], [false]) = _
    rw [hb0] at c1; cases c1
  · replace hc : (!b0) = false := hc
    have c2 := hc
    clear hc
    refine st_0_1 (e5_11) (g := true) rfl (l := [a, b, N, r]) rfl (m := []) rfl (cl_t (q11 a b N r)) fun b1 hb1 => ?_
    show T.den _ _ [op, a, b, N, r, c, d, M, q, n, m] [b0, b1] = _
    refine st_0_1 (e5_11) (g := b1) rfl (l := [c, d, M, q]) rfl (m := []) rfl (cl_b (q11 c d M q)) fun b2 hb2 => ?_
    show T.den _ _ [op, a, b, N, r, c, d, M, q, n, m] [b0, b1, b2] = _
    refine st_ite (fun hc => ?_) (fun hc => ?_)
    · replace hc : ((!b1) || (!b2)) = true := hc
      have c3 := hc
      clear hc
      refine st_ret ?_
      show some ([], [true]) = _
      rfl
    · replace hc : ((!b1) || (!b2)) = false := hc
      have c4 := hc
      clear hc
      refine st_4_1 (e5_13) (g := true) rfl (l := [op]) rfl (m := []) rfl (cl_t hT) fun i11 i12 i13 i14 b3 hi11 hi12 hi13 hi14 hb3 => ?_
      show T.den _ _ [op, a, b, N, r, c, d, M, q, n, m, i11, i12, i13, i14] [b0, b1, b2, b3] = _
      refine st_ite (fun hc => ?_) (fun hc => ?_)
      · replace hc : (i11 == 0) = true := hc
        have c5 := hc
        clear hc
        exact (len_ne hi11 c5 (by decide)).elim
      · replace hc : (i11 == 0) = false := hc
        have c6 := hc
        clear hc
        refine st_ite (fun hc => ?_) (fun hc => ?_)
        · replace hc : (i11 == 1) = true := hc
          have c7 := hc
          clear hc
          refine st_0_1 (e5_19) (g := (!(b3 && false))) rfl (l := [op, a, b, N, r, c, d, M, q]) rfl (m := []) rfl (cl_b (q19_u op a b N r c d M q ha hb hr hc hd hq hU)) fun b4 hb4 => ?_
          show T.den _ _ [op, a, b, N, r, c, d, M, q, n, m, i11, i12, i13, i14] [b0, b1, b2, b3, b4] = _
          refine st_ret ?_
          show some ([], [((b3 && false) || (!b4))]) = _
          refine rb ?_
          rw [hb4]; simp
        · replace hc : (i11 == 1) = false := hc
          have c8 := hc
          clear hc
          exact (len_no hi11 c8 rfl).elim

set_option maxHeartbeats 4000000 in
theorem law_b (op a b N r c d M q n m : Int) (ha : InR a) (hb : InR b) (hr : InR r) (hc : InR c) (hd : InR d) (hq : InR q) (hn : InR n) (hm : InR m) (hB : B op) : F5 [op, a, b, N, r, c, d, M, q, n, m] [] = some ([], [true]) := by
  obtain ⟨i, o, hT, f, g, hf, _, _, _, hg6, hg0⟩ := hB
  refine Eq.trans (Fd_of (n := 11) (m := 0) (t := t5) (C := Tab.fn a5) rfl rfl) ?_
  rw [t5]
  refine st_0_1 (e5_10) (g := true) rfl (l := []) rfl (m := []) rfl (cl_t q10) fun b0 hb0 => ?_
  show T.den _ _ [op, a, b, N, r, c, d, M, q, n, m] [b0] = _
  refine st_ite (fun hc => ?_) (fun hc => ?_)
  · replace hc : (!b0) = true := hc
    have c1 := hc
    clear hc
    refine st_ret ?_
    show some ([], [false]) = _
    rw [hb0] at c1; cases c1
  · replace hc : (!b0) = false := hc
    have c2 := hc
    clear hc
    refine st_0_1 (e5_11) (g := true) rfl (l := [a, b, N, r]) rfl (m := []) rfl (cl_t (q11 a b N r)) fun b1 hb1 => ?_
    show T.den _ _ [op, a, b, N, r, c, d, M, q, n, m] [b0, b1] = _
    refine st_0_1 (e5_11) (g := b1) rfl (l := [c, d, M, q]) rfl (m := []) rfl (cl_b (q11 c d M q)) fun b2 hb2 => ?_
    show T.den _ _ [op, a, b, N, r, c, d, M, q, n, m] [b0, b1, b2] = _
    refine st_ite (fun hc => ?_) (fun hc => ?_)
    · replace hc : ((!b1) || (!b2)) = true := hc
      have c3 := hc
      clear hc
      refine st_ret ?_
      show some ([], [true]) = _
      rfl
    · replace hc : ((!b1) || (!b2)) = false := hc
      have c4 := hc
      clear hc
      refine st_4_1 (e5_13) (g := true) rfl (l := [op]) rfl (m := []) rfl (cl_t hT) fun i11 i12 i13 i14 b3 hi11 hi12 hi13 hi14 hb3 => ?_
      show T.den _ _ [op, a, b, N, r, c, d, M, q, n, m, i11, i12, i13, i14] [b0, b1, b2, b3] = _
      refine st_ite (fun hc => ?_) (fun hc => ?_)
      · replace hc : (i11 == 0) = true := hc
        have c5 := hc
        clear hc
        exact (len_ne hi11 c5 (by decide)).elim
      · replace hc : (i11 == 0) = false := hc
        have c6 := hc
        clear hc
        refine st_ite (fun hc => ?_) (fun hc => ?_)
        · replace hc : (i11 == 1) = true := hc
          have c7 := hc
          clear hc
          exact (len_ne hi11 c7 (by decide)).elim
        · replace hc : (i11 == 1) = false := hc
          have c8 := hc
          clear hc
          refine st_ite (fun hc => ?_) (fun hc => ?_)
          · replace hc : (i11 == 2) = true := hc
            have c9 := hc
            clear hc
            refine st_0_1 (e5_14) (g := b3) rfl (l := [i12, n]) rfl (m := []) rfl (cl_b (q14 i12 n)) fun b4 hb4 => ?_
            show T.den _ _ [op, a, b, N, r, c, d, M, q, n, m, i11, i12, i13, i14] [b0, b1, b2, b3, b4] = _
            refine st_0_1 (e5_14) (g := (!((!b3) || (!b4)))) rfl (l := [i13, m]) rfl (m := []) rfl (cl_b (q14 i13 m)) fun b5 hb5 => ?_
            show T.den _ _ [op, a, b, N, r, c, d, M, q, n, m, i11, i12, i13, i14] [b0, b1, b2, b3, b4, b5] = _
            refine st_lb fun b6 hb6 => ?_
            replace hb6 : b6 = (((!b3) || (!b4)) || (!b5)) := hb6
            show T.den _ _ [op, a, b, N, r, c, d, M, q, n, m, i11, i12, i13, i14] [b0, b1, b2, b3, b4, b5, b6] = _
            refine st_ite (fun hc => ?_) (fun hc => ?_)
            · replace hc : b6 = true := hc
              have c10 := hc
              clear hc
              refine st_0_1 (e5_19) (g := (!b3)) rfl (l := [op, a, b, N, r, c, d, M, q]) rfl (m := []) rfl (cl_b (q19_b op a b N r c d M q ha hb hr hc hd hq i o f g hT hf)) fun b7 hb7 => ?_
              show T.den _ _ [op, a, b, N, r, c, d, M, q, n, m, i11, i12, i13, i14] [b0, b1, b2, b3, b4, b5, b6, b7] = _
              refine st_ret ?_
              show some ([], [(b3 || (!b7))]) = _
              refine rb ?_
              rw [hb3]; rfl
            · replace hc : b6 = false := hc
              have c11 := hc
              clear hc
              refine st_2_1 (e5_16) (g := true) rfl (l := [op, n, m]) rfl (m := []) rfl (cl_t (hf n m hn hm)) fun i15 i16 b7 hi15 hi16 hb7 => ?_
              show T.den _ _ [op, a, b, N, r, c, d, M, q, n, m, i11, i12, i13, i14, i15, i16] [b0, b1, b2, b3, b4, b5, b6, b7] = _
              refine st_4_0 (e5_20) (g := true) rfl (l := [n]) rfl (m := []) rfl (cl_t (q20 n)) fun i17 i18 i19 i20 hi17 hi18 hi19 hi20 => ?_
              show T.den _ _ [op, a, b, N, r, c, d, M, q, n, m, i11, i12, i13, i14, i15, i16, i17, i18, i19, i20] [b0, b1, b2, b3, b4, b5, b6, b7] = _
              refine st_4_0 (e5_20) (g := true) rfl (l := [m]) rfl (m := []) rfl (cl_t (q20 m)) fun i21 i22 i23 i24 hi21 hi22 hi23 hi24 => ?_
              show T.den _ _ [op, a, b, N, r, c, d, M, q, n, m, i11, i12, i13, i14, i15, i16, i17, i18, i19, i20, i21, i22, i23, i24] [b0, b1, b2, b3, b4, b5, b6, b7] = _
              refine st_0_1 (e5_19) (g := true) rfl (l := [op, i17, i18, i19, i20, i21, i22, i23, i24]) rfl (m := []) rfl (cl_t ((show F19 [op, i17, i18, i19, i20, i21, i22, i23, i24] [] = F19 [op, n, n, 64, n, m, m, 64, m] [] from by rw [hi17, hi18, hi19, hi20, hi21, hi22, hi23, hi24]).trans (q19_b op n n 64 n m m 64 m hn hn hn hm hm hm i o f g hT hf))) fun b8 hb8 => ?_
              show T.den _ _ [op, a, b, N, r, c, d, M, q, n, m, i11, i12, i13, i14, i15, i16, i17, i18, i19, i20, i21, i22, i23, i24] [b0, b1, b2, b3, b4, b5, b6, b7, b8] = _
              refine st_ite (fun hc => ?_) (fun hc => ?_)
              · replace hc : (!(b8 == (i16 != 0))) = true := hc
                have c12 := hc
                clear hc
                refine st_ret ?_
                show some ([], [false]) = _
                rw [hb6, hb3, hb4, hb5, hb4, hb3, hi12, hi13] at c11
                obtain ⟨hin, him⟩ := fits2 c11
                rw [hb8, hi16] at c12
                cases hdv : dv op
                · rw [hdv, hg0 hdv n m] at c12; cases c12
                · rw [hdv, Bool.true_and, tr_const (hg6 hdv) hin him] at c12; simp at c12
              · replace hc : (!(b8 == (i16 != 0))) = false := hc
                have c13 := hc
                clear hc
                refine st_0_1 (e5_15) (g := true) rfl (l := [a, b, N, r, n]) rfl (m := []) rfl (cl_t (q15 a b N r n)) fun b9 hb9 => ?_
                show T.den _ _ [op, a, b, N, r, c, d, M, q, n, m, i11, i12, i13, i14, i15, i16, i17, i18, i19, i20, i21, i22, i23, i24] [b0, b1, b2, b3, b4, b5, b6, b7, b8, b9] = _
                refine st_0_1 (e5_15) (g := b9) rfl (l := [c, d, M, q, m]) rfl (m := []) rfl (cl_b (q15 c d M q m)) fun b10 hb10 => ?_
                show T.den _ _ [op, a, b, N, r, c, d, M, q, n, m, i11, i12, i13, i14, i15, i16, i17, i18, i19, i20, i21, i22, i23, i24] [b0, b1, b2, b3, b4, b5, b6, b7, b8, b9, b10] = _
                refine st_0_1 (e5_19) (g := (!((!b9) || (!b10)))) rfl (l := [op, a, b, N, r, c, d, M, q]) rfl (m := []) rfl (cl_b (q19_b op a b N r c d M q ha hb hr hc hd hq i o f g hT hf)) fun b11 hb11 => ?_
                show T.den _ _ [op, a, b, N, r, c, d, M, q, n, m, i11, i12, i13, i14, i15, i16, i17, i18, i19, i20, i21, i22, i23, i24] [b0, b1, b2, b3, b4, b5, b6, b7, b8, b9, b10, b11] = _
                refine st_lb fun b12 hb12 => ?_
                replace hb12 : b12 = (((!b9) || (!b10)) || (!b11)) := hb12
                show T.den _ _ [op, a, b, N, r, c, d, M, q, n, m, i11, i12, i13, i14, i15, i16, i17, i18, i19, i20, i21, i22, i23, i24] [b0, b1, b2, b3, b4, b5, b6, b7, b8, b9, b10, b11, b12] = _
                refine st_ret ?_
                show some ([], [(b12 || (i16 != 0))]) = _
                rw [hb6, hb3, hb4, hb5, hb4, hb3, hi12, hi13] at c11
                obtain ⟨hin, him⟩ := fits2 c11
                refine rb ?_
                rw [hb12, hb11, hb10, hb9, hi16]
                exact fin_law ha hb hr hc hd hq hn hm hin him hg6 hg0
          · replace hc : (i11 == 2) = false := hc
            have c14 := hc
            clear hc
            exact (len_no hi11 c14 rfl).elim

theorem law (op a b N r c d M q n m : Int) (wop : (Lit.int .i64 op).wf = true) (wa : (Lit.int .u64 a).wf = true) (wb : (Lit.int .u64 b).wf = true) (wN : (Lit.int .i64 N).wf = true) (wr : (Lit.int .u64 r).wf = true) (wc : (Lit.int .u64 c).wf = true) (wd : (Lit.int .u64 d).wf = true) (wM : (Lit.int .i64 M).wf = true) (wq : (Lit.int .u64 q).wf = true) (wn : (Lit.int .u64 n).wf = true) (wm : (Lit.int .u64 m).wf = true) : F5 [op, a, b, N, r, c, d, M, q, n, m] [] = some ([], [true]) := by
  rcases cases op with h | h | h
  · exact law_o op a b N r c d M q n m (wf_u64 wa) (wf_u64 wb) (wf_u64 wr) (wf_u64 wc) (wf_u64 wd) (wf_u64 wq) (wf_u64 wn) (wf_u64 wm) h
  · exact law_u op a b N r c d M q n m (wf_u64 wa) (wf_u64 wb) (wf_u64 wr) (wf_u64 wc) (wf_u64 wd) (wf_u64 wq) (wf_u64 wn) (wf_u64 wm) h
  · exact law_b op a b N r c d M q n m (wf_u64 wa) (wf_u64 wb) (wf_u64 wr) (wf_u64 wc) (wf_u64 wd) (wf_u64 wq) (wf_u64 wn) (wf_u64 wm) h
end Go.Proofs.YtlnikilodakjmaaDoor.YTransTraps
