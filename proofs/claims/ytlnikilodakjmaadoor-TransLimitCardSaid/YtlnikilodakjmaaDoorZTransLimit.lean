/-
  What Limit tells of two of which a comparison holds.
-/
import Derived.Test.YtlnikilodakjmaaDoorXTransLimit
import Derived.Test.YtlnikilodakjmaaDoorSn
import Derived.Lib.TrailingZeros
namespace Go.Proofs.YtlnikilodakjmaaDoor.ZTransLimit
open Go.Proofs.YtlnikilodakjmaaDoor.Sx Go.Proofs.YtlnikilodakjmaaDoor.Sn Go.Proofs.YtlnikilodakjmaaDoor.XTransLimit Go.Proofs.YtlnikilodakjmaaDoor.ETransLimit
set_option linter.unusedSimpArgs false
set_option linter.unusedVariables false
theorem st_0_1 {C : Nat → Sx.Fn} {is : List Int} {bs : List Bool} {r : Option (List Int × List Bool)} {G : E} {f : Nat} {ii bb : List E} {k : Sx.T} {c0 : Bool} {F : Sx.Fn} {g : Bool} {l : List Int} {m : List Bool} (hC : C f = F) (hG : G.B is bs = g) (hl : ii.map (E.I is bs) = l) (hm : bb.map (E.B is bs) = m)
    (h : (bif g then F l m else some (List.replicate 0 0, List.replicate 1 false)) = some ([], [c0]))
    (hk : ∀ (y0 : Bool), y0 = c0 → k.den C (is ++ []) (bs ++ [y0]) = r) : (Sx.T.call G f ii bb 0 1 k).den C is bs = r := st_call _ _ (by rw [hC, hG, hl, hm]; exact h) rfl rfl (hk _ rfl)

theorem st_1_0 {C : Nat → Sx.Fn} {is : List Int} {bs : List Bool} {r : Option (List Int × List Bool)} {G : E} {f : Nat} {ii bb : List E} {k : Sx.T} {a0 : Int} {F : Sx.Fn} {g : Bool} {l : List Int} {m : List Bool} (hC : C f = F) (hG : G.B is bs = g) (hl : ii.map (E.I is bs) = l) (hm : bb.map (E.B is bs) = m)
    (h : (bif g then F l m else some (List.replicate 1 0, List.replicate 0 false)) = some ([a0], []))
    (hk : ∀ (x0 : Int), x0 = a0 → k.den C (is ++ [x0]) (bs ++ []) = r) : (Sx.T.call G f ii bb 1 0 k).den C is bs = r := st_call _ _ (by rw [hC, hG, hl, hm]; exact h) rfl rfl (hk _ rfl)

theorem st_1_1 {C : Nat → Sx.Fn} {is : List Int} {bs : List Bool} {r : Option (List Int × List Bool)} {G : E} {f : Nat} {ii bb : List E} {k : Sx.T} {a0 : Int} {c0 : Bool} {F : Sx.Fn} {g : Bool} {l : List Int} {m : List Bool} (hC : C f = F) (hG : G.B is bs = g) (hl : ii.map (E.I is bs) = l) (hm : bb.map (E.B is bs) = m)
    (h : (bif g then F l m else some (List.replicate 1 0, List.replicate 1 false)) = some ([a0], [c0]))
    (hk : ∀ (x0 : Int) (y0 : Bool), x0 = a0 → y0 = c0 → k.den C (is ++ [x0]) (bs ++ [y0]) = r) : (Sx.T.call G f ii bb 1 1 k).den C is bs = r := st_call _ _ (by rw [hC, hG, hl, hm]; exact h) rfl rfl (hk _ _ rfl rfl)

theorem st_2_0 {C : Nat → Sx.Fn} {is : List Int} {bs : List Bool} {r : Option (List Int × List Bool)} {G : E} {f : Nat} {ii bb : List E} {k : Sx.T} {a0 a1 : Int} {F : Sx.Fn} {g : Bool} {l : List Int} {m : List Bool} (hC : C f = F) (hG : G.B is bs = g) (hl : ii.map (E.I is bs) = l) (hm : bb.map (E.B is bs) = m)
    (h : (bif g then F l m else some (List.replicate 2 0, List.replicate 0 false)) = some ([a0, a1], []))
    (hk : ∀ (x0 x1 : Int), x0 = a0 → x1 = a1 → k.den C (is ++ [x0, x1]) (bs ++ []) = r) : (Sx.T.call G f ii bb 2 0 k).den C is bs = r := st_call _ _ (by rw [hC, hG, hl, hm]; exact h) rfl rfl (hk _ _ rfl rfl)

theorem st_2_1 {C : Nat → Sx.Fn} {is : List Int} {bs : List Bool} {r : Option (List Int × List Bool)} {G : E} {f : Nat} {ii bb : List E} {k : Sx.T} {a0 a1 : Int} {c0 : Bool} {F : Sx.Fn} {g : Bool} {l : List Int} {m : List Bool} (hC : C f = F) (hG : G.B is bs = g) (hl : ii.map (E.I is bs) = l) (hm : bb.map (E.B is bs) = m)
    (h : (bif g then F l m else some (List.replicate 2 0, List.replicate 1 false)) = some ([a0, a1], [c0]))
    (hk : ∀ (x0 x1 : Int) (y0 : Bool), x0 = a0 → x1 = a1 → y0 = c0 → k.den C (is ++ [x0, x1]) (bs ++ [y0]) = r) : (Sx.T.call G f ii bb 2 1 k).den C is bs = r := st_call _ _ (by rw [hC, hG, hl, hm]; exact h) rfl rfl (hk _ _ _ rfl rfl rfl)

theorem st_4_0 {C : Nat → Sx.Fn} {is : List Int} {bs : List Bool} {r : Option (List Int × List Bool)} {G : E} {f : Nat} {ii bb : List E} {k : Sx.T} {a0 a1 a2 a3 : Int} {F : Sx.Fn} {g : Bool} {l : List Int} {m : List Bool} (hC : C f = F) (hG : G.B is bs = g) (hl : ii.map (E.I is bs) = l) (hm : bb.map (E.B is bs) = m)
    (h : (bif g then F l m else some (List.replicate 4 0, List.replicate 0 false)) = some ([a0, a1, a2, a3], []))
    (hk : ∀ (x0 x1 x2 x3 : Int), x0 = a0 → x1 = a1 → x2 = a2 → x3 = a3 → k.den C (is ++ [x0, x1, x2, x3]) (bs ++ []) = r) : (Sx.T.call G f ii bb 4 0 k).den C is bs = r := st_call _ _ (by rw [hC, hG, hl, hm]; exact h) rfl rfl (hk _ _ _ _ rfl rfl rfl rfl)

theorem st_4_1 {C : Nat → Sx.Fn} {is : List Int} {bs : List Bool} {r : Option (List Int × List Bool)} {G : E} {f : Nat} {ii bb : List E} {k : Sx.T} {a0 a1 a2 a3 : Int} {c0 : Bool} {F : Sx.Fn} {g : Bool} {l : List Int} {m : List Bool} (hC : C f = F) (hG : G.B is bs = g) (hl : ii.map (E.I is bs) = l) (hm : bb.map (E.B is bs) = m)
    (h : (bif g then F l m else some (List.replicate 4 0, List.replicate 1 false)) = some ([a0, a1, a2, a3], [c0]))
    (hk : ∀ (x0 x1 x2 x3 : Int) (y0 : Bool), x0 = a0 → x1 = a1 → x2 = a2 → x3 = a3 → y0 = c0 → k.den C (is ++ [x0, x1, x2, x3]) (bs ++ [y0]) = r) : (Sx.T.call G f ii bb 4 1 k).den C is bs = r := st_call _ _ (by rw [hC, hG, hl, hm]; exact h) rfl rfl (hk _ _ _ _ _ rfl rfl rfl rfl rfl)

theorem st_8_1 {C : Nat → Sx.Fn} {is : List Int} {bs : List Bool} {r : Option (List Int × List Bool)} {G : E} {f : Nat} {ii bb : List E} {k : Sx.T} {a0 a1 a2 a3 a4 a5 a6 a7 : Int} {c0 : Bool} {F : Sx.Fn} {g : Bool} {l : List Int} {m : List Bool} (hC : C f = F) (hG : G.B is bs = g) (hl : ii.map (E.I is bs) = l) (hm : bb.map (E.B is bs) = m)
    (h : (bif g then F l m else some (List.replicate 8 0, List.replicate 1 false)) = some ([a0, a1, a2, a3, a4, a5, a6, a7], [c0]))
    (hk : ∀ (x0 x1 x2 x3 x4 x5 x6 x7 : Int) (y0 : Bool), x0 = a0 → x1 = a1 → x2 = a2 → x3 = a3 → x4 = a4 → x5 = a5 → x6 = a6 → x7 = a7 → y0 = c0 → k.den C (is ++ [x0, x1, x2, x3, x4, x5, x6, x7]) (bs ++ [y0]) = r) : (Sx.T.call G f ii bb 8 1 k).den C is bs = r := st_call _ _ (by rw [hC, hG, hl, hm]; exact h) rfl rfl (hk _ _ _ _ _ _ _ _ _ rfl rfl rfl rfl rfl rfl rfl rfl rfl)
theorem r1 {a b : Int} (h : a = b) : (some ([a], []) : Option (List Int × List Bool)) = some ([b], []) := by rw [h]
theorem rb {a b : Bool} (h : a = b) : (some ([], [a]) : Option (List Int × List Bool)) = some ([], [b]) := by rw [h]
def mk (N : Int) : Int := if N ≥ 64 then 18446744073709551615 else arI .sub .u64 (arI .shl .u64 1 (IntKind.wrap .u64 (if 0 > N then 0 else N))) 1
def hL (N r n : Int) : Bool := (arI .and .u64 (arI .xor .u64 n r) (mk N)) == 0
def rL (N r : Int) : Bool := ((decide (N ≥ 0)) && (decide (N ≤ 64))) && ((arI .andNot .u64 r (mk N)) == 0)
theorem and_z (x : Int) : arI .and .u64 x 0 = 0 := by
  show IntKind.u64.wrap ((BitVec.ofInt 64 x &&& BitVec.ofInt 64 0).toNat : Int) = 0
  rw [show BitVec.ofInt 64 0 = 0#64 from rfl, BitVec.and_zero]; decide
theorem z_and (x : Int) : arI .and .u64 0 x = 0 := by
  show IntKind.u64.wrap ((BitVec.ofInt 64 0 &&& BitVec.ofInt 64 x).toNat : Int) = 0
  rw [show BitVec.ofInt 64 0 = 0#64 from rfl, BitVec.zero_and]; decide
theorem xor_self (x : Int) : arI .xor .u64 x x = 0 := by
  show IntKind.u64.wrap ((BitVec.ofInt 64 x ^^^ BitVec.ofInt 64 x).toNat : Int) = 0
  rw [BitVec.xor_self]; decide
theorem hL_0 (r n : Int) : hL 0 r n = true := by
  unfold hL; rw [show mk 0 = 0 from by decide +kernel, and_z]; rfl
theorem hL_self (N n : Int) : hL N n n = true := by
  unfold hL; rw [xor_self, z_and]; rfl
theorem rL_00 : rL 0 0 = true := by decide +kernel

set_option maxHeartbeats 4000000 in
theorem q61 (N : Int) : F61 [N] [] = some ([mk N], []) := by
  refine Eq.trans (Fd_of (n := 1) (m := 0) (t := t61) (C := Tab.fn a61) rfl rfl) ?_
  rw [t61]
  refine st_ite (fun hc => ?_) (fun hc => ?_)
  · replace hc : (decide (N ≥ 64)) = true := hc
    have c1 := hc
    clear hc
    refine st_ret ?_
    show some ([18446744073709551615], []) = _
    exact r1 (by unfold mk; rw [if_pos (of_decide_eq_true c1)])
  · replace hc : (decide (N ≥ 64)) = false := hc
    have c2 := hc
    clear hc
    refine st_rq (show (decide ((IntKind.wrap .u64 (if 0 > N then 0 else N)) ≥ 0)) = true from ?_) ?_
    · rw [decide_eq_true_eq, wrap_u64]
      exact Int.emod_nonneg _ (by decide)
    refine st_li fun i1 hi1 => ?_
    replace hi1 : i1 = (arI .sub .u64 (arI .shl .u64 1 (IntKind.wrap .u64 (if 0 > N then 0 else N))) 1) := hi1
    show T.den _ _ [N, i1] [] = _
    refine st_ret ?_
    show some ([i1], []) = _
    exact r1 (by unfold mk; rw [if_neg (of_decide_eq_false c2)]; exact hi1)

theorem e37_61 : Tab.fn a37 61 = F61 := Tab.fn_hd
theorem e30_61 : Tab.fn a30 61 = F61 := Tab.fn_hd


set_option maxHeartbeats 4000000 in
theorem q37 (N r n : Int) : F37 [N, r, n] [] = some ([], [hL N r n]) := by
  refine Eq.trans (Fd_of (n := 3) (m := 0) (t := t37) (C := Tab.fn a37) rfl rfl) ?_
  rw [t37]
  refine st_1_0 (e37_61) (g := true) rfl (l := [N]) rfl (m := []) rfl (cl_t (q61 N)) fun i3 hi3 => ?_
  show T.den _ _ [N, r, n, i3] [] = _
  refine st_lb fun b0 hb0 => ?_
  replace hb0 : b0 = ((arI .and .u64 (arI .xor .u64 n r) i3) == 0) := hb0
  show T.den _ _ [N, r, n, i3] [b0] = _
  refine st_ret ?_
  show some ([], [b0]) = _
  exact rb (by rw [hb0, hi3]; rfl)

set_option maxHeartbeats 4000000 in
theorem q30 (N r : Int) : F30 [N, r] [] = some ([], [rL N r]) := by
  refine Eq.trans (Fd_of (n := 2) (m := 0) (t := t30) (C := Tab.fn a30) rfl rfl) ?_
  rw [t30]
  refine st_lb fun b0 hb0 => ?_
  replace hb0 : b0 = ((decide (N ≥ 0)) && (decide (N ≤ 64))) := hb0
  show T.den _ _ [N, r] [b0] = _
  refine st_1_0 (e30_61) (g := b0) rfl (l := [N]) rfl (m := []) rfl (cl_1 (q61 N)) fun i2 hi2 => ?_
  show T.den _ _ [N, r, i2] [b0] = _
  refine st_lb fun b1 hb1 => ?_
  replace hb1 : b1 = (b0 && ((arI .andNot .u64 r i2) == 0)) := hb1
  show T.den _ _ [N, r, i2] [b0, b1] = _
  refine st_ret ?_
  show some ([], [b1]) = _
  refine rb ?_
  rw [hb1, hi2]; unfold rL; rw [← hb0]
  cases b0 <;> rfl

theorem pow_pos (i : Nat) : 0 < 2 ^ i := Nat.two_pow_pos i
theorem pow_lt {i : Nat} (h : i < 64) : 2 ^ i < 2 ^ 64 := Nat.pow_lt_pow_right (by decide) h
theorem pow_le {i j : Nat} (h : i ≤ j) : 2 ^ i ≤ 2 ^ j := Nat.pow_le_pow_right (by decide) h
theorem mod_lt64 (a i : Nat) (h : a < 2 ^ 64) : a % 2 ^ i < 2 ^ 64 := Nat.lt_of_le_of_lt (Nat.mod_le _ _) h
theorem mod_mod_pow (n : Nat) {i j : Nat} (h : i ≤ j) : n % 2 ^ j % 2 ^ i = n % 2 ^ i := Nat.mod_mod_of_dvd _ (Nat.pow_dvd_pow 2 h)
def hs (N r n : Nat) : Bool := decide (n % 2 ^ N = r % 2 ^ N)
theorem xor_mask_eq_zero (n r i : Nat) : (n ^^^ r) &&& (2 ^ i - 1) = 0 ↔ n % 2 ^ i = r % 2 ^ i := by
  rw [Nat.and_two_pow_sub_one_eq_mod, Nat.xor_mod_two_pow]
  constructor
  · intro h
    refine Nat.eq_of_testBit_eq fun j => ?_
    have h1 := congrArg (fun x => Nat.testBit x j) h
    simp only [Nat.testBit_xor, Nat.zero_testBit] at h1
    revert h1
    cases Nat.testBit (n % 2 ^ i) j <;> cases Nat.testBit (r % 2 ^ i) j <;> simp
  · intro h; rw [h, Nat.xor_self]
theorem mask_lt {N : Nat} (h : N ≤ 64) : 2 ^ N - 1 < 2 ^ 64 := by have := pow_le h; have := pow_pos N; omega
theorem bandNot (a b : Nat) (ha : a < 2 ^ 64) (hb : b < 2 ^ 64) : arI .andNot .u64 (a : Int) (b : Int) = ((a &&& (2 ^ 64 - (b + 1)) : Nat) : Int) := by
  show IntKind.u64.wrap ((BitVec.ofInt 64 (a : Int) &&& ~~~(BitVec.ofInt 64 (b : Int))).toNat : Int) = _
  have e : 2 ^ 64 - 1 - b = 2 ^ 64 - (b + 1) := by omega
  rw [BitVec.toNat_and, BitVec.toNat_not, toN a ha, toN b hb, e]
  exact wraps_u64 _ (by omega) (by have := @Nat.and_le_left a (2 ^ 64 - (b + 1)); omega)
theorem and_not_mask_eq_zero {r i : Nat} (hr : r < 2 ^ 64) (hi : i ≤ 64) : r &&& (2 ^ 64 - (2 ^ i - 1 + 1)) = 0 ↔ r < 2 ^ i := by
  have e : 2 ^ 64 - (2 ^ i - 1 + 1) = 2 ^ 64 - 2 ^ i := by have := pow_pos i; omega
  have d : 2 ^ 64 - 2 ^ i = (2 ^ (64 - i) - 1) * 2 ^ i := by rw [Nat.sub_mul, ← Nat.pow_add, Nat.sub_add_cancel hi, Nat.one_mul]
  have k : r &&& (2 ^ 64 - (2 ^ i - 1 + 1)) = r / 2 ^ i * 2 ^ i := by
    rw [e, d]
    refine Nat.eq_of_testBit_eq fun j => ?_
    rw [Nat.testBit_and, Nat.testBit_mul_two_pow, Nat.testBit_mul_two_pow, Nat.testBit_two_pow_sub_one, Nat.testBit_div_two_pow]
    by_cases h : i ≤ j
    · by_cases h2 : j < 64
      · simp [h, show j - i < 64 - i from by omega, Nat.sub_add_cancel h]
      · have : r.testBit j = false := Nat.testBit_lt_two_pow (Nat.lt_of_lt_of_le hr (pow_le (by omega)))
        simp [h, this, Nat.sub_add_cancel h]
    · simp [h]
  rw [k]
  have h1 := Nat.div_add_mod r (2 ^ i)
  have h2 := Nat.mod_lt r (pow_pos i)
  constructor
  · intro h; rw [Nat.mul_comm] at h1; omega
  · intro h; rw [Nat.div_eq_of_lt h, Nat.zero_mul]
theorem mk_nat {N : Nat} (h : N ≤ 64) : mk (N : Int) = ((2 ^ N - 1 : Nat) : Int) := by
  unfold mk
  by_cases h1 : N = 64
  · subst h1; decide +kernel
  · have hp := pow_lt (i := N) (by omega)
    have hp0 := pow_pos N
    rw [if_neg (by omega), if_neg (by omega), wraps_u64 _ (by omega) (by omega), arShl _ _ (by omega) (by omega), Int.toNat_natCast, Int.one_mul, show (2 : Int) ^ N = ((2 ^ N : Nat) : Int) from by rw [Int.natCast_pow]; rfl, arSub]; omega
theorem hL_nat (N r n : Nat) (hN : N ≤ 64) (hr : r < 2 ^ 64) (hn : n < 2 ^ 64) : hL N r n = hs N r n := by
  unfold hL hs
  rw [mk_nat hN, bxor n r hn hr, band _ _ (Nat.xor_lt_two_pow hn hr) (mask_lt hN), Bool.eq_iff_iff, beq_iff_eq, decide_eq_true_iff, ← xor_mask_eq_zero]
  omega
theorem rL_nat (N r : Nat) (hN : N ≤ 64) (hr : r < 2 ^ 64) : rL N r = decide (r < 2 ^ N) := by
  unfold rL
  rw [mk_nat hN, bandNot r _ hr (mask_lt hN), decide_eq_true (by omega), decide_eq_true (by omega), Bool.true_and, Bool.true_and, Bool.eq_iff_iff, beq_iff_eq, decide_eq_true_iff, ← and_not_mask_eq_zero hr hN]
  omega
theorem nats {a : Int} (h : 0 ≤ a) : ∃ n : Nat, a = n := Int.eq_ofNat_of_zero_le h
theorem rL_true {N r : Int} (h : rL N r = true) (hr : 0 ≤ r ∧ r < 18446744073709551616) : ∃ n m : Nat, N = n ∧ r = m ∧ n ≤ 64 ∧ m < 2 ^ 64 ∧ m < 2 ^ n := by
  have h' := h
  unfold rL at h'
  simp only [Bool.and_eq_true, decide_eq_true_eq] at h'
  obtain ⟨n, rfl⟩ := nats h'.1.1
  obtain ⟨m, rfl⟩ := nats hr.1
  have hn : n ≤ 64 := by omega
  have hm : m < 2 ^ 64 := by omega
  rw [rL_nat n m hn hm] at h
  exact ⟨n, m, rfl, rfl, hn, hm, of_decide_eq_true h⟩
def cN (N n : Nat) : Nat := if N ≤ n then N else n
def cR (N r n : Nat) : Nat := if N ≤ n then r else r % 2 ^ n
def z (r q : Nat) : Nat := Go.Lib.ctz 64 (r ^^^ q)
theorem xor_zero (a b : Nat) : a ^^^ b = 0 ↔ a = b := by
  constructor
  · intro h
    refine Nat.eq_of_testBit_eq fun j => ?_
    have h1 := congrArg (fun x => Nat.testBit x j) h
    simp only [Nat.testBit_xor, Nat.zero_testBit] at h1
    revert h1
    cases Nat.testBit a j <;> cases Nat.testBit b j <;> simp
  · intro h; rw [h, Nat.xor_self]
theorem z_iff (r q i : Nat) (hr : r < 2 ^ 64) (hq : q < 2 ^ 64) (hi : i ≤ 64) : r % 2 ^ i = q % 2 ^ i ↔ i ≤ z r q := by
  have hx : r ^^^ q < 2 ^ 64 := Nat.xor_lt_two_pow hr hq
  rw [← xor_zero, ← Nat.xor_mod_two_pow]
  unfold z Go.Lib.ctz
  by_cases h0 : r ^^^ q = 0
  · rw [if_pos h0, h0, Nat.zero_mod]; simp [hi]
  · rw [if_neg h0]
    obtain ⟨m, e, _⟩ := Go.Lib.ctzFrom_spec 64 (r ^^^ q) (by omega) hx
    generalize Go.Lib.ctzFrom 64 (r ^^^ q) = c at *
    rw [e]
    constructor
    · intro h
      by_cases hc : i ≤ c
      · exact hc
      · exfalso
        have h1 := Nat.dvd_of_mod_eq_zero h
        have h2 : 2 ^ (c + 1) ∣ 2 ^ c * (2 * m + 1) := Nat.dvd_trans (Nat.pow_dvd_pow 2 (by omega)) h1
        rw [Nat.pow_succ] at h2
        have h3 := Nat.dvd_of_mul_dvd_mul_left (pow_pos c) h2
        omega
    · intro h
      exact Nat.mod_eq_zero_of_dvd (Nat.dvd_trans (Nat.pow_dvd_pow 2 h) (Nat.dvd_mul_right _ _))
theorem z_comm (r q : Nat) : z q r = z r q := by unfold z; rw [Nat.xor_comm]
theorem cN_eq (N n : Nat) : cN N n = min N n := by unfold cN; split <;> omega
theorem cR_eq (N r n : Nat) (h : r < 2 ^ N) : cR N r n = r % 2 ^ min N n := by
  unfold cR
  split
  · rw [Nat.min_eq_left (by omega), Nat.mod_eq_of_lt h]
  · rw [Nat.min_eq_right (by omega)]
theorem hs_of {N r n : Nat} (h : n % 2 ^ N = r % 2 ^ N) : hs N r n = true := decide_eq_true h
theorem wt {N M q r : Nat} (h : M ≤ N) (h2 : r % 2 ^ M = q % 2 ^ M) : (decide (M ≤ N) && hs M q r) = true := by rw [decide_eq_true h, hs_of h2]; rfl


theorem q10 : F10 [] [] = some ([], [true]) := by decide +kernel
theorem q29 (a b : Int) : F29 [a, b] [] = some ([], [decide (a ≤ b)]) := rfl
theorem q36 (a b n : Int) : F36 [a, b, n] [] = some ([], [decide (n ≥ a) && decide (n ≤ b)]) := rfl
def rA (a b N r : Int) : Bool := decide (a ≤ b) && rL N r
def hA (a b N r n : Int) : Bool := (decide (n ≥ a) && decide (n ≤ b)) && hL N r n

theorem e15_36 : Tab.fn a15 36 = F36 := Tab.fn_hd
theorem e15_37 : Tab.fn a15 37 = F37 := ((Tab.fn_tl rfl).trans Tab.fn_hd)


theorem e11_29 : Tab.fn a11 29 = F29 := Tab.fn_hd
theorem e11_30 : Tab.fn a11 30 = F30 := ((Tab.fn_tl rfl).trans Tab.fn_hd)


set_option maxHeartbeats 4000000 in
theorem q11 (a b N r : Int) : F11 [a, b, N, r] [] = some ([], [rA a b N r]) := by
  unfold rA
  refine Eq.trans (Fd_of (n := 4) (m := 0) (t := t11) (C := Tab.fn a11) rfl rfl) ?_
  rw [t11]
  refine st_0_1 (e11_29) (g := true) rfl (l := [a, b]) rfl (m := []) rfl (cl_t (q29 a b)) fun b0 hb0 => ?_
  show T.den _ _ [a, b, N, r] [b0] = _
  refine st_0_1 (e11_30) (g := b0) rfl (l := [N, r]) rfl (m := []) rfl (cl_b (q30 N r)) fun b1 hb1 => ?_
  show T.den _ _ [a, b, N, r] [b0, b1] = _
  refine st_ret ?_
  show some ([], [(b0 && b1)]) = _
  exact rb (by rw [hb1, ← hb0, ← Bool.and_assoc, Bool.and_self])

set_option maxHeartbeats 4000000 in
theorem q15 (a b N r n : Int) : F15 [a, b, N, r, n] [] = some ([], [hA a b N r n]) := by
  unfold hA
  refine Eq.trans (Fd_of (n := 5) (m := 0) (t := t15) (C := Tab.fn a15) rfl rfl) ?_
  rw [t15]
  refine st_0_1 (e15_36) (g := true) rfl (l := [a, b, n]) rfl (m := []) rfl (cl_t (q36 a b n)) fun b0 hb0 => ?_
  show T.den _ _ [a, b, N, r, n] [b0] = _
  refine st_0_1 (e15_37) (g := b0) rfl (l := [N, r, n]) rfl (m := []) rfl (cl_b (q37 N r n)) fun b1 hb1 => ?_
  show T.den _ _ [a, b, N, r, n] [b0, b1] = _
  refine st_ret ?_
  show some ([], [(b0 && b1)]) = _
  exact rb (by rw [hb1, ← hb0, ← Bool.and_assoc, Bool.and_self])

theorem hA_true {a b N r n : Int} (h : hA a b N r n = true) : a ≤ n ∧ n ≤ b ∧ hL N r n = true := by
  unfold hA at h
  simp only [Bool.and_eq_true, decide_eq_true_eq] at h
  exact ⟨h.1.1, h.1.2, h.2⟩
theorem hA_of {a b N r n : Int} (h1 : a ≤ n) (h2 : n ≤ b) (h3 : hL N r n = true) : hA a b N r n = true := by
  unfold hA; rw [h3, decide_eq_true (show n ≥ a from h1), decide_eq_true h2]; rfl
theorem full_eq {r n m : Int} (hr : 0 ≤ r ∧ r < 18446744073709551616) (hn : 0 ≤ n ∧ n < 18446744073709551616) (hm : 0 ≤ m ∧ m < 18446744073709551616) (h1 : hL 64 r n = true) (h2 : hL 64 r m = true) : n = m := by
  obtain ⟨r, rfl⟩ := nats hr.1
  obtain ⟨n, rfl⟩ := nats hn.1
  obtain ⟨m, rfl⟩ := nats hm.1
  rw [show (64 : Int) = ((64 : Nat) : Int) from rfl, hL_nat 64 r _ (by decide) (by omega) (by omega)] at h1 h2
  have e1 := of_decide_eq_true h1
  have e2 := of_decide_eq_true h2
  omega
theorem full_r {r n : Int} (hr : 0 ≤ r ∧ r < 18446744073709551616) (hn : 0 ≤ n ∧ n < 18446744073709551616) (h : hL 64 r n = true) : n = r := full_eq hr hn hr h (hL_self 64 r)
theorem rA_true {a b N r : Int} (h : rA a b N r = true) (hr : 0 ≤ r ∧ r < 18446744073709551616) : a ≤ b ∧ ∃ n m : Nat, N = n ∧ r = m ∧ n ≤ 64 ∧ m < 2 ^ 64 ∧ m < 2 ^ n := by
  unfold rA at h
  rw [Bool.and_eq_true, decide_eq_true_iff] at h
  exact ⟨h.1, rL_true h.2 hr⟩

theorem e26_58 : Tab.fn a26 58 = F58 := Tab.fn_hd
theorem e26_48 : Tab.fn a26 48 = F48 := ((Tab.fn_tl rfl).trans Tab.fn_hd)
theorem e32_48 : Tab.fn a32 48 = F48 := Tab.fn_hd
theorem e32_62 : Tab.fn a32 62 = F62 := ((Tab.fn_tl rfl).trans Tab.fn_hd)
theorem e32_26 : Tab.fn a32 26 = F26 := ((Tab.fn_tl rfl).trans ((Tab.fn_tl rfl).trans Tab.fn_hd))
theorem e62_29 : Tab.fn a62 29 = F29 := Tab.fn_hd
theorem e20_43 : Tab.fn a20 43 = F43 := Tab.fn_hd


theorem q48 : F48 [32] [] = some ([0, 4294967295], []) := by kernel_rfl
theorem q26 (t : Int) : F26 [t] [] = some ([0, if t = 127 then 4294967295 else 18446744073709551615, 0, 0], []) := by
  by_cases h : t = 127
  · subst h; kernel_rfl
  · rw [if_neg h]
    refine Eq.trans (Fd_of (n := 1) (m := 0) (t := t26) (C := Tab.fn a26) rfl rfl) ?_
    rw [t26]
    refine st_call (C := Tab.fn a26) [64] [] ?_ rfl rfl ?_
    · show F58 [t] [] = _
      refine Eq.trans (Fd_of (n := 1) (m := 0) (t := t58) (C := Tab.fn a58) rfl rfl) ?_
      rw [t58]
      refine st_itf (show (t == 127) = false from by simpa using h) ?_
      rfl
    · kernel_rfl
theorem q20 (n : Int) : F20 [n] [] = some ([n, n, 64, n], []) := by kernel_rfl
theorem q62 (a b c d : Int) : F62 [a, b, c, d] [] = some ([if max a c ≤ min b d then max a c else 0, if max a c ≤ min b d then min b d else 0], [decide (max a c ≤ min b d)]) := by
  rw [max_, min_]
  refine Eq.trans (Fd_of (n := 4) (m := 0) (t := t62) (C := Tab.fn a62) rfl rfl) ?_
  rw [t62]
  refine st_0_1 (e62_29) (g := true) rfl (l := [(if c > a then c else a), (if d < b then d else b)]) rfl (m := []) rfl (cl_t (q29 _ _)) fun b0 hb0 => ?_
  refine st_ite (fun hc => ?_) (fun hc => ?_)
  · replace hc : (!b0) = true := hc
    rw [hb0, Bool.not_eq_true'] at hc
    refine st_ret ?_
    rw [if_neg (of_decide_eq_false hc), if_neg (of_decide_eq_false hc), hc]; rfl
  · replace hc : (!b0) = false := hc
    rw [hb0, Bool.not_eq_false'] at hc
    refine st_ret ?_
    rw [if_pos (of_decide_eq_true hc), if_pos (of_decide_eq_true hc), hc]; rfl
/-! What is known of a number of a type. -/
def cc1 (a b t : Int) : Int := if t = 127 then (if a ≤ min b 4294967295 then a else 0) else a
def cc2 (a b t : Int) : Int := if t = 127 then (if a ≤ min b 4294967295 then min b 4294967295 else 4294967295) else b
def cc3 (a b t N : Int) : Int := if t = 127 then (if a ≤ min b 4294967295 then N else 0) else N
def cc4 (a b t r : Int) : Int := if t = 127 then (if a ≤ min b 4294967295 then r else 0) else r

set_option maxHeartbeats 4000000 in
theorem q32 (a b N r t : Int) (ha : 0 ≤ a) : F32 [a, b, N, r, t] [] = some ([cc1 a b t, cc2 a b t, cc3 a b t N, cc4 a b t r], []) := by
  refine Eq.trans (Fd_of (n := 5) (m := 0) (t := t32) (C := Tab.fn a32) rfl rfl) ?_
  rw [t32]
  refine st_ite (fun hc => ?_) (fun hc => ?_)
  · replace hc : (t != 127) = true := hc
    have c1 := hc
    clear hc
    refine st_ret ?_
    show some ([a, b, N, r], []) = _
    have ht : t ≠ 127 := by simpa using c1
    unfold cc1 cc2 cc3 cc4; simp only [if_neg ht]
  · replace hc : (t != 127) = false := hc
    have c2 := hc
    clear hc
    refine st_2_0 (e32_48) (g := true) rfl (l := [32]) rfl (m := []) rfl (cl_t q48) fun i5 i6 hi5 hi6 => ?_
    show T.den _ _ [a, b, N, r, t, i5, i6] [] = _
    refine st_2_1 (e32_62) (g := true) rfl (l := [a, b, i5, i6]) rfl (m := []) rfl (cl_t ((show F62 [a, b, i5, i6] [] = F62 [a, b, 0, 4294967295] [] from by rw [hi5, hi6]).trans (q62 a b 0 4294967295))) fun i7 i8 b0 hi7 hi8 hb0 => ?_
    show T.den _ _ [a, b, N, r, t, i5, i6, i7, i8] [b0] = _
    refine st_ite (fun hc => ?_) (fun hc => ?_)
    · replace hc : (!b0) = true := hc
      have c3 := hc
      clear hc
      refine st_4_0 (e32_26) (g := true) rfl (l := [t]) rfl (m := []) rfl (cl_t (q26 t)) fun i9 i10 i11 i12 hi9 hi10 hi11 hi12 => ?_
      show T.den _ _ [a, b, N, r, t, i5, i6, i7, i8, i9, i10, i11, i12] [b0] = _
      refine st_ret ?_
      show some ([i9, i10, i11, i12], []) = _
      have ht : t = 127 := by simpa using c2
      rw [show max a 0 = a from Int.max_eq_left ha] at hi7 hi8 hb0
      rw [hb0, Bool.not_eq_true'] at c3
      have hc := of_decide_eq_false c3
      unfold cc1 cc2 cc3 cc4; rw [hi9, hi10, hi11, hi12]; simp only [if_pos ht, if_neg hc]
    · replace hc : (!b0) = false := hc
      have c4 := hc
      clear hc
      refine st_ret ?_
      show some ([i7, i8, N, r], []) = _
      have ht : t = 127 := by simpa using c2
      rw [show max a 0 = a from Int.max_eq_left ha] at hi7 hi8 hb0
      rw [hb0, Bool.not_eq_false'] at c4
      have hc := of_decide_eq_true c4
      unfold cc1 cc2 cc3 cc4; rw [hi7, hi8]; simp only [if_pos ht, if_pos hc]

theorem cut_has {a b N r t n : Int} (ht : t = 127 → n < 4294967296) (h : hA a b N r n = true) : hA (cc1 a b t) (cc2 a b t) (cc3 a b t N) (cc4 a b t r) n = true := by
  unfold cc1 cc2 cc3 cc4
  by_cases e : t = 127
  · obtain ⟨h1, h2, h3⟩ := hA_true h
    have h4 := ht e
    have h5 : a ≤ min b 4294967295 := by omega
    simp only [if_pos e, if_pos h5]
    exact hA_of h1 (by omega) h3
  · simp only [if_neg e]; exact h
theorem cc1_in {a b t : Int} (ha : 0 ≤ a ∧ a < 18446744073709551616) : 0 ≤ cc1 a b t ∧ cc1 a b t < 18446744073709551616 := by unfold cc1; (repeat' split) <;> omega
theorem cc2_in {a b t : Int} (ha : 0 ≤ a) (hb : 0 ≤ b ∧ b < 18446744073709551616) : 0 ≤ cc2 a b t ∧ cc2 a b t < 18446744073709551616 := by unfold cc2; (repeat' split) <;> omega
theorem cc4_in {a b t r : Int} (hr : 0 ≤ r ∧ r < 18446744073709551616) : 0 ≤ cc4 a b t r ∧ cc4 a b t r < 18446744073709551616 := by unfold cc4; (repeat' split) <;> omega
theorem cut_const {n t : Int} (ht : t = 127 → n < 4294967296) : cc1 n n t = n ∧ cc2 n n t = n ∧ cc3 n n t 64 = 64 ∧ cc4 n n t n = n := by
  unfold cc1 cc2 cc3 cc4
  by_cases e : t = 127
  · have h4 := ht e
    have h5 : n ≤ min n 4294967295 := by omega
    simp only [if_pos e, if_pos h5, and_self, true_and, and_true]; omega
  · simp only [if_neg e, and_self]
/-! One number. -/
def ov (a b N r : Int) : Int := if a = b then a else if N = 64 then r else 0
def ob (a b N : Int) : Bool := decide (a = b ∨ N = 64)
theorem q42 (a b N r : Int) : F42 [a, b, N, r] [] = some ([ov a b N r], [ob a b N]) := by
  unfold ov ob
  refine Eq.trans (Fd_of (n := 4) (m := 0) (t := t42) (C := Tab.fn a42) rfl rfl) ?_
  rw [t42]
  refine st_ite (fun hc => ?_) (fun hc => ?_)
  · have h : a = b := by simpa using (show (a == b) = true from hc)
    rw [if_pos h, decide_eq_true (Or.inl h)]; rfl
  · have h : a ≠ b := by simpa using (show (a == b) = false from hc)
    refine st_ite (fun hc => ?_) (fun hc => ?_)
    · have h2 : N = 64 := by simpa using (show (N == 64) = true from hc)
      rw [if_neg h, if_pos h2, decide_eq_true (Or.inr h2)]; rfl
    · have h2 : N ≠ 64 := by simpa using (show (N == 64) = false from hc)
      rw [if_neg h, if_neg h2, decide_eq_false (by rintro (h3 | h3) <;> contradiction)]; rfl
theorem ov_in {a b N r : Int} (ha : 0 ≤ a ∧ a < 18446744073709551616) (hr : 0 ≤ r ∧ r < 18446744073709551616) : 0 ≤ ov a b N r ∧ ov a b N r < 18446744073709551616 := by
  unfold ov; (repeat' split) <;> omega
theorem one_has {a b N r n : Int} (hr : 0 ≤ r ∧ r < 18446744073709551616) (hn : 0 ≤ n ∧ n < 18446744073709551616) (h1 : ob a b N = true) (h : hA a b N r n = true) : ov a b N r = n := by
  obtain ⟨k1, k2, k3⟩ := hA_true h
  unfold ov
  by_cases e : a = b
  · rw [if_pos e]; omega
  · rw [if_neg e]
    have e2 : N = 64 := by
      rcases of_decide_eq_true h1 with h | h
      · exact absurd h e
      · exact h
    rw [if_pos e2]; subst e2
    exact (full_r hr hn k3).symm
theorem ob_const (n : Int) : ob n n 64 = true ∧ ov n n 64 n = n := by unfold ob ov; exact ⟨decide_eq_true (.inl rfl), if_pos rfl⟩

theorem and_mask (r i : Nat) : r &&& (2 ^ i - 1) = r % 2 ^ i := Nat.and_two_pow_sub_one_eq_mod r i
/-- How far the first number with these low bits stands above one end, and the last below the other. -/
def up (lo N R : Nat) : Nat := (R + (2 ^ 64 - lo)) % 2 ^ N
def dn (hi N R : Nat) : Nat := (hi + (2 ^ 64 - R)) % 2 ^ N
theorem pow_split {N : Nat} (h : N ≤ 64) : ∃ e, 2 ^ 64 = 2 ^ N * e := Nat.pow_dvd_pow 2 h
theorem up_of {lo N R n : Nat} (hN : N ≤ 64) (hn : n < 2 ^ 64) (hl : lo ≤ n) (hr : n % 2 ^ N = R) : up lo N R = (n - lo) % 2 ^ N := by
  obtain ⟨e, he⟩ := pow_split hN
  unfold up
  have hq := Nat.div_add_mod n (2 ^ N)
  rw [hr] at hq
  rw [he] at hn ⊢
  have hp := pow_pos N
  generalize 2 ^ N = M at *
  have h1 : n / M < e := Nat.lt_of_mul_lt_mul_left (a := M) (by omega)
  obtain ⟨x, hx⟩ : ∃ x, e = n / M + x := ⟨e - n / M, by omega⟩
  have h2 : M * e = M * (n / M) + M * x := by rw [congrArg (M * ·) hx]; exact Nat.mul_add ..
  have h3 : R + (M * e - lo) = (n - lo) + M * x := by omega
  rw [h3, Nat.add_mul_mod_self_left]
theorem dn_of {hi N R n : Nat} (hN : N ≤ 64) (hR : R < 2 ^ 64) (hl : n ≤ hi) (hr : n % 2 ^ N = R) : dn hi N R = (hi - n) % 2 ^ N := by
  obtain ⟨e, he⟩ := pow_split hN
  unfold dn
  have hq := Nat.div_add_mod n (2 ^ N)
  rw [hr] at hq
  rw [he] at hR ⊢
  generalize 2 ^ N = M at *
  have h3 : hi + (M * e - R) = (hi - n) + M * (n / M + e) := by rw [Nat.mul_add]; omega
  rw [h3, Nat.add_mul_mod_self_left]
theorem up_mod {lo N R : Nat} (hN : N ≤ 64) (hlo : lo < 2 ^ 64) (hR : R < 2 ^ N) : (lo + up lo N R) % 2 ^ N = R := by
  obtain ⟨e, he⟩ := pow_split hN
  unfold up
  rw [Nat.add_mod, Nat.mod_mod, ← Nat.add_mod]
  have h3 : lo + (R + (2 ^ 64 - lo)) = R + 2 ^ 64 := by omega
  rw [h3, he, Nat.add_mul_mod_self_left, Nat.mod_eq_of_lt hR]
theorem dn_mod {hi N R : Nat} (hN : N ≤ 64) (hR : R < 2 ^ N) (hd : dn hi N R ≤ hi) : (hi - dn hi N R) % 2 ^ N = R := by
  obtain ⟨e, he⟩ := pow_split hN
  have hR64 : R < 2 ^ 64 := Nat.lt_of_lt_of_le hR (pow_le hN)
  have hq := Nat.div_add_mod (hi + (2 ^ 64 - R)) (2 ^ N)
  have hd2 : dn hi N R = (hi + (2 ^ 64 - R)) % 2 ^ N := rfl
  rw [← hd2] at hq
  rw [he] at hq hR64
  generalize dn hi N R = d at *
  generalize (hi + (2 ^ N * e - R)) / 2 ^ N = q at *
  generalize 2 ^ N = M at *
  have h1 : (hi - d) + M * e = R + M * q := by omega
  have h2 : ((hi - d) + M * e) % M = (R + M * q) % M := by rw [h1]
  rw [Nat.add_mul_mod_self_left, Nat.add_mul_mod_self_left, Nat.mod_eq_of_lt hR] at h2
  exact h2
/-- What is told, made tight. -/
def tg (lo hi N R : Nat) : Option (Nat × Nat × Nat × Nat) :=
  if 64 ≤ N then (if lo ≤ R ∧ R ≤ hi then some (R, R, 64, R) else none)
  else if up lo N R ≤ hi - lo ∧ dn hi N R ≤ hi - lo then (if lo + up lo N R = hi - dn hi N R then some (lo + up lo N R, lo + up lo N R, 64, lo + up lo N R) else some (lo + up lo N R, hi - dn hi N R, N, R)) else none
def Hs (lo hi N R n : Nat) : Prop := (lo ≤ n ∧ n ≤ hi) ∧ n % 2 ^ min N 64 = R % 2 ^ min N 64
/-- What being made tight means: of no number, if nothing is told; and else of the same ones, its own ends among them, and again the same. -/
theorem tight_means {lo hi N R : Nat} (hl : lo ≤ hi) (hh : hi < 2 ^ 64) (hN : N ≤ 64) (hR : R < 2 ^ N) :
    (tg lo hi N R = none ∧ ∀ n, n < 2 ^ 64 → ¬ Hs lo hi N R n) ∨
    ∃ a b c d, tg lo hi N R = some (a, b, c, d) ∧ a ≤ b ∧ b < 2 ^ 64 ∧ c ≤ 64 ∧ d < 2 ^ c ∧ tg a b c d = some (a, b, c, d) ∧ Hs lo hi N R a ∧ Hs lo hi N R b ∧
      (a = b → c = 64) ∧ (a ≠ b → c = N ∧ d = R) ∧ (∀ n, n < 2 ^ 64 → (Hs lo hi N R n ↔ Hs a b c d n)) ∧ N ≤ c ∧ d % 2 ^ N = R := by
  have hR64 : R < 2 ^ 64 := Nat.lt_of_lt_of_le hR (pow_le hN)
  have hlo : lo < 2 ^ 64 := by omega
  have hmin : min N 64 = N := Nat.min_eq_left hN
  have hRm : R % 2 ^ N = R := Nat.mod_eq_of_lt hR
  have has : ∀ n, Hs lo hi N R n ↔ (lo ≤ n ∧ n ≤ hi) ∧ n % 2 ^ N = R := fun n => by unfold Hs; rw [hmin, hRm]
  -- a single number
  have one : ∀ x, x < 2 ^ 64 → tg x x 64 x = some (x, x, 64, x) := fun x hx => by
    unfold tg
    rw [if_pos (Nat.le_refl 64), if_pos ⟨Nat.le_refl x, Nat.le_refl x⟩]
  have hone : ∀ x n, x < 2 ^ 64 → n < 2 ^ 64 → (Hs x x 64 x n ↔ n = x) := fun x n hx hn => by
    unfold Hs
    constructor
    · intro h; omega
    · intro h; subst h; exact ⟨⟨Nat.le_refl _, Nat.le_refl _⟩, rfl⟩
  by_cases h : 64 ≤ N
  · have e64 : N = 64 := by omega
    subst e64
    by_cases c : lo ≤ R ∧ R ≤ hi
    · refine Or.inr ⟨R, R, 64, R, ?_, Nat.le_refl _, hR64, Nat.le_refl _, hR, one R hR64, ?_, ?_, fun _ => rfl, fun e => absurd rfl e, fun n hn => ?_, Nat.le_refl _, hRm⟩
      · unfold tg; rw [if_pos h, if_pos c]
      · exact (has R).2 ⟨c, hRm⟩
      · exact (has R).2 ⟨c, hRm⟩
      · rw [has, hone R n hR64 hn, Nat.mod_eq_of_lt hn]
        exact ⟨fun x => x.2, fun x => ⟨by rw [x]; exact c, x⟩⟩
    · refine Or.inl ⟨by unfold tg; rw [if_pos h, if_neg c], fun n hn x => c ?_⟩
      have := (has n).1 x
      rw [Nat.mod_eq_of_lt hn] at this
      rw [← this.2]; exact this.1
  · have hu : ∀ n, n < 2 ^ 64 → lo ≤ n → n % 2 ^ N = R → up lo N R ≤ n - lo := fun n hn h1 h2 => by rw [up_of hN hn h1 h2]; exact Nat.mod_le _ _
    have hd : ∀ n, n ≤ hi → n % 2 ^ N = R → dn hi N R ≤ hi - n := fun n h1 h2 => by rw [dn_of hN hR64 h1 h2]; exact Nat.mod_le _ _
    have mu := up_mod hN hlo hR
    have md := dn_mod (hi := hi) hN hR
    have zu : ∀ x, x < 2 ^ 64 → x % 2 ^ N = R → up x N R = 0 := fun x hx h2 => by rw [up_of hN hx (Nat.le_refl _) h2, Nat.sub_self, Nat.zero_mod]
    have zd : ∀ x, x % 2 ^ N = R → dn x N R = 0 := fun x h2 => by rw [dn_of hN hR64 (Nat.le_refl _) h2, Nat.sub_self, Nat.zero_mod]
    by_cases c : up lo N R ≤ hi - lo ∧ dn hi N R ≤ hi - lo
    · have md' := md (by omega)
      generalize hU : up lo N R = u at *
      generalize hD : dn hi N R = d at *
      have ha : Hs lo hi N R (lo + u) := (has _).2 ⟨by omega, mu⟩
      have hb : Hs lo hi N R (hi - d) := (has _).2 ⟨by omega, md'⟩
      have hab : lo + u ≤ hi - d := by
        have := hd (lo + u) (by omega) mu
        omega
      have hrange : ∀ n, n < 2 ^ 64 → Hs lo hi N R n → lo + u ≤ n ∧ n ≤ hi - d := fun n hn x => by
        have hx := (has n).1 x
        have h1 := hu n hn hx.1.1 hx.2
        have h2 := hd n hx.1.2 hx.2
        omega
      by_cases e : lo + u = hi - d
      · have hx : lo + u < 2 ^ 64 := by omega
        refine Or.inr ⟨lo + u, lo + u, 64, lo + u, ?_, Nat.le_refl _, hx, Nat.le_refl _, hx, one _ hx, ha, ha, fun _ => rfl, fun e => absurd rfl e, fun n hn => ?_, hN, mu⟩
        · unfold tg; rw [if_neg h, hU, hD, if_pos c, if_pos e]
        · rw [hone _ n hx hn]
          refine ⟨fun x => ?_, fun x => by rw [x]; exact ha⟩
          have := hrange n hn x
          omega
      · refine Or.inr ⟨lo + u, hi - d, N, R, ?_, hab, by omega, hN, hR, ?_, ha, hb, fun e' => absurd e' e, fun _ => ⟨rfl, rfl⟩, fun n hn => ?_, Nat.le_refl _, hRm⟩
        · unfold tg; rw [if_neg h, hU, hD, if_pos c, if_neg e]
        · unfold tg
          rw [if_neg h, zu (lo + u) (by omega) mu, zd (hi - d) md', if_pos ⟨Nat.zero_le _, Nat.zero_le _⟩, if_neg (by omega)]
          rfl
        · constructor
          · intro x
            have hx := (has n).1 x
            unfold Hs
            rw [hmin, hRm]
            exact ⟨hrange n hn x, hx.2⟩
          · intro x
            unfold Hs at x
            rw [hmin, hRm] at x
            exact (has n).2 ⟨by omega, x.2⟩
    · refine Or.inl ⟨by unfold tg; rw [if_neg h, if_neg c], fun n hn x => c ?_⟩
      have hx := (has n).1 x
      have h1 := hu n hn hx.1.1 hx.2
      have h2 := hd n hx.1.2 hx.2
      omega


def mN (N r M q : Nat) : Nat := if N < M then (if hs N r q = true then M else 0) else (if hs M q r = true then N else 0)
def mR (N r M q : Nat) : Nat := if N < M then (if hs N r q = true then q else 0) else (if hs M q r = true then r else 0)
def mb (N r M q : Nat) : Bool := if N < M then hs N r q else hs M q r
def hAN (a b : Int) (N r n : Nat) : Bool := (decide (a ≤ (n : Int)) && decide ((n : Int) ≤ b)) && hs N r n
theorem meet_law (N r M q n : Nat) (hN : N ≤ 64) (hM : M ≤ 64) (hr : r < 2 ^ 64) (hq : q < 2 ^ 64) : (mN N r M q ≤ 64 ∧ mR N r M q < 2 ^ 64) ∧
    ((mb N r M q = true ∧ (decide (N ≤ mN N r M q) && hs N r (mR N r M q)) = true ∧ (decide (M ≤ mN N r M q) && hs M q (mR N r M q)) = true ∧ hs (mN N r M q) (mR N r M q) n = (hs N r n && hs M q n)) ∨
     (mb N r M q = false ∧ mN N r M q = 0 ∧ mR N r M q = 0 ∧ (hs N r n && hs M q n) = false)) := by
  unfold mN mR mb
  have key : ∀ {N r M q : Nat}, N ≤ M → hs N r q = true → hs M q n = (hs N r n && hs M q n) := by
    intro N r M q h h1
    have h1' := of_decide_eq_true h1
    by_cases h2 : hs M q n = true
    · have h2' := of_decide_eq_true h2
      have : hs N r n = true := hs_of (by rw [← mod_mod_pow n h, h2', mod_mod_pow q h, h1'])
      rw [h2, this]; rfl
    · rw [Bool.not_eq_true] at h2; rw [h2, Bool.and_false]
  have no : ∀ {N r M q : Nat}, N ≤ M → hs N r q = false → (hs N r n && hs M q n) = false := by
    intro N r M q h h1
    have h1' := of_decide_eq_false h1
    by_cases h2 : hs M q n = true
    · have h2' := of_decide_eq_true h2
      have : hs N r n = false := decide_eq_false fun h3 => h1' (by rw [← h3, ← mod_mod_pow q h, ← h2', mod_mod_pow n h])
      rw [this]; rfl
    · rw [Bool.not_eq_true] at h2; rw [h2, Bool.and_false]
  by_cases h : N < M
  · rw [if_pos h, if_pos h, if_pos h]
    cases h1 : hs N r q
    · rw [if_neg Bool.false_ne_true, if_neg Bool.false_ne_true]
      exact ⟨⟨by omega, by decide⟩, .inr ⟨rfl, rfl, rfl, no (by omega) h1⟩⟩
    · rw [if_pos rfl, if_pos rfl]
      exact ⟨⟨hM, hq⟩, .inl ⟨rfl, wt (by omega) (of_decide_eq_true h1), wt (by omega) rfl, key (by omega) h1⟩⟩
  · rw [if_neg h, if_neg h, if_neg h]
    cases h1 : hs M q r
    · rw [if_neg Bool.false_ne_true, if_neg Bool.false_ne_true]
      exact ⟨⟨by omega, by decide⟩, .inr ⟨rfl, rfl, rfl, by rw [Bool.and_comm]; exact no (by omega) h1⟩⟩
    · rw [if_pos rfl, if_pos rfl]
      exact ⟨⟨hN, hr⟩, .inl ⟨rfl, wt (by omega) rfl, wt (by omega) (of_decide_eq_true h1), by rw [Bool.and_comm (hs N r n)]; exact key (by omega) h1⟩⟩


theorem e63_37 : Tab.fn a63 37 = F37 := Tab.fn_hd
theorem e59_36 : Tab.fn a59 36 = F36 := Tab.fn_hd
theorem e59_20 : Tab.fn a59 20 = F20 := ((Tab.fn_tl rfl).trans Tab.fn_hd)
theorem e33_62 : Tab.fn a33 62 = F62 := Tab.fn_hd
theorem e33_63 : Tab.fn a33 63 = F63 := ((Tab.fn_tl rfl).trans Tab.fn_hd)
theorem e33_59 : Tab.fn a33 59 = F59 := ((Tab.fn_tl rfl).trans ((Tab.fn_tl rfl).trans Tab.fn_hd))


set_option maxHeartbeats 4000000 in
theorem qm63 (N r M q : Nat) (hN : N ≤ 64) (hr : r < 2 ^ 64) (hM : M ≤ 64) (hq : q < 2 ^ 64) : F63 [(N : Int), (r : Int), (M : Int), (q : Int)] [] = some ([((mN N r M q : Nat) : Int), ((mR N r M q : Nat) : Int)], [mb N r M q]) := by
  refine Eq.trans (Fd_of (n := 4) (m := 0) (t := t63) (C := Tab.fn a63) rfl rfl) ?_
  rw [t63]
  refine st_ite (fun hc => ?_) (fun hc => ?_)
  · replace hc : (decide ((N : Int) < (M : Int))) = true := hc
    have c1 := hc
    clear hc
    refine st_0_1 (e63_37) (g := true) rfl (l := [(N : Int), (r : Int), (q : Int)]) rfl (m := []) rfl (cl_t (q37 (N : Int) (r : Int) (q : Int))) fun b0 hb0 => ?_
    show T.den _ _ [(N : Int), (r : Int), (M : Int), (q : Int)] [b0] = _
    refine st_ite (fun hc => ?_) (fun hc => ?_)
    · replace hc : (!b0) = true := hc
      have c2 := hc
      clear hc
      refine st_ret ?_
      show some ([0, 0], [false]) = _
      rw [hb0] at c2
      simp only [decide_eq_true_eq] at c1
      have h : N < M := by omega
      unfold mN mR mb; rw [if_pos h, if_pos h, if_pos h]
      rw [hL_nat N r q hN hr hq] at c2
      have e : hs N r q = false := by simpa using c2
      rw [e]; rfl
    · replace hc : (!b0) = false := hc
      have c3 := hc
      clear hc
      refine st_ret ?_
      show some ([(M : Int), (q : Int)], [true]) = _
      rw [hb0] at c3
      simp only [decide_eq_true_eq] at c1
      have h : N < M := by omega
      unfold mN mR mb; rw [if_pos h, if_pos h, if_pos h]
      rw [hL_nat N r q hN hr hq] at c3
      have e : hs N r q = true := by simpa using c3
      rw [e]; rfl
  · replace hc : (decide ((N : Int) < (M : Int))) = false := hc
    have c4 := hc
    clear hc
    refine st_0_1 (e63_37) (g := true) rfl (l := [(M : Int), (q : Int), (r : Int)]) rfl (m := []) rfl (cl_t (q37 (M : Int) (q : Int) (r : Int))) fun b0 hb0 => ?_
    show T.den _ _ [(N : Int), (r : Int), (M : Int), (q : Int)] [b0] = _
    refine st_ite (fun hc => ?_) (fun hc => ?_)
    · replace hc : (!b0) = true := hc
      have c5 := hc
      clear hc
      refine st_ret ?_
      show some ([0, 0], [false]) = _
      rw [hb0] at c5
      simp only [decide_eq_false_iff_not] at c4
      have h : ¬ N < M := by omega
      unfold mN mR mb; rw [if_neg h, if_neg h, if_neg h]
      rw [hL_nat M q r hM hq hr] at c5
      have e : hs M q r = false := by simpa using c5
      rw [e]; rfl
    · replace hc : (!b0) = false := hc
      have c6 := hc
      clear hc
      refine st_ret ?_
      show some ([(N : Int), (r : Int)], [true]) = _
      rw [hb0] at c6
      simp only [decide_eq_false_iff_not] at c4
      have h : ¬ N < M := by omega
      unfold mN mR mb; rw [if_neg h, if_neg h, if_neg h]
      rw [hL_nat M q r hM hq hr] at c6
      have e : hs M q r = true := by simpa using c6
      rw [e]; rfl

def ok (a b c d : Int) : Bool := decide (max a c ≤ min b d)

set_option maxHeartbeats 4000000 in
theorem qm62 (a b c d : Int) : F62 [a, b, c, d] [] = some ([bif ok a b c d then max a c else 0, bif ok a b c d then min b d else 0], [ok a b c d]) := by
  refine Eq.trans (Fd_of (n := 4) (m := 0) (t := t62) (C := Tab.fn a62) rfl rfl) ?_
  rw [t62]
  refine st_0_1 (e62_29) (g := true) rfl (l := [(if c > a then c else a), (if d < b then d else b)]) rfl (m := []) rfl (cl_t (q29 (if c > a then c else a) (if d < b then d else b))) fun b0 hb0 => ?_
  show T.den _ _ [a, b, c, d] [b0] = _
  refine st_ite (fun hc => ?_) (fun hc => ?_)
  · replace hc : (!b0) = true := hc
    have c1 := hc
    clear hc
    refine st_ret ?_
    show some ([0, 0], [false]) = _
    have e : b0 = ok a b c d := by rw [hb0]; unfold ok; rw [max_, min_]
    rw [e] at c1
    have e2 : ok a b c d = false := by simpa using c1
    rw [e2]
    rfl
  · replace hc : (!b0) = false := hc
    have c2 := hc
    clear hc
    refine st_ret ?_
    show some ([(if c > a then c else a), (if d < b then d else b)], [true]) = _
    have e : b0 = ok a b c d := by rw [hb0]; unfold ok; rw [max_, min_]
    rw [e] at c2
    have e2 : ok a b c d = true := by simpa using c2
    rw [e2]
    rw [cond_true, cond_true, max_, min_]

def t0 : Option (Nat × Nat × Nat × Nat) → Int | some (a, _, _, _) => a | none => 0
def t1 : Option (Nat × Nat × Nat × Nat) → Int | some (_, b, _, _) => b | none => 0
def t2 : Option (Nat × Nat × Nat × Nat) → Int | some (_, _, c, _) => c | none => 0
def t3 : Option (Nat × Nat × Nat × Nat) → Int | some (_, _, _, d) => d | none => 0
def tb : Option (Nat × Nat × Nat × Nat) → Bool | some _ => true | none => false
theorem fin_n {x : Option (Nat × Nat × Nat × Nat)} (h : x = none) : (some ([0, 0, 0, 0], [false]) : Option (List Int × List Bool)) = some ([t0 x, t1 x, t2 x, t3 x], [tb x]) := by rw [h]; rfl
theorem fin_s {x : Option (Nat × Nat × Nat × Nat)} {a b c d : Nat} {i j k l : Int} (h : x = some (a, b, c, d)) (hi : i = a) (hj : j = b) (hk : k = c) (hl : l = d) : (some ([i, j, k, l], [true]) : Option (List Int × List Bool)) = some ([t0 x, t1 x, t2 x, t3 x], [tb x]) := by rw [h, hi, hj, hk, hl]; rfl
theorem sub_n (a b : Nat) (hb : b < 2 ^ 64) : arI .sub .u64 (a : Int) (b : Int) = (((a + (2 ^ 64 - b)) % 2 ^ 64 : Nat) : Int) := by rw [arSub]; omega
theorem mask_n {N : Nat} (h : N < 64) (i : Int) (hi : i = arI .sub .u64 (arI .shl .u64 1 (IntKind.wrap .u64 (if 0 > (N : Int) then 0 else (N : Int)))) 1) : i = ((2 ^ N - 1 : Nat) : Int) := by
  rw [hi, ← mk_nat (show N ≤ 64 by omega)]; unfold mk; rw [if_neg (show ¬ (N : Int) ≥ 64 by omega)]
theorem up_n (lo N R : Nat) (hN : N < 64) (hl : lo < 2 ^ 64) (i : Int) (hi : i = ((2 ^ N - 1 : Nat) : Int)) : arI .and .u64 (arI .sub .u64 (R : Int) (lo : Int)) i = ((up lo N R : Nat) : Int) := by
  rw [hi, sub_n _ _ hl, band _ _ (Nat.mod_lt _ (pow_pos 64)) (mask_lt (by omega)), and_mask, mod_mod_pow _ (by omega)]; rfl
theorem dn_n (hi N R : Nat) (hN : N < 64) (hr : R < 2 ^ 64) (i : Int) (h : i = ((2 ^ N - 1 : Nat) : Int)) : arI .and .u64 (arI .sub .u64 (hi : Int) (R : Int)) i = ((dn hi N R : Nat) : Int) := by
  rw [h, sub_n _ _ hr, band _ _ (Nat.mod_lt _ (pow_pos 64)) (mask_lt (by omega)), and_mask, mod_mod_pow _ (by omega)]; rfl

set_option maxHeartbeats 4000000 in
theorem qm59 (lo hi N R : Nat) (hl : lo ≤ hi) (hh : hi < 2 ^ 64) (hN : N ≤ 64) (hR : R < 2 ^ 64) : F59 [(lo : Int), (hi : Int), (N : Int), (R : Int)] [] = some ([t0 (tg lo hi N R), t1 (tg lo hi N R), t2 (tg lo hi N R), t3 (tg lo hi N R)], [tb (tg lo hi N R)]) := by
  refine Eq.trans (Fd_of (n := 4) (m := 0) (t := t59) (C := Tab.fn a59) rfl rfl) ?_
  rw [t59]
  refine st_ite (fun hc => ?_) (fun hc => ?_)
  · replace hc : (decide ((N : Int) ≥ 64)) = true := hc
    have c1 := hc
    clear hc
    refine st_0_1 (e59_36) (g := true) rfl (l := [(lo : Int), (hi : Int), (R : Int)]) rfl (m := []) rfl (cl_t (q36 (lo : Int) (hi : Int) (R : Int))) fun b0 hb0 => ?_
    show T.den _ _ [(lo : Int), (hi : Int), (N : Int), (R : Int)] [b0] = _
    refine st_ite (fun hc => ?_) (fun hc => ?_)
    · replace hc : (!b0) = true := hc
      have c2 := hc
      clear hc
      refine st_ret ?_
      show some ([0, 0, 0, 0], [false]) = _
      simp only [decide_eq_true_eq] at c1
      rw [hb0] at c2
      simp only [Bool.not_eq_true', Bool.not_eq_false', Bool.and_eq_false_iff, Bool.and_eq_true, decide_eq_true_eq, decide_eq_false_iff_not] at c2
      exact fin_n (by unfold tg; rw [if_pos (by omega), if_neg (by omega)])
    · replace hc : (!b0) = false := hc
      have c3 := hc
      clear hc
      refine st_4_0 (e59_20) (g := true) rfl (l := [(R : Int)]) rfl (m := []) rfl (cl_t (q20 (R : Int))) fun i4 i5 i6 i7 hi4 hi5 hi6 hi7 => ?_
      show T.den _ _ [(lo : Int), (hi : Int), (N : Int), (R : Int), i4, i5, i6, i7] [b0] = _
      refine st_ret ?_
      show some ([i4, i5, i6, i7], [true]) = _
      simp only [decide_eq_true_eq] at c1
      rw [hb0] at c3
      simp only [Bool.not_eq_true', Bool.not_eq_false', Bool.and_eq_false_iff, Bool.and_eq_true, decide_eq_true_eq, decide_eq_false_iff_not] at c3
      exact fin_s (a := R) (b := R) (c := 64) (d := R) (by unfold tg; rw [if_pos (by omega), if_pos (by omega)]) hi4 hi5 hi6 hi7
  · replace hc : (decide ((N : Int) ≥ 64)) = false := hc
    have c4 := hc
    clear hc
    refine st_rq (show (decide ((IntKind.wrap .u64 (if 0 > (N : Int) then 0 else (N : Int))) ≥ 0)) = true from ?_) ?_
    · rw [decide_eq_true_eq, wrap_u64]
      exact Int.emod_nonneg _ (by decide)
    refine st_li fun i4 hi4 => ?_
    replace hi4 : i4 = (arI .sub .u64 (arI .shl .u64 1 (IntKind.wrap .u64 (if 0 > (N : Int) then 0 else (N : Int)))) 1) := hi4
    show T.den _ _ [(lo : Int), (hi : Int), (N : Int), (R : Int), i4] [] = _
    refine st_li fun i5 hi5 => ?_
    replace hi5 : i5 = (arI .sub .u64 (arI .shl .u64 1 (IntKind.wrap .u64 (if 0 > (N : Int) then 0 else (N : Int)))) 1) := hi5
    show T.den _ _ [(lo : Int), (hi : Int), (N : Int), (R : Int), i4, i5] [] = _
    refine st_lb fun b0 hb0 => ?_
    replace hb0 : b0 = (decide ((arI .and .u64 (arI .sub .u64 (R : Int) (lo : Int)) i4) > (arI .sub .u64 (hi : Int) (lo : Int)))) := hb0
    show T.den _ _ [(lo : Int), (hi : Int), (N : Int), (R : Int), i4, i5] [b0] = _
    refine st_lb fun b1 hb1 => ?_
    replace hb1 : b1 = (decide ((arI .and .u64 (arI .sub .u64 (hi : Int) (R : Int)) i5) > (arI .sub .u64 (hi : Int) (lo : Int)))) := hb1
    show T.den _ _ [(lo : Int), (hi : Int), (N : Int), (R : Int), i4, i5] [b0, b1] = _
    refine st_ite (fun hc => ?_) (fun hc => ?_)
    · replace hc : (b0 || b1) = true := hc
      have c5 := hc
      clear hc
      refine st_ret ?_
      show some ([0, 0, 0, 0], [false]) = _
      have c0 : N < 64 := by simp only [decide_eq_false_iff_not] at c4; omega
      have e4 := mask_n c0 i4 hi4
      have e5 := mask_n c0 i5 hi5
      have eu := up_n lo N R c0 (by omega) i4 e4
      have ed := dn_n hi N R c0 hR i5 e5
      have es : arI .sub .u64 (hi : Int) (lo : Int) = ((hi - lo : Nat) : Int) := by rw [arSub]; omega
      rw [eu, es] at hb0
      rw [ed, es] at hb1
      rw [hb0, hb1] at c5
      simp only [Bool.or_eq_true, Bool.or_eq_false_iff, decide_eq_true_eq, decide_eq_false_iff_not] at c5
      exact fin_n (by unfold tg; rw [if_neg (by omega), if_neg (by omega)])
    · replace hc : (b0 || b1) = false := hc
      have c6 := hc
      clear hc
      refine st_li fun i6 hi6 => ?_
      replace hi6 : i6 = (arI .add .u64 (lo : Int) (arI .and .u64 (arI .sub .u64 (R : Int) (lo : Int)) i4)) := hi6
      show T.den _ _ [(lo : Int), (hi : Int), (N : Int), (R : Int), i4, i5, i6] [b0, b1] = _
      refine st_li fun i7 hi7 => ?_
      replace hi7 : i7 = (arI .sub .u64 (hi : Int) (arI .and .u64 (arI .sub .u64 (hi : Int) (R : Int)) i5)) := hi7
      show T.den _ _ [(lo : Int), (hi : Int), (N : Int), (R : Int), i4, i5, i6, i7] [b0, b1] = _
      refine st_ite (fun hc => ?_) (fun hc => ?_)
      · replace hc : (i6 == i7) = true := hc
        have c7 := hc
        clear hc
        refine st_4_0 (e59_20) (g := true) rfl (l := [i6]) rfl (m := []) rfl (cl_t (q20 i6)) fun i8 i9 i10 i11 hi8 hi9 hi10 hi11 => ?_
        show T.den _ _ [(lo : Int), (hi : Int), (N : Int), (R : Int), i4, i5, i6, i7, i8, i9, i10, i11] [b0, b1] = _
        refine st_ret ?_
        show some ([i8, i9, i10, i11], [true]) = _
        have c0 : N < 64 := by simp only [decide_eq_false_iff_not] at c4; omega
        have e4 := mask_n c0 i4 hi4
        have e5 := mask_n c0 i5 hi5
        have eu := up_n lo N R c0 (by omega) i4 e4
        have ed := dn_n hi N R c0 hR i5 e5
        have es : arI .sub .u64 (hi : Int) (lo : Int) = ((hi - lo : Nat) : Int) := by rw [arSub]; omega
        rw [eu, es] at hb0
        rw [ed, es] at hb1
        rw [hb0, hb1] at c6
        simp only [Bool.or_eq_true, Bool.or_eq_false_iff, decide_eq_true_eq, decide_eq_false_iff_not] at c6
        rw [eu, arAdd] at hi6
        rw [ed, arSub] at hi7
        have g1 : up lo N R ≤ hi - lo ∧ dn hi N R ≤ hi - lo := by omega
        have e6 : i6 = ((lo + up lo N R : Nat) : Int) := by rw [hi6]; omega
        have e7 : i7 = ((hi - dn hi N R : Nat) : Int) := by rw [hi7]; omega
        rw [e6, e7] at c7
        rw [beq_iff_eq] at c7
        exact fin_s (by unfold tg; rw [if_neg (by omega), if_pos g1, if_pos (by omega)]) (hi8.trans e6) (hi9.trans e6) hi10 (hi11.trans e6)
      · replace hc : (i6 == i7) = false := hc
        have c8 := hc
        clear hc
        refine st_ret ?_
        show some ([i6, i7, (N : Int), (R : Int)], [true]) = _
        have c0 : N < 64 := by simp only [decide_eq_false_iff_not] at c4; omega
        have e4 := mask_n c0 i4 hi4
        have e5 := mask_n c0 i5 hi5
        have eu := up_n lo N R c0 (by omega) i4 e4
        have ed := dn_n hi N R c0 hR i5 e5
        have es : arI .sub .u64 (hi : Int) (lo : Int) = ((hi - lo : Nat) : Int) := by rw [arSub]; omega
        rw [eu, es] at hb0
        rw [ed, es] at hb1
        rw [hb0, hb1] at c6
        simp only [Bool.or_eq_true, Bool.or_eq_false_iff, decide_eq_true_eq, decide_eq_false_iff_not] at c6
        rw [eu, arAdd] at hi6
        rw [ed, arSub] at hi7
        have g1 : up lo N R ≤ hi - lo ∧ dn hi N R ≤ hi - lo := by omega
        have e6 : i6 = ((lo + up lo N R : Nat) : Int) := by rw [hi6]; omega
        have e7 : i7 = ((hi - dn hi N R : Nat) : Int) := by rw [hi7]; omega
        rw [e6, e7] at c8
        rw [beq_eq_false_iff_ne] at c8
        exact fin_s (by unfold tg; rw [if_neg (by omega), if_pos g1, if_neg (by omega)]) e6 e7 rfl rfl

def mt (lo hi N r lo2 hi2 M q : Nat) : Option (Nat × Nat × Nat × Nat) := if (ok lo hi lo2 hi2 && mb N r M q) = true then tg (max lo lo2) (min hi hi2) (mN N r M q) (mR N r M q) else none

set_option maxHeartbeats 4000000 in
theorem qm33 (lo hi N r lo2 hi2 M q : Nat) (hN : N ≤ 64) (hr : r < 2 ^ 64) (hM : M ≤ 64) (hq : q < 2 ^ 64) (h1 : hi < 2 ^ 64) (h2 : hi2 < 2 ^ 64) : F33 [(lo : Int), (hi : Int), (N : Int), (r : Int), (lo2 : Int), (hi2 : Int), (M : Int), (q : Int)] [] = some ([t0 (mt lo hi N r lo2 hi2 M q), t1 (mt lo hi N r lo2 hi2 M q), t2 (mt lo hi N r lo2 hi2 M q), t3 (mt lo hi N r lo2 hi2 M q)], [tb (mt lo hi N r lo2 hi2 M q)]) := by
  refine Eq.trans (Fd_of (n := 8) (m := 0) (t := t33) (C := Tab.fn a33) rfl rfl) ?_
  rw [t33]
  refine st_2_1 (e33_62) (g := true) rfl (l := [(lo : Int), (hi : Int), (lo2 : Int), (hi2 : Int)]) rfl (m := []) rfl (cl_t (qm62 (lo : Int) (hi : Int) (lo2 : Int) (hi2 : Int))) fun i8 i9 b0 hi8 hi9 hb0 => ?_
  show T.den _ _ [(lo : Int), (hi : Int), (N : Int), (r : Int), (lo2 : Int), (hi2 : Int), (M : Int), (q : Int), i8, i9] [b0] = _
  refine st_2_1 (e33_63) (g := true) rfl (l := [(N : Int), (r : Int), (M : Int), (q : Int)]) rfl (m := []) rfl (cl_t (qm63 N r M q hN hr hM hq)) fun i10 i11 b1 hi10 hi11 hb1 => ?_
  show T.den _ _ [(lo : Int), (hi : Int), (N : Int), (r : Int), (lo2 : Int), (hi2 : Int), (M : Int), (q : Int), i8, i9, i10, i11] [b0, b1] = _
  refine st_ite (fun hc => ?_) (fun hc => ?_)
  · replace hc : ((!b0) || (!b1)) = true := hc
    have c1 := hc
    clear hc
    refine st_ret ?_
    show some ([0, 0, 0, 0], [false]) = _
    refine fin_n ?_
    unfold mt
    rw [hb0, hb1] at c1
    rw [if_neg (fun h => ?_)]
    rw [Bool.and_eq_true] at h; rw [h.1, h.2] at c1; cases c1
  · replace hc : ((!b0) || (!b1)) = false := hc
    have c2 := hc
    clear hc
    simp only [hb0, hb1, Bool.or_eq_false_iff, Bool.not_eq_false'] at c2
    rw [c2.1, cond_true] at hi8 hi9
    have e8 : i8 = ((max lo lo2 : Nat) : Int) := by rw [hi8]; omega
    have e9 : i9 = ((min hi hi2 : Nat) : Int) := by rw [hi9]; omega
    have hle : max lo lo2 ≤ min hi hi2 := by have := of_decide_eq_true (show decide _ = true from c2.1); omega
    have hml := meet_law N r M q 0 hN hM hr hq
    refine st_4_1 (e33_59) (g := true) rfl (l := [i8, i9, i10, i11]) rfl (m := []) rfl (cl_t ((show F59 [i8, i9, i10, i11] [] = F59 [((max lo lo2 : Nat) : Int), ((min hi hi2 : Nat) : Int), ((mN N r M q : Nat) : Int), ((mR N r M q : Nat) : Int)] [] from by rw [e8, e9, hi10, hi11]).trans (qm59 _ _ _ _ hle (by omega) hml.1.1 hml.1.2))) fun i12 i13 i14 i15 b2 hi12 hi13 hi14 hi15 hb2 => ?_
    show T.den _ _ [(lo : Int), (hi : Int), (N : Int), (r : Int), (lo2 : Int), (hi2 : Int), (M : Int), (q : Int), i8, i9, i10, i11, i12, i13, i14, i15] [b0, b1, b2] = _
    refine st_ret ?_
    show some ([i12, i13, i14, i15], [b2]) = _
    rw [hi12, hi13, hi14, hi15, hb2]; unfold mt; rw [if_pos (by rw [c2.1, c2.2]; rfl)]

theorem hAN_Hs (lo hi N R n : Nat) (hN : N ≤ 64) : hAN lo hi N R n = true ↔ Hs lo hi N R n := by
  unfold hAN hs Hs
  rw [Nat.min_eq_left hN]
  simp only [Bool.and_eq_true, decide_eq_true_eq]
  omega
theorem hAN_meet (lo hi N r lo2 hi2 M q n : Nat) (hN : N ≤ 64) (hr : r < 2 ^ 64) (hM : M ≤ 64) (hq : q < 2 ^ 64) (hm : mb N r M q = true) : hAN (max lo lo2 : Nat) (min hi hi2 : Nat) (mN N r M q) (mR N r M q) n = (hAN lo hi N r n && hAN lo2 hi2 M q n) := by
  rcases (meet_law N r M q n hN hM hr hq).2 with ⟨_, _, _, e⟩ | ⟨h, _⟩
  · unfold hAN
    rw [e, show decide (((max lo lo2 : Nat) : Int) ≤ (n : Int)) = (decide ((lo : Int) ≤ n) && decide ((lo2 : Int) ≤ n)) from by rw [Bool.eq_iff_iff, Bool.and_eq_true, decide_eq_true_iff, decide_eq_true_iff, decide_eq_true_iff]; omega,
      show decide ((n : Int) ≤ ((min hi hi2 : Nat) : Int)) = (decide ((n : Int) ≤ hi) && decide ((n : Int) ≤ hi2)) from by rw [Bool.eq_iff_iff, Bool.and_eq_true, decide_eq_true_iff, decide_eq_true_iff, decide_eq_true_iff]; omega]
    cases decide ((lo : Int) ≤ n) <;> cases decide ((lo2 : Int) ≤ n) <;> cases decide ((n : Int) ≤ hi) <;> cases decide ((n : Int) ≤ hi2) <;> cases hs N r n <;> cases hs M q n <;> rfl
  · rw [hm] at h; cases h
theorem mR_right (N r M q : Nat) (rl : r < 2 ^ N) (ql : q < 2 ^ M) : mR N r M q < 2 ^ mN N r M q := by
  unfold mR mN
  split <;> split <;> first | assumption | decide
theorem mt_law (lo hi N r lo2 hi2 M q n : Nat) (hN : N ≤ 64) (hr : r < 2 ^ 64) (hM : M ≤ 64) (hq : q < 2 ^ 64) (rl : r < 2 ^ N) (ql : q < 2 ^ M) (h1 : hi < 2 ^ 64) (h2 : hi2 < 2 ^ 64) (hn : n < 2 ^ 64) :
    (mt lo hi N r lo2 hi2 M q = none ∧ (hAN lo hi N r n && hAN lo2 hi2 M q n) = false) ∨
    ∃ a b c d : Nat, mt lo hi N r lo2 hi2 M q = some (a, b, c, d) ∧ a ≤ b ∧ c ≤ 64 ∧ d < 2 ^ 64 ∧ d < 2 ^ c ∧ hAN a b c d n = (hAN lo hi N r n && hAN lo2 hi2 M q n) := by
  have hml := meet_law N r M q n hN hM hr hq
  unfold mt
  by_cases h : (ok lo hi lo2 hi2 && mb N r M q) = true
  · rw [if_pos h]
    rw [Bool.and_eq_true] at h
    have hle : max lo lo2 ≤ min hi hi2 := by have := of_decide_eq_true (show decide _ = true from h.1); omega
    rcases tight_means hle (by omega) hml.1.1 (mR_right N r M q rl ql) with ⟨e, hno⟩ | ⟨a, b, c, d, e, hab, hb, hc, hd, _, _, _, _, _, hiff, _⟩
    · refine .inl ⟨e, ?_⟩
      rw [← hAN_meet lo hi N r lo2 hi2 M q n hN hr hM hq h.2]
      have := hno n hn
      rw [← hAN_Hs _ _ _ _ _ hml.1.1, Bool.not_eq_true] at this
      exact this
    · refine .inr ⟨a, b, c, d, e, hab, hc, Nat.lt_of_lt_of_le hd (pow_le hc), hd, ?_⟩
      rw [← hAN_meet lo hi N r lo2 hi2 M q n hN hr hM hq h.2, Bool.eq_iff_iff, hAN_Hs _ _ _ _ _ hc, hAN_Hs _ _ _ _ _ hml.1.1]
      exact (hiff n hn).symm
  · rw [if_neg h]
    refine .inl ⟨rfl, ?_⟩
    rw [Bool.not_eq_true, Bool.and_eq_false_iff] at h
    rcases h with h | h
    · have h3 := of_decide_eq_false (show decide _ = false from h)
      cases hx : (hAN lo hi N r n && hAN lo2 hi2 M q n)
      · rfl
      · exfalso
        rw [Bool.and_eq_true, hAN_Hs _ _ _ _ _ hN, hAN_Hs _ _ _ _ _ hM] at hx
        unfold Hs at hx
        omega
    · rcases hml.2 with ⟨h3, _⟩ | ⟨_, _, _, h3⟩
      · rw [h] at h3; cases h3
      · unfold hAN
        cases (decide ((lo : Int) ≤ n) && decide ((n : Int) ≤ hi)) <;> cases (decide ((lo2 : Int) ≤ n) && decide ((n : Int) ≤ hi2)) <;> revert h3 <;> cases hs N r n <;> cases hs M q n <;> intro h3 <;> first | rfl | cases h3


/-- What is met lies, by its low bits, in the first. -/
theorem mt_in {lo hi N r lo2 hi2 M q a b c d : Nat} (hN' : N ≤ 64) (hr : r < 2 ^ 64) (hM : M ≤ 64) (hq : q < 2 ^ 64) (rl : r < 2 ^ N) (ql : q < 2 ^ M) (h1 : hi < 2 ^ 64) (h : mt lo hi N r lo2 hi2 M q = some (a, b, c, d)) : N ≤ c ∧ hs N r d = true ∧ a ≤ b ∧ b < 2 ^ 64 ∧ c ≤ 64 ∧ d < 2 ^ c := by
  have hml := meet_law N r M q 0 hN' hM hr hq
  unfold mt at h
  split at h
  · rename_i hk
    rw [Bool.and_eq_true] at hk
    have hle : max lo lo2 ≤ min hi hi2 := by have := of_decide_eq_true (show decide _ = true from hk.1); omega
    rcases tight_means hle (by omega) hml.1.1 (mR_right N r M q rl ql) with ⟨e, _⟩ | ⟨a', b', c', d', e, hab, hb, hc, hd, _, _, _, _, _, _, hw1, hw2⟩
    · rw [e] at h; cases h
    · rw [e] at h; cases h
      rcases hml.2 with ⟨_, hw, _⟩ | ⟨h3, _⟩
      · rw [Bool.and_eq_true, decide_eq_true_iff] at hw
        refine ⟨Nat.le_trans hw.1 hw1, ?_, hab, hb, hc, hd⟩
        have e1 := of_decide_eq_true hw.2
        refine hs_of ?_
        rw [← mod_mod_pow d hw.1, hw2]; exact e1
      · rw [hk.2] at h3; cases h3
  · cases h

theorem r41 {a b c d a' b' c' d' : Int} {u v : Bool} (h1 : a = a') (h2 : b = b') (h3 : c = c') (h4 : d = d') (h5 : u = v) : (some ([a, b, c, d], [u]) : Option (List Int × List Bool)) = some ([a', b', c', d'], [v]) := by rw [h1, h2, h3, h4, h5]
/-! What is known, right: of natural numbers. -/
def Rt (lo hi N r : Nat) : Prop := lo ≤ hi ∧ hi < 2 ^ 64 ∧ N ≤ 64 ∧ r < 2 ^ N
def RtI (i j k l : Int) : Prop := ∃ a b c d : Nat, i = a ∧ j = b ∧ k = c ∧ l = d ∧ Rt a b c d
/-- n is in what is told, and that lies in the low bits N, r. -/
def In (N r : Nat) (i j k l : Int) (n : Nat) : Prop := ∃ a b c d : Nat, i = a ∧ j = b ∧ k = c ∧ l = d ∧ hAN a b c d n = true ∧ N ≤ c ∧ hs N r d = true ∧ Rt a b c d
def Res (lo hi N r : Nat) (P : Nat → Prop) (i j k l : Int) (u : Bool) : Prop := (u = true → RtI i j k l) ∧ ∀ n, n < 2 ^ 64 → hAN lo hi N r n = true → P n → u = true ∧ In N r i j k l n
theorem Rt.r64 {lo hi N r : Nat} (h : Rt lo hi N r) : r < 2 ^ 64 := Nat.lt_of_lt_of_le h.2.2.2 (pow_le h.2.2.1)
theorem self_res {lo hi N r : Nat} (h : Rt lo hi N r) (P : Nat → Prop) : Res lo hi N r P lo hi N r true :=
  ⟨fun _ => ⟨lo, hi, N, r, rfl, rfl, rfl, rfl, h⟩, fun n _ hA _ => ⟨rfl, lo, hi, N, r, rfl, rfl, rfl, rfl, hA, Nat.le_refl _, hs_of rfl, h⟩⟩
theorem hAN_true {lo hi N r n : Nat} (h : hAN lo hi N r n = true) : lo ≤ n ∧ n ≤ hi ∧ hs N r n = true := by
  unfold hAN at h
  simp only [Bool.and_eq_true, decide_eq_true_eq] at h
  exact ⟨by omega, by omega, h.2⟩
theorem hAN_of {lo hi N r n : Nat} (h1 : lo ≤ n) (h2 : n ≤ hi) (h3 : hs N r n = true) : hAN lo hi N r n = true := by
  unfold hAN; rw [h3, decide_eq_true (by omega), decide_eq_true (by omega)]; rfl
theorem hA_hAN {lo hi N r n : Nat} (hN : N ≤ 64) (hr : r < 2 ^ 64) (hn : n < 2 ^ 64) : hA lo hi N r n = hAN lo hi N r n := by
  unfold hA hAN; rw [hL_nat N r n hN hr hn]
theorem tight_res {lo hi N r : Nat} (h : Rt lo hi N r) (P : Nat → Prop) : Res lo hi N r P (t0 (tg lo hi N r)) (t1 (tg lo hi N r)) (t2 (tg lo hi N r)) (t3 (tg lo hi N r)) (tb (tg lo hi N r)) := by
  rcases tight_means h.1 h.2.1 h.2.2.1 h.2.2.2 with ⟨e, hno⟩ | ⟨a, b, c, d, e, hab, hb, hc, hd, _, _, _, _, _, hiff, hw1, hw2⟩
  · rw [e]
    refine ⟨(fun h => by cases h), fun n hn hA _ => ?_⟩
    exact absurd ((hAN_Hs _ _ _ _ _ h.2.2.1).1 hA) (hno n hn)
  · rw [e]
    refine ⟨fun _ => ⟨a, b, c, d, rfl, rfl, rfl, rfl, hab, hb, hc, hd⟩, fun n hn hA _ => ⟨rfl, a, b, c, d, rfl, rfl, rfl, rfl, ?_, hw1, ?_, hab, hb, hc, hd⟩⟩
    · exact (hAN_Hs _ _ _ _ _ hc).2 ((hiff n hn).1 ((hAN_Hs _ _ _ _ _ h.2.2.1).1 hA))
    · exact hs_of (by rw [hw2, Nat.mod_eq_of_lt h.2.2.2])
theorem meet_res {lo hi N r lo2 hi2 M q : Nat} (h : Rt lo hi N r) (h2 : Rt lo2 hi2 M q) :
    Res lo hi N r (fun n => hAN lo2 hi2 M q n = true) (t0 (mt lo hi N r lo2 hi2 M q)) (t1 (mt lo hi N r lo2 hi2 M q)) (t2 (mt lo hi N r lo2 hi2 M q)) (t3 (mt lo hi N r lo2 hi2 M q)) (tb (mt lo hi N r lo2 hi2 M q)) := by
  have key := fun n hn => mt_law lo hi N r lo2 hi2 M q n h.2.2.1 h.r64 h2.2.2.1 h2.r64 h.2.2.2 h2.2.2.2 h.2.1 h2.2.1 hn
  cases e : mt lo hi N r lo2 hi2 M q with
  | none =>
    refine ⟨(fun h => by cases h), fun n hn hA hB => ?_⟩
    rcases key n hn with ⟨_, h3⟩ | ⟨a, b, c, d, h3, _⟩
    · rw [hA, hB] at h3; cases h3
    · rw [e] at h3; cases h3
  | some x =>
    obtain ⟨a, b, c, d⟩ := x
    obtain ⟨w1, w2, g1, g2, g3, g4⟩ := mt_in h.2.2.1 h.r64 h2.2.2.1 h2.r64 h.2.2.2 h2.2.2.2 h.2.1 e
    refine ⟨fun _ => ⟨a, b, c, d, rfl, rfl, rfl, rfl, g1, g2, g3, g4⟩, fun n hn hA hB => ⟨rfl, a, b, c, d, rfl, rfl, rfl, rfl, ?_, w1, w2, g1, g2, g3, g4⟩⟩
    rcases key n hn with ⟨h3, _⟩ | ⟨a', b', c', d', h3, _, _, _, _, h4⟩
    · rw [e] at h3; cases h3
    · rw [e] at h3; cases h3; rw [h4, hA, hB]; rfl
theorem zero_t (x : Option (Nat × Nat × Nat × Nat)) (h : tb x = false) : t0 x = 0 ∧ t1 x = 0 ∧ t2 x = 0 ∧ t3 x = 0 := by cases x with
  | none => exact ⟨rfl, rfl, rfl, rfl⟩
  | some x => cases h
theorem q33 {lo hi N r lo2 hi2 M q : Nat} (h : Rt lo hi N r) (h2 : Rt lo2 hi2 M q) : F33 [(lo : Int), (hi : Int), (N : Int), (r : Int), (lo2 : Int), (hi2 : Int), (M : Int), (q : Int)] [] = some ([t0 (mt lo hi N r lo2 hi2 M q), t1 (mt lo hi N r lo2 hi2 M q), t2 (mt lo hi N r lo2 hi2 M q), t3 (mt lo hi N r lo2 hi2 M q)], [tb (mt lo hi N r lo2 hi2 M q)]) :=
  qm33 lo hi N r lo2 hi2 M q h.2.2.1 h.r64 h2.2.2.1 h2.r64 h.2.1 h2.2.1
theorem q59 {lo hi N r : Nat} (h : Rt lo hi N r) : F59 [(lo : Int), (hi : Int), (N : Int), (r : Int)] [] = some ([t0 (tg lo hi N r), t1 (tg lo hi N r), t2 (tg lo hi N r), t3 (tg lo hi N r)], [tb (tg lo hi N r)]) := qm59 lo hi N r h.1 h.2.1 h.2.2.1 h.r64
theorem Rt.inr {lo hi N r : Nat} (h : Rt lo hi N r) : (0 ≤ (lo : Int) ∧ (lo : Int) < 18446744073709551616) ∧ (0 ≤ (hi : Int) ∧ (hi : Int) < 18446744073709551616) ∧ (0 ≤ (r : Int) ∧ (r : Int) < 18446744073709551616) := by
  have h1 := h.r64
  have h2 := h.1
  have h3 := h.2.1
  exact ⟨by omega, by omega, by omega⟩
theorem one_N {lo hi N r n : Nat} (h : Rt lo hi N r) (hn : n < 2 ^ 64) (h1 : ob lo hi N = true) (hA' : hAN lo hi N r n = true) : ov lo hi N r = n := by
  rw [← hA_hAN h.2.2.1 h.r64 hn] at hA'
  exact one_has h.inr.2.2 ⟨by omega, by omega⟩ h1 hA'

theorem e34_42 : Tab.fn a34 42 = F42 := Tab.fn_hd
theorem e34_59 : Tab.fn a34 59 = F59 := ((Tab.fn_tl rfl).trans Tab.fn_hd)
theorem e35_33 : Tab.fn a35 33 = F33 := Tab.fn_hd
theorem e12_31 : Tab.fn a12 31 = F31 := Tab.fn_hd
theorem e12_32 : Tab.fn a12 32 = F32 := ((Tab.fn_tl rfl).trans Tab.fn_hd)
theorem e12_33 : Tab.fn a12 33 = F33 := ((Tab.fn_tl rfl).trans ((Tab.fn_tl rfl).trans Tab.fn_hd))
theorem e12_34 : Tab.fn a12 34 = F34 := ((Tab.fn_tl rfl).trans ((Tab.fn_tl rfl).trans ((Tab.fn_tl rfl).trans Tab.fn_hd)))
theorem e12_35 : Tab.fn a12 35 = F35 := ((Tab.fn_tl rfl).trans ((Tab.fn_tl rfl).trans ((Tab.fn_tl rfl).trans ((Tab.fn_tl rfl).trans Tab.fn_hd))))
theorem e17_37 : Tab.fn a17 37 = F37 := Tab.fn_hd


set_option maxHeartbeats 4000000 in
theorem q34_1 (lo hi N r lo2 hi2 M q : Nat) (h0 : ob (lo2 : Int) hi2 M = false) : F34 [(lo : Int), (hi : Int), (N : Int), (r : Int), (lo2 : Int), (hi2 : Int), (M : Int), (q : Int)] [] = some ([(lo : Int), (hi : Int), (N : Int), (r : Int)], [true]) := by
  refine Eq.trans (Fd_of (n := 8) (m := 0) (t := XTransLimit.t34) (C := Tab.fn a34) rfl rfl) ?_
  rw [XTransLimit.t34]
  refine st_1_1 (e34_42) (g := true) rfl (l := [(lo2 : Int), (hi2 : Int), (M : Int), (q : Int)]) rfl (m := []) rfl (cl_t (q42 (lo2 : Int) (hi2 : Int) (M : Int) (q : Int))) fun i8 b0 hi8 hb0 => ?_
  show T.den _ _ [(lo : Int), (hi : Int), (N : Int), (r : Int), (lo2 : Int), (hi2 : Int), (M : Int), (q : Int), i8] [b0] = _
  refine st_ite (fun hc => ?_) (fun hc => ?_)
  · replace hc : (!b0) = true := hc
    have c1 := hc
    clear hc
    refine st_ret ?_
    show some ([(lo : Int), (hi : Int), (N : Int), (r : Int)], [true]) = _
    rfl
  · replace hc : (!b0) = false := hc
    have c2 := hc
    clear hc
    rw [hb0, h0] at c2; cases c2

set_option maxHeartbeats 4000000 in
theorem q34_2 (lo hi N r lo2 hi2 M q : Nat) (h0 : ob (lo2 : Int) hi2 M = true) (h1 : ob (lo : Int) hi N = true) : F34 [(lo : Int), (hi : Int), (N : Int), (r : Int), (lo2 : Int), (hi2 : Int), (M : Int), (q : Int)] [] = some ([(lo : Int), (hi : Int), (N : Int), (r : Int)], [ov (lo : Int) hi N r != ov (lo2 : Int) hi2 M q]) := by
  refine Eq.trans (Fd_of (n := 8) (m := 0) (t := XTransLimit.t34) (C := Tab.fn a34) rfl rfl) ?_
  rw [XTransLimit.t34]
  refine st_1_1 (e34_42) (g := true) rfl (l := [(lo2 : Int), (hi2 : Int), (M : Int), (q : Int)]) rfl (m := []) rfl (cl_t (q42 (lo2 : Int) (hi2 : Int) (M : Int) (q : Int))) fun i8 b0 hi8 hb0 => ?_
  show T.den _ _ [(lo : Int), (hi : Int), (N : Int), (r : Int), (lo2 : Int), (hi2 : Int), (M : Int), (q : Int), i8] [b0] = _
  refine st_ite (fun hc => ?_) (fun hc => ?_)
  · replace hc : (!b0) = true := hc
    have c1 := hc
    clear hc
    rw [hb0, h0] at c1; cases c1
  · replace hc : (!b0) = false := hc
    have c2 := hc
    clear hc
    refine st_1_1 (e34_42) (g := true) rfl (l := [(lo : Int), (hi : Int), (N : Int), (r : Int)]) rfl (m := []) rfl (cl_t (q42 (lo : Int) (hi : Int) (N : Int) (r : Int))) fun i9 b1 hi9 hb1 => ?_
    show T.den _ _ [(lo : Int), (hi : Int), (N : Int), (r : Int), (lo2 : Int), (hi2 : Int), (M : Int), (q : Int), i8, i9] [b0, b1] = _
    refine st_ite (fun hc => ?_) (fun hc => ?_)
    · replace hc : b1 = true := hc
      have c3 := hc
      clear hc
      refine st_ret ?_
      show some ([(lo : Int), (hi : Int), (N : Int), (r : Int)], [(i9 != i8)]) = _
      rw [hi9, hi8]
    · replace hc : b1 = false := hc
      have c4 := hc
      clear hc
      rw [hb1, h1] at c4; cases c4

set_option maxHeartbeats 4000000 in
theorem q34_3 (lo hi N r lo2 hi2 M q : Nat) (x0 x1 x2 x3 : Int) (u : Bool) (h0 : ob (lo2 : Int) hi2 M = true) (h1 : ob (lo : Int) hi N = false) (h2 : (lo : Int) = ov (lo2 : Int) hi2 M q) (h59 : F59 [arI .add .u64 (lo : Int) 1, (hi : Int), (N : Int), (r : Int)] [] = some ([x0, x1, x2, x3], [u])) : F34 [(lo : Int), (hi : Int), (N : Int), (r : Int), (lo2 : Int), (hi2 : Int), (M : Int), (q : Int)] [] = some ([x0, x1, x2, x3], [u]) := by
  refine Eq.trans (Fd_of (n := 8) (m := 0) (t := XTransLimit.t34) (C := Tab.fn a34) rfl rfl) ?_
  rw [XTransLimit.t34]
  refine st_1_1 (e34_42) (g := true) rfl (l := [(lo2 : Int), (hi2 : Int), (M : Int), (q : Int)]) rfl (m := []) rfl (cl_t (q42 (lo2 : Int) (hi2 : Int) (M : Int) (q : Int))) fun i8 b0 hi8 hb0 => ?_
  show T.den _ _ [(lo : Int), (hi : Int), (N : Int), (r : Int), (lo2 : Int), (hi2 : Int), (M : Int), (q : Int), i8] [b0] = _
  refine st_ite (fun hc => ?_) (fun hc => ?_)
  · replace hc : (!b0) = true := hc
    have c1 := hc
    clear hc
    rw [hb0, h0] at c1; cases c1
  · replace hc : (!b0) = false := hc
    have c2 := hc
    clear hc
    refine st_1_1 (e34_42) (g := true) rfl (l := [(lo : Int), (hi : Int), (N : Int), (r : Int)]) rfl (m := []) rfl (cl_t (q42 (lo : Int) (hi : Int) (N : Int) (r : Int))) fun i9 b1 hi9 hb1 => ?_
    show T.den _ _ [(lo : Int), (hi : Int), (N : Int), (r : Int), (lo2 : Int), (hi2 : Int), (M : Int), (q : Int), i8, i9] [b0, b1] = _
    refine st_ite (fun hc => ?_) (fun hc => ?_)
    · replace hc : b1 = true := hc
      have c3 := hc
      clear hc
      rw [hb1, h1] at c3; cases c3
    · replace hc : b1 = false := hc
      have c4 := hc
      clear hc
      refine st_ite (fun hc => ?_) (fun hc => ?_)
      · replace hc : ((lo : Int) == i8) = true := hc
        have c5 := hc
        clear hc
        refine st_4_1 (e34_59) (g := true) rfl (l := [(arI .add .u64 (lo : Int) 1), (hi : Int), (N : Int), (r : Int)]) rfl (m := []) rfl (cl_t h59) fun i10 i11 i12 i13 b2 hi10 hi11 hi12 hi13 hb2 => ?_
        show T.den _ _ [(lo : Int), (hi : Int), (N : Int), (r : Int), (lo2 : Int), (hi2 : Int), (M : Int), (q : Int), i8, i9, i10, i11, i12, i13] [b0, b1, b2] = _
        refine st_ret ?_
        show some ([i10, i11, i12, i13], [b2]) = _
        exact r41 hi10 hi11 hi12 hi13 hb2
      · replace hc : ((lo : Int) == i8) = false := hc
        have c6 := hc
        clear hc
        rw [hi8, beq_eq_false_iff_ne] at c6; exact absurd h2 c6

set_option maxHeartbeats 4000000 in
theorem q34_4 (lo hi N r lo2 hi2 M q : Nat) (x0 x1 x2 x3 : Int) (u : Bool) (h0 : ob (lo2 : Int) hi2 M = true) (h1 : ob (lo : Int) hi N = false) (h2 : ¬ (lo : Int) = ov (lo2 : Int) hi2 M q) (h3 : (hi : Int) = ov (lo2 : Int) hi2 M q) (h59 : F59 [(lo : Int), arI .sub .u64 (hi : Int) 1, (N : Int), (r : Int)] [] = some ([x0, x1, x2, x3], [u])) : F34 [(lo : Int), (hi : Int), (N : Int), (r : Int), (lo2 : Int), (hi2 : Int), (M : Int), (q : Int)] [] = some ([x0, x1, x2, x3], [u]) := by
  refine Eq.trans (Fd_of (n := 8) (m := 0) (t := XTransLimit.t34) (C := Tab.fn a34) rfl rfl) ?_
  rw [XTransLimit.t34]
  refine st_1_1 (e34_42) (g := true) rfl (l := [(lo2 : Int), (hi2 : Int), (M : Int), (q : Int)]) rfl (m := []) rfl (cl_t (q42 (lo2 : Int) (hi2 : Int) (M : Int) (q : Int))) fun i8 b0 hi8 hb0 => ?_
  show T.den _ _ [(lo : Int), (hi : Int), (N : Int), (r : Int), (lo2 : Int), (hi2 : Int), (M : Int), (q : Int), i8] [b0] = _
  refine st_ite (fun hc => ?_) (fun hc => ?_)
  · replace hc : (!b0) = true := hc
    have c1 := hc
    clear hc
    rw [hb0, h0] at c1; cases c1
  · replace hc : (!b0) = false := hc
    have c2 := hc
    clear hc
    refine st_1_1 (e34_42) (g := true) rfl (l := [(lo : Int), (hi : Int), (N : Int), (r : Int)]) rfl (m := []) rfl (cl_t (q42 (lo : Int) (hi : Int) (N : Int) (r : Int))) fun i9 b1 hi9 hb1 => ?_
    show T.den _ _ [(lo : Int), (hi : Int), (N : Int), (r : Int), (lo2 : Int), (hi2 : Int), (M : Int), (q : Int), i8, i9] [b0, b1] = _
    refine st_ite (fun hc => ?_) (fun hc => ?_)
    · replace hc : b1 = true := hc
      have c3 := hc
      clear hc
      rw [hb1, h1] at c3; cases c3
    · replace hc : b1 = false := hc
      have c4 := hc
      clear hc
      refine st_ite (fun hc => ?_) (fun hc => ?_)
      · replace hc : ((lo : Int) == i8) = true := hc
        have c5 := hc
        clear hc
        rw [hi8] at c5; exact absurd (beq_iff_eq.1 c5) h2
      · replace hc : ((lo : Int) == i8) = false := hc
        have c6 := hc
        clear hc
        refine st_ite (fun hc => ?_) (fun hc => ?_)
        · replace hc : ((hi : Int) == i8) = true := hc
          have c7 := hc
          clear hc
          refine st_4_1 (e34_59) (g := true) rfl (l := [(lo : Int), (arI .sub .u64 (hi : Int) 1), (N : Int), (r : Int)]) rfl (m := []) rfl (cl_t h59) fun i10 i11 i12 i13 b2 hi10 hi11 hi12 hi13 hb2 => ?_
          show T.den _ _ [(lo : Int), (hi : Int), (N : Int), (r : Int), (lo2 : Int), (hi2 : Int), (M : Int), (q : Int), i8, i9, i10, i11, i12, i13] [b0, b1, b2] = _
          refine st_ret ?_
          show some ([i10, i11, i12, i13], [b2]) = _
          exact r41 hi10 hi11 hi12 hi13 hb2
        · replace hc : ((hi : Int) == i8) = false := hc
          have c8 := hc
          clear hc
          rw [hi8, beq_eq_false_iff_ne] at c8; exact absurd h3 c8

set_option maxHeartbeats 4000000 in
theorem q34_5 (lo hi N r lo2 hi2 M q : Nat) (x0 x1 x2 x3 : Int) (u : Bool) (h0 : ob (lo2 : Int) hi2 M = true) (h1 : ob (lo : Int) hi N = false) (h2 : ¬ (lo : Int) = ov (lo2 : Int) hi2 M q) (h3 : ¬ (hi : Int) = ov (lo2 : Int) hi2 M q) (h59 : F59 [(lo : Int), (hi : Int), (N : Int), (r : Int)] [] = some ([x0, x1, x2, x3], [u])) : F34 [(lo : Int), (hi : Int), (N : Int), (r : Int), (lo2 : Int), (hi2 : Int), (M : Int), (q : Int)] [] = some ([x0, x1, x2, x3], [u]) := by
  refine Eq.trans (Fd_of (n := 8) (m := 0) (t := XTransLimit.t34) (C := Tab.fn a34) rfl rfl) ?_
  rw [XTransLimit.t34]
  refine st_1_1 (e34_42) (g := true) rfl (l := [(lo2 : Int), (hi2 : Int), (M : Int), (q : Int)]) rfl (m := []) rfl (cl_t (q42 (lo2 : Int) (hi2 : Int) (M : Int) (q : Int))) fun i8 b0 hi8 hb0 => ?_
  show T.den _ _ [(lo : Int), (hi : Int), (N : Int), (r : Int), (lo2 : Int), (hi2 : Int), (M : Int), (q : Int), i8] [b0] = _
  refine st_ite (fun hc => ?_) (fun hc => ?_)
  · replace hc : (!b0) = true := hc
    have c1 := hc
    clear hc
    rw [hb0, h0] at c1; cases c1
  · replace hc : (!b0) = false := hc
    have c2 := hc
    clear hc
    refine st_1_1 (e34_42) (g := true) rfl (l := [(lo : Int), (hi : Int), (N : Int), (r : Int)]) rfl (m := []) rfl (cl_t (q42 (lo : Int) (hi : Int) (N : Int) (r : Int))) fun i9 b1 hi9 hb1 => ?_
    show T.den _ _ [(lo : Int), (hi : Int), (N : Int), (r : Int), (lo2 : Int), (hi2 : Int), (M : Int), (q : Int), i8, i9] [b0, b1] = _
    refine st_ite (fun hc => ?_) (fun hc => ?_)
    · replace hc : b1 = true := hc
      have c3 := hc
      clear hc
      rw [hb1, h1] at c3; cases c3
    · replace hc : b1 = false := hc
      have c4 := hc
      clear hc
      refine st_ite (fun hc => ?_) (fun hc => ?_)
      · replace hc : ((lo : Int) == i8) = true := hc
        have c5 := hc
        clear hc
        rw [hi8] at c5; exact absurd (beq_iff_eq.1 c5) h2
      · replace hc : ((lo : Int) == i8) = false := hc
        have c6 := hc
        clear hc
        refine st_ite (fun hc => ?_) (fun hc => ?_)
        · replace hc : ((hi : Int) == i8) = true := hc
          have c7 := hc
          clear hc
          rw [hi8] at c7; exact absurd (beq_iff_eq.1 c7) h3
        · replace hc : ((hi : Int) == i8) = false := hc
          have c8 := hc
          clear hc
          refine st_4_1 (e34_59) (g := true) rfl (l := [(lo : Int), (hi : Int), (N : Int), (r : Int)]) rfl (m := []) rfl (cl_t h59) fun i10 i11 i12 i13 b2 hi10 hi11 hi12 hi13 hb2 => ?_
          show T.den _ _ [(lo : Int), (hi : Int), (N : Int), (r : Int), (lo2 : Int), (hi2 : Int), (M : Int), (q : Int), i8, i9, i10, i11, i12, i13] [b0, b1, b2] = _
          refine st_ret ?_
          show some ([i10, i11, i12, i13], [b2]) = _
          exact r41 hi10 hi11 hi12 hi13 hb2

theorem res_mono {lo hi lo' hi' N r : Nat} {P P' : Nat → Prop} {i j k l : Int} {u : Bool} (h : Res lo hi N r P i j k l u) (hm : ∀ n, n < 2 ^ 64 → hAN lo' hi' N r n = true → P' n → hAN lo hi N r n = true ∧ P n) : Res lo' hi' N r P' i j k l u :=
  ⟨h.1, fun n hn hA hP => h.2 n hn (hm n hn hA hP).1 (hm n hn hA hP).2⟩
def Unl (lo2 hi2 M q : Nat) (n : Nat) : Prop := ∃ m, m < 2 ^ 64 ∧ hAN lo2 hi2 M q m = true ∧ n ≠ m
theorem q34 {lo hi N r lo2 hi2 M q : Nat} (h : Rt lo hi N r) (h2 : Rt lo2 hi2 M q) : ∃ i j k l u, F34 [(lo : Int), (hi : Int), (N : Int), (r : Int), (lo2 : Int), (hi2 : Int), (M : Int), (q : Int)] [] = some ([i, j, k, l], [u]) ∧ Res lo hi N r (Unl lo2 hi2 M q) i j k l u := by
  cases h0 : ob (lo2 : Int) hi2 M
  · exact ⟨_, _, _, _, _, q34_1 lo hi N r lo2 hi2 M q h0, self_res h _⟩
  · have hv : ∀ m : Nat, m < 2 ^ 64 → hAN lo2 hi2 M q m = true → ov (lo2 : Int) hi2 M q = m := fun m hm hB => one_N h2 hm h0 hB
    cases h1 : ob (lo : Int) hi N
    · have hne : lo ≠ hi := fun e => by unfold ob at h1; rw [decide_eq_true (.inl (by rw [e]))] at h1; cases h1
      by_cases e1 : (lo : Int) = ov (lo2 : Int) hi2 M q
      · have hR : Rt (lo + 1) hi N r := ⟨by have := h.1; omega, h.2⟩
        have hT := q59 hR
        have ea : arI .add .u64 (lo : Int) 1 = ((lo + 1 : Nat) : Int) := by rw [arAdd]; have := h.1; have := h.2.1; omega
        refine ⟨_, _, _, _, _, q34_3 lo hi N r lo2 hi2 M q _ _ _ _ _ h0 h1 e1 (by rw [ea]; exact hT), res_mono (tight_res hR (fun _ => True)) fun n hn hA hP => ⟨?_, trivial⟩⟩
        obtain ⟨m, hm, hB, hnm⟩ := hP
        have := hv m hm hB
        obtain ⟨k1, k2, k3⟩ := hAN_true hA
        exact hAN_of (by omega) k2 k3
      · by_cases e2 : (hi : Int) = ov (lo2 : Int) hi2 M q
        · have hR : Rt lo (hi - 1) N r := ⟨by have := h.1; omega, by have := h.2.1; omega, h.2.2⟩
          have hT := q59 hR
          have ea : arI .sub .u64 (hi : Int) 1 = ((hi - 1 : Nat) : Int) := by rw [arSub]; have := h.1; have := h.2.1; omega
          refine ⟨_, _, _, _, _, q34_4 lo hi N r lo2 hi2 M q _ _ _ _ _ h0 h1 e1 e2 (by rw [ea]; exact hT), res_mono (tight_res hR (fun _ => True)) fun n hn hA hP => ⟨?_, trivial⟩⟩
          obtain ⟨m, hm, hB, hnm⟩ := hP
          have := hv m hm hB
          obtain ⟨k1, k2, k3⟩ := hAN_true hA
          exact hAN_of k1 (by omega) k3
        · exact ⟨_, _, _, _, _, q34_5 lo hi N r lo2 hi2 M q _ _ _ _ _ h0 h1 e1 e2 (q59 h), tight_res h _⟩
    · refine ⟨_, _, _, _, _, q34_2 lo hi N r lo2 hi2 M q h0 h1, fun hu => (self_res h (fun _ => True)).1 rfl, fun n hn hA hP => ?_⟩
      obtain ⟨m, hm, hB, hnm⟩ := hP
      have e1 := hv m hm hB
      have e2 := one_N h hn h1 hA
      refine ⟨?_, ((self_res h (fun _ => True)).2 n hn hA trivial).2⟩
      rw [e1, e2, bne_iff_ne]; omega

def Two (lo hi N r lo2 hi2 M q : Nat) (C : Nat → Nat → Prop) (x0 x1 x2 x3 y0 y1 y2 y3 : Int) (u : Bool) : Prop :=
  (u = false → (x0 = 0 ∧ x1 = 0 ∧ x2 = 0 ∧ x3 = 0) ∧ (y0 = 0 ∧ y1 = 0 ∧ y2 = 0 ∧ y3 = 0)) ∧ (u = true → RtI x0 x1 x2 x3 ∧ RtI y0 y1 y2 y3) ∧
  ∀ n m, n < 2 ^ 64 → m < 2 ^ 64 → hAN lo hi N r n = true → hAN lo2 hi2 M q m = true → C n m → u = true ∧ In N r x0 x1 x2 x3 n ∧ In M q y0 y1 y2 y3 m

set_option maxHeartbeats 4000000 in
theorem q35_z (lo hi N r lo2 hi2 M q : Nat) (hz : (((hi2 : Int) == 0) || ((lo : Int) == 18446744073709551615)) = true) : F35 [(lo : Int), (hi : Int), (N : Int), (r : Int), (lo2 : Int), (hi2 : Int), (M : Int), (q : Int)] [true] = some ([0, 0, 0, 0, 0, 0, 0, 0], [false]) := by
  refine Eq.trans (Fd_of (n := 8) (m := 1) (t := XTransLimit.t35) (C := Tab.fn a35) rfl rfl) ?_
  rw [XTransLimit.t35]
  refine st_ite (fun hc => ?_) (fun hc => ?_)
  · replace hc : true = true := hc
    have c1 := hc
    clear hc
    refine st_lb fun b1 hb1 => ?_
    replace hb1 : b1 = (((hi2 : Int) == 0) || ((lo : Int) == 18446744073709551615)) := hb1
    show T.den _ _ [(lo : Int), (hi : Int), (N : Int), (r : Int), (lo2 : Int), (hi2 : Int), (M : Int), (q : Int)] [true, b1] = _
    refine st_ite (fun hc => ?_) (fun hc => ?_)
    · replace hc : b1 = true := hc
      have c2 := hc
      clear hc
      refine st_ret ?_
      show some ([0, 0, 0, 0, 0, 0, 0, 0], [false]) = _
      rfl
    · replace hc : b1 = false := hc
      have c3 := hc
      clear hc
      rw [hb1, hz] at c3; cases c3
  · replace hc : true = false := hc
    have c4 := hc
    clear hc
    cases c4

set_option maxHeartbeats 4000000 in
theorem q35_s0 (lo hi N r lo2 hi2 M q : Nat) (x0 x1 x2 x3 y0 y1 y2 y3 : Int) (u v : Bool) (hz : (((hi2 : Int) == 0) || ((lo : Int) == 18446744073709551615)) = false) (hxa : F33 [(lo : Int), (hi : Int), (N : Int), (r : Int), 0, arI .sub .u64 (hi2 : Int) 1, 0, 0] [] = some ([x0, x1, x2, x3], [u])) (hyb : F33 [(lo2 : Int), (hi2 : Int), (M : Int), (q : Int), arI .add .u64 (lo : Int) 1, 18446744073709551615, 0, 0] [] = some ([y0, y1, y2, y3], [v])) (huv : ((!u) || (!v)) = true) : F35 [(lo : Int), (hi : Int), (N : Int), (r : Int), (lo2 : Int), (hi2 : Int), (M : Int), (q : Int)] [true] = some ([0, 0, 0, 0, 0, 0, 0, 0], [false]) := by
  refine Eq.trans (Fd_of (n := 8) (m := 1) (t := XTransLimit.t35) (C := Tab.fn a35) rfl rfl) ?_
  rw [XTransLimit.t35]
  refine st_ite (fun hc => ?_) (fun hc => ?_)
  · replace hc : true = true := hc
    have c1 := hc
    clear hc
    refine st_lb fun b1 hb1 => ?_
    replace hb1 : b1 = (((hi2 : Int) == 0) || ((lo : Int) == 18446744073709551615)) := hb1
    show T.den _ _ [(lo : Int), (hi : Int), (N : Int), (r : Int), (lo2 : Int), (hi2 : Int), (M : Int), (q : Int)] [true, b1] = _
    refine st_ite (fun hc => ?_) (fun hc => ?_)
    · replace hc : b1 = true := hc
      have c2 := hc
      clear hc
      rw [hb1, hz] at c2; cases c2
    · replace hc : b1 = false := hc
      have c3 := hc
      clear hc
      refine st_4_1 (e35_33) (g := true) rfl (l := [(lo : Int), (hi : Int), (N : Int), (r : Int), 0, (arI .sub .u64 (hi2 : Int) 1), 0, 0]) rfl (m := []) rfl (cl_t hxa) fun i8 i9 i10 i11 b2 hi8 hi9 hi10 hi11 hb2 => ?_
      show T.den _ _ [(lo : Int), (hi : Int), (N : Int), (r : Int), (lo2 : Int), (hi2 : Int), (M : Int), (q : Int), i8, i9, i10, i11] [true, b1, b2] = _
      refine st_4_1 (e35_33) (g := true) rfl (l := [(lo2 : Int), (hi2 : Int), (M : Int), (q : Int), (arI .add .u64 (lo : Int) 1), 18446744073709551615, 0, 0]) rfl (m := []) rfl (cl_t hyb) fun i12 i13 i14 i15 b3 hi12 hi13 hi14 hi15 hb3 => ?_
      show T.den _ _ [(lo : Int), (hi : Int), (N : Int), (r : Int), (lo2 : Int), (hi2 : Int), (M : Int), (q : Int), i8, i9, i10, i11, i12, i13, i14, i15] [true, b1, b2, b3] = _
      refine st_ite (fun hc => ?_) (fun hc => ?_)
      · replace hc : ((!b2) || (!b3)) = true := hc
        have c4 := hc
        clear hc
        refine st_ret ?_
        show some ([0, 0, 0, 0, 0, 0, 0, 0], [false]) = _
        rfl
      · replace hc : ((!b2) || (!b3)) = false := hc
        have c5 := hc
        clear hc
        rw [hb2, hb3] at c5; exact absurd (huv.symm.trans c5) (by decide)
  · replace hc : true = false := hc
    have c6 := hc
    clear hc
    cases c6

set_option maxHeartbeats 4000000 in
theorem q35_s1 (lo hi N r lo2 hi2 M q : Nat) (x0 x1 x2 x3 y0 y1 y2 y3 : Int) (u v : Bool) (hz : (((hi2 : Int) == 0) || ((lo : Int) == 18446744073709551615)) = false) (hxa : F33 [(lo : Int), (hi : Int), (N : Int), (r : Int), 0, arI .sub .u64 (hi2 : Int) 1, 0, 0] [] = some ([x0, x1, x2, x3], [u])) (hyb : F33 [(lo2 : Int), (hi2 : Int), (M : Int), (q : Int), arI .add .u64 (lo : Int) 1, 18446744073709551615, 0, 0] [] = some ([y0, y1, y2, y3], [v])) (huv : ((!u) || (!v)) = false) : F35 [(lo : Int), (hi : Int), (N : Int), (r : Int), (lo2 : Int), (hi2 : Int), (M : Int), (q : Int)] [true] = some ([x0, x1, x2, x3, y0, y1, y2, y3], [true]) := by
  refine Eq.trans (Fd_of (n := 8) (m := 1) (t := XTransLimit.t35) (C := Tab.fn a35) rfl rfl) ?_
  rw [XTransLimit.t35]
  refine st_ite (fun hc => ?_) (fun hc => ?_)
  · replace hc : true = true := hc
    have c1 := hc
    clear hc
    refine st_lb fun b1 hb1 => ?_
    replace hb1 : b1 = (((hi2 : Int) == 0) || ((lo : Int) == 18446744073709551615)) := hb1
    show T.den _ _ [(lo : Int), (hi : Int), (N : Int), (r : Int), (lo2 : Int), (hi2 : Int), (M : Int), (q : Int)] [true, b1] = _
    refine st_ite (fun hc => ?_) (fun hc => ?_)
    · replace hc : b1 = true := hc
      have c2 := hc
      clear hc
      rw [hb1, hz] at c2; cases c2
    · replace hc : b1 = false := hc
      have c3 := hc
      clear hc
      refine st_4_1 (e35_33) (g := true) rfl (l := [(lo : Int), (hi : Int), (N : Int), (r : Int), 0, (arI .sub .u64 (hi2 : Int) 1), 0, 0]) rfl (m := []) rfl (cl_t hxa) fun i8 i9 i10 i11 b2 hi8 hi9 hi10 hi11 hb2 => ?_
      show T.den _ _ [(lo : Int), (hi : Int), (N : Int), (r : Int), (lo2 : Int), (hi2 : Int), (M : Int), (q : Int), i8, i9, i10, i11] [true, b1, b2] = _
      refine st_4_1 (e35_33) (g := true) rfl (l := [(lo2 : Int), (hi2 : Int), (M : Int), (q : Int), (arI .add .u64 (lo : Int) 1), 18446744073709551615, 0, 0]) rfl (m := []) rfl (cl_t hyb) fun i12 i13 i14 i15 b3 hi12 hi13 hi14 hi15 hb3 => ?_
      show T.den _ _ [(lo : Int), (hi : Int), (N : Int), (r : Int), (lo2 : Int), (hi2 : Int), (M : Int), (q : Int), i8, i9, i10, i11, i12, i13, i14, i15] [true, b1, b2, b3] = _
      refine st_ite (fun hc => ?_) (fun hc => ?_)
      · replace hc : ((!b2) || (!b3)) = true := hc
        have c4 := hc
        clear hc
        rw [hb2, hb3] at c4; exact absurd (huv.symm.trans c4) (by decide)
      · replace hc : ((!b2) || (!b3)) = false := hc
        have c5 := hc
        clear hc
        refine st_ret ?_
        show some ([i8, i9, i10, i11, i12, i13, i14, i15], [true]) = _
        rw [hi8, hi9, hi10, hi11, hi12, hi13, hi14, hi15]
  · replace hc : true = false := hc
    have c6 := hc
    clear hc
    cases c6

set_option maxHeartbeats 4000000 in
theorem q35_n0 (lo hi N r lo2 hi2 M q : Nat) (x0 x1 x2 x3 y0 y1 y2 y3 : Int) (u v : Bool) (hxa : F33 [(lo : Int), (hi : Int), (N : Int), (r : Int), 0, (hi2 : Int), 0, 0] [] = some ([x0, x1, x2, x3], [u])) (hyb : F33 [(lo2 : Int), (hi2 : Int), (M : Int), (q : Int), (lo : Int), 18446744073709551615, 0, 0] [] = some ([y0, y1, y2, y3], [v])) (huv : ((!u) || (!v)) = true) : F35 [(lo : Int), (hi : Int), (N : Int), (r : Int), (lo2 : Int), (hi2 : Int), (M : Int), (q : Int)] [false] = some ([0, 0, 0, 0, 0, 0, 0, 0], [false]) := by
  refine Eq.trans (Fd_of (n := 8) (m := 1) (t := XTransLimit.t35) (C := Tab.fn a35) rfl rfl) ?_
  rw [XTransLimit.t35]
  refine st_ite (fun hc => ?_) (fun hc => ?_)
  · replace hc : false = true := hc
    have c1 := hc
    clear hc
    cases c1
  · replace hc : false = false := hc
    have c2 := hc
    clear hc
    refine st_4_1 (e35_33) (g := true) rfl (l := [(lo : Int), (hi : Int), (N : Int), (r : Int), 0, (hi2 : Int), 0, 0]) rfl (m := []) rfl (cl_t hxa) fun i8 i9 i10 i11 b1 hi8 hi9 hi10 hi11 hb1 => ?_
    show T.den _ _ [(lo : Int), (hi : Int), (N : Int), (r : Int), (lo2 : Int), (hi2 : Int), (M : Int), (q : Int), i8, i9, i10, i11] [false, b1] = _
    refine st_4_1 (e35_33) (g := true) rfl (l := [(lo2 : Int), (hi2 : Int), (M : Int), (q : Int), (lo : Int), 18446744073709551615, 0, 0]) rfl (m := []) rfl (cl_t hyb) fun i12 i13 i14 i15 b2 hi12 hi13 hi14 hi15 hb2 => ?_
    show T.den _ _ [(lo : Int), (hi : Int), (N : Int), (r : Int), (lo2 : Int), (hi2 : Int), (M : Int), (q : Int), i8, i9, i10, i11, i12, i13, i14, i15] [false, b1, b2] = _
    refine st_ite (fun hc => ?_) (fun hc => ?_)
    · replace hc : ((!b1) || (!b2)) = true := hc
      have c3 := hc
      clear hc
      refine st_ret ?_
      show some ([0, 0, 0, 0, 0, 0, 0, 0], [false]) = _
      rfl
    · replace hc : ((!b1) || (!b2)) = false := hc
      have c4 := hc
      clear hc
      rw [hb1, hb2] at c4; exact absurd (huv.symm.trans c4) (by decide)

set_option maxHeartbeats 4000000 in
theorem q35_n1 (lo hi N r lo2 hi2 M q : Nat) (x0 x1 x2 x3 y0 y1 y2 y3 : Int) (u v : Bool) (hxa : F33 [(lo : Int), (hi : Int), (N : Int), (r : Int), 0, (hi2 : Int), 0, 0] [] = some ([x0, x1, x2, x3], [u])) (hyb : F33 [(lo2 : Int), (hi2 : Int), (M : Int), (q : Int), (lo : Int), 18446744073709551615, 0, 0] [] = some ([y0, y1, y2, y3], [v])) (huv : ((!u) || (!v)) = false) : F35 [(lo : Int), (hi : Int), (N : Int), (r : Int), (lo2 : Int), (hi2 : Int), (M : Int), (q : Int)] [false] = some ([x0, x1, x2, x3, y0, y1, y2, y3], [true]) := by
  refine Eq.trans (Fd_of (n := 8) (m := 1) (t := XTransLimit.t35) (C := Tab.fn a35) rfl rfl) ?_
  rw [XTransLimit.t35]
  refine st_ite (fun hc => ?_) (fun hc => ?_)
  · replace hc : false = true := hc
    have c1 := hc
    clear hc
    cases c1
  · replace hc : false = false := hc
    have c2 := hc
    clear hc
    refine st_4_1 (e35_33) (g := true) rfl (l := [(lo : Int), (hi : Int), (N : Int), (r : Int), 0, (hi2 : Int), 0, 0]) rfl (m := []) rfl (cl_t hxa) fun i8 i9 i10 i11 b1 hi8 hi9 hi10 hi11 hb1 => ?_
    show T.den _ _ [(lo : Int), (hi : Int), (N : Int), (r : Int), (lo2 : Int), (hi2 : Int), (M : Int), (q : Int), i8, i9, i10, i11] [false, b1] = _
    refine st_4_1 (e35_33) (g := true) rfl (l := [(lo2 : Int), (hi2 : Int), (M : Int), (q : Int), (lo : Int), 18446744073709551615, 0, 0]) rfl (m := []) rfl (cl_t hyb) fun i12 i13 i14 i15 b2 hi12 hi13 hi14 hi15 hb2 => ?_
    show T.den _ _ [(lo : Int), (hi : Int), (N : Int), (r : Int), (lo2 : Int), (hi2 : Int), (M : Int), (q : Int), i8, i9, i10, i11, i12, i13, i14, i15] [false, b1, b2] = _
    refine st_ite (fun hc => ?_) (fun hc => ?_)
    · replace hc : ((!b1) || (!b2)) = true := hc
      have c3 := hc
      clear hc
      rw [hb1, hb2] at c3; exact absurd (huv.symm.trans c3) (by decide)
    · replace hc : ((!b1) || (!b2)) = false := hc
      have c4 := hc
      clear hc
      refine st_ret ?_
      show some ([i8, i9, i10, i11, i12, i13, i14, i15], [true]) = _
      rw [hi8, hi9, hi10, hi11, hi12, hi13, hi14, hi15]

theorem below_s {lo hi N r lo2 hi2 M q : Nat} (h : Rt lo hi N r) (h2 : Rt lo2 hi2 M q) : ∃ x0 x1 x2 x3 y0 y1 y2 y3 u, F35 [(lo : Int), (hi : Int), (N : Int), (r : Int), (lo2 : Int), (hi2 : Int), (M : Int), (q : Int)] [true] = some ([x0, x1, x2, x3, y0, y1, y2, y3], [u]) ∧ Two lo hi N r lo2 hi2 M q (fun n m => n < m) x0 x1 x2 x3 y0 y1 y2 y3 u := by
  cases hz : (((hi2 : Int) == 0) || ((lo : Int) == 18446744073709551615))
  case true =>
    refine ⟨_, _, _, _, _, _, _, _, _, q35_z lo hi N r lo2 hi2 M q hz, fun _ => ⟨⟨rfl, rfl, rfl, rfl⟩, rfl, rfl, rfl, rfl⟩, (fun h => by cases h), fun n m hn hm hA hB hC => ?_⟩
    exfalso
    have k1 := hAN_true hA
    have k2 := hAN_true hB
    have hC' : n < m := hC
    simp only [Bool.or_eq_true, beq_iff_eq] at hz
    omega
  have hz' := hz
  simp only [Bool.or_eq_false_iff, beq_eq_false_iff_ne] at hz'
  have hRa : Rt 0 (hi2 - 1) 0 0 := ⟨Nat.zero_le _, by have := h2.2.1; omega, by decide, by decide⟩
  have hRb : Rt (lo + 1) 18446744073709551615 0 0 := ⟨by have := h.1; have := h.2.1; omega, by decide, by decide, by decide⟩
  have hxa : F33 [(lo : Int), (hi : Int), (N : Int), (r : Int), 0, arI .sub .u64 (hi2 : Int) 1, 0, 0] [] = some ([t0 (mt lo hi N r 0 (hi2 - 1) 0 0), t1 (mt lo hi N r 0 (hi2 - 1) 0 0), t2 (mt lo hi N r 0 (hi2 - 1) 0 0), t3 (mt lo hi N r 0 (hi2 - 1) 0 0)], [tb (mt lo hi N r 0 (hi2 - 1) 0 0)]) := by rw [show arI .sub .u64 (hi2 : Int) 1 = ((hi2 - 1 : Nat) : Int) from by rw [arSub]; have := h2.2.1; omega]; exact q33 h hRa
  have hyb : F33 [(lo2 : Int), (hi2 : Int), (M : Int), (q : Int), arI .add .u64 (lo : Int) 1, 18446744073709551615, 0, 0] [] = some ([t0 (mt lo2 hi2 M q (lo + 1) 18446744073709551615 0 0), t1 (mt lo2 hi2 M q (lo + 1) 18446744073709551615 0 0), t2 (mt lo2 hi2 M q (lo + 1) 18446744073709551615 0 0), t3 (mt lo2 hi2 M q (lo + 1) 18446744073709551615 0 0)], [tb (mt lo2 hi2 M q (lo + 1) 18446744073709551615 0 0)]) := by rw [show arI .add .u64 (lo : Int) 1 = ((lo + 1 : Nat) : Int) from by rw [arAdd]; have := h.1; have := h.2.1; omega]; exact q33 h2 hRb
  have rx := meet_res h hRa
  have ry := meet_res h2 hRb
  have mem : ∀ n m, n < 2 ^ 64 → m < 2 ^ 64 → hAN lo hi N r n = true → hAN lo2 hi2 M q m = true → (fun n m => n < m) n m → (tb (mt lo hi N r 0 (hi2 - 1) 0 0) = true ∧ In N r (t0 (mt lo hi N r 0 (hi2 - 1) 0 0)) (t1 (mt lo hi N r 0 (hi2 - 1) 0 0)) (t2 (mt lo hi N r 0 (hi2 - 1) 0 0)) (t3 (mt lo hi N r 0 (hi2 - 1) 0 0)) n) ∧ (tb (mt lo2 hi2 M q (lo + 1) 18446744073709551615 0 0) = true ∧ In M q (t0 (mt lo2 hi2 M q (lo + 1) 18446744073709551615 0 0)) (t1 (mt lo2 hi2 M q (lo + 1) 18446744073709551615 0 0)) (t2 (mt lo2 hi2 M q (lo + 1) 18446744073709551615 0 0)) (t3 (mt lo2 hi2 M q (lo + 1) 18446744073709551615 0 0)) m) := fun n m hn hm hA hB hC => by
    have k1 := hAN_true hA
    have k2 := hAN_true hB
    have hC' : n < m := hC
    have e0 : ∀ x, hs 0 0 x = true := fun x => hs_of (by rw [Nat.pow_zero, Nat.mod_one, Nat.mod_one])
    exact ⟨rx.2 n hn hA (hAN_of (Nat.zero_le _) (by omega) (e0 n)), ry.2 m hm hB (hAN_of (by omega) (by omega) (e0 m))⟩
  cases huv : ((!(tb (mt lo hi N r 0 (hi2 - 1) 0 0))) || (!(tb (mt lo2 hi2 M q (lo + 1) 18446744073709551615 0 0))))
  · have hu : tb (mt lo hi N r 0 (hi2 - 1) 0 0) = true := by revert huv; cases tb (mt lo hi N r 0 (hi2 - 1) 0 0) <;> simp
    have hv : tb (mt lo2 hi2 M q (lo + 1) 18446744073709551615 0 0) = true := by revert huv; cases tb (mt lo2 hi2 M q (lo + 1) 18446744073709551615 0 0) <;> simp
    exact ⟨_, _, _, _, _, _, _, _, _, q35_s1 lo hi N r lo2 hi2 M q _ _ _ _ _ _ _ _ _ _ hz hxa hyb huv, (fun h => by cases h), fun _ => ⟨rx.1 hu, ry.1 hv⟩, fun n m hn hm hA hB hC => ⟨rfl, (mem n m hn hm hA hB hC).1.2, (mem n m hn hm hA hB hC).2.2⟩⟩
  · refine ⟨_, _, _, _, _, _, _, _, _, q35_s0 lo hi N r lo2 hi2 M q _ _ _ _ _ _ _ _ _ _ hz hxa hyb huv, fun _ => ⟨⟨rfl, rfl, rfl, rfl⟩, rfl, rfl, rfl, rfl⟩, (fun h => by cases h), fun n m hn hm hA hB hC => ?_⟩
    obtain ⟨⟨e1, _⟩, e2, _⟩ := mem n m hn hm hA hB hC
    rw [e1, e2] at huv; cases huv

theorem below_n {lo hi N r lo2 hi2 M q : Nat} (h : Rt lo hi N r) (h2 : Rt lo2 hi2 M q) : ∃ x0 x1 x2 x3 y0 y1 y2 y3 u, F35 [(lo : Int), (hi : Int), (N : Int), (r : Int), (lo2 : Int), (hi2 : Int), (M : Int), (q : Int)] [false] = some ([x0, x1, x2, x3, y0, y1, y2, y3], [u]) ∧ Two lo hi N r lo2 hi2 M q (fun n m => n ≤ m) x0 x1 x2 x3 y0 y1 y2 y3 u := by
  have hRa : Rt 0 (hi2) 0 0 := ⟨Nat.zero_le _, by have := h2.2.1; omega, by decide, by decide⟩
  have hRb : Rt (lo) 18446744073709551615 0 0 := ⟨by have := h.1; have := h.2.1; omega, by decide, by decide, by decide⟩
  have hxa : F33 [(lo : Int), (hi : Int), (N : Int), (r : Int), 0, (hi2 : Int), 0, 0] [] = some ([t0 (mt lo hi N r 0 (hi2) 0 0), t1 (mt lo hi N r 0 (hi2) 0 0), t2 (mt lo hi N r 0 (hi2) 0 0), t3 (mt lo hi N r 0 (hi2) 0 0)], [tb (mt lo hi N r 0 (hi2) 0 0)]) := by exact q33 h hRa
  have hyb : F33 [(lo2 : Int), (hi2 : Int), (M : Int), (q : Int), (lo : Int), 18446744073709551615, 0, 0] [] = some ([t0 (mt lo2 hi2 M q (lo) 18446744073709551615 0 0), t1 (mt lo2 hi2 M q (lo) 18446744073709551615 0 0), t2 (mt lo2 hi2 M q (lo) 18446744073709551615 0 0), t3 (mt lo2 hi2 M q (lo) 18446744073709551615 0 0)], [tb (mt lo2 hi2 M q (lo) 18446744073709551615 0 0)]) := by exact q33 h2 hRb
  have rx := meet_res h hRa
  have ry := meet_res h2 hRb
  have mem : ∀ n m, n < 2 ^ 64 → m < 2 ^ 64 → hAN lo hi N r n = true → hAN lo2 hi2 M q m = true → (fun n m => n ≤ m) n m → (tb (mt lo hi N r 0 (hi2) 0 0) = true ∧ In N r (t0 (mt lo hi N r 0 (hi2) 0 0)) (t1 (mt lo hi N r 0 (hi2) 0 0)) (t2 (mt lo hi N r 0 (hi2) 0 0)) (t3 (mt lo hi N r 0 (hi2) 0 0)) n) ∧ (tb (mt lo2 hi2 M q (lo) 18446744073709551615 0 0) = true ∧ In M q (t0 (mt lo2 hi2 M q (lo) 18446744073709551615 0 0)) (t1 (mt lo2 hi2 M q (lo) 18446744073709551615 0 0)) (t2 (mt lo2 hi2 M q (lo) 18446744073709551615 0 0)) (t3 (mt lo2 hi2 M q (lo) 18446744073709551615 0 0)) m) := fun n m hn hm hA hB hC => by
    have k1 := hAN_true hA
    have k2 := hAN_true hB
    have hC' : n ≤ m := hC
    have e0 : ∀ x, hs 0 0 x = true := fun x => hs_of (by rw [Nat.pow_zero, Nat.mod_one, Nat.mod_one])
    exact ⟨rx.2 n hn hA (hAN_of (Nat.zero_le _) (by omega) (e0 n)), ry.2 m hm hB (hAN_of (by omega) (by omega) (e0 m))⟩
  cases huv : ((!(tb (mt lo hi N r 0 (hi2) 0 0))) || (!(tb (mt lo2 hi2 M q (lo) 18446744073709551615 0 0))))
  · have hu : tb (mt lo hi N r 0 (hi2) 0 0) = true := by revert huv; cases tb (mt lo hi N r 0 (hi2) 0 0) <;> simp
    have hv : tb (mt lo2 hi2 M q (lo) 18446744073709551615 0 0) = true := by revert huv; cases tb (mt lo2 hi2 M q (lo) 18446744073709551615 0 0) <;> simp
    exact ⟨_, _, _, _, _, _, _, _, _, q35_n1 lo hi N r lo2 hi2 M q _ _ _ _ _ _ _ _ _ _ hxa hyb huv, (fun h => by cases h), fun _ => ⟨rx.1 hu, ry.1 hv⟩, fun n m hn hm hA hB hC => ⟨rfl, (mem n m hn hm hA hB hC).1.2, (mem n m hn hm hA hB hC).2.2⟩⟩
  · refine ⟨_, _, _, _, _, _, _, _, _, q35_n0 lo hi N r lo2 hi2 M q _ _ _ _ _ _ _ _ _ _ hxa hyb huv, fun _ => ⟨⟨rfl, rfl, rfl, rfl⟩, rfl, rfl, rfl, rfl⟩, (fun h => by cases h), fun n m hn hm hA hB hC => ?_⟩
    obtain ⟨⟨e1, _⟩, e2, _⟩ := mem n m hn hm hA hB hC
    rw [e1, e2] at huv; cases huv

set_option maxHeartbeats 4000000 in
theorem q12_0 (op t a1 a2 a3 a4 d1 d2 d3 d4 : Int) (lo hi N r lo2 hi2 M q : Nat) (hp : F31 [op] [] = some ([0, t], [true])) (hc1 : F32 [(lo : Int), (hi : Int), (N : Int), (r : Int), t] [] = some ([a1, a2, a3, a4], [])) (hc2 : F32 [(lo2 : Int), (hi2 : Int), (M : Int), (q : Int), t] [] = some ([d1, d2, d3, d4], [])) (x0 x1 x2 x3 : Int) (u : Bool) (h33 : F33 [a1, a2, a3, a4, d1, d2, d3, d4] [] = some ([x0, x1, x2, x3], [u])) : F12 [op, (lo : Int), (hi : Int), (N : Int), (r : Int), (lo2 : Int), (hi2 : Int), (M : Int), (q : Int)] [] = some ([x0, x1, x2, x3, x0, x1, x2, x3], [u]) := by
  refine Eq.trans (Fd_of (n := 9) (m := 0) (t := XTransLimit.t12) (C := Tab.fn a12) rfl rfl) ?_
  rw [XTransLimit.t12]
  refine st_2_1 (e12_31) (g := true) rfl (l := [op]) rfl (m := []) rfl (cl_t hp) fun i9 i10 b0 hi9 hi10 hb0 => ?_
  show T.den _ _ [op, (lo : Int), (hi : Int), (N : Int), (r : Int), (lo2 : Int), (hi2 : Int), (M : Int), (q : Int), i9, i10] [b0] = _
  refine st_ite (fun hc => ?_) (fun hc => ?_)
  · replace hc : (!b0) = true := hc
    have c1 := hc
    clear hc
    rw [hb0] at c1; cases c1
  · replace hc : (!b0) = false := hc
    have c2 := hc
    clear hc
    refine st_4_0 (e12_32) (g := true) rfl (l := [(lo : Int), (hi : Int), (N : Int), (r : Int), i10]) rfl (m := []) rfl (cl_t ((show F32 [(lo : Int), (hi : Int), (N : Int), (r : Int), i10] [] = F32 [(lo : Int), (hi : Int), (N : Int), (r : Int), t] [] from by rw [hi10]).trans (hc1))) fun i11 i12 i13 i14 hi11 hi12 hi13 hi14 => ?_
    show T.den _ _ [op, (lo : Int), (hi : Int), (N : Int), (r : Int), (lo2 : Int), (hi2 : Int), (M : Int), (q : Int), i9, i10, i11, i12, i13, i14] [b0] = _
    refine st_4_0 (e12_32) (g := true) rfl (l := [(lo2 : Int), (hi2 : Int), (M : Int), (q : Int), i10]) rfl (m := []) rfl (cl_t ((show F32 [(lo2 : Int), (hi2 : Int), (M : Int), (q : Int), i10] [] = F32 [(lo2 : Int), (hi2 : Int), (M : Int), (q : Int), t] [] from by rw [hi10]).trans (hc2))) fun i15 i16 i17 i18 hi15 hi16 hi17 hi18 => ?_
    show T.den _ _ [op, (lo : Int), (hi : Int), (N : Int), (r : Int), (lo2 : Int), (hi2 : Int), (M : Int), (q : Int), i9, i10, i11, i12, i13, i14, i15, i16, i17, i18] [b0] = _
    refine st_ite (fun hc => ?_) (fun hc => ?_)
    · replace hc : (i9 == 0) = true := hc
      have c3 := hc
      clear hc
      refine st_4_1 (e12_33) (g := true) rfl (l := [i11, i12, i13, i14, i15, i16, i17, i18]) rfl (m := []) rfl (cl_t ((show F33 [i11, i12, i13, i14, i15, i16, i17, i18] [] = F33 [a1, a2, a3, a4, d1, d2, d3, d4] [] from by rw [hi11, hi12, hi13, hi14, hi15, hi16, hi17, hi18]).trans (h33))) fun i19 i20 i21 i22 b1 hi19 hi20 hi21 hi22 hb1 => ?_
      show T.den _ _ [op, (lo : Int), (hi : Int), (N : Int), (r : Int), (lo2 : Int), (hi2 : Int), (M : Int), (q : Int), i9, i10, i11, i12, i13, i14, i15, i16, i17, i18, i19, i20, i21, i22] [b0, b1] = _
      refine st_ret ?_
      show some ([i19, i20, i21, i22, i19, i20, i21, i22], [b1]) = _
      rw [hi19, hi20, hi21, hi22, hb1]
    · replace hc : (i9 == 0) = false := hc
      have c4 := hc
      clear hc
      rw [hi9] at c4; exact absurd c4 (by decide)

set_option maxHeartbeats 4000000 in
theorem q12_1z (op t a1 a2 a3 a4 d1 d2 d3 d4 : Int) (lo hi N r lo2 hi2 M q : Nat) (hp : F31 [op] [] = some ([1, t], [true])) (hc1 : F32 [(lo : Int), (hi : Int), (N : Int), (r : Int), t] [] = some ([a1, a2, a3, a4], [])) (hc2 : F32 [(lo2 : Int), (hi2 : Int), (M : Int), (q : Int), t] [] = some ([d1, d2, d3, d4], [])) (x0 x1 x2 x3 y0 y1 y2 y3 : Int) (u v : Bool) (h34a : F34 [a1, a2, a3, a4, d1, d2, d3, d4] [] = some ([x0, x1, x2, x3], [u])) (h34b : F34 [d1, d2, d3, d4, a1, a2, a3, a4] [] = some ([y0, y1, y2, y3], [v])) (huv : ((!u) || (!v)) = true) : F12 [op, (lo : Int), (hi : Int), (N : Int), (r : Int), (lo2 : Int), (hi2 : Int), (M : Int), (q : Int)] [] = some ([0, 0, 0, 0, 0, 0, 0, 0], [false]) := by
  refine Eq.trans (Fd_of (n := 9) (m := 0) (t := XTransLimit.t12) (C := Tab.fn a12) rfl rfl) ?_
  rw [XTransLimit.t12]
  refine st_2_1 (e12_31) (g := true) rfl (l := [op]) rfl (m := []) rfl (cl_t hp) fun i9 i10 b0 hi9 hi10 hb0 => ?_
  show T.den _ _ [op, (lo : Int), (hi : Int), (N : Int), (r : Int), (lo2 : Int), (hi2 : Int), (M : Int), (q : Int), i9, i10] [b0] = _
  refine st_ite (fun hc => ?_) (fun hc => ?_)
  · replace hc : (!b0) = true := hc
    have c1 := hc
    clear hc
    rw [hb0] at c1; cases c1
  · replace hc : (!b0) = false := hc
    have c2 := hc
    clear hc
    refine st_4_0 (e12_32) (g := true) rfl (l := [(lo : Int), (hi : Int), (N : Int), (r : Int), i10]) rfl (m := []) rfl (cl_t ((show F32 [(lo : Int), (hi : Int), (N : Int), (r : Int), i10] [] = F32 [(lo : Int), (hi : Int), (N : Int), (r : Int), t] [] from by rw [hi10]).trans (hc1))) fun i11 i12 i13 i14 hi11 hi12 hi13 hi14 => ?_
    show T.den _ _ [op, (lo : Int), (hi : Int), (N : Int), (r : Int), (lo2 : Int), (hi2 : Int), (M : Int), (q : Int), i9, i10, i11, i12, i13, i14] [b0] = _
    refine st_4_0 (e12_32) (g := true) rfl (l := [(lo2 : Int), (hi2 : Int), (M : Int), (q : Int), i10]) rfl (m := []) rfl (cl_t ((show F32 [(lo2 : Int), (hi2 : Int), (M : Int), (q : Int), i10] [] = F32 [(lo2 : Int), (hi2 : Int), (M : Int), (q : Int), t] [] from by rw [hi10]).trans (hc2))) fun i15 i16 i17 i18 hi15 hi16 hi17 hi18 => ?_
    show T.den _ _ [op, (lo : Int), (hi : Int), (N : Int), (r : Int), (lo2 : Int), (hi2 : Int), (M : Int), (q : Int), i9, i10, i11, i12, i13, i14, i15, i16, i17, i18] [b0] = _
    refine st_ite (fun hc => ?_) (fun hc => ?_)
    · replace hc : (i9 == 0) = true := hc
      have c3 := hc
      clear hc
      rw [hi9] at c3; exact absurd c3 (by decide)
    · replace hc : (i9 == 0) = false := hc
      have c4 := hc
      clear hc
      refine st_ite (fun hc => ?_) (fun hc => ?_)
      · replace hc : (i9 == 1) = true := hc
        have c5 := hc
        clear hc
        refine st_4_1 (e12_34) (g := true) rfl (l := [i11, i12, i13, i14, i15, i16, i17, i18]) rfl (m := []) rfl (cl_t ((show F34 [i11, i12, i13, i14, i15, i16, i17, i18] [] = F34 [a1, a2, a3, a4, d1, d2, d3, d4] [] from by rw [hi11, hi12, hi13, hi14, hi15, hi16, hi17, hi18]).trans (h34a))) fun i19 i20 i21 i22 b1 hi19 hi20 hi21 hi22 hb1 => ?_
        show T.den _ _ [op, (lo : Int), (hi : Int), (N : Int), (r : Int), (lo2 : Int), (hi2 : Int), (M : Int), (q : Int), i9, i10, i11, i12, i13, i14, i15, i16, i17, i18, i19, i20, i21, i22] [b0, b1] = _
        refine st_4_1 (e12_34) (g := true) rfl (l := [i15, i16, i17, i18, i11, i12, i13, i14]) rfl (m := []) rfl (cl_t ((show F34 [i15, i16, i17, i18, i11, i12, i13, i14] [] = F34 [d1, d2, d3, d4, a1, a2, a3, a4] [] from by rw [hi15, hi16, hi17, hi18, hi11, hi12, hi13, hi14]).trans (h34b))) fun i23 i24 i25 i26 b2 hi23 hi24 hi25 hi26 hb2 => ?_
        show T.den _ _ [op, (lo : Int), (hi : Int), (N : Int), (r : Int), (lo2 : Int), (hi2 : Int), (M : Int), (q : Int), i9, i10, i11, i12, i13, i14, i15, i16, i17, i18, i19, i20, i21, i22, i23, i24, i25, i26] [b0, b1, b2] = _
        refine st_ite (fun hc => ?_) (fun hc => ?_)
        · replace hc : ((!b1) || (!b2)) = true := hc
          have c6 := hc
          clear hc
          refine st_ret ?_
          show some ([0, 0, 0, 0, 0, 0, 0, 0], [false]) = _
          rfl
        · replace hc : ((!b1) || (!b2)) = false := hc
          have c7 := hc
          clear hc
          rw [hb1, hb2] at c7; exact absurd (huv.symm.trans c7) (by decide)
      · replace hc : (i9 == 1) = false := hc
        have c8 := hc
        clear hc
        rw [hi9] at c8; exact absurd c8 (by decide)

set_option maxHeartbeats 4000000 in
theorem q12_1 (op t a1 a2 a3 a4 d1 d2 d3 d4 : Int) (lo hi N r lo2 hi2 M q : Nat) (hp : F31 [op] [] = some ([1, t], [true])) (hc1 : F32 [(lo : Int), (hi : Int), (N : Int), (r : Int), t] [] = some ([a1, a2, a3, a4], [])) (hc2 : F32 [(lo2 : Int), (hi2 : Int), (M : Int), (q : Int), t] [] = some ([d1, d2, d3, d4], [])) (x0 x1 x2 x3 y0 y1 y2 y3 : Int) (u v : Bool) (h34a : F34 [a1, a2, a3, a4, d1, d2, d3, d4] [] = some ([x0, x1, x2, x3], [u])) (h34b : F34 [d1, d2, d3, d4, a1, a2, a3, a4] [] = some ([y0, y1, y2, y3], [v])) (huv : ((!u) || (!v)) = false) : F12 [op, (lo : Int), (hi : Int), (N : Int), (r : Int), (lo2 : Int), (hi2 : Int), (M : Int), (q : Int)] [] = some ([x0, x1, x2, x3, y0, y1, y2, y3], [true]) := by
  refine Eq.trans (Fd_of (n := 9) (m := 0) (t := XTransLimit.t12) (C := Tab.fn a12) rfl rfl) ?_
  rw [XTransLimit.t12]
  refine st_2_1 (e12_31) (g := true) rfl (l := [op]) rfl (m := []) rfl (cl_t hp) fun i9 i10 b0 hi9 hi10 hb0 => ?_
  show T.den _ _ [op, (lo : Int), (hi : Int), (N : Int), (r : Int), (lo2 : Int), (hi2 : Int), (M : Int), (q : Int), i9, i10] [b0] = _
  refine st_ite (fun hc => ?_) (fun hc => ?_)
  · replace hc : (!b0) = true := hc
    have c1 := hc
    clear hc
    rw [hb0] at c1; cases c1
  · replace hc : (!b0) = false := hc
    have c2 := hc
    clear hc
    refine st_4_0 (e12_32) (g := true) rfl (l := [(lo : Int), (hi : Int), (N : Int), (r : Int), i10]) rfl (m := []) rfl (cl_t ((show F32 [(lo : Int), (hi : Int), (N : Int), (r : Int), i10] [] = F32 [(lo : Int), (hi : Int), (N : Int), (r : Int), t] [] from by rw [hi10]).trans (hc1))) fun i11 i12 i13 i14 hi11 hi12 hi13 hi14 => ?_
    show T.den _ _ [op, (lo : Int), (hi : Int), (N : Int), (r : Int), (lo2 : Int), (hi2 : Int), (M : Int), (q : Int), i9, i10, i11, i12, i13, i14] [b0] = _
    refine st_4_0 (e12_32) (g := true) rfl (l := [(lo2 : Int), (hi2 : Int), (M : Int), (q : Int), i10]) rfl (m := []) rfl (cl_t ((show F32 [(lo2 : Int), (hi2 : Int), (M : Int), (q : Int), i10] [] = F32 [(lo2 : Int), (hi2 : Int), (M : Int), (q : Int), t] [] from by rw [hi10]).trans (hc2))) fun i15 i16 i17 i18 hi15 hi16 hi17 hi18 => ?_
    show T.den _ _ [op, (lo : Int), (hi : Int), (N : Int), (r : Int), (lo2 : Int), (hi2 : Int), (M : Int), (q : Int), i9, i10, i11, i12, i13, i14, i15, i16, i17, i18] [b0] = _
    refine st_ite (fun hc => ?_) (fun hc => ?_)
    · replace hc : (i9 == 0) = true := hc
      have c3 := hc
      clear hc
      rw [hi9] at c3; exact absurd c3 (by decide)
    · replace hc : (i9 == 0) = false := hc
      have c4 := hc
      clear hc
      refine st_ite (fun hc => ?_) (fun hc => ?_)
      · replace hc : (i9 == 1) = true := hc
        have c5 := hc
        clear hc
        refine st_4_1 (e12_34) (g := true) rfl (l := [i11, i12, i13, i14, i15, i16, i17, i18]) rfl (m := []) rfl (cl_t ((show F34 [i11, i12, i13, i14, i15, i16, i17, i18] [] = F34 [a1, a2, a3, a4, d1, d2, d3, d4] [] from by rw [hi11, hi12, hi13, hi14, hi15, hi16, hi17, hi18]).trans (h34a))) fun i19 i20 i21 i22 b1 hi19 hi20 hi21 hi22 hb1 => ?_
        show T.den _ _ [op, (lo : Int), (hi : Int), (N : Int), (r : Int), (lo2 : Int), (hi2 : Int), (M : Int), (q : Int), i9, i10, i11, i12, i13, i14, i15, i16, i17, i18, i19, i20, i21, i22] [b0, b1] = _
        refine st_4_1 (e12_34) (g := true) rfl (l := [i15, i16, i17, i18, i11, i12, i13, i14]) rfl (m := []) rfl (cl_t ((show F34 [i15, i16, i17, i18, i11, i12, i13, i14] [] = F34 [d1, d2, d3, d4, a1, a2, a3, a4] [] from by rw [hi15, hi16, hi17, hi18, hi11, hi12, hi13, hi14]).trans (h34b))) fun i23 i24 i25 i26 b2 hi23 hi24 hi25 hi26 hb2 => ?_
        show T.den _ _ [op, (lo : Int), (hi : Int), (N : Int), (r : Int), (lo2 : Int), (hi2 : Int), (M : Int), (q : Int), i9, i10, i11, i12, i13, i14, i15, i16, i17, i18, i19, i20, i21, i22, i23, i24, i25, i26] [b0, b1, b2] = _
        refine st_ite (fun hc => ?_) (fun hc => ?_)
        · replace hc : ((!b1) || (!b2)) = true := hc
          have c6 := hc
          clear hc
          rw [hb1, hb2] at c6; exact absurd (huv.symm.trans c6) (by decide)
        · replace hc : ((!b1) || (!b2)) = false := hc
          have c7 := hc
          clear hc
          refine st_ret ?_
          show some ([i19, i20, i21, i22, i23, i24, i25, i26], [true]) = _
          rw [hi19, hi20, hi21, hi22, hi23, hi24, hi25, hi26]
      · replace hc : (i9 == 1) = false := hc
        have c8 := hc
        clear hc
        rw [hi9] at c8; exact absurd c8 (by decide)

set_option maxHeartbeats 4000000 in
theorem q12_2 (op t a1 a2 a3 a4 d1 d2 d3 d4 : Int) (lo hi N r lo2 hi2 M q : Nat) (hp : F31 [op] [] = some ([2, t], [true])) (hc1 : F32 [(lo : Int), (hi : Int), (N : Int), (r : Int), t] [] = some ([a1, a2, a3, a4], [])) (hc2 : F32 [(lo2 : Int), (hi2 : Int), (M : Int), (q : Int), t] [] = some ([d1, d2, d3, d4], [])) : F12 [op, (lo : Int), (hi : Int), (N : Int), (r : Int), (lo2 : Int), (hi2 : Int), (M : Int), (q : Int)] [] = some ([a1, a2, a3, a4, d1, d2, d3, d4], [true]) := by
  refine Eq.trans (Fd_of (n := 9) (m := 0) (t := XTransLimit.t12) (C := Tab.fn a12) rfl rfl) ?_
  rw [XTransLimit.t12]
  refine st_2_1 (e12_31) (g := true) rfl (l := [op]) rfl (m := []) rfl (cl_t hp) fun i9 i10 b0 hi9 hi10 hb0 => ?_
  show T.den _ _ [op, (lo : Int), (hi : Int), (N : Int), (r : Int), (lo2 : Int), (hi2 : Int), (M : Int), (q : Int), i9, i10] [b0] = _
  refine st_ite (fun hc => ?_) (fun hc => ?_)
  · replace hc : (!b0) = true := hc
    have c1 := hc
    clear hc
    rw [hb0] at c1; cases c1
  · replace hc : (!b0) = false := hc
    have c2 := hc
    clear hc
    refine st_4_0 (e12_32) (g := true) rfl (l := [(lo : Int), (hi : Int), (N : Int), (r : Int), i10]) rfl (m := []) rfl (cl_t ((show F32 [(lo : Int), (hi : Int), (N : Int), (r : Int), i10] [] = F32 [(lo : Int), (hi : Int), (N : Int), (r : Int), t] [] from by rw [hi10]).trans (hc1))) fun i11 i12 i13 i14 hi11 hi12 hi13 hi14 => ?_
    show T.den _ _ [op, (lo : Int), (hi : Int), (N : Int), (r : Int), (lo2 : Int), (hi2 : Int), (M : Int), (q : Int), i9, i10, i11, i12, i13, i14] [b0] = _
    refine st_4_0 (e12_32) (g := true) rfl (l := [(lo2 : Int), (hi2 : Int), (M : Int), (q : Int), i10]) rfl (m := []) rfl (cl_t ((show F32 [(lo2 : Int), (hi2 : Int), (M : Int), (q : Int), i10] [] = F32 [(lo2 : Int), (hi2 : Int), (M : Int), (q : Int), t] [] from by rw [hi10]).trans (hc2))) fun i15 i16 i17 i18 hi15 hi16 hi17 hi18 => ?_
    show T.den _ _ [op, (lo : Int), (hi : Int), (N : Int), (r : Int), (lo2 : Int), (hi2 : Int), (M : Int), (q : Int), i9, i10, i11, i12, i13, i14, i15, i16, i17, i18] [b0] = _
    refine st_ite (fun hc => ?_) (fun hc => ?_)
    · replace hc : (i9 == 0) = true := hc
      have c3 := hc
      clear hc
      rw [hi9] at c3; exact absurd c3 (by decide)
    · replace hc : (i9 == 0) = false := hc
      have c4 := hc
      clear hc
      refine st_ite (fun hc => ?_) (fun hc => ?_)
      · replace hc : (i9 == 1) = true := hc
        have c5 := hc
        clear hc
        rw [hi9] at c5; exact absurd c5 (by decide)
      · replace hc : (i9 == 1) = false := hc
        have c6 := hc
        clear hc
        refine st_ite (fun hc => ?_) (fun hc => ?_)
        · replace hc : (i9 == 3) = true := hc
          have c7 := hc
          clear hc
          rw [hi9] at c7; exact absurd c7 (by decide)
        · replace hc : (i9 == 3) = false := hc
          have c8 := hc
          clear hc
          refine st_ite (fun hc => ?_) (fun hc => ?_)
          · replace hc : (i9 == 7) = true := hc
            have c9 := hc
            clear hc
            rw [hi9] at c9; exact absurd c9 (by decide)
          · replace hc : (i9 == 7) = false := hc
            have c10 := hc
            clear hc
            refine st_ite (fun hc => ?_) (fun hc => ?_)
            · replace hc : (i9 == 5) = true := hc
              have c11 := hc
              clear hc
              rw [hi9] at c11; exact absurd c11 (by decide)
            · replace hc : (i9 == 5) = false := hc
              have c12 := hc
              clear hc
              refine st_ite (fun hc => ?_) (fun hc => ?_)
              · replace hc : (i9 == 9) = true := hc
                have c13 := hc
                clear hc
                rw [hi9] at c13; exact absurd c13 (by decide)
              · replace hc : (i9 == 9) = false := hc
                have c14 := hc
                clear hc
                refine st_ret ?_
                show some ([i11, i12, i13, i14, i15, i16, i17, i18], [true]) = _
                rw [hi11, hi12, hi13, hi14, hi15, hi16, hi17, hi18]

set_option maxHeartbeats 4000000 in
theorem q12_3 (op t a1 a2 a3 a4 d1 d2 d3 d4 : Int) (lo hi N r lo2 hi2 M q : Nat) (hp : F31 [op] [] = some ([3, t], [true])) (hc1 : F32 [(lo : Int), (hi : Int), (N : Int), (r : Int), t] [] = some ([a1, a2, a3, a4], [])) (hc2 : F32 [(lo2 : Int), (hi2 : Int), (M : Int), (q : Int), t] [] = some ([d1, d2, d3, d4], [])) (x0 x1 x2 x3 y0 y1 y2 y3 : Int) (u : Bool) (h35 : F35 [a1, a2, a3, a4, d1, d2, d3, d4] [true] = some ([x0, x1, x2, x3, y0, y1, y2, y3], [u])) : F12 [op, (lo : Int), (hi : Int), (N : Int), (r : Int), (lo2 : Int), (hi2 : Int), (M : Int), (q : Int)] [] = some ([x0, x1, x2, x3, y0, y1, y2, y3], [u]) := by
  refine Eq.trans (Fd_of (n := 9) (m := 0) (t := XTransLimit.t12) (C := Tab.fn a12) rfl rfl) ?_
  rw [XTransLimit.t12]
  refine st_2_1 (e12_31) (g := true) rfl (l := [op]) rfl (m := []) rfl (cl_t hp) fun i9 i10 b0 hi9 hi10 hb0 => ?_
  show T.den _ _ [op, (lo : Int), (hi : Int), (N : Int), (r : Int), (lo2 : Int), (hi2 : Int), (M : Int), (q : Int), i9, i10] [b0] = _
  refine st_ite (fun hc => ?_) (fun hc => ?_)
  · replace hc : (!b0) = true := hc
    have c1 := hc
    clear hc
    rw [hb0] at c1; cases c1
  · replace hc : (!b0) = false := hc
    have c2 := hc
    clear hc
    refine st_4_0 (e12_32) (g := true) rfl (l := [(lo : Int), (hi : Int), (N : Int), (r : Int), i10]) rfl (m := []) rfl (cl_t ((show F32 [(lo : Int), (hi : Int), (N : Int), (r : Int), i10] [] = F32 [(lo : Int), (hi : Int), (N : Int), (r : Int), t] [] from by rw [hi10]).trans (hc1))) fun i11 i12 i13 i14 hi11 hi12 hi13 hi14 => ?_
    show T.den _ _ [op, (lo : Int), (hi : Int), (N : Int), (r : Int), (lo2 : Int), (hi2 : Int), (M : Int), (q : Int), i9, i10, i11, i12, i13, i14] [b0] = _
    refine st_4_0 (e12_32) (g := true) rfl (l := [(lo2 : Int), (hi2 : Int), (M : Int), (q : Int), i10]) rfl (m := []) rfl (cl_t ((show F32 [(lo2 : Int), (hi2 : Int), (M : Int), (q : Int), i10] [] = F32 [(lo2 : Int), (hi2 : Int), (M : Int), (q : Int), t] [] from by rw [hi10]).trans (hc2))) fun i15 i16 i17 i18 hi15 hi16 hi17 hi18 => ?_
    show T.den _ _ [op, (lo : Int), (hi : Int), (N : Int), (r : Int), (lo2 : Int), (hi2 : Int), (M : Int), (q : Int), i9, i10, i11, i12, i13, i14, i15, i16, i17, i18] [b0] = _
    refine st_ite (fun hc => ?_) (fun hc => ?_)
    · replace hc : (i9 == 0) = true := hc
      have c3 := hc
      clear hc
      rw [hi9] at c3; exact absurd c3 (by decide)
    · replace hc : (i9 == 0) = false := hc
      have c4 := hc
      clear hc
      refine st_ite (fun hc => ?_) (fun hc => ?_)
      · replace hc : (i9 == 1) = true := hc
        have c5 := hc
        clear hc
        rw [hi9] at c5; exact absurd c5 (by decide)
      · replace hc : (i9 == 1) = false := hc
        have c6 := hc
        clear hc
        refine st_ite (fun hc => ?_) (fun hc => ?_)
        · replace hc : (i9 == 3) = true := hc
          have c7 := hc
          clear hc
          refine st_ite (fun hc => ?_) (fun hc => ?_)
          · replace hc : (i9 == 3) = true := hc
            have c8 := hc
            clear hc
            refine st_8_1 (e12_35) (g := true) rfl (l := [i11, i12, i13, i14, i15, i16, i17, i18]) rfl (m := [(i9 == 3)]) rfl (cl_t ((show F35 [i11, i12, i13, i14, i15, i16, i17, i18] [(i9 == 3)] = F35 [a1, a2, a3, a4, d1, d2, d3, d4] [true] from by subst_vars; rfl).trans h35)) fun i19 i20 i21 i22 i23 i24 i25 i26 b1 hi19 hi20 hi21 hi22 hi23 hi24 hi25 hi26 hb1 => ?_
            show T.den _ _ [op, (lo : Int), (hi : Int), (N : Int), (r : Int), (lo2 : Int), (hi2 : Int), (M : Int), (q : Int), i9, i10, i11, i12, i13, i14, i15, i16, i17, i18, i19, i20, i21, i22, i23, i24, i25, i26] [b0, b1] = _
            refine st_ret ?_
            show some ([i19, i20, i21, i22, i23, i24, i25, i26], [b1]) = _
            rw [hi19, hi20, hi21, hi22, hi23, hi24, hi25, hi26, hb1]
          · replace hc : (i9 == 3) = false := hc
            have c9 := hc
            clear hc
            rw [hi9] at c9; exact absurd c9 (by decide)
        · replace hc : (i9 == 3) = false := hc
          have c10 := hc
          clear hc
          rw [hi9] at c10; exact absurd c10 (by decide)

set_option maxHeartbeats 4000000 in
theorem q12_4 (op t a1 a2 a3 a4 d1 d2 d3 d4 : Int) (lo hi N r lo2 hi2 M q : Nat) (hp : F31 [op] [] = some ([4, t], [true])) (hc1 : F32 [(lo : Int), (hi : Int), (N : Int), (r : Int), t] [] = some ([a1, a2, a3, a4], [])) (hc2 : F32 [(lo2 : Int), (hi2 : Int), (M : Int), (q : Int), t] [] = some ([d1, d2, d3, d4], [])) : F12 [op, (lo : Int), (hi : Int), (N : Int), (r : Int), (lo2 : Int), (hi2 : Int), (M : Int), (q : Int)] [] = some ([a1, a2, a3, a4, d1, d2, d3, d4], [true]) := by
  refine Eq.trans (Fd_of (n := 9) (m := 0) (t := XTransLimit.t12) (C := Tab.fn a12) rfl rfl) ?_
  rw [XTransLimit.t12]
  refine st_2_1 (e12_31) (g := true) rfl (l := [op]) rfl (m := []) rfl (cl_t hp) fun i9 i10 b0 hi9 hi10 hb0 => ?_
  show T.den _ _ [op, (lo : Int), (hi : Int), (N : Int), (r : Int), (lo2 : Int), (hi2 : Int), (M : Int), (q : Int), i9, i10] [b0] = _
  refine st_ite (fun hc => ?_) (fun hc => ?_)
  · replace hc : (!b0) = true := hc
    have c1 := hc
    clear hc
    rw [hb0] at c1; cases c1
  · replace hc : (!b0) = false := hc
    have c2 := hc
    clear hc
    refine st_4_0 (e12_32) (g := true) rfl (l := [(lo : Int), (hi : Int), (N : Int), (r : Int), i10]) rfl (m := []) rfl (cl_t ((show F32 [(lo : Int), (hi : Int), (N : Int), (r : Int), i10] [] = F32 [(lo : Int), (hi : Int), (N : Int), (r : Int), t] [] from by rw [hi10]).trans (hc1))) fun i11 i12 i13 i14 hi11 hi12 hi13 hi14 => ?_
    show T.den _ _ [op, (lo : Int), (hi : Int), (N : Int), (r : Int), (lo2 : Int), (hi2 : Int), (M : Int), (q : Int), i9, i10, i11, i12, i13, i14] [b0] = _
    refine st_4_0 (e12_32) (g := true) rfl (l := [(lo2 : Int), (hi2 : Int), (M : Int), (q : Int), i10]) rfl (m := []) rfl (cl_t ((show F32 [(lo2 : Int), (hi2 : Int), (M : Int), (q : Int), i10] [] = F32 [(lo2 : Int), (hi2 : Int), (M : Int), (q : Int), t] [] from by rw [hi10]).trans (hc2))) fun i15 i16 i17 i18 hi15 hi16 hi17 hi18 => ?_
    show T.den _ _ [op, (lo : Int), (hi : Int), (N : Int), (r : Int), (lo2 : Int), (hi2 : Int), (M : Int), (q : Int), i9, i10, i11, i12, i13, i14, i15, i16, i17, i18] [b0] = _
    refine st_ite (fun hc => ?_) (fun hc => ?_)
    · replace hc : (i9 == 0) = true := hc
      have c3 := hc
      clear hc
      rw [hi9] at c3; exact absurd c3 (by decide)
    · replace hc : (i9 == 0) = false := hc
      have c4 := hc
      clear hc
      refine st_ite (fun hc => ?_) (fun hc => ?_)
      · replace hc : (i9 == 1) = true := hc
        have c5 := hc
        clear hc
        rw [hi9] at c5; exact absurd c5 (by decide)
      · replace hc : (i9 == 1) = false := hc
        have c6 := hc
        clear hc
        refine st_ite (fun hc => ?_) (fun hc => ?_)
        · replace hc : (i9 == 3) = true := hc
          have c7 := hc
          clear hc
          rw [hi9] at c7; exact absurd c7 (by decide)
        · replace hc : (i9 == 3) = false := hc
          have c8 := hc
          clear hc
          refine st_ite (fun hc => ?_) (fun hc => ?_)
          · replace hc : (i9 == 7) = true := hc
            have c9 := hc
            clear hc
            rw [hi9] at c9; exact absurd c9 (by decide)
          · replace hc : (i9 == 7) = false := hc
            have c10 := hc
            clear hc
            refine st_ite (fun hc => ?_) (fun hc => ?_)
            · replace hc : (i9 == 5) = true := hc
              have c11 := hc
              clear hc
              rw [hi9] at c11; exact absurd c11 (by decide)
            · replace hc : (i9 == 5) = false := hc
              have c12 := hc
              clear hc
              refine st_ite (fun hc => ?_) (fun hc => ?_)
              · replace hc : (i9 == 9) = true := hc
                have c13 := hc
                clear hc
                rw [hi9] at c13; exact absurd c13 (by decide)
              · replace hc : (i9 == 9) = false := hc
                have c14 := hc
                clear hc
                refine st_ret ?_
                show some ([i11, i12, i13, i14, i15, i16, i17, i18], [true]) = _
                rw [hi11, hi12, hi13, hi14, hi15, hi16, hi17, hi18]

set_option maxHeartbeats 4000000 in
theorem q12_5 (op t a1 a2 a3 a4 d1 d2 d3 d4 : Int) (lo hi N r lo2 hi2 M q : Nat) (hp : F31 [op] [] = some ([5, t], [true])) (hc1 : F32 [(lo : Int), (hi : Int), (N : Int), (r : Int), t] [] = some ([a1, a2, a3, a4], [])) (hc2 : F32 [(lo2 : Int), (hi2 : Int), (M : Int), (q : Int), t] [] = some ([d1, d2, d3, d4], [])) (x0 x1 x2 x3 y0 y1 y2 y3 : Int) (u : Bool) (h35 : F35 [d1, d2, d3, d4, a1, a2, a3, a4] [true] = some ([y0, y1, y2, y3, x0, x1, x2, x3], [u])) : F12 [op, (lo : Int), (hi : Int), (N : Int), (r : Int), (lo2 : Int), (hi2 : Int), (M : Int), (q : Int)] [] = some ([x0, x1, x2, x3, y0, y1, y2, y3], [u]) := by
  refine Eq.trans (Fd_of (n := 9) (m := 0) (t := XTransLimit.t12) (C := Tab.fn a12) rfl rfl) ?_
  rw [XTransLimit.t12]
  refine st_2_1 (e12_31) (g := true) rfl (l := [op]) rfl (m := []) rfl (cl_t hp) fun i9 i10 b0 hi9 hi10 hb0 => ?_
  show T.den _ _ [op, (lo : Int), (hi : Int), (N : Int), (r : Int), (lo2 : Int), (hi2 : Int), (M : Int), (q : Int), i9, i10] [b0] = _
  refine st_ite (fun hc => ?_) (fun hc => ?_)
  · replace hc : (!b0) = true := hc
    have c1 := hc
    clear hc
    rw [hb0] at c1; cases c1
  · replace hc : (!b0) = false := hc
    have c2 := hc
    clear hc
    refine st_4_0 (e12_32) (g := true) rfl (l := [(lo : Int), (hi : Int), (N : Int), (r : Int), i10]) rfl (m := []) rfl (cl_t ((show F32 [(lo : Int), (hi : Int), (N : Int), (r : Int), i10] [] = F32 [(lo : Int), (hi : Int), (N : Int), (r : Int), t] [] from by rw [hi10]).trans (hc1))) fun i11 i12 i13 i14 hi11 hi12 hi13 hi14 => ?_
    show T.den _ _ [op, (lo : Int), (hi : Int), (N : Int), (r : Int), (lo2 : Int), (hi2 : Int), (M : Int), (q : Int), i9, i10, i11, i12, i13, i14] [b0] = _
    refine st_4_0 (e12_32) (g := true) rfl (l := [(lo2 : Int), (hi2 : Int), (M : Int), (q : Int), i10]) rfl (m := []) rfl (cl_t ((show F32 [(lo2 : Int), (hi2 : Int), (M : Int), (q : Int), i10] [] = F32 [(lo2 : Int), (hi2 : Int), (M : Int), (q : Int), t] [] from by rw [hi10]).trans (hc2))) fun i15 i16 i17 i18 hi15 hi16 hi17 hi18 => ?_
    show T.den _ _ [op, (lo : Int), (hi : Int), (N : Int), (r : Int), (lo2 : Int), (hi2 : Int), (M : Int), (q : Int), i9, i10, i11, i12, i13, i14, i15, i16, i17, i18] [b0] = _
    refine st_ite (fun hc => ?_) (fun hc => ?_)
    · replace hc : (i9 == 0) = true := hc
      have c3 := hc
      clear hc
      rw [hi9] at c3; exact absurd c3 (by decide)
    · replace hc : (i9 == 0) = false := hc
      have c4 := hc
      clear hc
      refine st_ite (fun hc => ?_) (fun hc => ?_)
      · replace hc : (i9 == 1) = true := hc
        have c5 := hc
        clear hc
        rw [hi9] at c5; exact absurd c5 (by decide)
      · replace hc : (i9 == 1) = false := hc
        have c6 := hc
        clear hc
        refine st_ite (fun hc => ?_) (fun hc => ?_)
        · replace hc : (i9 == 3) = true := hc
          have c7 := hc
          clear hc
          rw [hi9] at c7; exact absurd c7 (by decide)
        · replace hc : (i9 == 3) = false := hc
          have c8 := hc
          clear hc
          refine st_ite (fun hc => ?_) (fun hc => ?_)
          · replace hc : (i9 == 7) = true := hc
            have c9 := hc
            clear hc
            rw [hi9] at c9; exact absurd c9 (by decide)
          · replace hc : (i9 == 7) = false := hc
            have c10 := hc
            clear hc
            refine st_ite (fun hc => ?_) (fun hc => ?_)
            · replace hc : (i9 == 5) = true := hc
              have c11 := hc
              clear hc
              refine st_ite (fun hc => ?_) (fun hc => ?_)
              · replace hc : (i9 == 5) = true := hc
                have c12 := hc
                clear hc
                refine st_8_1 (e12_35) (g := true) rfl (l := [i15, i16, i17, i18, i11, i12, i13, i14]) rfl (m := [(i9 == 5)]) rfl (cl_t ((show F35 [i15, i16, i17, i18, i11, i12, i13, i14] [(i9 == 5)] = F35 [d1, d2, d3, d4, a1, a2, a3, a4] [true] from by subst_vars; rfl).trans h35)) fun i19 i20 i21 i22 i23 i24 i25 i26 b1 hi19 hi20 hi21 hi22 hi23 hi24 hi25 hi26 hb1 => ?_
                show T.den _ _ [op, (lo : Int), (hi : Int), (N : Int), (r : Int), (lo2 : Int), (hi2 : Int), (M : Int), (q : Int), i9, i10, i11, i12, i13, i14, i15, i16, i17, i18, i19, i20, i21, i22, i23, i24, i25, i26] [b0, b1] = _
                refine st_ret ?_
                show some ([i23, i24, i25, i26, i19, i20, i21, i22], [b1]) = _
                rw [hi23, hi24, hi25, hi26, hi19, hi20, hi21, hi22, hb1]
              · replace hc : (i9 == 5) = false := hc
                have c13 := hc
                clear hc
                rw [hi9] at c13; exact absurd c13 (by decide)
            · replace hc : (i9 == 5) = false := hc
              have c14 := hc
              clear hc
              rw [hi9] at c14; exact absurd c14 (by decide)

set_option maxHeartbeats 4000000 in
theorem q12_6 (op t a1 a2 a3 a4 d1 d2 d3 d4 : Int) (lo hi N r lo2 hi2 M q : Nat) (hp : F31 [op] [] = some ([6, t], [true])) (hc1 : F32 [(lo : Int), (hi : Int), (N : Int), (r : Int), t] [] = some ([a1, a2, a3, a4], [])) (hc2 : F32 [(lo2 : Int), (hi2 : Int), (M : Int), (q : Int), t] [] = some ([d1, d2, d3, d4], [])) : F12 [op, (lo : Int), (hi : Int), (N : Int), (r : Int), (lo2 : Int), (hi2 : Int), (M : Int), (q : Int)] [] = some ([a1, a2, a3, a4, d1, d2, d3, d4], [true]) := by
  refine Eq.trans (Fd_of (n := 9) (m := 0) (t := XTransLimit.t12) (C := Tab.fn a12) rfl rfl) ?_
  rw [XTransLimit.t12]
  refine st_2_1 (e12_31) (g := true) rfl (l := [op]) rfl (m := []) rfl (cl_t hp) fun i9 i10 b0 hi9 hi10 hb0 => ?_
  show T.den _ _ [op, (lo : Int), (hi : Int), (N : Int), (r : Int), (lo2 : Int), (hi2 : Int), (M : Int), (q : Int), i9, i10] [b0] = _
  refine st_ite (fun hc => ?_) (fun hc => ?_)
  · replace hc : (!b0) = true := hc
    have c1 := hc
    clear hc
    rw [hb0] at c1; cases c1
  · replace hc : (!b0) = false := hc
    have c2 := hc
    clear hc
    refine st_4_0 (e12_32) (g := true) rfl (l := [(lo : Int), (hi : Int), (N : Int), (r : Int), i10]) rfl (m := []) rfl (cl_t ((show F32 [(lo : Int), (hi : Int), (N : Int), (r : Int), i10] [] = F32 [(lo : Int), (hi : Int), (N : Int), (r : Int), t] [] from by rw [hi10]).trans (hc1))) fun i11 i12 i13 i14 hi11 hi12 hi13 hi14 => ?_
    show T.den _ _ [op, (lo : Int), (hi : Int), (N : Int), (r : Int), (lo2 : Int), (hi2 : Int), (M : Int), (q : Int), i9, i10, i11, i12, i13, i14] [b0] = _
    refine st_4_0 (e12_32) (g := true) rfl (l := [(lo2 : Int), (hi2 : Int), (M : Int), (q : Int), i10]) rfl (m := []) rfl (cl_t ((show F32 [(lo2 : Int), (hi2 : Int), (M : Int), (q : Int), i10] [] = F32 [(lo2 : Int), (hi2 : Int), (M : Int), (q : Int), t] [] from by rw [hi10]).trans (hc2))) fun i15 i16 i17 i18 hi15 hi16 hi17 hi18 => ?_
    show T.den _ _ [op, (lo : Int), (hi : Int), (N : Int), (r : Int), (lo2 : Int), (hi2 : Int), (M : Int), (q : Int), i9, i10, i11, i12, i13, i14, i15, i16, i17, i18] [b0] = _
    refine st_ite (fun hc => ?_) (fun hc => ?_)
    · replace hc : (i9 == 0) = true := hc
      have c3 := hc
      clear hc
      rw [hi9] at c3; exact absurd c3 (by decide)
    · replace hc : (i9 == 0) = false := hc
      have c4 := hc
      clear hc
      refine st_ite (fun hc => ?_) (fun hc => ?_)
      · replace hc : (i9 == 1) = true := hc
        have c5 := hc
        clear hc
        rw [hi9] at c5; exact absurd c5 (by decide)
      · replace hc : (i9 == 1) = false := hc
        have c6 := hc
        clear hc
        refine st_ite (fun hc => ?_) (fun hc => ?_)
        · replace hc : (i9 == 3) = true := hc
          have c7 := hc
          clear hc
          rw [hi9] at c7; exact absurd c7 (by decide)
        · replace hc : (i9 == 3) = false := hc
          have c8 := hc
          clear hc
          refine st_ite (fun hc => ?_) (fun hc => ?_)
          · replace hc : (i9 == 7) = true := hc
            have c9 := hc
            clear hc
            rw [hi9] at c9; exact absurd c9 (by decide)
          · replace hc : (i9 == 7) = false := hc
            have c10 := hc
            clear hc
            refine st_ite (fun hc => ?_) (fun hc => ?_)
            · replace hc : (i9 == 5) = true := hc
              have c11 := hc
              clear hc
              rw [hi9] at c11; exact absurd c11 (by decide)
            · replace hc : (i9 == 5) = false := hc
              have c12 := hc
              clear hc
              refine st_ite (fun hc => ?_) (fun hc => ?_)
              · replace hc : (i9 == 9) = true := hc
                have c13 := hc
                clear hc
                rw [hi9] at c13; exact absurd c13 (by decide)
              · replace hc : (i9 == 9) = false := hc
                have c14 := hc
                clear hc
                refine st_ret ?_
                show some ([i11, i12, i13, i14, i15, i16, i17, i18], [true]) = _
                rw [hi11, hi12, hi13, hi14, hi15, hi16, hi17, hi18]

set_option maxHeartbeats 4000000 in
theorem q12_7 (op t a1 a2 a3 a4 d1 d2 d3 d4 : Int) (lo hi N r lo2 hi2 M q : Nat) (hp : F31 [op] [] = some ([7, t], [true])) (hc1 : F32 [(lo : Int), (hi : Int), (N : Int), (r : Int), t] [] = some ([a1, a2, a3, a4], [])) (hc2 : F32 [(lo2 : Int), (hi2 : Int), (M : Int), (q : Int), t] [] = some ([d1, d2, d3, d4], [])) (x0 x1 x2 x3 y0 y1 y2 y3 : Int) (u : Bool) (h35 : F35 [a1, a2, a3, a4, d1, d2, d3, d4] [false] = some ([x0, x1, x2, x3, y0, y1, y2, y3], [u])) : F12 [op, (lo : Int), (hi : Int), (N : Int), (r : Int), (lo2 : Int), (hi2 : Int), (M : Int), (q : Int)] [] = some ([x0, x1, x2, x3, y0, y1, y2, y3], [u]) := by
  refine Eq.trans (Fd_of (n := 9) (m := 0) (t := XTransLimit.t12) (C := Tab.fn a12) rfl rfl) ?_
  rw [XTransLimit.t12]
  refine st_2_1 (e12_31) (g := true) rfl (l := [op]) rfl (m := []) rfl (cl_t hp) fun i9 i10 b0 hi9 hi10 hb0 => ?_
  show T.den _ _ [op, (lo : Int), (hi : Int), (N : Int), (r : Int), (lo2 : Int), (hi2 : Int), (M : Int), (q : Int), i9, i10] [b0] = _
  refine st_ite (fun hc => ?_) (fun hc => ?_)
  · replace hc : (!b0) = true := hc
    have c1 := hc
    clear hc
    rw [hb0] at c1; cases c1
  · replace hc : (!b0) = false := hc
    have c2 := hc
    clear hc
    refine st_4_0 (e12_32) (g := true) rfl (l := [(lo : Int), (hi : Int), (N : Int), (r : Int), i10]) rfl (m := []) rfl (cl_t ((show F32 [(lo : Int), (hi : Int), (N : Int), (r : Int), i10] [] = F32 [(lo : Int), (hi : Int), (N : Int), (r : Int), t] [] from by rw [hi10]).trans (hc1))) fun i11 i12 i13 i14 hi11 hi12 hi13 hi14 => ?_
    show T.den _ _ [op, (lo : Int), (hi : Int), (N : Int), (r : Int), (lo2 : Int), (hi2 : Int), (M : Int), (q : Int), i9, i10, i11, i12, i13, i14] [b0] = _
    refine st_4_0 (e12_32) (g := true) rfl (l := [(lo2 : Int), (hi2 : Int), (M : Int), (q : Int), i10]) rfl (m := []) rfl (cl_t ((show F32 [(lo2 : Int), (hi2 : Int), (M : Int), (q : Int), i10] [] = F32 [(lo2 : Int), (hi2 : Int), (M : Int), (q : Int), t] [] from by rw [hi10]).trans (hc2))) fun i15 i16 i17 i18 hi15 hi16 hi17 hi18 => ?_
    show T.den _ _ [op, (lo : Int), (hi : Int), (N : Int), (r : Int), (lo2 : Int), (hi2 : Int), (M : Int), (q : Int), i9, i10, i11, i12, i13, i14, i15, i16, i17, i18] [b0] = _
    refine st_ite (fun hc => ?_) (fun hc => ?_)
    · replace hc : (i9 == 0) = true := hc
      have c3 := hc
      clear hc
      rw [hi9] at c3; exact absurd c3 (by decide)
    · replace hc : (i9 == 0) = false := hc
      have c4 := hc
      clear hc
      refine st_ite (fun hc => ?_) (fun hc => ?_)
      · replace hc : (i9 == 1) = true := hc
        have c5 := hc
        clear hc
        rw [hi9] at c5; exact absurd c5 (by decide)
      · replace hc : (i9 == 1) = false := hc
        have c6 := hc
        clear hc
        refine st_ite (fun hc => ?_) (fun hc => ?_)
        · replace hc : (i9 == 3) = true := hc
          have c7 := hc
          clear hc
          rw [hi9] at c7; exact absurd c7 (by decide)
        · replace hc : (i9 == 3) = false := hc
          have c8 := hc
          clear hc
          refine st_ite (fun hc => ?_) (fun hc => ?_)
          · replace hc : (i9 == 7) = true := hc
            have c9 := hc
            clear hc
            refine st_8_1 (e12_35) (g := true) rfl (l := [i11, i12, i13, i14, i15, i16, i17, i18]) rfl (m := [(i9 == 3)]) rfl (cl_t ((show F35 [i11, i12, i13, i14, i15, i16, i17, i18] [(i9 == 3)] = F35 [a1, a2, a3, a4, d1, d2, d3, d4] [false] from by subst_vars; rfl).trans h35)) fun i19 i20 i21 i22 i23 i24 i25 i26 b1 hi19 hi20 hi21 hi22 hi23 hi24 hi25 hi26 hb1 => ?_
            show T.den _ _ [op, (lo : Int), (hi : Int), (N : Int), (r : Int), (lo2 : Int), (hi2 : Int), (M : Int), (q : Int), i9, i10, i11, i12, i13, i14, i15, i16, i17, i18, i19, i20, i21, i22, i23, i24, i25, i26] [b0, b1] = _
            refine st_ret ?_
            show some ([i19, i20, i21, i22, i23, i24, i25, i26], [b1]) = _
            rw [hi19, hi20, hi21, hi22, hi23, hi24, hi25, hi26, hb1]
          · replace hc : (i9 == 7) = false := hc
            have c10 := hc
            clear hc
            rw [hi9] at c10; exact absurd c10 (by decide)

set_option maxHeartbeats 4000000 in
theorem q12_8 (op t a1 a2 a3 a4 d1 d2 d3 d4 : Int) (lo hi N r lo2 hi2 M q : Nat) (hp : F31 [op] [] = some ([8, t], [true])) (hc1 : F32 [(lo : Int), (hi : Int), (N : Int), (r : Int), t] [] = some ([a1, a2, a3, a4], [])) (hc2 : F32 [(lo2 : Int), (hi2 : Int), (M : Int), (q : Int), t] [] = some ([d1, d2, d3, d4], [])) : F12 [op, (lo : Int), (hi : Int), (N : Int), (r : Int), (lo2 : Int), (hi2 : Int), (M : Int), (q : Int)] [] = some ([a1, a2, a3, a4, d1, d2, d3, d4], [true]) := by
  refine Eq.trans (Fd_of (n := 9) (m := 0) (t := XTransLimit.t12) (C := Tab.fn a12) rfl rfl) ?_
  rw [XTransLimit.t12]
  refine st_2_1 (e12_31) (g := true) rfl (l := [op]) rfl (m := []) rfl (cl_t hp) fun i9 i10 b0 hi9 hi10 hb0 => ?_
  show T.den _ _ [op, (lo : Int), (hi : Int), (N : Int), (r : Int), (lo2 : Int), (hi2 : Int), (M : Int), (q : Int), i9, i10] [b0] = _
  refine st_ite (fun hc => ?_) (fun hc => ?_)
  · replace hc : (!b0) = true := hc
    have c1 := hc
    clear hc
    rw [hb0] at c1; cases c1
  · replace hc : (!b0) = false := hc
    have c2 := hc
    clear hc
    refine st_4_0 (e12_32) (g := true) rfl (l := [(lo : Int), (hi : Int), (N : Int), (r : Int), i10]) rfl (m := []) rfl (cl_t ((show F32 [(lo : Int), (hi : Int), (N : Int), (r : Int), i10] [] = F32 [(lo : Int), (hi : Int), (N : Int), (r : Int), t] [] from by rw [hi10]).trans (hc1))) fun i11 i12 i13 i14 hi11 hi12 hi13 hi14 => ?_
    show T.den _ _ [op, (lo : Int), (hi : Int), (N : Int), (r : Int), (lo2 : Int), (hi2 : Int), (M : Int), (q : Int), i9, i10, i11, i12, i13, i14] [b0] = _
    refine st_4_0 (e12_32) (g := true) rfl (l := [(lo2 : Int), (hi2 : Int), (M : Int), (q : Int), i10]) rfl (m := []) rfl (cl_t ((show F32 [(lo2 : Int), (hi2 : Int), (M : Int), (q : Int), i10] [] = F32 [(lo2 : Int), (hi2 : Int), (M : Int), (q : Int), t] [] from by rw [hi10]).trans (hc2))) fun i15 i16 i17 i18 hi15 hi16 hi17 hi18 => ?_
    show T.den _ _ [op, (lo : Int), (hi : Int), (N : Int), (r : Int), (lo2 : Int), (hi2 : Int), (M : Int), (q : Int), i9, i10, i11, i12, i13, i14, i15, i16, i17, i18] [b0] = _
    refine st_ite (fun hc => ?_) (fun hc => ?_)
    · replace hc : (i9 == 0) = true := hc
      have c3 := hc
      clear hc
      rw [hi9] at c3; exact absurd c3 (by decide)
    · replace hc : (i9 == 0) = false := hc
      have c4 := hc
      clear hc
      refine st_ite (fun hc => ?_) (fun hc => ?_)
      · replace hc : (i9 == 1) = true := hc
        have c5 := hc
        clear hc
        rw [hi9] at c5; exact absurd c5 (by decide)
      · replace hc : (i9 == 1) = false := hc
        have c6 := hc
        clear hc
        refine st_ite (fun hc => ?_) (fun hc => ?_)
        · replace hc : (i9 == 3) = true := hc
          have c7 := hc
          clear hc
          rw [hi9] at c7; exact absurd c7 (by decide)
        · replace hc : (i9 == 3) = false := hc
          have c8 := hc
          clear hc
          refine st_ite (fun hc => ?_) (fun hc => ?_)
          · replace hc : (i9 == 7) = true := hc
            have c9 := hc
            clear hc
            rw [hi9] at c9; exact absurd c9 (by decide)
          · replace hc : (i9 == 7) = false := hc
            have c10 := hc
            clear hc
            refine st_ite (fun hc => ?_) (fun hc => ?_)
            · replace hc : (i9 == 5) = true := hc
              have c11 := hc
              clear hc
              rw [hi9] at c11; exact absurd c11 (by decide)
            · replace hc : (i9 == 5) = false := hc
              have c12 := hc
              clear hc
              refine st_ite (fun hc => ?_) (fun hc => ?_)
              · replace hc : (i9 == 9) = true := hc
                have c13 := hc
                clear hc
                rw [hi9] at c13; exact absurd c13 (by decide)
              · replace hc : (i9 == 9) = false := hc
                have c14 := hc
                clear hc
                refine st_ret ?_
                show some ([i11, i12, i13, i14, i15, i16, i17, i18], [true]) = _
                rw [hi11, hi12, hi13, hi14, hi15, hi16, hi17, hi18]

set_option maxHeartbeats 4000000 in
theorem q12_9 (op t a1 a2 a3 a4 d1 d2 d3 d4 : Int) (lo hi N r lo2 hi2 M q : Nat) (hp : F31 [op] [] = some ([9, t], [true])) (hc1 : F32 [(lo : Int), (hi : Int), (N : Int), (r : Int), t] [] = some ([a1, a2, a3, a4], [])) (hc2 : F32 [(lo2 : Int), (hi2 : Int), (M : Int), (q : Int), t] [] = some ([d1, d2, d3, d4], [])) (x0 x1 x2 x3 y0 y1 y2 y3 : Int) (u : Bool) (h35 : F35 [d1, d2, d3, d4, a1, a2, a3, a4] [false] = some ([y0, y1, y2, y3, x0, x1, x2, x3], [u])) : F12 [op, (lo : Int), (hi : Int), (N : Int), (r : Int), (lo2 : Int), (hi2 : Int), (M : Int), (q : Int)] [] = some ([x0, x1, x2, x3, y0, y1, y2, y3], [u]) := by
  refine Eq.trans (Fd_of (n := 9) (m := 0) (t := XTransLimit.t12) (C := Tab.fn a12) rfl rfl) ?_
  rw [XTransLimit.t12]
  refine st_2_1 (e12_31) (g := true) rfl (l := [op]) rfl (m := []) rfl (cl_t hp) fun i9 i10 b0 hi9 hi10 hb0 => ?_
  show T.den _ _ [op, (lo : Int), (hi : Int), (N : Int), (r : Int), (lo2 : Int), (hi2 : Int), (M : Int), (q : Int), i9, i10] [b0] = _
  refine st_ite (fun hc => ?_) (fun hc => ?_)
  · replace hc : (!b0) = true := hc
    have c1 := hc
    clear hc
    rw [hb0] at c1; cases c1
  · replace hc : (!b0) = false := hc
    have c2 := hc
    clear hc
    refine st_4_0 (e12_32) (g := true) rfl (l := [(lo : Int), (hi : Int), (N : Int), (r : Int), i10]) rfl (m := []) rfl (cl_t ((show F32 [(lo : Int), (hi : Int), (N : Int), (r : Int), i10] [] = F32 [(lo : Int), (hi : Int), (N : Int), (r : Int), t] [] from by rw [hi10]).trans (hc1))) fun i11 i12 i13 i14 hi11 hi12 hi13 hi14 => ?_
    show T.den _ _ [op, (lo : Int), (hi : Int), (N : Int), (r : Int), (lo2 : Int), (hi2 : Int), (M : Int), (q : Int), i9, i10, i11, i12, i13, i14] [b0] = _
    refine st_4_0 (e12_32) (g := true) rfl (l := [(lo2 : Int), (hi2 : Int), (M : Int), (q : Int), i10]) rfl (m := []) rfl (cl_t ((show F32 [(lo2 : Int), (hi2 : Int), (M : Int), (q : Int), i10] [] = F32 [(lo2 : Int), (hi2 : Int), (M : Int), (q : Int), t] [] from by rw [hi10]).trans (hc2))) fun i15 i16 i17 i18 hi15 hi16 hi17 hi18 => ?_
    show T.den _ _ [op, (lo : Int), (hi : Int), (N : Int), (r : Int), (lo2 : Int), (hi2 : Int), (M : Int), (q : Int), i9, i10, i11, i12, i13, i14, i15, i16, i17, i18] [b0] = _
    refine st_ite (fun hc => ?_) (fun hc => ?_)
    · replace hc : (i9 == 0) = true := hc
      have c3 := hc
      clear hc
      rw [hi9] at c3; exact absurd c3 (by decide)
    · replace hc : (i9 == 0) = false := hc
      have c4 := hc
      clear hc
      refine st_ite (fun hc => ?_) (fun hc => ?_)
      · replace hc : (i9 == 1) = true := hc
        have c5 := hc
        clear hc
        rw [hi9] at c5; exact absurd c5 (by decide)
      · replace hc : (i9 == 1) = false := hc
        have c6 := hc
        clear hc
        refine st_ite (fun hc => ?_) (fun hc => ?_)
        · replace hc : (i9 == 3) = true := hc
          have c7 := hc
          clear hc
          rw [hi9] at c7; exact absurd c7 (by decide)
        · replace hc : (i9 == 3) = false := hc
          have c8 := hc
          clear hc
          refine st_ite (fun hc => ?_) (fun hc => ?_)
          · replace hc : (i9 == 7) = true := hc
            have c9 := hc
            clear hc
            rw [hi9] at c9; exact absurd c9 (by decide)
          · replace hc : (i9 == 7) = false := hc
            have c10 := hc
            clear hc
            refine st_ite (fun hc => ?_) (fun hc => ?_)
            · replace hc : (i9 == 5) = true := hc
              have c11 := hc
              clear hc
              rw [hi9] at c11; exact absurd c11 (by decide)
            · replace hc : (i9 == 5) = false := hc
              have c12 := hc
              clear hc
              refine st_ite (fun hc => ?_) (fun hc => ?_)
              · replace hc : (i9 == 9) = true := hc
                have c13 := hc
                clear hc
                refine st_8_1 (e12_35) (g := true) rfl (l := [i15, i16, i17, i18, i11, i12, i13, i14]) rfl (m := [(i9 == 5)]) rfl (cl_t ((show F35 [i15, i16, i17, i18, i11, i12, i13, i14] [(i9 == 5)] = F35 [d1, d2, d3, d4, a1, a2, a3, a4] [false] from by subst_vars; rfl).trans h35)) fun i19 i20 i21 i22 i23 i24 i25 i26 b1 hi19 hi20 hi21 hi22 hi23 hi24 hi25 hi26 hb1 => ?_
                show T.den _ _ [op, (lo : Int), (hi : Int), (N : Int), (r : Int), (lo2 : Int), (hi2 : Int), (M : Int), (q : Int), i9, i10, i11, i12, i13, i14, i15, i16, i17, i18, i19, i20, i21, i22, i23, i24, i25, i26] [b0, b1] = _
                refine st_ret ?_
                show some ([i23, i24, i25, i26, i19, i20, i21, i22], [b1]) = _
                rw [hi23, hi24, hi25, hi26, hi19, hi20, hi21, hi22, hb1]
              · replace hc : (i9 == 9) = false := hc
                have c14 := hc
                clear hc
                rw [hi9] at c14; exact absurd c14 (by decide)

set_option maxHeartbeats 4000000 in
theorem q12_o (op : Int) (lo hi N r lo2 hi2 M q : Nat) (hp : F31 [op] [] = some ([0, 0], [false])) : F12 [op, (lo : Int), (hi : Int), (N : Int), (r : Int), (lo2 : Int), (hi2 : Int), (M : Int), (q : Int)] [] = some ([(lo : Int), (hi : Int), (N : Int), (r : Int), (lo2 : Int), (hi2 : Int), (M : Int), (q : Int)], [true]) := by
  refine Eq.trans (Fd_of (n := 9) (m := 0) (t := XTransLimit.t12) (C := Tab.fn a12) rfl rfl) ?_
  rw [XTransLimit.t12]
  refine st_2_1 (e12_31) (g := true) rfl (l := [op]) rfl (m := []) rfl (cl_t hp) fun i9 i10 b0 hi9 hi10 hb0 => ?_
  show T.den _ _ [op, (lo : Int), (hi : Int), (N : Int), (r : Int), (lo2 : Int), (hi2 : Int), (M : Int), (q : Int), i9, i10] [b0] = _
  refine st_ite (fun hc => ?_) (fun hc => ?_)
  · replace hc : (!b0) = true := hc
    have c1 := hc
    clear hc
    refine st_ret ?_
    show some ([(lo : Int), (hi : Int), (N : Int), (r : Int), (lo2 : Int), (hi2 : Int), (M : Int), (q : Int)], [true]) = _
    rfl
  · replace hc : (!b0) = false := hc
    have c2 := hc
    clear hc
    rw [hb0] at c2; cases c2

def Fit (t : Int) (n : Nat) : Prop := t = 127 → n < 2 ^ 32
theorem cut_nat {lo hi N r : Nat} (t : Int) (h : Rt lo hi N r) : ∃ a b c d : Nat, Rt a b c d ∧ F32 [(lo : Int), (hi : Int), (N : Int), (r : Int), t] [] = some ([(a : Int), (b : Int), (c : Int), (d : Int)], []) ∧
    ∀ n, n < 2 ^ 64 → Fit t n → hAN lo hi N r n = true → hAN a b c d n = true ∧ c = N ∧ d = r := by
  have hq := q32 (lo : Int) hi N r t (by omega)
  unfold cc1 cc2 cc3 cc4 at hq
  by_cases ht : t = 127
  · by_cases hm : (lo : Int) ≤ min (hi : Int) 4294967295
    · simp only [if_pos ht, if_pos hm] at hq
      refine ⟨lo, min hi 4294967295, N, r, ⟨by omega, by have := h.2.1; omega, h.2.2⟩, ?_, fun n hn hf hA => ⟨?_, rfl, rfl⟩⟩
      · rw [hq, show min (hi : Int) 4294967295 = ((min hi 4294967295 : Nat) : Int) from by omega]
      · obtain ⟨k1, k2, k3⟩ := hAN_true hA
        have := hf ht
        exact hAN_of k1 (by omega) k3
    · simp only [if_pos ht, if_neg hm] at hq
      refine ⟨0, 4294967295, 0, 0, ⟨by decide, by decide, by decide, by decide⟩, hq, fun n hn hf hA => ?_⟩
      obtain ⟨k1, k2, k3⟩ := hAN_true hA
      have := hf ht
      exfalso; omega
  · simp only [if_neg ht] at hq
    exact ⟨lo, hi, N, r, h, hq, fun n hn hf hA => ⟨hA, rfl, rfl⟩⟩
/-- What Limit tells of two, of which the relation C holds. -/
def Lim (op t : Int) (lo hi N r lo2 hi2 M q : Nat) (C : Nat → Nat → Prop) : Prop := ∃ x0 x1 x2 x3 y0 y1 y2 y3 u, F12 [op, (lo : Int), (hi : Int), (N : Int), (r : Int), (lo2 : Int), (hi2 : Int), (M : Int), (q : Int)] [] = some ([x0, x1, x2, x3, y0, y1, y2, y3], [u]) ∧
  (u = false → (x0 = 0 ∧ x1 = 0 ∧ x2 = 0 ∧ x3 = 0) ∧ (y0 = 0 ∧ y1 = 0 ∧ y2 = 0 ∧ y3 = 0)) ∧ (u = true → RtI x0 x1 x2 x3 ∧ RtI y0 y1 y2 y3) ∧
  ∀ n m, n < 2 ^ 64 → m < 2 ^ 64 → Fit t n → Fit t m → hAN lo hi N r n = true → hAN lo2 hi2 M q m = true → C n m → u = true ∧ In N r x0 x1 x2 x3 n ∧ In 0 0 y0 y1 y2 y3 m
theorem In.weak {N r : Nat} {i j k l : Int} {n : Nat} (h : In N r i j k l n) : In 0 0 i j k l n := by
  obtain ⟨a, b, c, d, e1, e2, e3, e4, h1, _, _, h4⟩ := h
  exact ⟨a, b, c, d, e1, e2, e3, e4, h1, Nat.zero_le _, hs_of (by rw [Nat.pow_zero, Nat.mod_one, Nat.mod_one]), h4⟩
section
variable {op t : Int} {lo hi N r lo2 hi2 M q : Nat} (h : Rt lo hi N r) (h2 : Rt lo2 hi2 M q)
include h h2
theorem lim_0 (hp : F31 [op] [] = some ([0, t], [true])) : Lim op t lo hi N r lo2 hi2 M q (fun n m => n = m) := by
  obtain ⟨a, b, c, d, hR, hF, hA⟩ := cut_nat t h
  obtain ⟨a', b', c', d', hR', hF', hA'⟩ := cut_nat t h2
  have rx := meet_res hR hR'
  refine ⟨_, _, _, _, _, _, _, _, _, q12_0 op t _ _ _ _ _ _ _ _ lo hi N r lo2 hi2 M q hp hF hF' _ _ _ _ _ (q33 hR hR'), fun hu => ⟨zero_t _ hu, zero_t _ hu⟩, fun hu => ⟨rx.1 hu, rx.1 hu⟩, fun n m hn hm fn fm h1 h3 hC => ?_⟩
  have hC' : n = m := hC
  subst hC'
  obtain ⟨k1, rfl, rfl⟩ := hA n hn fn h1
  obtain ⟨k2, _, _⟩ := hA' n hn fm h3
  have := rx.2 n hn k1 k2
  exact ⟨this.1, this.2, this.2.weak⟩
theorem lim_1 (hp : F31 [op] [] = some ([1, t], [true])) : Lim op t lo hi N r lo2 hi2 M q (fun n m => n ≠ m) := by
  obtain ⟨a, b, c, d, hR, hF, hA⟩ := cut_nat t h
  obtain ⟨a', b', c', d', hR', hF', hA'⟩ := cut_nat t h2
  obtain ⟨i, j, k, l, u, g1, rx⟩ := q34 hR hR'
  obtain ⟨i', j', k', l', v, g2, ry⟩ := q34 hR' hR
  have mem : ∀ n m, n < 2 ^ 64 → m < 2 ^ 64 → Fit t n → Fit t m → hAN lo hi N r n = true → hAN lo2 hi2 M q m = true → n ≠ m → (u = true ∧ In N r i j k l n) ∧ (v = true ∧ In M q i' j' k' l' m) := fun n m hn hm fn fm h1 h3 hC => by
    obtain ⟨k1, rfl, rfl⟩ := hA n hn fn h1
    obtain ⟨k2, rfl, rfl⟩ := hA' m hm fm h3
    exact ⟨rx.2 n hn k1 ⟨m, hm, k2, hC⟩, ry.2 m hm k2 ⟨n, hn, k1, fun e => hC e.symm⟩⟩
  cases huv : ((!u) || (!v))
  · have hu : u = true := by revert huv; cases u <;> simp
    have hv : v = true := by revert huv; cases v <;> simp
    exact ⟨_, _, _, _, _, _, _, _, _, q12_1 op t _ _ _ _ _ _ _ _ lo hi N r lo2 hi2 M q hp hF hF' _ _ _ _ _ _ _ _ _ _ g1 g2 huv, (fun h => by cases h), fun _ => ⟨rx.1 hu, ry.1 hv⟩, fun n m hn hm fn fm h1 h3 hC => ⟨rfl, (mem n m hn hm fn fm h1 h3 hC).1.2, (mem n m hn hm fn fm h1 h3 hC).2.2.weak⟩⟩
  · refine ⟨_, _, _, _, _, _, _, _, _, q12_1z op t _ _ _ _ _ _ _ _ lo hi N r lo2 hi2 M q hp hF hF' _ _ _ _ _ _ _ _ _ _ g1 g2 huv, fun _ => ⟨⟨rfl, rfl, rfl, rfl⟩, rfl, rfl, rfl, rfl⟩, (fun h => by cases h), fun n m hn hm fn fm h1 h3 hC => ?_⟩
    obtain ⟨⟨e1, _⟩, e2, _⟩ := mem n m hn hm fn fm h1 h3 hC
    rw [e1, e2] at huv; cases huv

theorem lim_2 (hp : F31 [op] [] = some ([2, t], [true])) : Lim op t lo hi N r lo2 hi2 M q (fun n m => True) := by
  obtain ⟨a, b, c, d, hR, hF, hA⟩ := cut_nat t h
  obtain ⟨a', b', c', d', hR', hF', hA'⟩ := cut_nat t h2
  refine ⟨_, _, _, _, _, _, _, _, _, q12_2 op t _ _ _ _ _ _ _ _ lo hi N r lo2 hi2 M q hp hF hF', (fun h => by cases h), fun _ => ⟨(self_res hR (fun _ => True)).1 rfl, (self_res hR' (fun _ => True)).1 rfl⟩, fun n m hn hm fn fm h1 h3 hC => ?_⟩
  obtain ⟨k1, rfl, rfl⟩ := hA n hn fn h1
  obtain ⟨k2, _, _⟩ := hA' m hm fm h3
  exact ⟨rfl, ((self_res hR (fun _ => True)).2 n hn k1 trivial).2, ((self_res hR' (fun _ => True)).2 m hm k2 trivial).2.weak⟩

theorem lim_4 (hp : F31 [op] [] = some ([4, t], [true])) : Lim op t lo hi N r lo2 hi2 M q (fun n m => True) := by
  obtain ⟨a, b, c, d, hR, hF, hA⟩ := cut_nat t h
  obtain ⟨a', b', c', d', hR', hF', hA'⟩ := cut_nat t h2
  refine ⟨_, _, _, _, _, _, _, _, _, q12_4 op t _ _ _ _ _ _ _ _ lo hi N r lo2 hi2 M q hp hF hF', (fun h => by cases h), fun _ => ⟨(self_res hR (fun _ => True)).1 rfl, (self_res hR' (fun _ => True)).1 rfl⟩, fun n m hn hm fn fm h1 h3 hC => ?_⟩
  obtain ⟨k1, rfl, rfl⟩ := hA n hn fn h1
  obtain ⟨k2, _, _⟩ := hA' m hm fm h3
  exact ⟨rfl, ((self_res hR (fun _ => True)).2 n hn k1 trivial).2, ((self_res hR' (fun _ => True)).2 m hm k2 trivial).2.weak⟩

theorem lim_6 (hp : F31 [op] [] = some ([6, t], [true])) : Lim op t lo hi N r lo2 hi2 M q (fun n m => True) := by
  obtain ⟨a, b, c, d, hR, hF, hA⟩ := cut_nat t h
  obtain ⟨a', b', c', d', hR', hF', hA'⟩ := cut_nat t h2
  refine ⟨_, _, _, _, _, _, _, _, _, q12_6 op t _ _ _ _ _ _ _ _ lo hi N r lo2 hi2 M q hp hF hF', (fun h => by cases h), fun _ => ⟨(self_res hR (fun _ => True)).1 rfl, (self_res hR' (fun _ => True)).1 rfl⟩, fun n m hn hm fn fm h1 h3 hC => ?_⟩
  obtain ⟨k1, rfl, rfl⟩ := hA n hn fn h1
  obtain ⟨k2, _, _⟩ := hA' m hm fm h3
  exact ⟨rfl, ((self_res hR (fun _ => True)).2 n hn k1 trivial).2, ((self_res hR' (fun _ => True)).2 m hm k2 trivial).2.weak⟩

theorem lim_8 (hp : F31 [op] [] = some ([8, t], [true])) : Lim op t lo hi N r lo2 hi2 M q (fun n m => True) := by
  obtain ⟨a, b, c, d, hR, hF, hA⟩ := cut_nat t h
  obtain ⟨a', b', c', d', hR', hF', hA'⟩ := cut_nat t h2
  refine ⟨_, _, _, _, _, _, _, _, _, q12_8 op t _ _ _ _ _ _ _ _ lo hi N r lo2 hi2 M q hp hF hF', (fun h => by cases h), fun _ => ⟨(self_res hR (fun _ => True)).1 rfl, (self_res hR' (fun _ => True)).1 rfl⟩, fun n m hn hm fn fm h1 h3 hC => ?_⟩
  obtain ⟨k1, rfl, rfl⟩ := hA n hn fn h1
  obtain ⟨k2, _, _⟩ := hA' m hm fm h3
  exact ⟨rfl, ((self_res hR (fun _ => True)).2 n hn k1 trivial).2, ((self_res hR' (fun _ => True)).2 m hm k2 trivial).2.weak⟩

theorem lim_3 (hp : F31 [op] [] = some ([3, t], [true])) : Lim op t lo hi N r lo2 hi2 M q (fun n m => n < m) := by
  obtain ⟨a, b, c, d, hR, hF, hA⟩ := cut_nat t h
  obtain ⟨a', b', c', d', hR', hF', hA'⟩ := cut_nat t h2
  obtain ⟨w0, w1, w2, w3, z0, z1, z2, z3, u, hB, tw⟩ := below_s hR hR'
  refine ⟨_, _, _, _, _, _, _, _, _, q12_3 op t _ _ _ _ _ _ _ _ lo hi N r lo2 hi2 M q hp hF hF' _ _ _ _ _ _ _ _ _ hB, tw.1, tw.2.1, fun n m hn hm fn fm h1 h3 hC => ?_⟩
  obtain ⟨k1, rfl, rfl⟩ := hA n hn fn h1
  obtain ⟨k2, _, _⟩ := hA' m hm fm h3
  have := tw.2.2 n m hn hm k1 k2 hC
  exact ⟨this.1, this.2.1, this.2.2.weak⟩

theorem lim_7 (hp : F31 [op] [] = some ([7, t], [true])) : Lim op t lo hi N r lo2 hi2 M q (fun n m => n ≤ m) := by
  obtain ⟨a, b, c, d, hR, hF, hA⟩ := cut_nat t h
  obtain ⟨a', b', c', d', hR', hF', hA'⟩ := cut_nat t h2
  obtain ⟨w0, w1, w2, w3, z0, z1, z2, z3, u, hB, tw⟩ := below_n hR hR'
  refine ⟨_, _, _, _, _, _, _, _, _, q12_7 op t _ _ _ _ _ _ _ _ lo hi N r lo2 hi2 M q hp hF hF' _ _ _ _ _ _ _ _ _ hB, tw.1, tw.2.1, fun n m hn hm fn fm h1 h3 hC => ?_⟩
  obtain ⟨k1, rfl, rfl⟩ := hA n hn fn h1
  obtain ⟨k2, _, _⟩ := hA' m hm fm h3
  have := tw.2.2 n m hn hm k1 k2 hC
  exact ⟨this.1, this.2.1, this.2.2.weak⟩

theorem lim_5 (hp : F31 [op] [] = some ([5, t], [true])) : Lim op t lo hi N r lo2 hi2 M q (fun n m => n > m) := by
  obtain ⟨a, b, c, d, hR, hF, hA⟩ := cut_nat t h
  obtain ⟨a', b', c', d', hR', hF', hA'⟩ := cut_nat t h2
  obtain ⟨w0, w1, w2, w3, z0, z1, z2, z3, u, hB, tw⟩ := below_s hR' hR
  refine ⟨_, _, _, _, _, _, _, _, _, q12_5 op t _ _ _ _ _ _ _ _ lo hi N r lo2 hi2 M q hp hF hF' _ _ _ _ _ _ _ _ _ hB, fun hu => ⟨(tw.1 hu).2, (tw.1 hu).1⟩, fun hu => ⟨(tw.2.1 hu).2, (tw.2.1 hu).1⟩, fun n m hn hm fn fm h1 h3 hC => ?_⟩
  obtain ⟨k1, rfl, rfl⟩ := hA n hn fn h1
  obtain ⟨k2, _, _⟩ := hA' m hm fm h3
  have := tw.2.2 m n hm hn k2 k1 hC
  exact ⟨this.1, this.2.2, this.2.1.weak⟩

theorem lim_9 (hp : F31 [op] [] = some ([9, t], [true])) : Lim op t lo hi N r lo2 hi2 M q (fun n m => n ≥ m) := by
  obtain ⟨a, b, c, d, hR, hF, hA⟩ := cut_nat t h
  obtain ⟨a', b', c', d', hR', hF', hA'⟩ := cut_nat t h2
  obtain ⟨w0, w1, w2, w3, z0, z1, z2, z3, u, hB, tw⟩ := below_n hR' hR
  refine ⟨_, _, _, _, _, _, _, _, _, q12_9 op t _ _ _ _ _ _ _ _ lo hi N r lo2 hi2 M q hp hF hF' _ _ _ _ _ _ _ _ _ hB, fun hu => ⟨(tw.1 hu).2, (tw.1 hu).1⟩, fun hu => ⟨(tw.2.1 hu).2, (tw.2.1 hu).1⟩, fun n m hn hm fn fm h1 h3 hC => ?_⟩
  obtain ⟨k1, rfl, rfl⟩ := hA n hn fn h1
  obtain ⟨k2, _, _⟩ := hA' m hm fm h3
  have := tw.2.2 m n hm hn k2 k1 hC
  exact ⟨this.1, this.2.2, this.2.1.weak⟩

end
end Go.Proofs.YtlnikilodakjmaaDoor.ZTransLimit
