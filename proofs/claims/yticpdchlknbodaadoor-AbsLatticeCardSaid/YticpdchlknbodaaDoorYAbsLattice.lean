/-
  AbsLattice, of numbers alone.
-/
import Derived.Test.YticpdchlknbodaaDoorXAbsLattice
import Derived.Test.YticpdchlknbodaaDoorSn
import Derived.Test.YticpdchlknbodaaDoorTabs
namespace Go.Proofs.YticpdchlknbodaaDoor.YAbsLattice
open Go.Proofs.YticpdchlknbodaaDoor.Sx Go.Proofs.YticpdchlknbodaaDoor.Sn Go.Proofs.YticpdchlknbodaaDoor.XAbsLattice Go.Proofs.YticpdchlknbodaaDoor.EAbsLattice
set_option linter.unusedSimpArgs false
set_option linter.unusedVariables false
theorem st_0_1 {C : Nat → Sx.Fn} {is : List Int} {bs : List Bool} {r : Option (List Int × List Bool)} {G : E} {f : Nat} {ii bb : List E} {k : Sx.T} {c0 : Bool} {F : Sx.Fn} {g : Bool} {l : List Int} {m : List Bool} (hC : C f = F) (hG : G.B is bs = g) (hl : ii.map (E.I is bs) = l) (hm : bb.map (E.B is bs) = m)
    (h : (bif g then F l m else some (List.replicate 0 0, List.replicate 1 false)) = some ([], [c0]))
    (hk : ∀ (y0 : Bool), y0 = c0 → k.den C (is ++ []) (bs ++ [y0]) = r) : (Sx.T.call G f ii bb 0 1 k).den C is bs = r := st_call _ _ (by rw [hC, hG, hl, hm]; exact h) rfl rfl (hk _ rfl)

theorem st_1_0 {C : Nat → Sx.Fn} {is : List Int} {bs : List Bool} {r : Option (List Int × List Bool)} {G : E} {f : Nat} {ii bb : List E} {k : Sx.T} {a0 : Int} {F : Sx.Fn} {g : Bool} {l : List Int} {m : List Bool} (hC : C f = F) (hG : G.B is bs = g) (hl : ii.map (E.I is bs) = l) (hm : bb.map (E.B is bs) = m)
    (h : (bif g then F l m else some (List.replicate 1 0, List.replicate 0 false)) = some ([a0], []))
    (hk : ∀ (x0 : Int), x0 = a0 → k.den C (is ++ [x0]) (bs ++ []) = r) : (Sx.T.call G f ii bb 1 0 k).den C is bs = r := st_call _ _ (by rw [hC, hG, hl, hm]; exact h) rfl rfl (hk _ rfl)

theorem st_2_0 {C : Nat → Sx.Fn} {is : List Int} {bs : List Bool} {r : Option (List Int × List Bool)} {G : E} {f : Nat} {ii bb : List E} {k : Sx.T} {a0 a1 : Int} {F : Sx.Fn} {g : Bool} {l : List Int} {m : List Bool} (hC : C f = F) (hG : G.B is bs = g) (hl : ii.map (E.I is bs) = l) (hm : bb.map (E.B is bs) = m)
    (h : (bif g then F l m else some (List.replicate 2 0, List.replicate 0 false)) = some ([a0, a1], []))
    (hk : ∀ (x0 x1 : Int), x0 = a0 → x1 = a1 → k.den C (is ++ [x0, x1]) (bs ++ []) = r) : (Sx.T.call G f ii bb 2 0 k).den C is bs = r := st_call _ _ (by rw [hC, hG, hl, hm]; exact h) rfl rfl (hk _ _ rfl rfl)

theorem st_2_1 {C : Nat → Sx.Fn} {is : List Int} {bs : List Bool} {r : Option (List Int × List Bool)} {G : E} {f : Nat} {ii bb : List E} {k : Sx.T} {a0 a1 : Int} {c0 : Bool} {F : Sx.Fn} {g : Bool} {l : List Int} {m : List Bool} (hC : C f = F) (hG : G.B is bs = g) (hl : ii.map (E.I is bs) = l) (hm : bb.map (E.B is bs) = m)
    (h : (bif g then F l m else some (List.replicate 2 0, List.replicate 1 false)) = some ([a0, a1], [c0]))
    (hk : ∀ (x0 x1 : Int) (y0 : Bool), x0 = a0 → x1 = a1 → y0 = c0 → k.den C (is ++ [x0, x1]) (bs ++ [y0]) = r) : (Sx.T.call G f ii bb 2 1 k).den C is bs = r := st_call _ _ (by rw [hC, hG, hl, hm]; exact h) rfl rfl (hk _ _ _ rfl rfl rfl)

theorem st_4_0 {C : Nat → Sx.Fn} {is : List Int} {bs : List Bool} {r : Option (List Int × List Bool)} {G : E} {f : Nat} {ii bb : List E} {k : Sx.T} {a0 a1 a2 a3 : Int} {F : Sx.Fn} {g : Bool} {l : List Int} {m : List Bool} (hC : C f = F) (hG : G.B is bs = g) (hl : ii.map (E.I is bs) = l) (hm : bb.map (E.B is bs) = m)
    (h : (bif g then F l m else some (List.replicate 4 0, List.replicate 0 false)) = some ([a0, a1, a2, a3], []))
    (hk : ∀ (x0 x1 x2 x3 : Int), x0 = a0 → x1 = a1 → x2 = a2 → x3 = a3 → k.den C (is ++ [x0, x1, x2, x3]) (bs ++ []) = r) : (Sx.T.call G f ii bb 4 0 k).den C is bs = r := st_call _ _ (by rw [hC, hG, hl, hm]; exact h) rfl rfl (hk _ _ _ _ rfl rfl rfl rfl)

theorem st_4_1 {C : Nat → Sx.Fn} {is : List Int} {bs : List Bool} {r : Option (List Int × List Bool)} {G : E} {f : Nat} {ii bb : List E} {k : Sx.T} {a0 a1 a2 a3 : Int} {c0 : Bool} {F : Sx.Fn} {g : Bool} {l : List Int} {m : List Bool} (hC : C f = F) (hG : G.B is bs = g) (hl : ii.map (E.I is bs) = l) (hm : bb.map (E.B is bs) = m)
    (h : (bif g then F l m else some (List.replicate 4 0, List.replicate 1 false)) = some ([a0, a1, a2, a3], [c0]))
    (hk : ∀ (x0 x1 x2 x3 : Int) (y0 : Bool), x0 = a0 → x1 = a1 → x2 = a2 → x3 = a3 → y0 = c0 → k.den C (is ++ [x0, x1, x2, x3]) (bs ++ [y0]) = r) : (Sx.T.call G f ii bb 4 1 k).den C is bs = r := st_call _ _ (by rw [hC, hG, hl, hm]; exact h) rfl rfl (hk _ _ _ _ _ rfl rfl rfl rfl rfl)
theorem r1 {a b : Int} (h : a = b) : (some ([a], []) : Option (List Int × List Bool)) = some ([b], []) := by rw [h]
theorem rb {a b : Bool} (h : a = b) : (some ([], [a]) : Option (List Int × List Bool)) = some ([], [b]) := by rw [h]
def mk (N : Int) : Int := if N ≥ 64 then 18446744073709551615 else arI .sub .u64 (arI .shl .u64 1 (IntKind.wrap .u64 (if 0 > N then 0 else N))) 1
def hL (N r n : Int) : Bool := (arI .and .u64 (arI .xor .u64 n r) (mk N)) == 0
def rL (N r : Int) : Bool := ((decide (N ≥ 0)) && (decide (N ≤ 64))) && ((arI .andNot .u64 r (mk N)) == 0)
theorem and_z (x : Int) : arI .and .u64 x 0 = 0 := by
  show IntKind.u64.wrap ((BitVec.ofInt 64 x &&& BitVec.ofInt 64 0).toNat : Int) = 0
  rw [show BitVec.ofInt 64 0 = 0#64 from rfl, BitVec.and_zero]; decide
theorem z_and (x : Int) : arI .and .u64 0 x = 0 := by
  show IntKind.u64.wrap ((BitVec.ofInt 64 0 &&& BitVec.ofInt 64 x).toNat : Int) = 0
  rw [show BitVec.ofInt 64 0 = 0#64 from rfl, BitVec.zero_and]; decide
theorem xor_self (x : Int) : arI .xor .u64 x x = 0 := by
  show IntKind.u64.wrap ((BitVec.ofInt 64 x ^^^ BitVec.ofInt 64 x).toNat : Int) = 0
  rw [BitVec.xor_self]; decide
theorem hL_0 (r n : Int) : hL 0 r n = true := by
  unfold hL; rw [show mk 0 = 0 from by decide +kernel, and_z]; rfl
theorem hL_self (N n : Int) : hL N n n = true := by
  unfold hL; rw [xor_self, z_and]; rfl
theorem rL_00 : rL 0 0 = true := by decide +kernel

set_option maxHeartbeats 4000000 in
theorem q32 (N : Int) : F32 [N] [] = some ([mk N], []) := by
  refine Eq.trans (Fd_of (n := 1) (m := 0) (t := t32) (C := Tab.fn a32) rfl rfl) ?_
  rw [t32]
  refine st_ite (fun hc => ?_) (fun hc => ?_)
  · replace hc : (decide (N ≥ 64)) = true := hc
    have c1 := hc
    clear hc
    refine st_ret ?_
    show some ([18446744073709551615], []) = _
    exact r1 (by unfold mk; rw [if_pos (of_decide_eq_true c1)])
  · replace hc : (decide (N ≥ 64)) = false := hc
    have c2 := hc
    clear hc
    refine st_rq (show (decide ((IntKind.wrap .u64 (if 0 > N then 0 else N)) ≥ 0)) = true from ?_) ?_
    · rw [decide_eq_true_eq, wrap_u64]
      exact Int.emod_nonneg _ (by decide)
    refine st_li fun i1 hi1 => ?_
    replace hi1 : i1 = (arI .sub .u64 (arI .shl .u64 1 (IntKind.wrap .u64 (if 0 > N then 0 else N))) 1) := hi1
    show T.den _ _ [N, i1] [] = _
    refine st_ret ?_
    show some ([i1], []) = _
    exact r1 (by unfold mk; rw [if_neg (of_decide_eq_false c2)]; exact hi1)

theorem e27_32 : Tab.fn a27 32 = F32 := Tab.fn_hd
theorem e21_32 : Tab.fn a21 32 = F32 := Tab.fn_hd

set_option maxHeartbeats 4000000 in
theorem q27 (N r n : Int) : F27 [N, r, n] [] = some ([], [hL N r n]) := by
  refine Eq.trans (Fd_of (n := 3) (m := 0) (t := t27) (C := Tab.fn a27) rfl rfl) ?_
  rw [t27]
  refine st_1_0 (e27_32) (g := true) rfl (l := [N]) rfl (m := []) rfl (cl_t (q32 N)) fun i3 hi3 => ?_
  show T.den _ _ [N, r, n, i3] [] = _
  refine st_lb fun b0 hb0 => ?_
  replace hb0 : b0 = ((arI .and .u64 (arI .xor .u64 n r) i3) == 0) := hb0
  show T.den _ _ [N, r, n, i3] [b0] = _
  refine st_ret ?_
  show some ([], [b0]) = _
  exact rb (by rw [hb0, hi3]; rfl)

set_option maxHeartbeats 4000000 in
theorem q21 (N r : Int) : F21 [N, r] [] = some ([], [rL N r]) := by
  refine Eq.trans (Fd_of (n := 2) (m := 0) (t := t21) (C := Tab.fn a21) rfl rfl) ?_
  rw [t21]
  refine st_lb fun b0 hb0 => ?_
  replace hb0 : b0 = ((decide (N ≥ 0)) && (decide (N ≤ 64))) := hb0
  show T.den _ _ [N, r] [b0] = _
  refine st_1_0 (e21_32) (g := b0) rfl (l := [N]) rfl (m := []) rfl (cl_1 (q32 N)) fun i2 hi2 => ?_
  show T.den _ _ [N, r, i2] [b0] = _
  refine st_lb fun b1 hb1 => ?_
  replace hb1 : b1 = (b0 && ((arI .andNot .u64 r i2) == 0)) := hb1
  show T.den _ _ [N, r, i2] [b0, b1] = _
  refine st_ret ?_
  show some ([], [b1]) = _
  refine rb ?_
  rw [hb1, hi2]; unfold rL; rw [← hb0]
  cases b0 <;> rfl

theorem pow_pos (i : Nat) : 0 < 2 ^ i := Nat.two_pow_pos i
theorem pow_lt {i : Nat} (h : i < 64) : 2 ^ i < 2 ^ 64 := Nat.pow_lt_pow_right (by decide) h
theorem pow_le {i j : Nat} (h : i ≤ j) : 2 ^ i ≤ 2 ^ j := Nat.pow_le_pow_right (by decide) h
theorem mod_lt64 (a i : Nat) (h : a < 2 ^ 64) : a % 2 ^ i < 2 ^ 64 := Nat.lt_of_le_of_lt (Nat.mod_le _ _) h
theorem mod_mod_pow (n : Nat) {i j : Nat} (h : i ≤ j) : n % 2 ^ j % 2 ^ i = n % 2 ^ i := Nat.mod_mod_of_dvd _ (Nat.pow_dvd_pow 2 h)
def hs (N r n : Nat) : Bool := decide (n % 2 ^ N = r % 2 ^ N)
theorem xor_mask_eq_zero (n r i : Nat) : (n ^^^ r) &&& (2 ^ i - 1) = 0 ↔ n % 2 ^ i = r % 2 ^ i := by
  rw [Nat.and_two_pow_sub_one_eq_mod, Nat.xor_mod_two_pow]
  constructor
  · intro h
    refine Nat.eq_of_testBit_eq fun j => ?_
    have h1 := congrArg (fun x => Nat.testBit x j) h
    simp only [Nat.testBit_xor, Nat.zero_testBit] at h1
    revert h1
    cases Nat.testBit (n % 2 ^ i) j <;> cases Nat.testBit (r % 2 ^ i) j <;> simp
  · intro h; rw [h, Nat.xor_self]
theorem mask_lt {N : Nat} (h : N ≤ 64) : 2 ^ N - 1 < 2 ^ 64 := by have := pow_le h; have := pow_pos N; omega
theorem bandNot (a b : Nat) (ha : a < 2 ^ 64) (hb : b < 2 ^ 64) : arI .andNot .u64 (a : Int) (b : Int) = ((a &&& (2 ^ 64 - (b + 1)) : Nat) : Int) := by
  show IntKind.u64.wrap ((BitVec.ofInt 64 (a : Int) &&& ~~~(BitVec.ofInt 64 (b : Int))).toNat : Int) = _
  have e : 2 ^ 64 - 1 - b = 2 ^ 64 - (b + 1) := by omega
  rw [BitVec.toNat_and, BitVec.toNat_not, toN a ha, toN b hb, e]
  exact wraps_u64 _ (by omega) (by have := @Nat.and_le_left a (2 ^ 64 - (b + 1)); omega)
theorem and_not_mask_eq_zero {r i : Nat} (hr : r < 2 ^ 64) (hi : i ≤ 64) : r &&& (2 ^ 64 - (2 ^ i - 1 + 1)) = 0 ↔ r < 2 ^ i := by
  have e : 2 ^ 64 - (2 ^ i - 1 + 1) = 2 ^ 64 - 2 ^ i := by have := pow_pos i; omega
  have d : 2 ^ 64 - 2 ^ i = (2 ^ (64 - i) - 1) * 2 ^ i := by rw [Nat.sub_mul, ← Nat.pow_add, Nat.sub_add_cancel hi, Nat.one_mul]
  have k : r &&& (2 ^ 64 - (2 ^ i - 1 + 1)) = r / 2 ^ i * 2 ^ i := by
    rw [e, d]
    refine Nat.eq_of_testBit_eq fun j => ?_
    rw [Nat.testBit_and, Nat.testBit_mul_two_pow, Nat.testBit_mul_two_pow, Nat.testBit_two_pow_sub_one, Nat.testBit_div_two_pow]
    by_cases h : i ≤ j
    · by_cases h2 : j < 64
      · simp [h, show j - i < 64 - i from by omega, Nat.sub_add_cancel h]
      · have : r.testBit j = false := Nat.testBit_lt_two_pow (Nat.lt_of_lt_of_le hr (pow_le (by omega)))
        simp [h, this, Nat.sub_add_cancel h]
    · simp [h]
  rw [k]
  have h1 := Nat.div_add_mod r (2 ^ i)
  have h2 := Nat.mod_lt r (pow_pos i)
  constructor
  · intro h; rw [Nat.mul_comm] at h1; omega
  · intro h; rw [Nat.div_eq_of_lt h, Nat.zero_mul]
theorem mk_nat {N : Nat} (h : N ≤ 64) : mk (N : Int) = ((2 ^ N - 1 : Nat) : Int) := by
  unfold mk
  by_cases h1 : N = 64
  · subst h1; decide +kernel
  · have hp := pow_lt (i := N) (by omega)
    have hp0 := pow_pos N
    rw [if_neg (by omega), if_neg (by omega), wraps_u64 _ (by omega) (by omega), arShl _ _ (by omega) (by omega), Int.toNat_natCast, Int.one_mul, show (2 : Int) ^ N = ((2 ^ N : Nat) : Int) from by rw [Int.natCast_pow]; rfl, arSub]; omega
theorem hL_nat (N r n : Nat) (hN : N ≤ 64) (hr : r < 2 ^ 64) (hn : n < 2 ^ 64) : hL N r n = hs N r n := by
  unfold hL hs
  rw [mk_nat hN, bxor n r hn hr, band _ _ (Nat.xor_lt_two_pow hn hr) (mask_lt hN), Bool.eq_iff_iff, beq_iff_eq, decide_eq_true_iff, ← xor_mask_eq_zero]
  omega
theorem rL_nat (N r : Nat) (hN : N ≤ 64) (hr : r < 2 ^ 64) : rL N r = decide (r < 2 ^ N) := by
  unfold rL
  rw [mk_nat hN, bandNot r _ hr (mask_lt hN), decide_eq_true (by omega), decide_eq_true (by omega), Bool.true_and, Bool.true_and, Bool.eq_iff_iff, beq_iff_eq, decide_eq_true_iff, ← and_not_mask_eq_zero hr hN]
  omega
theorem nats {a : Int} (h : 0 ≤ a) : ∃ n : Nat, a = n := Int.eq_ofNat_of_zero_le h
theorem rL_true {N r : Int} (h : rL N r = true) (hr : 0 ≤ r ∧ r < 18446744073709551616) : ∃ n m : Nat, N = n ∧ r = m ∧ n ≤ 64 ∧ m < 2 ^ 64 ∧ m < 2 ^ n := by
  have h' := h
  unfold rL at h'
  simp only [Bool.and_eq_true, decide_eq_true_eq] at h'
  obtain ⟨n, rfl⟩ := nats h'.1.1
  obtain ⟨m, rfl⟩ := nats hr.1
  have hn : n ≤ 64 := by omega
  have hm : m < 2 ^ 64 := by omega
  rw [rL_nat n m hn hm] at h
  exact ⟨n, m, rfl, rfl, hn, hm, of_decide_eq_true h⟩
def cN (N n : Nat) : Nat := if N ≤ n then N else n
def cR (N r n : Nat) : Nat := if N ≤ n then r else r % 2 ^ n
def z (r q : Nat) : Nat := Go.Lib.ctz 64 (r ^^^ q)
theorem xor_zero (a b : Nat) : a ^^^ b = 0 ↔ a = b := by
  constructor
  · intro h
    refine Nat.eq_of_testBit_eq fun j => ?_
    have h1 := congrArg (fun x => Nat.testBit x j) h
    simp only [Nat.testBit_xor, Nat.zero_testBit] at h1
    revert h1
    cases Nat.testBit a j <;> cases Nat.testBit b j <;> simp
  · intro h; rw [h, Nat.xor_self]
theorem z_iff (r q i : Nat) (hr : r < 2 ^ 64) (hq : q < 2 ^ 64) (hi : i ≤ 64) : r % 2 ^ i = q % 2 ^ i ↔ i ≤ z r q := by
  have hx : r ^^^ q < 2 ^ 64 := Nat.xor_lt_two_pow hr hq
  rw [← xor_zero, ← Nat.xor_mod_two_pow]
  unfold z Go.Lib.ctz
  by_cases h0 : r ^^^ q = 0
  · rw [if_pos h0, h0, Nat.zero_mod]; simp [hi]
  · rw [if_neg h0]
    obtain ⟨m, e, _⟩ := Go.Lib.ctzFrom_spec 64 (r ^^^ q) (by omega) hx
    generalize Go.Lib.ctzFrom 64 (r ^^^ q) = c at *
    rw [e]
    constructor
    · intro h
      by_cases hc : i ≤ c
      · exact hc
      · exfalso
        have h1 := Nat.dvd_of_mod_eq_zero h
        have h2 : 2 ^ (c + 1) ∣ 2 ^ c * (2 * m + 1) := Nat.dvd_trans (Nat.pow_dvd_pow 2 (by omega)) h1
        rw [Nat.pow_succ] at h2
        have h3 := Nat.dvd_of_mul_dvd_mul_left (pow_pos c) h2
        omega
    · intro h
      exact Nat.mod_eq_zero_of_dvd (Nat.dvd_trans (Nat.pow_dvd_pow 2 h) (Nat.dvd_mul_right _ _))
theorem z_comm (r q : Nat) : z q r = z r q := by unfold z; rw [Nat.xor_comm]
theorem cN_eq (N n : Nat) : cN N n = min N n := by unfold cN; split <;> omega
theorem cR_eq (N r n : Nat) (h : r < 2 ^ N) : cR N r n = r % 2 ^ min N n := by
  unfold cR
  split
  · rw [Nat.min_eq_left (by omega), Nat.mod_eq_of_lt h]
  · rw [Nat.min_eq_right (by omega)]
theorem hs_of {N r n : Nat} (h : n % 2 ^ N = r % 2 ^ N) : hs N r n = true := decide_eq_true h
theorem wt {N M q r : Nat} (h : M ≤ N) (h2 : r % 2 ^ M = q % 2 ^ M) : (decide (M ≤ N) && hs M q r) = true := by rw [decide_eq_true h, hs_of h2]; rfl


theorem e25_32 : Tab.fn a25 32 = F32 := Tab.fn_hd
theorem e15_27 : Tab.fn a15 27 = F27 := Tab.fn_hd
theorem e14_26 : Tab.fn a14 26 = F26 := Tab.fn_hd
theorem e14_25 : Tab.fn a14 25 = F25 := ((Tab.fn_tl rfl).trans Tab.fn_hd)

set_option maxHeartbeats 4000000 in
theorem q25 (N r n : Nat) (hN : N ≤ 64) (hr : r < 2 ^ 64) : F25 [(N : Int), (r : Int), (n : Int)] [] = some ([((cN N n : Nat) : Int), ((cR N r n : Nat) : Int)], []) := by
  refine Eq.trans (Fd_of (n := 3) (m := 0) (t := t25) (C := Tab.fn a25) rfl rfl) ?_
  rw [t25]
  refine st_ite (fun hc => ?_) (fun hc => ?_)
  · replace hc : (decide ((n : Int) ≥ (N : Int))) = true := hc
    have c1 := hc
    clear hc
    refine st_ret ?_
    show some ([(N : Int), (r : Int)], []) = _
    simp only [decide_eq_true_eq] at c1
    unfold cN cR; rw [if_pos (by omega), if_pos (by omega)]
  · replace hc : (decide ((n : Int) ≥ (N : Int))) = false := hc
    have c2 := hc
    clear hc
    refine st_1_0 (e25_32) (g := true) rfl (l := [(n : Int)]) rfl (m := []) rfl (cl_t (q32 (n : Int))) fun i3 hi3 => ?_
    show T.den _ _ [(N : Int), (r : Int), (n : Int), i3] [] = _
    refine st_ret ?_
    show some ([(if 0 > (n : Int) then 0 else (n : Int)), (arI .and .u64 (r : Int) i3)], []) = _
    simp only [decide_eq_false_iff_not] at c2
    refine r2 ?_ ?_
    · unfold cN; rw [if_neg (by omega), if_neg (by omega)]
    · unfold cR; rw [if_neg (by omega), hi3, mk_nat (by omega), band r _ hr (mask_lt (by omega)), Nat.and_two_pow_sub_one_eq_mod]

set_option maxHeartbeats 4000000 in
theorem q15 (N r M q : Nat) (hN : N ≤ 64) (hr : r < 2 ^ 64) (hM : M ≤ 64) (hq : q < 2 ^ 64) : F15 [(N : Int), (r : Int), (M : Int), (q : Int)] [] = some ([], [decide (M ≤ N) && hs M q r]) := by
  refine Eq.trans (Fd_of (n := 4) (m := 0) (t := t15) (C := Tab.fn a15) rfl rfl) ?_
  rw [t15]
  refine st_0_1 (e15_27) (g := (decide ((N : Int) ≥ (M : Int)))) rfl (l := [(M : Int), (q : Int), (r : Int)]) rfl (m := []) rfl (cl_b (q27 (M : Int) (q : Int) (r : Int))) fun b0 hb0 => ?_
  show T.den _ _ [(N : Int), (r : Int), (M : Int), (q : Int)] [b0] = _
  refine st_ret ?_
  show some ([], [((decide ((N : Int) ≥ (M : Int))) && b0)]) = _
  refine rb ?_
  rw [hb0, hL_nat M q r hM hq hr, show decide ((N : Int) ≥ (M : Int)) = decide (M ≤ N) from by rw [Bool.eq_iff_iff, decide_eq_true_iff, decide_eq_true_iff]; omega]
  cases decide (M ≤ N) <;> rfl

theorem F26_one (x : Int) : F26 [x] [] = (Tabs.tz64f x).map (fun r => ([r], ([] : List Bool))) := rfl
theorem q26 (x : Nat) (h : x < 2 ^ 64) : F26 [(x : Int)] [] = some ([((Go.Lib.ctz 64 x : Nat) : Int)], []) := by
  have h1 : Tabs.tz64f (x : Int) = some ((Go.Lib.ctz 64 x : Nat) : Int) := by
    unfold Tabs.tz64f
    rw [if_pos (by omega), Int.toNat_natCast]
  rw [F26_one, h1, Option.map_some]
def jN (N r M q : Nat) : Nat := min N (min M (z r q))
def jR (N r M q : Nat) : Nat := r % 2 ^ jN N r M q

set_option maxHeartbeats 4000000 in
theorem q14 (N r M q : Nat) (hN : N ≤ 64) (hr : r < 2 ^ 64) (hM : M ≤ 64) (hq : q < 2 ^ 64) (rl : r < 2 ^ N) : F14 [(N : Int), (r : Int), (M : Int), (q : Int)] [] = some ([((jN N r M q : Nat) : Int), ((jR N r M q : Nat) : Int)], []) := by
  refine Eq.trans (Fd_of (n := 4) (m := 0) (t := t14) (C := Tab.fn a14) rfl rfl) ?_
  rw [t14]
  refine st_1_0 (e14_26) (g := true) rfl (l := [(arI .xor .u64 (r : Int) (q : Int))]) rfl (m := []) rfl (cl_t (by rw [bxor r q hr hq]; exact q26 _ (Nat.xor_lt_two_pow hr hq))) fun i4 hi4 => ?_
  show T.den _ _ [(N : Int), (r : Int), (M : Int), (q : Int), i4] [] = _
  have e : (if i4 < (M : Int) then i4 else (M : Int)) = ((min M (z r q) : Nat) : Int) := by
    unfold z
    rw [hi4]; split <;> omega
  refine st_2_0 (e14_25) (g := true) rfl (l := [(N : Int), (r : Int), (if i4 < (M : Int) then i4 else (M : Int))]) rfl (m := []) rfl (cl_t (by rw [e]; exact q25 N r _ hN hr)) fun i5 i6 hi5 hi6 => ?_
  show T.den _ _ [(N : Int), (r : Int), (M : Int), (q : Int), i4, i5, i6] [] = _
  refine st_ret ?_
  show some ([i5, i6], []) = _
  rw [hi5, hi6, cN_eq, cR_eq _ _ _ rl]; rfl

theorem j_le (N r M q : Nat) : jN N r M q ≤ N ∧ jN N r M q ≤ M ∧ jN N r M q ≤ z r q := by unfold jN; omega
theorem j_eq (N r M q : Nat) (hN : N ≤ 64) (hr : r < 2 ^ 64) (hq : q < 2 ^ 64) : jR N r M q = q % 2 ^ jN N r M q := by
  have := j_le N r M q
  unfold jR; exact (z_iff r q _ hr hq (by omega)).2 this.2.2
theorem jR_lt (N r M q : Nat) (hr : r < 2 ^ 64) : jR N r M q < 2 ^ 64 := Nat.lt_of_le_of_lt (Nat.mod_le _ _) hr
theorem jR_right (N r M q : Nat) : jR N r M q < 2 ^ jN N r M q := Nat.mod_lt _ (pow_pos _)
theorem jN_co (N r M q : Nat) : jN M q N r = jN N r M q := by unfold jN; rw [z_comm]; omega
theorem jR_co (N r M q : Nat) (hN : N ≤ 64) (hr : r < 2 ^ 64) (hq : q < 2 ^ 64) : jR M q N r = jR N r M q := by rw [j_eq N r M q hN hr hq, ← jN_co]; rfl
theorem j_self (N r : Nat) (hN : N ≤ 64) (hr : r < 2 ^ 64) (rl : r < 2 ^ N) : jN N r N r = N ∧ jR N r N r = r := by
  have h : 64 ≤ z r r := (z_iff r r 64 hr hr (by omega)).1 rfl
  have e : jN N r N r = N := by unfold jN; omega
  exact ⟨e, by unfold jR; rw [e, Nat.mod_eq_of_lt rl]⟩
/-- A join lies in what both lie in, and in no more. -/
theorem j_in (N r M q K s : Nat) (hN : N ≤ 64) (hM : M ≤ 64) (hr : r < 2 ^ 64) (hq : q < 2 ^ 64) : (decide (K ≤ jN N r M q) && hs K s (jR N r M q)) = ((decide (K ≤ N) && hs K s r) && (decide (K ≤ M) && hs K s q)) := by
  have hj := j_le N r M q
  rw [Bool.eq_iff_iff]
  simp only [Bool.and_eq_true, decide_eq_true_eq, hs]
  constructor
  · rintro ⟨h1, h2⟩
    have e1 : jR N r M q % 2 ^ K = r % 2 ^ K := mod_mod_pow r h1
    have e2 : r % 2 ^ K = q % 2 ^ K := (z_iff r q K hr hq (by omega)).2 (by omega)
    exact ⟨⟨by omega, e1 ▸ h2⟩, by omega, e2 ▸ e1 ▸ h2⟩
  · rintro ⟨⟨h1, h2⟩, h3, h4⟩
    have hz := (z_iff r q K hr hq (by omega)).1 (h2.trans h4.symm)
    have h5 : K ≤ jN N r M q := by unfold jN; omega
    exact ⟨h5, (mod_mod_pow r h5).trans h2⟩

theorem and_mask (r i : Nat) : r &&& (2 ^ i - 1) = r % 2 ^ i := Nat.and_two_pow_sub_one_eq_mod r i
/-- How far the first number with these low bits stands above one end, and the last below the other. -/
def up (lo N R : Nat) : Nat := (R + (2 ^ 64 - lo)) % 2 ^ N
def dn (hi N R : Nat) : Nat := (hi + (2 ^ 64 - R)) % 2 ^ N
theorem pow_split {N : Nat} (h : N ≤ 64) : ∃ e, 2 ^ 64 = 2 ^ N * e := Nat.pow_dvd_pow 2 h
theorem up_of {lo N R n : Nat} (hN : N ≤ 64) (hn : n < 2 ^ 64) (hl : lo ≤ n) (hr : n % 2 ^ N = R) : up lo N R = (n - lo) % 2 ^ N := by
  obtain ⟨e, he⟩ := pow_split hN
  unfold up
  have hq := Nat.div_add_mod n (2 ^ N)
  rw [hr] at hq
  rw [he] at hn ⊢
  have hp := pow_pos N
  generalize 2 ^ N = M at *
  have h1 : n / M < e := Nat.lt_of_mul_lt_mul_left (a := M) (by omega)
  obtain ⟨x, hx⟩ : ∃ x, e = n / M + x := ⟨e - n / M, by omega⟩
  have h2 : M * e = M * (n / M) + M * x := by rw [congrArg (M * ·) hx]; exact Nat.mul_add ..
  have h3 : R + (M * e - lo) = (n - lo) + M * x := by omega
  rw [h3, Nat.add_mul_mod_self_left]
theorem dn_of {hi N R n : Nat} (hN : N ≤ 64) (hR : R < 2 ^ 64) (hl : n ≤ hi) (hr : n % 2 ^ N = R) : dn hi N R = (hi - n) % 2 ^ N := by
  obtain ⟨e, he⟩ := pow_split hN
  unfold dn
  have hq := Nat.div_add_mod n (2 ^ N)
  rw [hr] at hq
  rw [he] at hR ⊢
  generalize 2 ^ N = M at *
  have h3 : hi + (M * e - R) = (hi - n) + M * (n / M + e) := by rw [Nat.mul_add]; omega
  rw [h3, Nat.add_mul_mod_self_left]
theorem up_mod {lo N R : Nat} (hN : N ≤ 64) (hlo : lo < 2 ^ 64) (hR : R < 2 ^ N) : (lo + up lo N R) % 2 ^ N = R := by
  obtain ⟨e, he⟩ := pow_split hN
  unfold up
  rw [Nat.add_mod, Nat.mod_mod, ← Nat.add_mod]
  have h3 : lo + (R + (2 ^ 64 - lo)) = R + 2 ^ 64 := by omega
  rw [h3, he, Nat.add_mul_mod_self_left, Nat.mod_eq_of_lt hR]
theorem dn_mod {hi N R : Nat} (hN : N ≤ 64) (hR : R < 2 ^ N) (hd : dn hi N R ≤ hi) : (hi - dn hi N R) % 2 ^ N = R := by
  obtain ⟨e, he⟩ := pow_split hN
  have hR64 : R < 2 ^ 64 := Nat.lt_of_lt_of_le hR (pow_le hN)
  have hq := Nat.div_add_mod (hi + (2 ^ 64 - R)) (2 ^ N)
  have hd2 : dn hi N R = (hi + (2 ^ 64 - R)) % 2 ^ N := rfl
  rw [← hd2] at hq
  rw [he] at hq hR64
  generalize dn hi N R = d at *
  generalize (hi + (2 ^ N * e - R)) / 2 ^ N = q at *
  generalize 2 ^ N = M at *
  have h1 : (hi - d) + M * e = R + M * q := by omega
  have h2 : ((hi - d) + M * e) % M = (R + M * q) % M := by rw [h1]
  rw [Nat.add_mul_mod_self_left, Nat.add_mul_mod_self_left, Nat.mod_eq_of_lt hR] at h2
  exact h2
/-- What is told, made tight. -/
def tg (lo hi N R : Nat) : Option (Nat × Nat × Nat × Nat) :=
  if 64 ≤ N then (if lo ≤ R ∧ R ≤ hi then some (R, R, 64, R) else none)
  else if up lo N R ≤ hi - lo ∧ dn hi N R ≤ hi - lo then (if lo + up lo N R = hi - dn hi N R then some (lo + up lo N R, lo + up lo N R, 64, lo + up lo N R) else some (lo + up lo N R, hi - dn hi N R, N, R)) else none
def Hs (lo hi N R n : Nat) : Prop := (lo ≤ n ∧ n ≤ hi) ∧ n % 2 ^ min N 64 = R % 2 ^ min N 64
/-- What being made tight means: of no number, if nothing is told; and else of the same ones, its own ends among them, and again the same. -/
theorem tight_means {lo hi N R : Nat} (hl : lo ≤ hi) (hh : hi < 2 ^ 64) (hN : N ≤ 64) (hR : R < 2 ^ N) :
    (tg lo hi N R = none ∧ ∀ n, n < 2 ^ 64 → ¬ Hs lo hi N R n) ∨
    ∃ a b c d, tg lo hi N R = some (a, b, c, d) ∧ a ≤ b ∧ b < 2 ^ 64 ∧ c ≤ 64 ∧ d < 2 ^ c ∧ tg a b c d = some (a, b, c, d) ∧ Hs lo hi N R a ∧ Hs lo hi N R b ∧
      (a = b → c = 64) ∧ (a ≠ b → c = N ∧ d = R) ∧ (∀ n, n < 2 ^ 64 → (Hs lo hi N R n ↔ Hs a b c d n)) ∧ N ≤ c ∧ d % 2 ^ N = R := by
  have hR64 : R < 2 ^ 64 := Nat.lt_of_lt_of_le hR (pow_le hN)
  have hlo : lo < 2 ^ 64 := by omega
  have hmin : min N 64 = N := Nat.min_eq_left hN
  have hRm : R % 2 ^ N = R := Nat.mod_eq_of_lt hR
  have has : ∀ n, Hs lo hi N R n ↔ (lo ≤ n ∧ n ≤ hi) ∧ n % 2 ^ N = R := fun n => by unfold Hs; rw [hmin, hRm]
  -- a single number
  have one : ∀ x, x < 2 ^ 64 → tg x x 64 x = some (x, x, 64, x) := fun x hx => by
    unfold tg
    rw [if_pos (Nat.le_refl 64), if_pos ⟨Nat.le_refl x, Nat.le_refl x⟩]
  have hone : ∀ x n, x < 2 ^ 64 → n < 2 ^ 64 → (Hs x x 64 x n ↔ n = x) := fun x n hx hn => by
    unfold Hs
    constructor
    · intro h; omega
    · intro h; subst h; exact ⟨⟨Nat.le_refl _, Nat.le_refl _⟩, rfl⟩
  by_cases h : 64 ≤ N
  · have e64 : N = 64 := by omega
    subst e64
    by_cases c : lo ≤ R ∧ R ≤ hi
    · refine Or.inr ⟨R, R, 64, R, ?_, Nat.le_refl _, hR64, Nat.le_refl _, hR, one R hR64, ?_, ?_, fun _ => rfl, fun e => absurd rfl e, fun n hn => ?_, Nat.le_refl _, hRm⟩
      · unfold tg; rw [if_pos h, if_pos c]
      · exact (has R).2 ⟨c, hRm⟩
      · exact (has R).2 ⟨c, hRm⟩
      · rw [has, hone R n hR64 hn, Nat.mod_eq_of_lt hn]
        exact ⟨fun x => x.2, fun x => ⟨by rw [x]; exact c, x⟩⟩
    · refine Or.inl ⟨by unfold tg; rw [if_pos h, if_neg c], fun n hn x => c ?_⟩
      have := (has n).1 x
      rw [Nat.mod_eq_of_lt hn] at this
      rw [← this.2]; exact this.1
  · have hu : ∀ n, n < 2 ^ 64 → lo ≤ n → n % 2 ^ N = R → up lo N R ≤ n - lo := fun n hn h1 h2 => by rw [up_of hN hn h1 h2]; exact Nat.mod_le _ _
    have hd : ∀ n, n ≤ hi → n % 2 ^ N = R → dn hi N R ≤ hi - n := fun n h1 h2 => by rw [dn_of hN hR64 h1 h2]; exact Nat.mod_le _ _
    have mu := up_mod hN hlo hR
    have md := dn_mod (hi := hi) hN hR
    have zu : ∀ x, x < 2 ^ 64 → x % 2 ^ N = R → up x N R = 0 := fun x hx h2 => by rw [up_of hN hx (Nat.le_refl _) h2, Nat.sub_self, Nat.zero_mod]
    have zd : ∀ x, x % 2 ^ N = R → dn x N R = 0 := fun x h2 => by rw [dn_of hN hR64 (Nat.le_refl _) h2, Nat.sub_self, Nat.zero_mod]
    by_cases c : up lo N R ≤ hi - lo ∧ dn hi N R ≤ hi - lo
    · have md' := md (by omega)
      generalize hU : up lo N R = u at *
      generalize hD : dn hi N R = d at *
      have ha : Hs lo hi N R (lo + u) := (has _).2 ⟨by omega, mu⟩
      have hb : Hs lo hi N R (hi - d) := (has _).2 ⟨by omega, md'⟩
      have hab : lo + u ≤ hi - d := by
        have := hd (lo + u) (by omega) mu
        omega
      have hrange : ∀ n, n < 2 ^ 64 → Hs lo hi N R n → lo + u ≤ n ∧ n ≤ hi - d := fun n hn x => by
        have hx := (has n).1 x
        have h1 := hu n hn hx.1.1 hx.2
        have h2 := hd n hx.1.2 hx.2
        omega
      by_cases e : lo + u = hi - d
      · have hx : lo + u < 2 ^ 64 := by omega
        refine Or.inr ⟨lo + u, lo + u, 64, lo + u, ?_, Nat.le_refl _, hx, Nat.le_refl _, hx, one _ hx, ha, ha, fun _ => rfl, fun e => absurd rfl e, fun n hn => ?_, hN, mu⟩
        · unfold tg; rw [if_neg h, hU, hD, if_pos c, if_pos e]
        · rw [hone _ n hx hn]
          refine ⟨fun x => ?_, fun x => by rw [x]; exact ha⟩
          have := hrange n hn x
          omega
      · refine Or.inr ⟨lo + u, hi - d, N, R, ?_, hab, by omega, hN, hR, ?_, ha, hb, fun e' => absurd e' e, fun _ => ⟨rfl, rfl⟩, fun n hn => ?_, Nat.le_refl _, hRm⟩
        · unfold tg; rw [if_neg h, hU, hD, if_pos c, if_neg e]
        · unfold tg
          rw [if_neg h, zu (lo + u) (by omega) mu, zd (hi - d) md', if_pos ⟨Nat.zero_le _, Nat.zero_le _⟩, if_neg (by omega)]
          rfl
        · constructor
          · intro x
            have hx := (has n).1 x
            unfold Hs
            rw [hmin, hRm]
            exact ⟨hrange n hn x, hx.2⟩
          · intro x
            unfold Hs at x
            rw [hmin, hRm] at x
            exact (has n).2 ⟨by omega, x.2⟩
    · refine Or.inl ⟨by unfold tg; rw [if_neg h, if_neg c], fun n hn x => c ?_⟩
      have hx := (has n).1 x
      have h1 := hu n hn hx.1.1 hx.2
      have h2 := hd n hx.1.2 hx.2
      omega


theorem q6 : F6 [] [] = some ([], [true]) := by decide +kernel
theorem q20 (a b : Int) : F20 [a, b] [] = some ([], [decide (a ≤ b)]) := rfl
theorem q11 (a b c d : Int) : F11 [a, b, c, d] [] = some ([], [decide (c ≤ a) && decide (b ≤ d)]) := rfl
theorem q13 (a b c d : Int) : F13 [a, b, c, d] [] = some ([min a c, max b d], []) := by rw [min_, max_]; rfl
theorem q28 (a b n : Int) : F28 [a, b, n] [] = some ([], [decide (a ≤ n) && decide (n ≤ b)]) := rfl
theorem q31 (n : Int) : F31 [n] [] = some ([64, n], []) := rfl
def rA (a b N r : Int) : Bool := decide (a ≤ b) && rL N r
def wA (a b : Int) (N r : Nat) (c d : Int) (M q : Nat) : Bool := (decide (c ≤ a) && decide (b ≤ d)) && (decide (M ≤ N) && hs M q r)
def hA (a b : Int) (N r n : Nat) : Bool := (decide (a ≤ (n : Int)) && decide ((n : Int) ≤ b)) && hs N r n
def mN (N r M q : Nat) : Nat := if N < M then (if hs N r q = true then M else 0) else (if hs M q r = true then N else 0)
def mR (N r M q : Nat) : Nat := if N < M then (if hs N r q = true then q else 0) else (if hs M q r = true then r else 0)
def mb (N r M q : Nat) : Bool := if N < M then hs N r q else hs M q r
theorem meet_law (N r M q n : Nat) (hN : N ≤ 64) (hM : M ≤ 64) (hr : r < 2 ^ 64) (hq : q < 2 ^ 64) : (mN N r M q ≤ 64 ∧ mR N r M q < 2 ^ 64) ∧
    ((mb N r M q = true ∧ (decide (N ≤ mN N r M q) && hs N r (mR N r M q)) = true ∧ (decide (M ≤ mN N r M q) && hs M q (mR N r M q)) = true ∧ hs (mN N r M q) (mR N r M q) n = (hs N r n && hs M q n)) ∨
     (mb N r M q = false ∧ mN N r M q = 0 ∧ mR N r M q = 0 ∧ (hs N r n && hs M q n) = false)) := by
  unfold mN mR mb
  have key : ∀ {N r M q : Nat}, N ≤ M → hs N r q = true → hs M q n = (hs N r n && hs M q n) := by
    intro N r M q h h1
    have h1' := of_decide_eq_true h1
    by_cases h2 : hs M q n = true
    · have h2' := of_decide_eq_true h2
      have : hs N r n = true := hs_of (by rw [← mod_mod_pow n h, h2', mod_mod_pow q h, h1'])
      rw [h2, this]; rfl
    · rw [Bool.not_eq_true] at h2; rw [h2, Bool.and_false]
  have no : ∀ {N r M q : Nat}, N ≤ M → hs N r q = false → (hs N r n && hs M q n) = false := by
    intro N r M q h h1
    have h1' := of_decide_eq_false h1
    by_cases h2 : hs M q n = true
    · have h2' := of_decide_eq_true h2
      have : hs N r n = false := decide_eq_false fun h3 => h1' (by rw [← h3, ← mod_mod_pow q h, ← h2', mod_mod_pow n h])
      rw [this]; rfl
    · rw [Bool.not_eq_true] at h2; rw [h2, Bool.and_false]
  by_cases h : N < M
  · rw [if_pos h, if_pos h, if_pos h]
    cases h1 : hs N r q
    · rw [if_neg Bool.false_ne_true, if_neg Bool.false_ne_true]
      exact ⟨⟨by omega, by decide⟩, .inr ⟨rfl, rfl, rfl, no (by omega) h1⟩⟩
    · rw [if_pos rfl, if_pos rfl]
      exact ⟨⟨hM, hq⟩, .inl ⟨rfl, wt (by omega) (of_decide_eq_true h1), wt (by omega) rfl, key (by omega) h1⟩⟩
  · rw [if_neg h, if_neg h, if_neg h]
    cases h1 : hs M q r
    · rw [if_neg Bool.false_ne_true, if_neg Bool.false_ne_true]
      exact ⟨⟨by omega, by decide⟩, .inr ⟨rfl, rfl, rfl, by rw [Bool.and_comm]; exact no (by omega) h1⟩⟩
    · rw [if_pos rfl, if_pos rfl]
      exact ⟨⟨hN, hr⟩, .inl ⟨rfl, wt (by omega) rfl, wt (by omega) (of_decide_eq_true h1), by rw [Bool.and_comm (hs N r n)]; exact key (by omega) h1⟩⟩


theorem e7_20 : Tab.fn a7 20 = F20 := Tab.fn_hd
theorem e7_21 : Tab.fn a7 21 = F21 := ((Tab.fn_tl rfl).trans Tab.fn_hd)
theorem e8_13 : Tab.fn a8 13 = F13 := Tab.fn_hd
theorem e8_14 : Tab.fn a8 14 = F14 := ((Tab.fn_tl rfl).trans Tab.fn_hd)
theorem e9_11 : Tab.fn a9 11 = F11 := Tab.fn_hd
theorem e9_15 : Tab.fn a9 15 = F15 := ((Tab.fn_tl rfl).trans Tab.fn_hd)
theorem e16_28 : Tab.fn a16 28 = F28 := Tab.fn_hd
theorem e16_27 : Tab.fn a16 27 = F27 := ((Tab.fn_tl rfl).trans Tab.fn_hd)
theorem e17_29 : Tab.fn a17 29 = F29 := Tab.fn_hd
theorem e17_30 : Tab.fn a17 30 = F30 := ((Tab.fn_tl rfl).trans Tab.fn_hd)
theorem e17_18 : Tab.fn a17 18 = F18 := ((Tab.fn_tl rfl).trans ((Tab.fn_tl rfl).trans Tab.fn_hd))
theorem e18_28 : Tab.fn a18 28 = F28 := Tab.fn_hd
theorem e18_19 : Tab.fn a18 19 = F19 := ((Tab.fn_tl rfl).trans Tab.fn_hd)
theorem e19_31 : Tab.fn a19 31 = F31 := Tab.fn_hd
theorem e30_27 : Tab.fn a30 27 = F27 := Tab.fn_hd
theorem e29_20 : Tab.fn a29 20 = F20 := Tab.fn_hd

set_option maxHeartbeats 4000000 in
theorem q7 (a b N r : Int) : F7 [a, b, N, r] [] = some ([], [rA a b N r]) := by
  unfold rA
  refine Eq.trans (Fd_of (n := 4) (m := 0) (t := t7) (C := Tab.fn a7) rfl rfl) ?_
  rw [t7]
  refine st_0_1 (e7_20) (g := true) rfl (l := [a, b]) rfl (m := []) rfl (cl_t (q20 a b)) fun b0 hb0 => ?_
  show T.den _ _ [a, b, N, r] [b0] = _
  refine st_0_1 (e7_21) (g := b0) rfl (l := [N, r]) rfl (m := []) rfl (cl_b (q21 N r)) fun b1 hb1 => ?_
  show T.den _ _ [a, b, N, r] [b0, b1] = _
  refine st_ret ?_
  show some ([], [(b0 && b1)]) = _
  exact rb (by rw [hb1, ← hb0, ← Bool.and_assoc, Bool.and_self])

set_option maxHeartbeats 4000000 in
theorem q9 (a b c d : Int) (N r M q : Nat) (hN : N ≤ 64) (hr : r < 2 ^ 64) (hM : M ≤ 64) (hq : q < 2 ^ 64) : F9 [a, b, (N : Int), (r : Int), c, d, (M : Int), (q : Int)] [] = some ([], [wA a b N r c d M q]) := by
  unfold wA
  refine Eq.trans (Fd_of (n := 8) (m := 0) (t := t9) (C := Tab.fn a9) rfl rfl) ?_
  rw [t9]
  refine st_0_1 (e9_11) (g := true) rfl (l := [a, b, c, d]) rfl (m := []) rfl (cl_t (q11 a b c d)) fun b0 hb0 => ?_
  show T.den _ _ [a, b, (N : Int), (r : Int), c, d, (M : Int), (q : Int)] [b0] = _
  refine st_0_1 (e9_15) (g := b0) rfl (l := [(N : Int), (r : Int), (M : Int), (q : Int)]) rfl (m := []) rfl (cl_b (q15 N r M q hN hr hM hq)) fun b1 hb1 => ?_
  show T.den _ _ [a, b, (N : Int), (r : Int), c, d, (M : Int), (q : Int)] [b0, b1] = _
  refine st_ret ?_
  show some ([], [(b0 && b1)]) = _
  exact rb (by rw [hb1, ← hb0, ← Bool.and_assoc, Bool.and_self])

set_option maxHeartbeats 4000000 in
theorem q8 (a b c d : Int) (N r M q : Nat) (hN : N ≤ 64) (hr : r < 2 ^ 64) (hM : M ≤ 64) (hq : q < 2 ^ 64) (rl : r < 2 ^ N) : F8 [a, b, (N : Int), (r : Int), c, d, (M : Int), (q : Int)] [] = some ([min a c, max b d, ((jN N r M q : Nat) : Int), ((jR N r M q : Nat) : Int)], []) := by
  refine Eq.trans (Fd_of (n := 8) (m := 0) (t := t8) (C := Tab.fn a8) rfl rfl) ?_
  rw [t8]
  refine st_2_0 (e8_13) (g := true) rfl (l := [a, b, c, d]) rfl (m := []) rfl (cl_t (q13 a b c d)) fun i8 i9 hi8 hi9 => ?_
  show T.den _ _ [a, b, (N : Int), (r : Int), c, d, (M : Int), (q : Int), i8, i9] [] = _
  refine st_2_0 (e8_14) (g := true) rfl (l := [(N : Int), (r : Int), (M : Int), (q : Int)]) rfl (m := []) rfl (cl_t (q14 N r M q hN hr hM hq rl)) fun i10 i11 hi10 hi11 => ?_
  show T.den _ _ [a, b, (N : Int), (r : Int), c, d, (M : Int), (q : Int), i8, i9, i10, i11] [] = _
  refine st_ret ?_
  show some ([i8, i9, i10, i11], []) = _
  rw [hi8, hi9, hi10, hi11]

set_option maxHeartbeats 4000000 in
theorem q16 (a b : Int) (N r n : Nat) (hN : N ≤ 64) (hr : r < 2 ^ 64) (hn : n < 2 ^ 64) : F16 [a, b, (N : Int), (r : Int), (n : Int)] [] = some ([], [hA a b N r n]) := by
  unfold hA
  refine Eq.trans (Fd_of (n := 5) (m := 0) (t := t16) (C := Tab.fn a16) rfl rfl) ?_
  rw [t16]
  refine st_0_1 (e16_28) (g := true) rfl (l := [a, b, (n : Int)]) rfl (m := []) rfl (cl_t (q28 a b (n : Int))) fun b0 hb0 => ?_
  show T.den _ _ [a, b, (N : Int), (r : Int), (n : Int)] [b0] = _
  refine st_0_1 (e16_27) (g := b0) rfl (l := [(N : Int), (r : Int), (n : Int)]) rfl (m := []) rfl (cl_b ((q27 N r n).trans (by rw [hL_nat N r n hN hr hn]))) fun b1 hb1 => ?_
  show T.den _ _ [a, b, (N : Int), (r : Int), (n : Int)] [b0, b1] = _
  refine st_ret ?_
  show some ([], [(b0 && b1)]) = _
  exact rb (by rw [hb1, ← hb0, ← Bool.and_assoc, Bool.and_self])

set_option maxHeartbeats 4000000 in
theorem q19 (n : Int) : F19 [n] [] = some ([n, n, 64, n], []) := by
  refine Eq.trans (Fd_of (n := 1) (m := 0) (t := t19) (C := Tab.fn a19) rfl rfl) ?_
  rw [t19]
  refine st_2_0 (e19_31) (g := true) rfl (l := [n]) rfl (m := []) rfl (cl_t (q31 n)) fun i1 i2 hi1 hi2 => ?_
  show T.den _ _ [n, i1, i2] [] = _
  refine st_ret ?_
  show some ([n, n, i1, i2], []) = _
  rw [hi1, hi2]

set_option maxHeartbeats 4000000 in
theorem q30 (N r M q : Nat) (hN : N ≤ 64) (hr : r < 2 ^ 64) (hM : M ≤ 64) (hq : q < 2 ^ 64) : F30 [(N : Int), (r : Int), (M : Int), (q : Int)] [] = some ([((mN N r M q : Nat) : Int), ((mR N r M q : Nat) : Int)], [mb N r M q]) := by
  refine Eq.trans (Fd_of (n := 4) (m := 0) (t := t30) (C := Tab.fn a30) rfl rfl) ?_
  rw [t30]
  refine st_ite (fun hc => ?_) (fun hc => ?_)
  · replace hc : (decide ((N : Int) < (M : Int))) = true := hc
    have c1 := hc
    clear hc
    refine st_0_1 (e30_27) (g := true) rfl (l := [(N : Int), (r : Int), (q : Int)]) rfl (m := []) rfl (cl_t (q27 (N : Int) (r : Int) (q : Int))) fun b0 hb0 => ?_
    show T.den _ _ [(N : Int), (r : Int), (M : Int), (q : Int)] [b0] = _
    refine st_ite (fun hc => ?_) (fun hc => ?_)
    · replace hc : (!b0) = true := hc
      have c2 := hc
      clear hc
      refine st_ret ?_
      show some ([0, 0], [false]) = _
      rw [hb0] at c2
      simp only [decide_eq_true_eq] at c1
      have h : N < M := by omega
      unfold mN mR mb; rw [if_pos h, if_pos h, if_pos h]
      rw [hL_nat N r q hN hr hq] at c2
      have e : hs N r q = false := by simpa using c2
      rw [e]; rfl
    · replace hc : (!b0) = false := hc
      have c3 := hc
      clear hc
      refine st_ret ?_
      show some ([(M : Int), (q : Int)], [true]) = _
      rw [hb0] at c3
      simp only [decide_eq_true_eq] at c1
      have h : N < M := by omega
      unfold mN mR mb; rw [if_pos h, if_pos h, if_pos h]
      rw [hL_nat N r q hN hr hq] at c3
      have e : hs N r q = true := by simpa using c3
      rw [e]; rfl
  · replace hc : (decide ((N : Int) < (M : Int))) = false := hc
    have c4 := hc
    clear hc
    refine st_0_1 (e30_27) (g := true) rfl (l := [(M : Int), (q : Int), (r : Int)]) rfl (m := []) rfl (cl_t (q27 (M : Int) (q : Int) (r : Int))) fun b0 hb0 => ?_
    show T.den _ _ [(N : Int), (r : Int), (M : Int), (q : Int)] [b0] = _
    refine st_ite (fun hc => ?_) (fun hc => ?_)
    · replace hc : (!b0) = true := hc
      have c5 := hc
      clear hc
      refine st_ret ?_
      show some ([0, 0], [false]) = _
      rw [hb0] at c5
      simp only [decide_eq_false_iff_not] at c4
      have h : ¬ N < M := by omega
      unfold mN mR mb; rw [if_neg h, if_neg h, if_neg h]
      rw [hL_nat M q r hM hq hr] at c5
      have e : hs M q r = false := by simpa using c5
      rw [e]; rfl
    · replace hc : (!b0) = false := hc
      have c6 := hc
      clear hc
      refine st_ret ?_
      show some ([(N : Int), (r : Int)], [true]) = _
      rw [hb0] at c6
      simp only [decide_eq_false_iff_not] at c4
      have h : ¬ N < M := by omega
      unfold mN mR mb; rw [if_neg h, if_neg h, if_neg h]
      rw [hL_nat M q r hM hq hr] at c6
      have e : hs M q r = true := by simpa using c6
      rw [e]; rfl

def ok (a b c d : Int) : Bool := decide (max a c ≤ min b d)

set_option maxHeartbeats 4000000 in
theorem q29 (a b c d : Int) : F29 [a, b, c, d] [] = some ([bif ok a b c d then max a c else 0, bif ok a b c d then min b d else 0], [ok a b c d]) := by
  refine Eq.trans (Fd_of (n := 4) (m := 0) (t := t29) (C := Tab.fn a29) rfl rfl) ?_
  rw [t29]
  refine st_0_1 (e29_20) (g := true) rfl (l := [(if c > a then c else a), (if d < b then d else b)]) rfl (m := []) rfl (cl_t (q20 (if c > a then c else a) (if d < b then d else b))) fun b0 hb0 => ?_
  show T.den _ _ [a, b, c, d] [b0] = _
  refine st_ite (fun hc => ?_) (fun hc => ?_)
  · replace hc : (!b0) = true := hc
    have c1 := hc
    clear hc
    refine st_ret ?_
    show some ([0, 0], [false]) = _
    have e : b0 = ok a b c d := by rw [hb0]; unfold ok; rw [max_, min_]
    rw [e] at c1
    have e2 : ok a b c d = false := by simpa using c1
    rw [e2]
    rfl
  · replace hc : (!b0) = false := hc
    have c2 := hc
    clear hc
    refine st_ret ?_
    show some ([(if c > a then c else a), (if d < b then d else b)], [true]) = _
    have e : b0 = ok a b c d := by rw [hb0]; unfold ok; rw [max_, min_]
    rw [e] at c2
    have e2 : ok a b c d = true := by simpa using c2
    rw [e2]
    rw [cond_true, cond_true, max_, min_]

def t0 : Option (Nat × Nat × Nat × Nat) → Int | some (a, _, _, _) => a | none => 0
def t1 : Option (Nat × Nat × Nat × Nat) → Int | some (_, b, _, _) => b | none => 0
def t2 : Option (Nat × Nat × Nat × Nat) → Int | some (_, _, c, _) => c | none => 0
def t3 : Option (Nat × Nat × Nat × Nat) → Int | some (_, _, _, d) => d | none => 0
def tb : Option (Nat × Nat × Nat × Nat) → Bool | some _ => true | none => false
theorem fin_n {x : Option (Nat × Nat × Nat × Nat)} (h : x = none) : (some ([0, 0, 0, 0], [false]) : Option (List Int × List Bool)) = some ([t0 x, t1 x, t2 x, t3 x], [tb x]) := by rw [h]; rfl
theorem fin_s {x : Option (Nat × Nat × Nat × Nat)} {a b c d : Nat} {i j k l : Int} (h : x = some (a, b, c, d)) (hi : i = a) (hj : j = b) (hk : k = c) (hl : l = d) : (some ([i, j, k, l], [true]) : Option (List Int × List Bool)) = some ([t0 x, t1 x, t2 x, t3 x], [tb x]) := by rw [h, hi, hj, hk, hl]; rfl
theorem sub_n (a b : Nat) (hb : b < 2 ^ 64) : arI .sub .u64 (a : Int) (b : Int) = (((a + (2 ^ 64 - b)) % 2 ^ 64 : Nat) : Int) := by rw [arSub]; omega
theorem mask_n {N : Nat} (h : N < 64) (i : Int) (hi : i = arI .sub .u64 (arI .shl .u64 1 (IntKind.wrap .u64 (if 0 > (N : Int) then 0 else (N : Int)))) 1) : i = ((2 ^ N - 1 : Nat) : Int) := by
  rw [hi, ← mk_nat (show N ≤ 64 by omega)]; unfold mk; rw [if_neg (show ¬ (N : Int) ≥ 64 by omega)]
theorem up_n (lo N R : Nat) (hN : N < 64) (hl : lo < 2 ^ 64) (i : Int) (hi : i = ((2 ^ N - 1 : Nat) : Int)) : arI .and .u64 (arI .sub .u64 (R : Int) (lo : Int)) i = ((up lo N R : Nat) : Int) := by
  rw [hi, sub_n _ _ hl, band _ _ (Nat.mod_lt _ (pow_pos 64)) (mask_lt (by omega)), and_mask, mod_mod_pow _ (by omega)]; rfl
theorem dn_n (hi N R : Nat) (hN : N < 64) (hr : R < 2 ^ 64) (i : Int) (h : i = ((2 ^ N - 1 : Nat) : Int)) : arI .and .u64 (arI .sub .u64 (hi : Int) (R : Int)) i = ((dn hi N R : Nat) : Int) := by
  rw [h, sub_n _ _ hr, band _ _ (Nat.mod_lt _ (pow_pos 64)) (mask_lt (by omega)), and_mask, mod_mod_pow _ (by omega)]; rfl

set_option maxHeartbeats 4000000 in
theorem q18 (lo hi N R : Nat) (hl : lo ≤ hi) (hh : hi < 2 ^ 64) (hN : N ≤ 64) (hR : R < 2 ^ 64) : F18 [(lo : Int), (hi : Int), (N : Int), (R : Int)] [] = some ([t0 (tg lo hi N R), t1 (tg lo hi N R), t2 (tg lo hi N R), t3 (tg lo hi N R)], [tb (tg lo hi N R)]) := by
  refine Eq.trans (Fd_of (n := 4) (m := 0) (t := t18) (C := Tab.fn a18) rfl rfl) ?_
  rw [t18]
  refine st_ite (fun hc => ?_) (fun hc => ?_)
  · replace hc : (decide ((N : Int) ≥ 64)) = true := hc
    have c1 := hc
    clear hc
    refine st_0_1 (e18_28) (g := true) rfl (l := [(lo : Int), (hi : Int), (R : Int)]) rfl (m := []) rfl (cl_t (q28 (lo : Int) (hi : Int) (R : Int))) fun b0 hb0 => ?_
    show T.den _ _ [(lo : Int), (hi : Int), (N : Int), (R : Int)] [b0] = _
    refine st_ite (fun hc => ?_) (fun hc => ?_)
    · replace hc : (!b0) = true := hc
      have c2 := hc
      clear hc
      refine st_ret ?_
      show some ([0, 0, 0, 0], [false]) = _
      simp only [decide_eq_true_eq] at c1
      rw [hb0] at c2
      simp only [Bool.not_eq_true', Bool.not_eq_false', Bool.and_eq_false_iff, Bool.and_eq_true, decide_eq_true_eq, decide_eq_false_iff_not] at c2
      exact fin_n (by unfold tg; rw [if_pos (by omega), if_neg (by omega)])
    · replace hc : (!b0) = false := hc
      have c3 := hc
      clear hc
      refine st_4_0 (e18_19) (g := true) rfl (l := [(R : Int)]) rfl (m := []) rfl (cl_t (q19 (R : Int))) fun i4 i5 i6 i7 hi4 hi5 hi6 hi7 => ?_
      show T.den _ _ [(lo : Int), (hi : Int), (N : Int), (R : Int), i4, i5, i6, i7] [b0] = _
      refine st_ret ?_
      show some ([i4, i5, i6, i7], [true]) = _
      simp only [decide_eq_true_eq] at c1
      rw [hb0] at c3
      simp only [Bool.not_eq_true', Bool.not_eq_false', Bool.and_eq_false_iff, Bool.and_eq_true, decide_eq_true_eq, decide_eq_false_iff_not] at c3
      exact fin_s (a := R) (b := R) (c := 64) (d := R) (by unfold tg; rw [if_pos (by omega), if_pos (by omega)]) hi4 hi5 hi6 hi7
  · replace hc : (decide ((N : Int) ≥ 64)) = false := hc
    have c4 := hc
    clear hc
    refine st_rq (show (decide ((IntKind.wrap .u64 (if 0 > (N : Int) then 0 else (N : Int))) ≥ 0)) = true from ?_) ?_
    · rw [decide_eq_true_eq, wrap_u64]
      exact Int.emod_nonneg _ (by decide)
    refine st_li fun i4 hi4 => ?_
    replace hi4 : i4 = (arI .sub .u64 (arI .shl .u64 1 (IntKind.wrap .u64 (if 0 > (N : Int) then 0 else (N : Int)))) 1) := hi4
    show T.den _ _ [(lo : Int), (hi : Int), (N : Int), (R : Int), i4] [] = _
    refine st_li fun i5 hi5 => ?_
    replace hi5 : i5 = (arI .sub .u64 (arI .shl .u64 1 (IntKind.wrap .u64 (if 0 > (N : Int) then 0 else (N : Int)))) 1) := hi5
    show T.den _ _ [(lo : Int), (hi : Int), (N : Int), (R : Int), i4, i5] [] = _
    refine st_lb fun b0 hb0 => ?_
    replace hb0 : b0 = (decide ((arI .and .u64 (arI .sub .u64 (R : Int) (lo : Int)) i4) > (arI .sub .u64 (hi : Int) (lo : Int)))) := hb0
    show T.den _ _ [(lo : Int), (hi : Int), (N : Int), (R : Int), i4, i5] [b0] = _
    refine st_lb fun b1 hb1 => ?_
    replace hb1 : b1 = (decide ((arI .and .u64 (arI .sub .u64 (hi : Int) (R : Int)) i5) > (arI .sub .u64 (hi : Int) (lo : Int)))) := hb1
    show T.den _ _ [(lo : Int), (hi : Int), (N : Int), (R : Int), i4, i5] [b0, b1] = _
    refine st_ite (fun hc => ?_) (fun hc => ?_)
    · replace hc : (b0 || b1) = true := hc
      have c5 := hc
      clear hc
      refine st_ret ?_
      show some ([0, 0, 0, 0], [false]) = _
      have c0 : N < 64 := by simp only [decide_eq_false_iff_not] at c4; omega
      have e4 := mask_n c0 i4 hi4
      have e5 := mask_n c0 i5 hi5
      have eu := up_n lo N R c0 (by omega) i4 e4
      have ed := dn_n hi N R c0 hR i5 e5
      have es : arI .sub .u64 (hi : Int) (lo : Int) = ((hi - lo : Nat) : Int) := by rw [arSub]; omega
      rw [eu, es] at hb0
      rw [ed, es] at hb1
      rw [hb0, hb1] at c5
      simp only [Bool.or_eq_true, Bool.or_eq_false_iff, decide_eq_true_eq, decide_eq_false_iff_not] at c5
      exact fin_n (by unfold tg; rw [if_neg (by omega), if_neg (by omega)])
    · replace hc : (b0 || b1) = false := hc
      have c6 := hc
      clear hc
      refine st_li fun i6 hi6 => ?_
      replace hi6 : i6 = (arI .add .u64 (lo : Int) (arI .and .u64 (arI .sub .u64 (R : Int) (lo : Int)) i4)) := hi6
      show T.den _ _ [(lo : Int), (hi : Int), (N : Int), (R : Int), i4, i5, i6] [b0, b1] = _
      refine st_li fun i7 hi7 => ?_
      replace hi7 : i7 = (arI .sub .u64 (hi : Int) (arI .and .u64 (arI .sub .u64 (hi : Int) (R : Int)) i5)) := hi7
      show T.den _ _ [(lo : Int), (hi : Int), (N : Int), (R : Int), i4, i5, i6, i7] [b0, b1] = _
      refine st_ite (fun hc => ?_) (fun hc => ?_)
      · replace hc : (i6 == i7) = true := hc
        have c7 := hc
        clear hc
        refine st_4_0 (e18_19) (g := true) rfl (l := [i6]) rfl (m := []) rfl (cl_t (q19 i6)) fun i8 i9 i10 i11 hi8 hi9 hi10 hi11 => ?_
        show T.den _ _ [(lo : Int), (hi : Int), (N : Int), (R : Int), i4, i5, i6, i7, i8, i9, i10, i11] [b0, b1] = _
        refine st_ret ?_
        show some ([i8, i9, i10, i11], [true]) = _
        have c0 : N < 64 := by simp only [decide_eq_false_iff_not] at c4; omega
        have e4 := mask_n c0 i4 hi4
        have e5 := mask_n c0 i5 hi5
        have eu := up_n lo N R c0 (by omega) i4 e4
        have ed := dn_n hi N R c0 hR i5 e5
        have es : arI .sub .u64 (hi : Int) (lo : Int) = ((hi - lo : Nat) : Int) := by rw [arSub]; omega
        rw [eu, es] at hb0
        rw [ed, es] at hb1
        rw [hb0, hb1] at c6
        simp only [Bool.or_eq_true, Bool.or_eq_false_iff, decide_eq_true_eq, decide_eq_false_iff_not] at c6
        rw [eu, arAdd] at hi6
        rw [ed, arSub] at hi7
        have g1 : up lo N R ≤ hi - lo ∧ dn hi N R ≤ hi - lo := by omega
        have e6 : i6 = ((lo + up lo N R : Nat) : Int) := by rw [hi6]; omega
        have e7 : i7 = ((hi - dn hi N R : Nat) : Int) := by rw [hi7]; omega
        rw [e6, e7] at c7
        rw [beq_iff_eq] at c7
        exact fin_s (by unfold tg; rw [if_neg (by omega), if_pos g1, if_pos (by omega)]) (hi8.trans e6) (hi9.trans e6) hi10 (hi11.trans e6)
      · replace hc : (i6 == i7) = false := hc
        have c8 := hc
        clear hc
        refine st_ret ?_
        show some ([i6, i7, (N : Int), (R : Int)], [true]) = _
        have c0 : N < 64 := by simp only [decide_eq_false_iff_not] at c4; omega
        have e4 := mask_n c0 i4 hi4
        have e5 := mask_n c0 i5 hi5
        have eu := up_n lo N R c0 (by omega) i4 e4
        have ed := dn_n hi N R c0 hR i5 e5
        have es : arI .sub .u64 (hi : Int) (lo : Int) = ((hi - lo : Nat) : Int) := by rw [arSub]; omega
        rw [eu, es] at hb0
        rw [ed, es] at hb1
        rw [hb0, hb1] at c6
        simp only [Bool.or_eq_true, Bool.or_eq_false_iff, decide_eq_true_eq, decide_eq_false_iff_not] at c6
        rw [eu, arAdd] at hi6
        rw [ed, arSub] at hi7
        have g1 : up lo N R ≤ hi - lo ∧ dn hi N R ≤ hi - lo := by omega
        have e6 : i6 = ((lo + up lo N R : Nat) : Int) := by rw [hi6]; omega
        have e7 : i7 = ((hi - dn hi N R : Nat) : Int) := by rw [hi7]; omega
        rw [e6, e7] at c8
        rw [beq_eq_false_iff_ne] at c8
        exact fin_s (by unfold tg; rw [if_neg (by omega), if_pos g1, if_neg (by omega)]) e6 e7 rfl rfl

def mt (lo hi N r lo2 hi2 M q : Nat) : Option (Nat × Nat × Nat × Nat) := if (ok lo hi lo2 hi2 && mb N r M q) = true then tg (max lo lo2) (min hi hi2) (mN N r M q) (mR N r M q) else none

set_option maxHeartbeats 4000000 in
theorem q17 (lo hi N r lo2 hi2 M q : Nat) (hN : N ≤ 64) (hr : r < 2 ^ 64) (hM : M ≤ 64) (hq : q < 2 ^ 64) (h1 : hi < 2 ^ 64) (h2 : hi2 < 2 ^ 64) : F17 [(lo : Int), (hi : Int), (N : Int), (r : Int), (lo2 : Int), (hi2 : Int), (M : Int), (q : Int)] [] = some ([t0 (mt lo hi N r lo2 hi2 M q), t1 (mt lo hi N r lo2 hi2 M q), t2 (mt lo hi N r lo2 hi2 M q), t3 (mt lo hi N r lo2 hi2 M q)], [tb (mt lo hi N r lo2 hi2 M q)]) := by
  refine Eq.trans (Fd_of (n := 8) (m := 0) (t := t17) (C := Tab.fn a17) rfl rfl) ?_
  rw [t17]
  refine st_2_1 (e17_29) (g := true) rfl (l := [(lo : Int), (hi : Int), (lo2 : Int), (hi2 : Int)]) rfl (m := []) rfl (cl_t (q29 (lo : Int) (hi : Int) (lo2 : Int) (hi2 : Int))) fun i8 i9 b0 hi8 hi9 hb0 => ?_
  show T.den _ _ [(lo : Int), (hi : Int), (N : Int), (r : Int), (lo2 : Int), (hi2 : Int), (M : Int), (q : Int), i8, i9] [b0] = _
  refine st_2_1 (e17_30) (g := true) rfl (l := [(N : Int), (r : Int), (M : Int), (q : Int)]) rfl (m := []) rfl (cl_t (q30 N r M q hN hr hM hq)) fun i10 i11 b1 hi10 hi11 hb1 => ?_
  show T.den _ _ [(lo : Int), (hi : Int), (N : Int), (r : Int), (lo2 : Int), (hi2 : Int), (M : Int), (q : Int), i8, i9, i10, i11] [b0, b1] = _
  refine st_ite (fun hc => ?_) (fun hc => ?_)
  · replace hc : ((!b0) || (!b1)) = true := hc
    have c1 := hc
    clear hc
    refine st_ret ?_
    show some ([0, 0, 0, 0], [false]) = _
    refine fin_n ?_
    unfold mt
    rw [hb0, hb1] at c1
    rw [if_neg (fun h => ?_)]
    rw [Bool.and_eq_true] at h; rw [h.1, h.2] at c1; cases c1
  · replace hc : ((!b0) || (!b1)) = false := hc
    have c2 := hc
    clear hc
    simp only [hb0, hb1, Bool.or_eq_false_iff, Bool.not_eq_false'] at c2
    rw [c2.1, cond_true] at hi8 hi9
    have e8 : i8 = ((max lo lo2 : Nat) : Int) := by rw [hi8]; omega
    have e9 : i9 = ((min hi hi2 : Nat) : Int) := by rw [hi9]; omega
    have hle : max lo lo2 ≤ min hi hi2 := by have := of_decide_eq_true (show decide _ = true from c2.1); omega
    have hml := meet_law N r M q 0 hN hM hr hq
    refine st_4_1 (e17_18) (g := true) rfl (l := [i8, i9, i10, i11]) rfl (m := []) rfl (cl_t ((show F18 [i8, i9, i10, i11] [] = F18 [((max lo lo2 : Nat) : Int), ((min hi hi2 : Nat) : Int), ((mN N r M q : Nat) : Int), ((mR N r M q : Nat) : Int)] [] from by rw [e8, e9, hi10, hi11]).trans (q18 _ _ _ _ hle (by omega) hml.1.1 hml.1.2))) fun i12 i13 i14 i15 b2 hi12 hi13 hi14 hi15 hb2 => ?_
    show T.den _ _ [(lo : Int), (hi : Int), (N : Int), (r : Int), (lo2 : Int), (hi2 : Int), (M : Int), (q : Int), i8, i9, i10, i11, i12, i13, i14, i15] [b0, b1, b2] = _
    refine st_ret ?_
    show some ([i12, i13, i14, i15], [b2]) = _
    rw [hi12, hi13, hi14, hi15, hb2]; unfold mt; rw [if_pos (by rw [c2.1, c2.2]; rfl)]

theorem hA_Hs (lo hi N R n : Nat) (hN : N ≤ 64) : hA lo hi N R n = true ↔ Hs lo hi N R n := by
  unfold hA hs Hs
  rw [Nat.min_eq_left hN]
  simp only [Bool.and_eq_true, decide_eq_true_eq]
  omega
theorem hA_meet (lo hi N r lo2 hi2 M q n : Nat) (hN : N ≤ 64) (hr : r < 2 ^ 64) (hM : M ≤ 64) (hq : q < 2 ^ 64) (hm : mb N r M q = true) : hA (max lo lo2 : Nat) (min hi hi2 : Nat) (mN N r M q) (mR N r M q) n = (hA lo hi N r n && hA lo2 hi2 M q n) := by
  rcases (meet_law N r M q n hN hM hr hq).2 with ⟨_, _, _, e⟩ | ⟨h, _⟩
  · unfold hA
    rw [e, show decide (((max lo lo2 : Nat) : Int) ≤ (n : Int)) = (decide ((lo : Int) ≤ n) && decide ((lo2 : Int) ≤ n)) from by rw [Bool.eq_iff_iff, Bool.and_eq_true, decide_eq_true_iff, decide_eq_true_iff, decide_eq_true_iff]; omega,
      show decide ((n : Int) ≤ ((min hi hi2 : Nat) : Int)) = (decide ((n : Int) ≤ hi) && decide ((n : Int) ≤ hi2)) from by rw [Bool.eq_iff_iff, Bool.and_eq_true, decide_eq_true_iff, decide_eq_true_iff, decide_eq_true_iff]; omega]
    cases decide ((lo : Int) ≤ n) <;> cases decide ((lo2 : Int) ≤ n) <;> cases decide ((n : Int) ≤ hi) <;> cases decide ((n : Int) ≤ hi2) <;> cases hs N r n <;> cases hs M q n <;> rfl
  · rw [hm] at h; cases h
theorem mR_right (N r M q : Nat) (rl : r < 2 ^ N) (ql : q < 2 ^ M) : mR N r M q < 2 ^ mN N r M q := by
  unfold mR mN
  split <;> split <;> first | assumption | decide
theorem mt_law (lo hi N r lo2 hi2 M q n : Nat) (hN : N ≤ 64) (hr : r < 2 ^ 64) (hM : M ≤ 64) (hq : q < 2 ^ 64) (rl : r < 2 ^ N) (ql : q < 2 ^ M) (h1 : hi < 2 ^ 64) (h2 : hi2 < 2 ^ 64) (hn : n < 2 ^ 64) :
    (mt lo hi N r lo2 hi2 M q = none ∧ (hA lo hi N r n && hA lo2 hi2 M q n) = false) ∨
    ∃ a b c d : Nat, mt lo hi N r lo2 hi2 M q = some (a, b, c, d) ∧ a ≤ b ∧ c ≤ 64 ∧ d < 2 ^ 64 ∧ d < 2 ^ c ∧ hA a b c d n = (hA lo hi N r n && hA lo2 hi2 M q n) := by
  have hml := meet_law N r M q n hN hM hr hq
  unfold mt
  by_cases h : (ok lo hi lo2 hi2 && mb N r M q) = true
  · rw [if_pos h]
    rw [Bool.and_eq_true] at h
    have hle : max lo lo2 ≤ min hi hi2 := by have := of_decide_eq_true (show decide _ = true from h.1); omega
    rcases tight_means hle (by omega) hml.1.1 (mR_right N r M q rl ql) with ⟨e, hno⟩ | ⟨a, b, c, d, e, hab, hb, hc, hd, _, _, _, _, _, hiff, _⟩
    · refine .inl ⟨e, ?_⟩
      rw [← hA_meet lo hi N r lo2 hi2 M q n hN hr hM hq h.2]
      have := hno n hn
      rw [← hA_Hs _ _ _ _ _ hml.1.1, Bool.not_eq_true] at this
      exact this
    · refine .inr ⟨a, b, c, d, e, hab, hc, Nat.lt_of_lt_of_le hd (pow_le hc), hd, ?_⟩
      rw [← hA_meet lo hi N r lo2 hi2 M q n hN hr hM hq h.2, Bool.eq_iff_iff, hA_Hs _ _ _ _ _ hc, hA_Hs _ _ _ _ _ hml.1.1]
      exact (hiff n hn).symm
  · rw [if_neg h]
    refine .inl ⟨rfl, ?_⟩
    rw [Bool.not_eq_true, Bool.and_eq_false_iff] at h
    rcases h with h | h
    · have h3 := of_decide_eq_false (show decide _ = false from h)
      cases hx : (hA lo hi N r n && hA lo2 hi2 M q n)
      · rfl
      · exfalso
        rw [Bool.and_eq_true, hA_Hs _ _ _ _ _ hN, hA_Hs _ _ _ _ _ hM] at hx
        unfold Hs at hx
        omega
    · rcases hml.2 with ⟨h3, _⟩ | ⟨_, _, _, h3⟩
      · rw [h] at h3; cases h3
      · unfold hA
        cases (decide ((lo : Int) ≤ n) && decide ((n : Int) ≤ hi)) <;> cases (decide ((lo2 : Int) ≤ n) && decide ((n : Int) ≤ hi2)) <;> revert h3 <;> cases hs N r n <;> cases hs M q n <;> intro h3 <;> first | rfl | cases h3
theorem w_up (a b c d : Int) (N r M q : Nat) (hN : N ≤ 64) (hM : M ≤ 64) (hr : r < 2 ^ 64) (hq : q < 2 ^ 64) : wA a b N r (min a c) (max b d) (jN N r M q) (jR N r M q) = true ∧ wA c d M q (min a c) (max b d) (jN N r M q) (jR N r M q) = true := by
  have hj := j_le N r M q
  have e := j_eq N r M q hN hr hq
  unfold wA
  rw [decide_eq_true (show min a c ≤ a by omega), decide_eq_true (show b ≤ max b d by omega), decide_eq_true (show min a c ≤ c by omega), decide_eq_true (show d ≤ max b d by omega), decide_eq_true hj.1, decide_eq_true hj.2.1,
    hs_of (show r % 2 ^ jN N r M q = jR N r M q % 2 ^ jN N r M q from by unfold jR; rw [Nat.mod_mod]), hs_of (show q % 2 ^ jN N r M q = jR N r M q % 2 ^ jN N r M q from by rw [e, Nat.mod_mod])]
  exact ⟨rfl, rfl⟩
theorem w_has {a b c d : Int} {N r M q n : Nat} (hw : wA a b N r c d M q = true) (h : hA a b N r n = true) : hA c d M q n = true := by
  unfold wA hs at hw
  unfold hA hs at h ⊢
  simp only [Bool.and_eq_true, decide_eq_true_eq] at hw h ⊢
  exact ⟨by omega, by rw [← hw.2.2, ← mod_mod_pow r hw.2.1, ← h.2, mod_mod_pow n hw.2.1]⟩
theorem w_bool {u v j w b11 b12 b13 b14 b15 b16 b17 : Bool} (h11 : b11 = u) (h12 : b12 = ((!b11) && v)) (h13 : b13 = ((b11 || b12) && j)) (h14 : b14 = ((!((b11 || b12) && (!b13))) && w)) (h15 : b15 = (((!((b11 || b12) && (!b13))) && b14) && u)) (h16 : b16 = (((!((b11 || b12) && (!b13))) && (b14 && b15)) && v))
    (h17 : b17 = (((b11 || b12) && (!b13)) || ((b14 && b15) && (!b16)))) (k1 : u = true → j = true) (k2 : v = true → j = true) (k3 : w = true → u = true → v = true) : b17 = false := by
  subst h11 h12 h13 h14 h15 h16 h17
  revert k1 k2 k3
  cases b11 <;> cases v <;> cases j <;> cases w <;> intro k1 k2 k3 <;> first | rfl | exact absurd (k1 rfl) (by decide) | exact absurd (k2 rfl) (by decide) | exact absurd (k3 rfl rfl) (by decide)
theorem rA_true {a b N r : Int} (h : rA a b N r = true) (hr : 0 ≤ r ∧ r < 18446744073709551616) : a ≤ b ∧ ∃ n m : Nat, N = n ∧ r = m ∧ n ≤ 64 ∧ m < 2 ^ 64 ∧ m < 2 ^ n := by
  unfold rA at h
  rw [Bool.and_eq_true, decide_eq_true_iff] at h
  exact ⟨h.1, rL_true h.2 hr⟩

theorem e5_6 : Tab.fn a5 6 = F6 := Tab.fn_hd
theorem e5_7 : Tab.fn a5 7 = F7 := ((Tab.fn_tl rfl).trans Tab.fn_hd)
theorem e5_8 : Tab.fn a5 8 = F8 := ((Tab.fn_tl rfl).trans ((Tab.fn_tl rfl).trans Tab.fn_hd))
theorem e5_13 : Tab.fn a5 13 = F13 := ((Tab.fn_tl rfl).trans ((Tab.fn_tl rfl).trans ((Tab.fn_tl rfl).trans Tab.fn_hd)))
theorem e5_14 : Tab.fn a5 14 = F14 := ((Tab.fn_tl rfl).trans ((Tab.fn_tl rfl).trans ((Tab.fn_tl rfl).trans ((Tab.fn_tl rfl).trans Tab.fn_hd))))
theorem e5_9 : Tab.fn a5 9 = F9 := ((Tab.fn_tl rfl).trans ((Tab.fn_tl rfl).trans ((Tab.fn_tl rfl).trans ((Tab.fn_tl rfl).trans ((Tab.fn_tl rfl).trans Tab.fn_hd)))))
theorem e5_11 : Tab.fn a5 11 = F11 := ((Tab.fn_tl rfl).trans ((Tab.fn_tl rfl).trans ((Tab.fn_tl rfl).trans ((Tab.fn_tl rfl).trans ((Tab.fn_tl rfl).trans ((Tab.fn_tl rfl).trans Tab.fn_hd))))))
theorem e5_15 : Tab.fn a5 15 = F15 := ((Tab.fn_tl rfl).trans ((Tab.fn_tl rfl).trans ((Tab.fn_tl rfl).trans ((Tab.fn_tl rfl).trans ((Tab.fn_tl rfl).trans ((Tab.fn_tl rfl).trans ((Tab.fn_tl rfl).trans Tab.fn_hd)))))))
theorem e5_16 : Tab.fn a5 16 = F16 := ((Tab.fn_tl rfl).trans ((Tab.fn_tl rfl).trans ((Tab.fn_tl rfl).trans ((Tab.fn_tl rfl).trans ((Tab.fn_tl rfl).trans ((Tab.fn_tl rfl).trans ((Tab.fn_tl rfl).trans ((Tab.fn_tl rfl).trans Tab.fn_hd))))))))
theorem e5_17 : Tab.fn a5 17 = F17 := ((Tab.fn_tl rfl).trans ((Tab.fn_tl rfl).trans ((Tab.fn_tl rfl).trans ((Tab.fn_tl rfl).trans ((Tab.fn_tl rfl).trans ((Tab.fn_tl rfl).trans ((Tab.fn_tl rfl).trans ((Tab.fn_tl rfl).trans ((Tab.fn_tl rfl).trans Tab.fn_hd)))))))))

set_option maxHeartbeats 8000000 in
theorem law (i0 i1 i2 i3 i4 i5 i6 i7 i8 : Int) (w0 : (Lit.int .u64 i0).wf = true) (w1 : (Lit.int .u64 i1).wf = true) (w2 : (Lit.int .i64 i2).wf = true) (w3 : (Lit.int .u64 i3).wf = true) (w4 : (Lit.int .u64 i4).wf = true) (w5 : (Lit.int .u64 i5).wf = true) (w6 : (Lit.int .i64 i6).wf = true) (w7 : (Lit.int .u64 i7).wf = true) (w8 : (Lit.int .u64 i8).wf = true) : F5 [i0, i1, i2, i3, i4, i5, i6, i7, i8] [] = some ([], [true]) := by
  have v0 := wf_u64 w0
  have v1 := wf_u64 w1
  have v3 := wf_u64 w3
  have v4 := wf_u64 w4
  have v5 := wf_u64 w5
  have v7 := wf_u64 w7
  have v8 := wf_u64 w8
  refine Eq.trans (Fd_of (n := 9) (m := 0) (t := t5) (C := Tab.fn a5) rfl rfl) ?_
  rw [t5]
  refine st_0_1 (e5_6) (g := true) rfl (l := []) rfl (m := []) rfl (cl_t q6) fun b0 hb0 => ?_
  show T.den _ _ [i0, i1, i2, i3, i4, i5, i6, i7, i8] [b0] = _
  refine st_ite (fun hc => ?_) (fun hc => ?_)
  · replace hc : (!b0) = true := hc
    have c1 := hc
    clear hc
    refine st_ret ?_
    show some ([], [false]) = _
    rw [hb0] at c1; cases c1
  · replace hc : (!b0) = false := hc
    have c2 := hc
    clear hc
    refine st_0_1 (e5_7) (g := true) rfl (l := [i0, i1, i2, i3]) rfl (m := []) rfl (cl_t (q7 i0 i1 i2 i3)) fun b1 hb1 => ?_
    show T.den _ _ [i0, i1, i2, i3, i4, i5, i6, i7, i8] [b0, b1] = _
    refine st_0_1 (e5_7) (g := b1) rfl (l := [i4, i5, i6, i7]) rfl (m := []) rfl (cl_b (q7 i4 i5 i6 i7)) fun b2 hb2 => ?_
    show T.den _ _ [i0, i1, i2, i3, i4, i5, i6, i7, i8] [b0, b1, b2] = _
    refine st_ite (fun hc => ?_) (fun hc => ?_)
    · replace hc : ((!b1) || (!b2)) = true := hc
      have c3 := hc
      clear hc
      refine st_ret ?_
      show some ([], [true]) = _
      rfl
    · replace hc : ((!b1) || (!b2)) = false := hc
      have c4 := hc
      clear hc
      simp only [hb2, Bool.or_eq_false_iff, Bool.not_eq_false', Bool.and_eq_true] at c4
      obtain ⟨a_, N, r, eN, er, hN, hr, rl⟩ := rA_true (hb1.symm.trans c4.1) v3
      obtain ⟨b_, M, q, eM, eq, hM, hq, ql⟩ := rA_true c4.2.2 v7
      obtain ⟨lo, e0⟩ := nats v0.1
      obtain ⟨hi, e1⟩ := nats v1.1
      obtain ⟨lo2, e4⟩ := nats v4.1
      obtain ⟨hi2, e5⟩ := nats v5.1
      obtain ⟨n, en⟩ := nats v8.1
      have h1 : hi < 2 ^ 64 := by omega
      have h2 : hi2 < 2 ^ 64 := by omega
      have hn : n < 2 ^ 64 := by omega
      refine st_4_0 (e5_8) (g := true) rfl (l := [i0, i1, i2, i3, i4, i5, i6, i7]) rfl (m := []) rfl (cl_t ((show F8 [i0, i1, i2, i3, i4, i5, i6, i7] [] = F8 [i0, i1, ((N : Nat) : Int), ((r : Nat) : Int), i4, i5, ((M : Nat) : Int), ((q : Nat) : Int)] [] from by rw [eM, eN, eq, er]).trans (q8 i0 i1 i4 i5 N r M q hN hr hM hq rl))) fun i9 i10 i11 i12 hi9 hi10 hi11 hi12 => ?_
      show T.den _ _ [i0, i1, i2, i3, i4, i5, i6, i7, i8, i9, i10, i11, i12] [b0, b1, b2] = _
      have hj : jN N r M q ≤ 64 := by have := j_le N r M q; omega
      have hjr := jR_lt N r M q hr
      have hw := w_up i0 i1 i4 i5 N r M q hN hM hr hq
      refine st_2_0 (e5_13) (g := true) rfl (l := [i0, i1, i4, i5]) rfl (m := []) rfl (cl_t (q13 i0 i1 i4 i5)) fun i13 i14 hi13 hi14 => ?_
      show T.den _ _ [i0, i1, i2, i3, i4, i5, i6, i7, i8, i9, i10, i11, i12, i13, i14] [b0, b1, b2] = _
      refine st_2_0 (e5_14) (g := true) rfl (l := [i2, i3, i6, i7]) rfl (m := []) rfl (cl_t ((show F14 [i2, i3, i6, i7] [] = F14 [((N : Nat) : Int), ((r : Nat) : Int), ((M : Nat) : Int), ((q : Nat) : Int)] [] from by rw [eM, eN, eq, er]).trans (q14  N r M q hN hr hM hq rl))) fun i15 i16 hi15 hi16 => ?_
      show T.den _ _ [i0, i1, i2, i3, i4, i5, i6, i7, i8, i9, i10, i11, i12, i13, i14, i15, i16] [b0, b1, b2] = _
      refine st_lb fun b3 hb3 => ?_
      replace hb3 : b3 = (!(((i9 == i13) && (i10 == i14)) && ((i11 == i15) && (i12 == i16)))) := hb3
      show T.den _ _ [i0, i1, i2, i3, i4, i5, i6, i7, i8, i9, i10, i11, i12, i13, i14, i15, i16] [b0, b1, b2, b3] = _
      refine st_0_1 (e5_9) (g := (!b3)) rfl (l := [i0, i1, i2, i3, i9, i10, i11, i12]) rfl (m := []) rfl (cl_b ((show F9 [i0, i1, i2, i3, i9, i10, i11, i12] [] = F9 [i0, i1, ((N : Nat) : Int), ((r : Nat) : Int), i9, i10, (((jN N r M q) : Nat) : Int), (((jR N r M q) : Nat) : Int)] [] from by rw [eN, er, hi11, hi12]).trans (q9 i0 i1 i9 i10 N r (jN N r M q) (jR N r M q) hN hr hj hjr))) fun b4 hb4 => ?_
      show T.den _ _ [i0, i1, i2, i3, i4, i5, i6, i7, i8, i9, i10, i11, i12, i13, i14, i15, i16] [b0, b1, b2, b3, b4] = _
      have f3 : b3 = false := by rw [hb3, hi9, hi10, hi11, hi12, hi13, hi14, hi15, hi16, beq_self_eq_true, beq_self_eq_true, beq_self_eq_true, beq_self_eq_true]; rfl
      have t4 : b4 = true := by rw [hb4, f3, hi9, hi10, hw.1]; rfl
      refine st_0_1 (e5_9) (g := (!(b3 || (!b4)))) rfl (l := [i4, i5, i6, i7, i9, i10, i11, i12]) rfl (m := []) rfl (cl_b ((show F9 [i4, i5, i6, i7, i9, i10, i11, i12] [] = F9 [i4, i5, ((M : Nat) : Int), ((q : Nat) : Int), i9, i10, (((jN N r M q) : Nat) : Int), (((jR N r M q) : Nat) : Int)] [] from by rw [eM, eq, hi11, hi12]).trans (q9 i4 i5 i9 i10 M q (jN N r M q) (jR N r M q) hM hq hj hjr))) fun b5 hb5 => ?_
      show T.den _ _ [i0, i1, i2, i3, i4, i5, i6, i7, i8, i9, i10, i11, i12, i13, i14, i15, i16] [b0, b1, b2, b3, b4, b5] = _
      have t5 : b5 = true := by rw [hb5, f3, t4, hi9, hi10, hw.2]; rfl
      refine st_lb fun b6 hb6 => ?_
      replace hb6 : b6 = ((b3 || (!b4)) || (!b5)) := hb6
      show T.den _ _ [i0, i1, i2, i3, i4, i5, i6, i7, i8, i9, i10, i11, i12, i13, i14, i15, i16] [b0, b1, b2, b3, b4, b5, b6] = _
      refine st_0_1 (e5_9) (g := (!b6)) rfl (l := [i0, i1, i2, i3, i4, i5, i6, i7]) rfl (m := []) rfl (cl_b ((show F9 [i0, i1, i2, i3, i4, i5, i6, i7] [] = F9 [i0, i1, ((N : Nat) : Int), ((r : Nat) : Int), i4, i5, ((M : Nat) : Int), ((q : Nat) : Int)] [] from by rw [eM, eN, eq, er]).trans (q9 i0 i1 i4 i5 N r M q hN hr hM hq))) fun b7 hb7 => ?_
      show T.den _ _ [i0, i1, i2, i3, i4, i5, i6, i7, i8, i9, i10, i11, i12, i13, i14, i15, i16] [b0, b1, b2, b3, b4, b5, b6, b7] = _
      have f6 : b6 = false := by rw [hb6, f3, t4, t5]; rfl
      refine st_0_1 (e5_11) (g := (!b6)) rfl (l := [i0, i1, i4, i5]) rfl (m := []) rfl (cl_b (q11 i0 i1 i4 i5)) fun b8 hb8 => ?_
      show T.den _ _ [i0, i1, i2, i3, i4, i5, i6, i7, i8, i9, i10, i11, i12, i13, i14, i15, i16] [b0, b1, b2, b3, b4, b5, b6, b7, b8] = _
      refine st_0_1 (e5_15) (g := ((!b6) && b8)) rfl (l := [i2, i3, i6, i7]) rfl (m := []) rfl (cl_b ((show F15 [i2, i3, i6, i7] [] = F15 [((N : Nat) : Int), ((r : Nat) : Int), ((M : Nat) : Int), ((q : Nat) : Int)] [] from by rw [eM, eN, eq, er]).trans (q15  N r M q hN hr hM hq))) fun b9 hb9 => ?_
      show T.den _ _ [i0, i1, i2, i3, i4, i5, i6, i7, i8, i9, i10, i11, i12, i13, i14, i15, i16] [b0, b1, b2, b3, b4, b5, b6, b7, b8, b9] = _
      refine st_lb fun b10 hb10 => ?_
      replace hb10 : b10 = (b6 || (!(b7 == (b8 && b9)))) := hb10
      show T.den _ _ [i0, i1, i2, i3, i4, i5, i6, i7, i8, i9, i10, i11, i12, i13, i14, i15, i16] [b0, b1, b2, b3, b4, b5, b6, b7, b8, b9, b10] = _
      refine st_ite (fun hc => ?_) (fun hc => ?_)
      · replace hc : b10 = true := hc
        have c5 := hc
        clear hc
        refine st_ret ?_
        show some ([], [false]) = _
        exfalso
        have e : b10 = false := by rw [hb10, hb7, hb9, hb8, f6]; unfold wA; cases (decide (i4 ≤ i0) && decide (i1 ≤ i5)) <;> simp
        rw [e] at c5; cases c5
      · replace hc : b10 = false := hc
        have c6 := hc
        clear hc
        refine st_0_1 (e5_16) (g := true) rfl (l := [i0, i1, i2, i3, i8]) rfl (m := []) rfl (cl_t ((show F16 [i0, i1, i2, i3, i8] [] = F16 [i0, i1, ((N : Nat) : Int), ((r : Nat) : Int), ((n : Nat) : Int)] [] from by rw [eN, en, er]).trans (q16 i0 i1 N r n hN hr hn))) fun b11 hb11 => ?_
        show T.den _ _ [i0, i1, i2, i3, i4, i5, i6, i7, i8, i9, i10, i11, i12, i13, i14, i15, i16] [b0, b1, b2, b3, b4, b5, b6, b7, b8, b9, b10, b11] = _
        refine st_0_1 (e5_16) (g := (!b11)) rfl (l := [i4, i5, i6, i7, i8]) rfl (m := []) rfl (cl_b ((show F16 [i4, i5, i6, i7, i8] [] = F16 [i4, i5, ((M : Nat) : Int), ((q : Nat) : Int), ((n : Nat) : Int)] [] from by rw [eM, en, eq]).trans (q16 i4 i5 M q n hM hq hn))) fun b12 hb12 => ?_
        show T.den _ _ [i0, i1, i2, i3, i4, i5, i6, i7, i8, i9, i10, i11, i12, i13, i14, i15, i16] [b0, b1, b2, b3, b4, b5, b6, b7, b8, b9, b10, b11, b12] = _
        refine st_0_1 (e5_16) (g := (b11 || b12)) rfl (l := [i9, i10, i11, i12, i8]) rfl (m := []) rfl (cl_b ((show F16 [i9, i10, i11, i12, i8] [] = F16 [i9, i10, (((jN N r M q) : Nat) : Int), (((jR N r M q) : Nat) : Int), ((n : Nat) : Int)] [] from by rw [en, hi11, hi12]).trans (q16 i9 i10 (jN N r M q) (jR N r M q) n hj hjr hn))) fun b13 hb13 => ?_
        show T.den _ _ [i0, i1, i2, i3, i4, i5, i6, i7, i8, i9, i10, i11, i12, i13, i14, i15, i16] [b0, b1, b2, b3, b4, b5, b6, b7, b8, b9, b10, b11, b12, b13] = _
        refine st_0_1 (e5_9) (g := (!((b11 || b12) && (!b13)))) rfl (l := [i0, i1, i2, i3, i4, i5, i6, i7]) rfl (m := []) rfl (cl_b ((show F9 [i0, i1, i2, i3, i4, i5, i6, i7] [] = F9 [i0, i1, ((N : Nat) : Int), ((r : Nat) : Int), i4, i5, ((M : Nat) : Int), ((q : Nat) : Int)] [] from by rw [eM, eN, eq, er]).trans (q9 i0 i1 i4 i5 N r M q hN hr hM hq))) fun b14 hb14 => ?_
        show T.den _ _ [i0, i1, i2, i3, i4, i5, i6, i7, i8, i9, i10, i11, i12, i13, i14, i15, i16] [b0, b1, b2, b3, b4, b5, b6, b7, b8, b9, b10, b11, b12, b13, b14] = _
        refine st_0_1 (e5_16) (g := ((!((b11 || b12) && (!b13))) && b14)) rfl (l := [i0, i1, i2, i3, i8]) rfl (m := []) rfl (cl_b ((show F16 [i0, i1, i2, i3, i8] [] = F16 [i0, i1, ((N : Nat) : Int), ((r : Nat) : Int), ((n : Nat) : Int)] [] from by rw [eN, en, er]).trans (q16 i0 i1 N r n hN hr hn))) fun b15 hb15 => ?_
        show T.den _ _ [i0, i1, i2, i3, i4, i5, i6, i7, i8, i9, i10, i11, i12, i13, i14, i15, i16] [b0, b1, b2, b3, b4, b5, b6, b7, b8, b9, b10, b11, b12, b13, b14, b15] = _
        refine st_0_1 (e5_16) (g := ((!((b11 || b12) && (!b13))) && (b14 && b15))) rfl (l := [i4, i5, i6, i7, i8]) rfl (m := []) rfl (cl_b ((show F16 [i4, i5, i6, i7, i8] [] = F16 [i4, i5, ((M : Nat) : Int), ((q : Nat) : Int), ((n : Nat) : Int)] [] from by rw [eM, en, eq]).trans (q16 i4 i5 M q n hM hq hn))) fun b16 hb16 => ?_
        show T.den _ _ [i0, i1, i2, i3, i4, i5, i6, i7, i8, i9, i10, i11, i12, i13, i14, i15, i16] [b0, b1, b2, b3, b4, b5, b6, b7, b8, b9, b10, b11, b12, b13, b14, b15, b16] = _
        refine st_lb fun b17 hb17 => ?_
        replace hb17 : b17 = (((b11 || b12) && (!b13)) || ((b14 && b15) && (!b16))) := hb17
        show T.den _ _ [i0, i1, i2, i3, i4, i5, i6, i7, i8, i9, i10, i11, i12, i13, i14, i15, i16] [b0, b1, b2, b3, b4, b5, b6, b7, b8, b9, b10, b11, b12, b13, b14, b15, b16, b17] = _
        refine st_ite (fun hc => ?_) (fun hc => ?_)
        · replace hc : b17 = true := hc
          have c7 := hc
          clear hc
          refine st_ret ?_
          show some ([], [false]) = _
          exfalso
          rw [hi9, hi10] at hb13
          have e := w_bool hb11 hb12 hb13 hb14 hb15 hb16 hb17 (w_has hw.1) (w_has hw.2) w_has
          rw [e] at c7; cases c7
        · replace hc : b17 = false := hc
          have c8 := hc
          clear hc
          refine st_4_1 (e5_17) (g := true) rfl (l := [i0, i1, i2, i3, i4, i5, i6, i7]) rfl (m := []) rfl (cl_t ((show F17 [i0, i1, i2, i3, i4, i5, i6, i7] [] = F17 [((lo : Nat) : Int), ((hi : Nat) : Int), ((N : Nat) : Int), ((r : Nat) : Int), ((lo2 : Nat) : Int), ((hi2 : Nat) : Int), ((M : Nat) : Int), ((q : Nat) : Int)] [] from by rw [e0, e1, e4, e5, eM, eN, eq, er]).trans (q17  lo hi N r lo2 hi2 M q hN hr hM hq h1 h2))) fun i17 i18 i19 i20 b18 hi17 hi18 hi19 hi20 hb18 => ?_
          show T.den _ _ [i0, i1, i2, i3, i4, i5, i6, i7, i8, i9, i10, i11, i12, i13, i14, i15, i16, i17, i18, i19, i20] [b0, b1, b2, b3, b4, b5, b6, b7, b8, b9, b10, b11, b12, b13, b14, b15, b16, b17, b18] = _
          have hm := mt_law lo hi N r lo2 hi2 M q n hN hr hM hq rl ql h1 h2 hn
          refine st_ite (fun hc => ?_) (fun hc => ?_)
          · replace hc : (!b18) = true := hc
            have c9 := hc
            clear hc
            refine st_0_1 (e5_16) (g := true) rfl (l := [i0, i1, i2, i3, i8]) rfl (m := []) rfl (cl_t ((show F16 [i0, i1, i2, i3, i8] [] = F16 [i0, i1, ((N : Nat) : Int), ((r : Nat) : Int), ((n : Nat) : Int)] [] from by rw [eN, en, er]).trans (q16 i0 i1 N r n hN hr hn))) fun b19 hb19 => ?_
            show T.den _ _ [i0, i1, i2, i3, i4, i5, i6, i7, i8, i9, i10, i11, i12, i13, i14, i15, i16, i17, i18, i19, i20] [b0, b1, b2, b3, b4, b5, b6, b7, b8, b9, b10, b11, b12, b13, b14, b15, b16, b17, b18, b19] = _
            refine st_0_1 (e5_16) (g := b19) rfl (l := [i4, i5, i6, i7, i8]) rfl (m := []) rfl (cl_b ((show F16 [i4, i5, i6, i7, i8] [] = F16 [i4, i5, ((M : Nat) : Int), ((q : Nat) : Int), ((n : Nat) : Int)] [] from by rw [eM, en, eq]).trans (q16 i4 i5 M q n hM hq hn))) fun b20 hb20 => ?_
            show T.den _ _ [i0, i1, i2, i3, i4, i5, i6, i7, i8, i9, i10, i11, i12, i13, i14, i15, i16, i17, i18, i19, i20] [b0, b1, b2, b3, b4, b5, b6, b7, b8, b9, b10, b11, b12, b13, b14, b15, b16, b17, b18, b19, b20] = _
            refine st_lb fun b21 hb21 => ?_
            replace hb21 : b21 = (((i17 == 0) && (i18 == 0)) && ((i19 == 0) && (i20 == 0))) := hb21
            show T.den _ _ [i0, i1, i2, i3, i4, i5, i6, i7, i8, i9, i10, i11, i12, i13, i14, i15, i16, i17, i18, i19, i20] [b0, b1, b2, b3, b4, b5, b6, b7, b8, b9, b10, b11, b12, b13, b14, b15, b16, b17, b18, b19, b20, b21] = _
            refine st_ret ?_
            show some ([], [((!(b19 && b20)) && b21)]) = _
            rcases hm with ⟨e, hno⟩ | ⟨a, b, mc, md, e, _⟩
            · rw [e] at hi17 hi18 hi19 hi20
              have e21 : b21 = true := by rw [hb21, hi17, hi18, hi19, hi20]; rfl
              rw [e0, e1] at hb19
              rw [e4, e5] at hb20
              rw [e21, hb20, hb19, Bool.and_true, ← Bool.and_assoc, Bool.and_self, hno]; rfl
            · rw [hb18, e] at c9; cases c9
          · replace hc : (!b18) = false := hc
            have c10 := hc
            clear hc
            obtain ⟨a, b, mc, md, e, hab, hmc, hmd, hmr, hx⟩ : ∃ a b c d : Nat, mt lo hi N r lo2 hi2 M q = some (a, b, c, d) ∧ a ≤ b ∧ c ≤ 64 ∧ d < 2 ^ 64 ∧ d < 2 ^ c ∧ hA a b c d n = (hA lo hi N r n && hA lo2 hi2 M q n) := by
              rcases hm with ⟨e, _⟩ | h
              · rw [hb18, e] at c10; cases c10
              · exact h
            rw [e] at hi17 hi18 hi19 hi20
            have k17 : i17 = (a : Int) := hi17
            have k18 : i18 = (b : Int) := hi18
            have k19 : i19 = (mc : Int) := hi19
            have k20 : i20 = (md : Int) := hi20
            refine st_0_1 (e5_16) (g := true) rfl (l := [i17, i18, i19, i20, i8]) rfl (m := []) rfl (cl_t ((show F16 [i17, i18, i19, i20, i8] [] = F16 [i17, i18, ((mc : Nat) : Int), ((md : Nat) : Int), ((n : Nat) : Int)] [] from by rw [en, k19, k20]).trans (q16 i17 i18 mc md n hmc hmd hn))) fun b19 hb19 => ?_
            show T.den _ _ [i0, i1, i2, i3, i4, i5, i6, i7, i8, i9, i10, i11, i12, i13, i14, i15, i16, i17, i18, i19, i20] [b0, b1, b2, b3, b4, b5, b6, b7, b8, b9, b10, b11, b12, b13, b14, b15, b16, b17, b18, b19] = _
            refine st_0_1 (e5_16) (g := true) rfl (l := [i0, i1, i2, i3, i8]) rfl (m := []) rfl (cl_t ((show F16 [i0, i1, i2, i3, i8] [] = F16 [i0, i1, ((N : Nat) : Int), ((r : Nat) : Int), ((n : Nat) : Int)] [] from by rw [eN, en, er]).trans (q16 i0 i1 N r n hN hr hn))) fun b20 hb20 => ?_
            show T.den _ _ [i0, i1, i2, i3, i4, i5, i6, i7, i8, i9, i10, i11, i12, i13, i14, i15, i16, i17, i18, i19, i20] [b0, b1, b2, b3, b4, b5, b6, b7, b8, b9, b10, b11, b12, b13, b14, b15, b16, b17, b18, b19, b20] = _
            refine st_0_1 (e5_16) (g := b20) rfl (l := [i4, i5, i6, i7, i8]) rfl (m := []) rfl (cl_b ((show F16 [i4, i5, i6, i7, i8] [] = F16 [i4, i5, ((M : Nat) : Int), ((q : Nat) : Int), ((n : Nat) : Int)] [] from by rw [eM, en, eq]).trans (q16 i4 i5 M q n hM hq hn))) fun b21 hb21 => ?_
            show T.den _ _ [i0, i1, i2, i3, i4, i5, i6, i7, i8, i9, i10, i11, i12, i13, i14, i15, i16, i17, i18, i19, i20] [b0, b1, b2, b3, b4, b5, b6, b7, b8, b9, b10, b11, b12, b13, b14, b15, b16, b17, b18, b19, b20, b21] = _
            refine st_0_1 (e5_7) (g := (b19 == (b20 && b21))) rfl (l := [i17, i18, i19, i20]) rfl (m := []) rfl (cl_b (q7 i17 i18 i19 i20)) fun b22 hb22 => ?_
            show T.den _ _ [i0, i1, i2, i3, i4, i5, i6, i7, i8, i9, i10, i11, i12, i13, i14, i15, i16, i17, i18, i19, i20] [b0, b1, b2, b3, b4, b5, b6, b7, b8, b9, b10, b11, b12, b13, b14, b15, b16, b17, b18, b19, b20, b21, b22] = _
            refine st_lb fun b23 hb23 => ?_
            replace hb23 : b23 = ((b19 == (b20 && b21)) && b22) := hb23
            show T.den _ _ [i0, i1, i2, i3, i4, i5, i6, i7, i8, i9, i10, i11, i12, i13, i14, i15, i16, i17, i18, i19, i20] [b0, b1, b2, b3, b4, b5, b6, b7, b8, b9, b10, b11, b12, b13, b14, b15, b16, b17, b18, b19, b20, b21, b22, b23] = _
            refine st_ret ?_
            show some ([], [b23]) = _
            rw [k17, k18] at hb19 hb22
            rw [e0, e1] at hb20
            rw [e4, e5] at hb21
            have e23 : b23 = true := by
              have e1 : (b19 == (b20 && b21)) = true := by rw [hb19, hb21, hb20, hx, beq_iff_eq]; cases hA lo hi N r n <;> rfl
              rw [hb23, hb22, e1, k19, k20]; unfold rA; rw [rL_nat _ _ hmc hmd, decide_eq_true hmr, decide_eq_true (show (a : Int) ≤ b by omega)]; rfl
            rw [e23]
end Go.Proofs.YticpdchlknbodaaDoor.YAbsLattice
