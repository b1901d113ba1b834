/-
  AbsJoin, of numbers alone.
-/
import Derived.Test.YticpdchlknbodaaDoorXAbsJoin
import Derived.Test.YticpdchlknbodaaDoorSn
import Derived.Test.YticpdchlknbodaaDoorTabs
namespace Go.Proofs.YticpdchlknbodaaDoor.YAbsJoin
open Go.Proofs.YticpdchlknbodaaDoor.Sx Go.Proofs.YticpdchlknbodaaDoor.Sn Go.Proofs.YticpdchlknbodaaDoor.XAbsJoin Go.Proofs.YticpdchlknbodaaDoor.EAbsJoin
set_option linter.unusedSimpArgs false
set_option linter.unusedVariables false
theorem st_0_1 {C : Nat → Sx.Fn} {is : List Int} {bs : List Bool} {r : Option (List Int × List Bool)} {G : E} {f : Nat} {ii bb : List E} {k : Sx.T} {c0 : Bool} {F : Sx.Fn} {g : Bool} {l : List Int} {m : List Bool} (hC : C f = F) (hG : G.B is bs = g) (hl : ii.map (E.I is bs) = l) (hm : bb.map (E.B is bs) = m)
    (h : (bif g then F l m else some (List.replicate 0 0, List.replicate 1 false)) = some ([], [c0]))
    (hk : ∀ (y0 : Bool), y0 = c0 → k.den C (is ++ []) (bs ++ [y0]) = r) : (Sx.T.call G f ii bb 0 1 k).den C is bs = r := st_call _ _ (by rw [hC, hG, hl, hm]; exact h) rfl rfl (hk _ rfl)

theorem st_1_0 {C : Nat → Sx.Fn} {is : List Int} {bs : List Bool} {r : Option (List Int × List Bool)} {G : E} {f : Nat} {ii bb : List E} {k : Sx.T} {a0 : Int} {F : Sx.Fn} {g : Bool} {l : List Int} {m : List Bool} (hC : C f = F) (hG : G.B is bs = g) (hl : ii.map (E.I is bs) = l) (hm : bb.map (E.B is bs) = m)
    (h : (bif g then F l m else some (List.replicate 1 0, List.replicate 0 false)) = some ([a0], []))
    (hk : ∀ (x0 : Int), x0 = a0 → k.den C (is ++ [x0]) (bs ++ []) = r) : (Sx.T.call G f ii bb 1 0 k).den C is bs = r := st_call _ _ (by rw [hC, hG, hl, hm]; exact h) rfl rfl (hk _ rfl)

theorem st_2_0 {C : Nat → Sx.Fn} {is : List Int} {bs : List Bool} {r : Option (List Int × List Bool)} {G : E} {f : Nat} {ii bb : List E} {k : Sx.T} {a0 a1 : Int} {F : Sx.Fn} {g : Bool} {l : List Int} {m : List Bool} (hC : C f = F) (hG : G.B is bs = g) (hl : ii.map (E.I is bs) = l) (hm : bb.map (E.B is bs) = m)
    (h : (bif g then F l m else some (List.replicate 2 0, List.replicate 0 false)) = some ([a0, a1], []))
    (hk : ∀ (x0 x1 : Int), x0 = a0 → x1 = a1 → k.den C (is ++ [x0, x1]) (bs ++ []) = r) : (Sx.T.call G f ii bb 2 0 k).den C is bs = r := st_call _ _ (by rw [hC, hG, hl, hm]; exact h) rfl rfl (hk _ _ rfl rfl)

theorem st_4_0 {C : Nat → Sx.Fn} {is : List Int} {bs : List Bool} {r : Option (List Int × List Bool)} {G : E} {f : Nat} {ii bb : List E} {k : Sx.T} {a0 a1 a2 a3 : Int} {F : Sx.Fn} {g : Bool} {l : List Int} {m : List Bool} (hC : C f = F) (hG : G.B is bs = g) (hl : ii.map (E.I is bs) = l) (hm : bb.map (E.B is bs) = m)
    (h : (bif g then F l m else some (List.replicate 4 0, List.replicate 0 false)) = some ([a0, a1, a2, a3], []))
    (hk : ∀ (x0 x1 x2 x3 : Int), x0 = a0 → x1 = a1 → x2 = a2 → x3 = a3 → k.den C (is ++ [x0, x1, x2, x3]) (bs ++ []) = r) : (Sx.T.call G f ii bb 4 0 k).den C is bs = r := st_call _ _ (by rw [hC, hG, hl, hm]; exact h) rfl rfl (hk _ _ _ _ rfl rfl rfl rfl)
theorem r1 {a b : Int} (h : a = b) : (some ([a], []) : Option (List Int × List Bool)) = some ([b], []) := by rw [h]
theorem rb {a b : Bool} (h : a = b) : (some ([], [a]) : Option (List Int × List Bool)) = some ([], [b]) := by rw [h]
def mk (N : Int) : Int := if N ≥ 64 then 18446744073709551615 else arI .sub .u64 (arI .shl .u64 1 (IntKind.wrap .u64 (if 0 > N then 0 else N))) 1
def hL (N r n : Int) : Bool := (arI .and .u64 (arI .xor .u64 n r) (mk N)) == 0
def rL (N r : Int) : Bool := ((decide (N ≥ 0)) && (decide (N ≤ 64))) && ((arI .andNot .u64 r (mk N)) == 0)
theorem and_z (x : Int) : arI .and .u64 x 0 = 0 := by
  show IntKind.u64.wrap ((BitVec.ofInt 64 x &&& BitVec.ofInt 64 0).toNat : Int) = 0
  rw [show BitVec.ofInt 64 0 = 0#64 from rfl, BitVec.and_zero]; decide
theorem z_and (x : Int) : arI .and .u64 0 x = 0 := by
  show IntKind.u64.wrap ((BitVec.ofInt 64 0 &&& BitVec.ofInt 64 x).toNat : Int) = 0
  rw [show BitVec.ofInt 64 0 = 0#64 from rfl, BitVec.zero_and]; decide
theorem xor_self (x : Int) : arI .xor .u64 x x = 0 := by
  show IntKind.u64.wrap ((BitVec.ofInt 64 x ^^^ BitVec.ofInt 64 x).toNat : Int) = 0
  rw [BitVec.xor_self]; decide
theorem hL_0 (r n : Int) : hL 0 r n = true := by
  unfold hL; rw [show mk 0 = 0 from by decide +kernel, and_z]; rfl
theorem hL_self (N n : Int) : hL N n n = true := by
  unfold hL; rw [xor_self, z_and]; rfl
theorem rL_00 : rL 0 0 = true := by decide +kernel

set_option maxHeartbeats 4000000 in
theorem q32 (N : Int) : F32 [N] [] = some ([mk N], []) := by
  refine Eq.trans (Fd_of (n := 1) (m := 0) (t := t32) (C := Tab.fn a32) rfl rfl) ?_
  rw [t32]
  refine st_ite (fun hc => ?_) (fun hc => ?_)
  · replace hc : (decide (N ≥ 64)) = true := hc
    have c1 := hc
    clear hc
    refine st_ret ?_
    show some ([18446744073709551615], []) = _
    exact r1 (by unfold mk; rw [if_pos (of_decide_eq_true c1)])
  · replace hc : (decide (N ≥ 64)) = false := hc
    have c2 := hc
    clear hc
    refine st_rq (show (decide ((IntKind.wrap .u64 (if 0 > N then 0 else N)) ≥ 0)) = true from ?_) ?_
    · rw [decide_eq_true_eq, wrap_u64]
      exact Int.emod_nonneg _ (by decide)
    refine st_li fun i1 hi1 => ?_
    replace hi1 : i1 = (arI .sub .u64 (arI .shl .u64 1 (IntKind.wrap .u64 (if 0 > N then 0 else N))) 1) := hi1
    show T.den _ _ [N, i1] [] = _
    refine st_ret ?_
    show some ([i1], []) = _
    exact r1 (by unfold mk; rw [if_neg (of_decide_eq_false c2)]; exact hi1)

theorem e27_32 : Tab.fn a27 32 = F32 := Tab.fn_hd
theorem e21_32 : Tab.fn a21 32 = F32 := Tab.fn_hd

set_option maxHeartbeats 4000000 in
theorem q27 (N r n : Int) : F27 [N, r, n] [] = some ([], [hL N r n]) := by
  refine Eq.trans (Fd_of (n := 3) (m := 0) (t := t27) (C := Tab.fn a27) rfl rfl) ?_
  rw [t27]
  refine st_1_0 (e27_32) (g := true) rfl (l := [N]) rfl (m := []) rfl (cl_t (q32 N)) fun i3 hi3 => ?_
  show T.den _ _ [N, r, n, i3] [] = _
  refine st_lb fun b0 hb0 => ?_
  replace hb0 : b0 = ((arI .and .u64 (arI .xor .u64 n r) i3) == 0) := hb0
  show T.den _ _ [N, r, n, i3] [b0] = _
  refine st_ret ?_
  show some ([], [b0]) = _
  exact rb (by rw [hb0, hi3]; rfl)

set_option maxHeartbeats 4000000 in
theorem q21 (N r : Int) : F21 [N, r] [] = some ([], [rL N r]) := by
  refine Eq.trans (Fd_of (n := 2) (m := 0) (t := t21) (C := Tab.fn a21) rfl rfl) ?_
  rw [t21]
  refine st_lb fun b0 hb0 => ?_
  replace hb0 : b0 = ((decide (N ≥ 0)) && (decide (N ≤ 64))) := hb0
  show T.den _ _ [N, r] [b0] = _
  refine st_1_0 (e21_32) (g := b0) rfl (l := [N]) rfl (m := []) rfl (cl_1 (q32 N)) fun i2 hi2 => ?_
  show T.den _ _ [N, r, i2] [b0] = _
  refine st_lb fun b1 hb1 => ?_
  replace hb1 : b1 = (b0 && ((arI .andNot .u64 r i2) == 0)) := hb1
  show T.den _ _ [N, r, i2] [b0, b1] = _
  refine st_ret ?_
  show some ([], [b1]) = _
  refine rb ?_
  rw [hb1, hi2]; unfold rL; rw [← hb0]
  cases b0 <;> rfl

theorem pow_pos (i : Nat) : 0 < 2 ^ i := Nat.two_pow_pos i
theorem pow_lt {i : Nat} (h : i < 64) : 2 ^ i < 2 ^ 64 := Nat.pow_lt_pow_right (by decide) h
theorem pow_le {i j : Nat} (h : i ≤ j) : 2 ^ i ≤ 2 ^ j := Nat.pow_le_pow_right (by decide) h
theorem mod_lt64 (a i : Nat) (h : a < 2 ^ 64) : a % 2 ^ i < 2 ^ 64 := Nat.lt_of_le_of_lt (Nat.mod_le _ _) h
theorem mod_mod_pow (n : Nat) {i j : Nat} (h : i ≤ j) : n % 2 ^ j % 2 ^ i = n % 2 ^ i := Nat.mod_mod_of_dvd _ (Nat.pow_dvd_pow 2 h)
def hs (N r n : Nat) : Bool := decide (n % 2 ^ N = r % 2 ^ N)
theorem xor_mask_eq_zero (n r i : Nat) : (n ^^^ r) &&& (2 ^ i - 1) = 0 ↔ n % 2 ^ i = r % 2 ^ i := by
  rw [Nat.and_two_pow_sub_one_eq_mod, Nat.xor_mod_two_pow]
  constructor
  · intro h
    refine Nat.eq_of_testBit_eq fun j => ?_
    have h1 := congrArg (fun x => Nat.testBit x j) h
    simp only [Nat.testBit_xor, Nat.zero_testBit] at h1
    revert h1
    cases Nat.testBit (n % 2 ^ i) j <;> cases Nat.testBit (r % 2 ^ i) j <;> simp
  · intro h; rw [h, Nat.xor_self]
theorem mask_lt {N : Nat} (h : N ≤ 64) : 2 ^ N - 1 < 2 ^ 64 := by have := pow_le h; have := pow_pos N; omega
theorem bandNot (a b : Nat) (ha : a < 2 ^ 64) (hb : b < 2 ^ 64) : arI .andNot .u64 (a : Int) (b : Int) = ((a &&& (2 ^ 64 - (b + 1)) : Nat) : Int) := by
  show IntKind.u64.wrap ((BitVec.ofInt 64 (a : Int) &&& ~~~(BitVec.ofInt 64 (b : Int))).toNat : Int) = _
  have e : 2 ^ 64 - 1 - b = 2 ^ 64 - (b + 1) := by omega
  rw [BitVec.toNat_and, BitVec.toNat_not, toN a ha, toN b hb, e]
  exact wraps_u64 _ (by omega) (by have := @Nat.and_le_left a (2 ^ 64 - (b + 1)); omega)
theorem and_not_mask_eq_zero {r i : Nat} (hr : r < 2 ^ 64) (hi : i ≤ 64) : r &&& (2 ^ 64 - (2 ^ i - 1 + 1)) = 0 ↔ r < 2 ^ i := by
  have e : 2 ^ 64 - (2 ^ i - 1 + 1) = 2 ^ 64 - 2 ^ i := by have := pow_pos i; omega
  have d : 2 ^ 64 - 2 ^ i = (2 ^ (64 - i) - 1) * 2 ^ i := by rw [Nat.sub_mul, ← Nat.pow_add, Nat.sub_add_cancel hi, Nat.one_mul]
  have k : r &&& (2 ^ 64 - (2 ^ i - 1 + 1)) = r / 2 ^ i * 2 ^ i := by
    rw [e, d]
    refine Nat.eq_of_testBit_eq fun j => ?_
    rw [Nat.testBit_and, Nat.testBit_mul_two_pow, Nat.testBit_mul_two_pow, Nat.testBit_two_pow_sub_one, Nat.testBit_div_two_pow]
    by_cases h : i ≤ j
    · by_cases h2 : j < 64
      · simp [h, show j - i < 64 - i from by omega, Nat.sub_add_cancel h]
      · have : r.testBit j = false := Nat.testBit_lt_two_pow (Nat.lt_of_lt_of_le hr (pow_le (by omega)))
        simp [h, this, Nat.sub_add_cancel h]
    · simp [h]
  rw [k]
  have h1 := Nat.div_add_mod r (2 ^ i)
  have h2 := Nat.mod_lt r (pow_pos i)
  constructor
  · intro h; rw [Nat.mul_comm] at h1; omega
  · intro h; rw [Nat.div_eq_of_lt h, Nat.zero_mul]
theorem mk_nat {N : Nat} (h : N ≤ 64) : mk (N : Int) = ((2 ^ N - 1 : Nat) : Int) := by
  unfold mk
  by_cases h1 : N = 64
  · subst h1; decide +kernel
  · have hp := pow_lt (i := N) (by omega)
    have hp0 := pow_pos N
    rw [if_neg (by omega), if_neg (by omega), wraps_u64 _ (by omega) (by omega), arShl _ _ (by omega) (by omega), Int.toNat_natCast, Int.one_mul, show (2 : Int) ^ N = ((2 ^ N : Nat) : Int) from by rw [Int.natCast_pow]; rfl, arSub]; omega
theorem hL_nat (N r n : Nat) (hN : N ≤ 64) (hr : r < 2 ^ 64) (hn : n < 2 ^ 64) : hL N r n = hs N r n := by
  unfold hL hs
  rw [mk_nat hN, bxor n r hn hr, band _ _ (Nat.xor_lt_two_pow hn hr) (mask_lt hN), Bool.eq_iff_iff, beq_iff_eq, decide_eq_true_iff, ← xor_mask_eq_zero]
  omega
theorem rL_nat (N r : Nat) (hN : N ≤ 64) (hr : r < 2 ^ 64) : rL N r = decide (r < 2 ^ N) := by
  unfold rL
  rw [mk_nat hN, bandNot r _ hr (mask_lt hN), decide_eq_true (by omega), decide_eq_true (by omega), Bool.true_and, Bool.true_and, Bool.eq_iff_iff, beq_iff_eq, decide_eq_true_iff, ← and_not_mask_eq_zero hr hN]
  omega
theorem nats {a : Int} (h : 0 ≤ a) : ∃ n : Nat, a = n := Int.eq_ofNat_of_zero_le h
theorem rL_true {N r : Int} (h : rL N r = true) (hr : 0 ≤ r ∧ r < 18446744073709551616) : ∃ n m : Nat, N = n ∧ r = m ∧ n ≤ 64 ∧ m < 2 ^ 64 ∧ m < 2 ^ n := by
  have h' := h
  unfold rL at h'
  simp only [Bool.and_eq_true, decide_eq_true_eq] at h'
  obtain ⟨n, rfl⟩ := nats h'.1.1
  obtain ⟨m, rfl⟩ := nats hr.1
  have hn : n ≤ 64 := by omega
  have hm : m < 2 ^ 64 := by omega
  rw [rL_nat n m hn hm] at h
  exact ⟨n, m, rfl, rfl, hn, hm, of_decide_eq_true h⟩
def cN (N n : Nat) : Nat := if N ≤ n then N else n
def cR (N r n : Nat) : Nat := if N ≤ n then r else r % 2 ^ n
def z (r q : Nat) : Nat := Go.Lib.ctz 64 (r ^^^ q)
theorem xor_zero (a b : Nat) : a ^^^ b = 0 ↔ a = b := by
  constructor
  · intro h
    refine Nat.eq_of_testBit_eq fun j => ?_
    have h1 := congrArg (fun x => Nat.testBit x j) h
    simp only [Nat.testBit_xor, Nat.zero_testBit] at h1
    revert h1
    cases Nat.testBit a j <;> cases Nat.testBit b j <;> simp
  · intro h; rw [h, Nat.xor_self]
theorem z_iff (r q i : Nat) (hr : r < 2 ^ 64) (hq : q < 2 ^ 64) (hi : i ≤ 64) : r % 2 ^ i = q % 2 ^ i ↔ i ≤ z r q := by
  have hx : r ^^^ q < 2 ^ 64 := Nat.xor_lt_two_pow hr hq
  rw [← xor_zero, ← Nat.xor_mod_two_pow]
  unfold z Go.Lib.ctz
  by_cases h0 : r ^^^ q = 0
  · rw [if_pos h0, h0, Nat.zero_mod]; simp [hi]
  · rw [if_neg h0]
    obtain ⟨m, e, _⟩ := Go.Lib.ctzFrom_spec 64 (r ^^^ q) (by omega) hx
    generalize Go.Lib.ctzFrom 64 (r ^^^ q) = c at *
    rw [e]
    constructor
    · intro h
      by_cases hc : i ≤ c
      · exact hc
      · exfalso
        have h1 := Nat.dvd_of_mod_eq_zero h
        have h2 : 2 ^ (c + 1) ∣ 2 ^ c * (2 * m + 1) := Nat.dvd_trans (Nat.pow_dvd_pow 2 (by omega)) h1
        rw [Nat.pow_succ] at h2
        have h3 := Nat.dvd_of_mul_dvd_mul_left (pow_pos c) h2
        omega
    · intro h
      exact Nat.mod_eq_zero_of_dvd (Nat.dvd_trans (Nat.pow_dvd_pow 2 h) (Nat.dvd_mul_right _ _))
theorem z_comm (r q : Nat) : z q r = z r q := by unfold z; rw [Nat.xor_comm]
theorem cN_eq (N n : Nat) : cN N n = min N n := by unfold cN; split <;> omega
theorem cR_eq (N r n : Nat) (h : r < 2 ^ N) : cR N r n = r % 2 ^ min N n := by
  unfold cR
  split
  · rw [Nat.min_eq_left (by omega), Nat.mod_eq_of_lt h]
  · rw [Nat.min_eq_right (by omega)]
theorem hs_of {N r n : Nat} (h : n % 2 ^ N = r % 2 ^ N) : hs N r n = true := decide_eq_true h
theorem wt {N M q r : Nat} (h : M ≤ N) (h2 : r % 2 ^ M = q % 2 ^ M) : (decide (M ≤ N) && hs M q r) = true := by rw [decide_eq_true h, hs_of h2]; rfl


theorem e25_32 : Tab.fn a25 32 = F32 := Tab.fn_hd
theorem e15_27 : Tab.fn a15 27 = F27 := Tab.fn_hd
theorem e14_26 : Tab.fn a14 26 = F26 := Tab.fn_hd
theorem e14_25 : Tab.fn a14 25 = F25 := ((Tab.fn_tl rfl).trans Tab.fn_hd)

set_option maxHeartbeats 4000000 in
theorem q25 (N r n : Nat) (hN : N ≤ 64) (hr : r < 2 ^ 64) : F25 [(N : Int), (r : Int), (n : Int)] [] = some ([((cN N n : Nat) : Int), ((cR N r n : Nat) : Int)], []) := by
  refine Eq.trans (Fd_of (n := 3) (m := 0) (t := t25) (C := Tab.fn a25) rfl rfl) ?_
  rw [t25]
  refine st_ite (fun hc => ?_) (fun hc => ?_)
  · replace hc : (decide ((n : Int) ≥ (N : Int))) = true := hc
    have c1 := hc
    clear hc
    refine st_ret ?_
    show some ([(N : Int), (r : Int)], []) = _
    simp only [decide_eq_true_eq] at c1
    unfold cN cR; rw [if_pos (by omega), if_pos (by omega)]
  · replace hc : (decide ((n : Int) ≥ (N : Int))) = false := hc
    have c2 := hc
    clear hc
    refine st_1_0 (e25_32) (g := true) rfl (l := [(n : Int)]) rfl (m := []) rfl (cl_t (q32 (n : Int))) fun i3 hi3 => ?_
    show T.den _ _ [(N : Int), (r : Int), (n : Int), i3] [] = _
    refine st_ret ?_
    show some ([(if 0 > (n : Int) then 0 else (n : Int)), (arI .and .u64 (r : Int) i3)], []) = _
    simp only [decide_eq_false_iff_not] at c2
    refine r2 ?_ ?_
    · unfold cN; rw [if_neg (by omega), if_neg (by omega)]
    · unfold cR; rw [if_neg (by omega), hi3, mk_nat (by omega), band r _ hr (mask_lt (by omega)), Nat.and_two_pow_sub_one_eq_mod]

set_option maxHeartbeats 4000000 in
theorem q15 (N r M q : Nat) (hN : N ≤ 64) (hr : r < 2 ^ 64) (hM : M ≤ 64) (hq : q < 2 ^ 64) : F15 [(N : Int), (r : Int), (M : Int), (q : Int)] [] = some ([], [decide (M ≤ N) && hs M q r]) := by
  refine Eq.trans (Fd_of (n := 4) (m := 0) (t := t15) (C := Tab.fn a15) rfl rfl) ?_
  rw [t15]
  refine st_0_1 (e15_27) (g := (decide ((N : Int) ≥ (M : Int)))) rfl (l := [(M : Int), (q : Int), (r : Int)]) rfl (m := []) rfl (cl_b (q27 (M : Int) (q : Int) (r : Int))) fun b0 hb0 => ?_
  show T.den _ _ [(N : Int), (r : Int), (M : Int), (q : Int)] [b0] = _
  refine st_ret ?_
  show some ([], [((decide ((N : Int) ≥ (M : Int))) && b0)]) = _
  refine rb ?_
  rw [hb0, hL_nat M q r hM hq hr, show decide ((N : Int) ≥ (M : Int)) = decide (M ≤ N) from by rw [Bool.eq_iff_iff, decide_eq_true_iff, decide_eq_true_iff]; omega]
  cases decide (M ≤ N) <;> rfl

theorem F26_one (x : Int) : F26 [x] [] = (Tabs.tz64f x).map (fun r => ([r], ([] : List Bool))) := rfl
theorem q26 (x : Nat) (h : x < 2 ^ 64) : F26 [(x : Int)] [] = some ([((Go.Lib.ctz 64 x : Nat) : Int)], []) := by
  have h1 : Tabs.tz64f (x : Int) = some ((Go.Lib.ctz 64 x : Nat) : Int) := by
    unfold Tabs.tz64f
    rw [if_pos (by omega), Int.toNat_natCast]
  rw [F26_one, h1, Option.map_some]
def jN (N r M q : Nat) : Nat := min N (min M (z r q))
def jR (N r M q : Nat) : Nat := r % 2 ^ jN N r M q

set_option maxHeartbeats 4000000 in
theorem q14 (N r M q : Nat) (hN : N ≤ 64) (hr : r < 2 ^ 64) (hM : M ≤ 64) (hq : q < 2 ^ 64) (rl : r < 2 ^ N) : F14 [(N : Int), (r : Int), (M : Int), (q : Int)] [] = some ([((jN N r M q : Nat) : Int), ((jR N r M q : Nat) : Int)], []) := by
  refine Eq.trans (Fd_of (n := 4) (m := 0) (t := t14) (C := Tab.fn a14) rfl rfl) ?_
  rw [t14]
  refine st_1_0 (e14_26) (g := true) rfl (l := [(arI .xor .u64 (r : Int) (q : Int))]) rfl (m := []) rfl (cl_t (by rw [bxor r q hr hq]; exact q26 _ (Nat.xor_lt_two_pow hr hq))) fun i4 hi4 => ?_
  show T.den _ _ [(N : Int), (r : Int), (M : Int), (q : Int), i4] [] = _
  have e : (if i4 < (M : Int) then i4 else (M : Int)) = ((min M (z r q) : Nat) : Int) := by
    unfold z
    rw [hi4]; split <;> omega
  refine st_2_0 (e14_25) (g := true) rfl (l := [(N : Int), (r : Int), (if i4 < (M : Int) then i4 else (M : Int))]) rfl (m := []) rfl (cl_t (by rw [e]; exact q25 N r _ hN hr)) fun i5 i6 hi5 hi6 => ?_
  show T.den _ _ [(N : Int), (r : Int), (M : Int), (q : Int), i4, i5, i6] [] = _
  refine st_ret ?_
  show some ([i5, i6], []) = _
  rw [hi5, hi6, cN_eq, cR_eq _ _ _ rl]; rfl

theorem j_le (N r M q : Nat) : jN N r M q ≤ N ∧ jN N r M q ≤ M ∧ jN N r M q ≤ z r q := by unfold jN; omega
theorem j_eq (N r M q : Nat) (hN : N ≤ 64) (hr : r < 2 ^ 64) (hq : q < 2 ^ 64) : jR N r M q = q % 2 ^ jN N r M q := by
  have := j_le N r M q
  unfold jR; exact (z_iff r q _ hr hq (by omega)).2 this.2.2
theorem jR_lt (N r M q : Nat) (hr : r < 2 ^ 64) : jR N r M q < 2 ^ 64 := Nat.lt_of_le_of_lt (Nat.mod_le _ _) hr
theorem jR_right (N r M q : Nat) : jR N r M q < 2 ^ jN N r M q := Nat.mod_lt _ (pow_pos _)
theorem jN_co (N r M q : Nat) : jN M q N r = jN N r M q := by unfold jN; rw [z_comm]; omega
theorem jR_co (N r M q : Nat) (hN : N ≤ 64) (hr : r < 2 ^ 64) (hq : q < 2 ^ 64) : jR M q N r = jR N r M q := by rw [j_eq N r M q hN hr hq, ← jN_co]; rfl
theorem j_self (N r : Nat) (hN : N ≤ 64) (hr : r < 2 ^ 64) (rl : r < 2 ^ N) : jN N r N r = N ∧ jR N r N r = r := by
  have h : 64 ≤ z r r := (z_iff r r 64 hr hr (by omega)).1 rfl
  have e : jN N r N r = N := by unfold jN; omega
  exact ⟨e, by unfold jR; rw [e, Nat.mod_eq_of_lt rl]⟩
/-- A join lies in what both lie in, and in no more. -/
theorem j_in (N r M q K s : Nat) (hN : N ≤ 64) (hM : M ≤ 64) (hr : r < 2 ^ 64) (hq : q < 2 ^ 64) : (decide (K ≤ jN N r M q) && hs K s (jR N r M q)) = ((decide (K ≤ N) && hs K s r) && (decide (K ≤ M) && hs K s q)) := by
  have hj := j_le N r M q
  rw [Bool.eq_iff_iff]
  simp only [Bool.and_eq_true, decide_eq_true_eq, hs]
  constructor
  · rintro ⟨h1, h2⟩
    have e1 : jR N r M q % 2 ^ K = r % 2 ^ K := mod_mod_pow r h1
    have e2 : r % 2 ^ K = q % 2 ^ K := (z_iff r q K hr hq (by omega)).2 (by omega)
    exact ⟨⟨by omega, e1 ▸ h2⟩, by omega, e2 ▸ e1 ▸ h2⟩
  · rintro ⟨⟨h1, h2⟩, h3, h4⟩
    have hz := (z_iff r q K hr hq (by omega)).1 (h2.trans h4.symm)
    have h5 : K ≤ jN N r M q := by unfold jN; omega
    exact ⟨h5, (mod_mod_pow r h5).trans h2⟩

theorem q6 : F6 [] [] = some ([], [true]) := by decide +kernel
theorem q20 (a b : Int) : F20 [a, b] [] = some ([], [decide (a ≤ b)]) := rfl
theorem q11 (a b c d : Int) : F11 [a, b, c, d] [] = some ([], [decide (c ≤ a) && decide (b ≤ d)]) := rfl
theorem q13 (a b c d : Int) : F13 [a, b, c, d] [] = some ([min a c, max b d], []) := by rw [min_, max_]; rfl
def rA (a b N r : Int) : Bool := decide (a ≤ b) && rL N r
def wA (a b : Int) (N r : Nat) (c d : Int) (M q : Nat) : Bool := (decide (c ≤ a) && decide (b ≤ d)) && (decide (M ≤ N) && hs M q r)

theorem e7_20 : Tab.fn a7 20 = F20 := Tab.fn_hd
theorem e7_21 : Tab.fn a7 21 = F21 := ((Tab.fn_tl rfl).trans Tab.fn_hd)
theorem e8_13 : Tab.fn a8 13 = F13 := Tab.fn_hd
theorem e8_14 : Tab.fn a8 14 = F14 := ((Tab.fn_tl rfl).trans Tab.fn_hd)
theorem e9_11 : Tab.fn a9 11 = F11 := Tab.fn_hd
theorem e9_15 : Tab.fn a9 15 = F15 := ((Tab.fn_tl rfl).trans Tab.fn_hd)

set_option maxHeartbeats 4000000 in
theorem q7 (a b N r : Int) : F7 [a, b, N, r] [] = some ([], [rA a b N r]) := by
  unfold rA
  refine Eq.trans (Fd_of (n := 4) (m := 0) (t := t7) (C := Tab.fn a7) rfl rfl) ?_
  rw [t7]
  refine st_0_1 (e7_20) (g := true) rfl (l := [a, b]) rfl (m := []) rfl (cl_t (q20 a b)) fun b0 hb0 => ?_
  show T.den _ _ [a, b, N, r] [b0] = _
  refine st_0_1 (e7_21) (g := b0) rfl (l := [N, r]) rfl (m := []) rfl (cl_b (q21 N r)) fun b1 hb1 => ?_
  show T.den _ _ [a, b, N, r] [b0, b1] = _
  refine st_ret ?_
  show some ([], [(b0 && b1)]) = _
  exact rb (by rw [hb1, ← hb0, ← Bool.and_assoc, Bool.and_self])

set_option maxHeartbeats 4000000 in
theorem q9 (a b c d : Int) (N r M q : Nat) (hN : N ≤ 64) (hr : r < 2 ^ 64) (hM : M ≤ 64) (hq : q < 2 ^ 64) : F9 [a, b, (N : Int), (r : Int), c, d, (M : Int), (q : Int)] [] = some ([], [wA a b N r c d M q]) := by
  unfold wA
  refine Eq.trans (Fd_of (n := 8) (m := 0) (t := t9) (C := Tab.fn a9) rfl rfl) ?_
  rw [t9]
  refine st_0_1 (e9_11) (g := true) rfl (l := [a, b, c, d]) rfl (m := []) rfl (cl_t (q11 a b c d)) fun b0 hb0 => ?_
  show T.den _ _ [a, b, (N : Int), (r : Int), c, d, (M : Int), (q : Int)] [b0] = _
  refine st_0_1 (e9_15) (g := b0) rfl (l := [(N : Int), (r : Int), (M : Int), (q : Int)]) rfl (m := []) rfl (cl_b (q15 N r M q hN hr hM hq)) fun b1 hb1 => ?_
  show T.den _ _ [a, b, (N : Int), (r : Int), c, d, (M : Int), (q : Int)] [b0, b1] = _
  refine st_ret ?_
  show some ([], [(b0 && b1)]) = _
  exact rb (by rw [hb1, ← hb0, ← Bool.and_assoc, Bool.and_self])

set_option maxHeartbeats 4000000 in
theorem q8 (a b c d : Int) (N r M q : Nat) (hN : N ≤ 64) (hr : r < 2 ^ 64) (hM : M ≤ 64) (hq : q < 2 ^ 64) (rl : r < 2 ^ N) : F8 [a, b, (N : Int), (r : Int), c, d, (M : Int), (q : Int)] [] = some ([min a c, max b d, ((jN N r M q : Nat) : Int), ((jR N r M q : Nat) : Int)], []) := by
  refine Eq.trans (Fd_of (n := 8) (m := 0) (t := t8) (C := Tab.fn a8) rfl rfl) ?_
  rw [t8]
  refine st_2_0 (e8_13) (g := true) rfl (l := [a, b, c, d]) rfl (m := []) rfl (cl_t (q13 a b c d)) fun i8 i9 hi8 hi9 => ?_
  show T.den _ _ [a, b, (N : Int), (r : Int), c, d, (M : Int), (q : Int), i8, i9] [] = _
  refine st_2_0 (e8_14) (g := true) rfl (l := [(N : Int), (r : Int), (M : Int), (q : Int)]) rfl (m := []) rfl (cl_t (q14 N r M q hN hr hM hq rl)) fun i10 i11 hi10 hi11 => ?_
  show T.den _ _ [a, b, (N : Int), (r : Int), c, d, (M : Int), (q : Int), i8, i9, i10, i11] [] = _
  refine st_ret ?_
  show some ([i8, i9, i10, i11], []) = _
  rw [hi8, hi9, hi10, hi11]

theorem w_join (a b c d e f : Int) (N r M q K s : Nat) (hN : N ≤ 64) (hM : M ≤ 64) (hr : r < 2 ^ 64) (hq : q < 2 ^ 64) : wA (min a c) (max b d) (jN N r M q) (jR N r M q) e f K s = (wA a b N r e f K s && wA c d M q e f K s) := by
  unfold wA
  rw [j_in N r M q K s hN hM hr hq]
  rw [show decide (e ≤ min a c) = (decide (e ≤ a) && decide (e ≤ c)) from by rw [Bool.eq_iff_iff, Bool.and_eq_true, decide_eq_true_iff, decide_eq_true_iff, decide_eq_true_iff]; omega,
    show decide (max b d ≤ f) = (decide (b ≤ f) && decide (d ≤ f)) from by rw [Bool.eq_iff_iff, Bool.and_eq_true, decide_eq_true_iff, decide_eq_true_iff, decide_eq_true_iff]; omega]
  cases decide (e ≤ a) <;> cases decide (e ≤ c) <;> cases decide (b ≤ f) <;> cases decide (d ≤ f) <;> cases (decide (K ≤ N) && hs K s r) <;> cases (decide (K ≤ M) && hs K s q) <;> rfl
theorem rA_true {a b N r : Int} (h : rA a b N r = true) (hr : 0 ≤ r ∧ r < 18446744073709551616) : a ≤ b ∧ ∃ n m : Nat, N = n ∧ r = m ∧ n ≤ 64 ∧ m < 2 ^ 64 ∧ m < 2 ^ n := by
  unfold rA at h
  rw [Bool.and_eq_true, decide_eq_true_iff] at h
  exact ⟨h.1, rL_true h.2 hr⟩

theorem e3_6 : Tab.fn a3 6 = F6 := Tab.fn_hd
theorem e3_7 : Tab.fn a3 7 = F7 := ((Tab.fn_tl rfl).trans Tab.fn_hd)
theorem e3_8 : Tab.fn a3 8 = F8 := ((Tab.fn_tl rfl).trans ((Tab.fn_tl rfl).trans Tab.fn_hd))
theorem e3_9 : Tab.fn a3 9 = F9 := ((Tab.fn_tl rfl).trans ((Tab.fn_tl rfl).trans ((Tab.fn_tl rfl).trans Tab.fn_hd)))

set_option maxHeartbeats 8000000 in
theorem law (i0 i1 i2 i3 i4 i5 i6 i7 i8 i9 i10 i11 : Int) (w0 : (Lit.int .u64 i0).wf = true) (w1 : (Lit.int .u64 i1).wf = true) (w2 : (Lit.int .i64 i2).wf = true) (w3 : (Lit.int .u64 i3).wf = true) (w4 : (Lit.int .u64 i4).wf = true) (w5 : (Lit.int .u64 i5).wf = true) (w6 : (Lit.int .i64 i6).wf = true) (w7 : (Lit.int .u64 i7).wf = true) (w8 : (Lit.int .u64 i8).wf = true) (w9 : (Lit.int .u64 i9).wf = true) (w10 : (Lit.int .i64 i10).wf = true) (w11 : (Lit.int .u64 i11).wf = true) : F3 [i0, i1, i2, i3, i4, i5, i6, i7, i8, i9, i10, i11] [] = some ([], [true]) := by
  have v3 := wf_u64 w3
  have v7 := wf_u64 w7
  have v11 := wf_u64 w11
  refine Eq.trans (Fd_of (n := 12) (m := 0) (t := t3) (C := Tab.fn a3) rfl rfl) ?_
  rw [t3]
  refine st_0_1 (e3_6) (g := true) rfl (l := []) rfl (m := []) rfl (cl_t q6) fun b0 hb0 => ?_
  show T.den _ _ [i0, i1, i2, i3, i4, i5, i6, i7, i8, i9, i10, i11] [b0] = _
  refine st_ite (fun hc => ?_) (fun hc => ?_)
  · replace hc : (!b0) = true := hc
    have c1 := hc
    clear hc
    refine st_ret ?_
    show some ([], [false]) = _
    rw [hb0] at c1; cases c1
  · replace hc : (!b0) = false := hc
    have c2 := hc
    clear hc
    refine st_0_1 (e3_7) (g := true) rfl (l := [i0, i1, i2, i3]) rfl (m := []) rfl (cl_t (q7 i0 i1 i2 i3)) fun b1 hb1 => ?_
    show T.den _ _ [i0, i1, i2, i3, i4, i5, i6, i7, i8, i9, i10, i11] [b0, b1] = _
    refine st_0_1 (e3_7) (g := b1) rfl (l := [i4, i5, i6, i7]) rfl (m := []) rfl (cl_b (q7 i4 i5 i6 i7)) fun b2 hb2 => ?_
    show T.den _ _ [i0, i1, i2, i3, i4, i5, i6, i7, i8, i9, i10, i11] [b0, b1, b2] = _
    refine st_0_1 (e3_7) (g := (!((!b1) || (!b2)))) rfl (l := [i8, i9, i10, i11]) rfl (m := []) rfl (cl_b (q7 i8 i9 i10 i11)) fun b3 hb3 => ?_
    show T.den _ _ [i0, i1, i2, i3, i4, i5, i6, i7, i8, i9, i10, i11] [b0, b1, b2, b3] = _
    refine st_lb fun b4 hb4 => ?_
    replace hb4 : b4 = (((!b1) || (!b2)) || (!b3)) := hb4
    show T.den _ _ [i0, i1, i2, i3, i4, i5, i6, i7, i8, i9, i10, i11] [b0, b1, b2, b3, b4] = _
    refine st_ite (fun hc => ?_) (fun hc => ?_)
    · replace hc : b4 = true := hc
      have c3 := hc
      clear hc
      refine st_ret ?_
      show some ([], [true]) = _
      rfl
    · replace hc : b4 = false := hc
      have c4 := hc
      clear hc
      rw [hb4, hb3, hb2] at c4
      have t1 : b1 = true := by cases h : b1 <;> rw [h] at c4 <;> first | rfl | (simp at c4)
      rw [t1] at c4
      have k2 : rA i4 i5 i6 i7 = true := by cases h : rA i4 i5 i6 i7 <;> rw [h] at c4 <;> first | rfl | (simp at c4)
      have k3 : rA i8 i9 i10 i11 = true := by cases h : rA i8 i9 i10 i11 <;> rw [k2, h] at c4 <;> first | rfl | (simp at c4)
      obtain ⟨a_, N, r, eN, er, hN, hr, rl⟩ := rA_true (hb1.symm.trans t1) v3
      obtain ⟨b_, M, q, eM, eq, hM, hq, ql⟩ := rA_true k2 v7
      obtain ⟨c_, K, s, eK, es, hK, hs', sl⟩ := rA_true k3 v11
      refine st_4_0 (e3_8) (g := true) rfl (l := [i0, i1, i2, i3, i4, i5, i6, i7]) rfl (m := []) rfl (cl_t ((show F8 [i0, i1, i2, i3, i4, i5, i6, i7] [] = F8 [i0, i1, ((N : Nat) : Int), ((r : Nat) : Int), i4, i5, ((M : Nat) : Int), ((q : Nat) : Int)] [] from by rw [eM, eN, eq, er]).trans (q8 i0 i1 i4 i5 N r M q hN hr hM hq rl))) fun i12 i13 i14 i15 hi12 hi13 hi14 hi15 => ?_
      show T.den _ _ [i0, i1, i2, i3, i4, i5, i6, i7, i8, i9, i10, i11, i12, i13, i14, i15] [b0, b1, b2, b3, b4] = _
      have hj : jN N r M q ≤ 64 := by have := j_le N r M q; omega
      have hjr := jR_lt N r M q hr
      refine st_0_1 (e3_9) (g := true) rfl (l := [i12, i13, i14, i15, i8, i9, i10, i11]) rfl (m := []) rfl (cl_t ((show F9 [i12, i13, i14, i15, i8, i9, i10, i11] [] = F9 [i12, i13, (((jN N r M q) : Nat) : Int), (((jR N r M q) : Nat) : Int), i8, i9, ((K : Nat) : Int), ((s : Nat) : Int)] [] from by rw [eK, es, hi14, hi15]).trans (q9 i12 i13 i8 i9 (jN N r M q) (jR N r M q) K s hj hjr hK hs'))) fun b5 hb5 => ?_
      show T.den _ _ [i0, i1, i2, i3, i4, i5, i6, i7, i8, i9, i10, i11, i12, i13, i14, i15] [b0, b1, b2, b3, b4, b5] = _
      rw [hi12, hi13, w_join i0 i1 i4 i5 i8 i9 N r M q K s hN hM hr hq] at hb5
      refine st_0_1 (e3_9) (g := true) rfl (l := [i0, i1, i2, i3, i8, i9, i10, i11]) rfl (m := []) rfl (cl_t ((show F9 [i0, i1, i2, i3, i8, i9, i10, i11] [] = F9 [i0, i1, ((N : Nat) : Int), ((r : Nat) : Int), i8, i9, ((K : Nat) : Int), ((s : Nat) : Int)] [] from by rw [eK, eN, er, es]).trans (q9 i0 i1 i8 i9 N r K s hN hr hK hs'))) fun b6 hb6 => ?_
      show T.den _ _ [i0, i1, i2, i3, i4, i5, i6, i7, i8, i9, i10, i11, i12, i13, i14, i15] [b0, b1, b2, b3, b4, b5, b6] = _
      refine st_0_1 (e3_9) (g := b6) rfl (l := [i4, i5, i6, i7, i8, i9, i10, i11]) rfl (m := []) rfl (cl_b ((show F9 [i4, i5, i6, i7, i8, i9, i10, i11] [] = F9 [i4, i5, ((M : Nat) : Int), ((q : Nat) : Int), i8, i9, ((K : Nat) : Int), ((s : Nat) : Int)] [] from by rw [eK, eM, eq, es]).trans (q9 i4 i5 i8 i9 M q K s hM hq hK hs'))) fun b7 hb7 => ?_
      show T.den _ _ [i0, i1, i2, i3, i4, i5, i6, i7, i8, i9, i10, i11, i12, i13, i14, i15] [b0, b1, b2, b3, b4, b5, b6, b7] = _
      have e5 : (b5 == (b6 && b7)) = true := by rw [hb5, hb7, hb6, beq_iff_eq]; cases wA i0 i1 N r i8 i9 K s <;> rfl
      refine st_4_0 (e3_8) (g := (b5 == (b6 && b7))) rfl (l := [i4, i5, i6, i7, i0, i1, i2, i3]) rfl (m := []) rfl (cl_4 ((show F8 [i4, i5, i6, i7, i0, i1, i2, i3] [] = F8 [i4, i5, ((M : Nat) : Int), ((q : Nat) : Int), i0, i1, ((N : Nat) : Int), ((r : Nat) : Int)] [] from by rw [eM, eN, eq, er]).trans (q8 i4 i5 i0 i1 M q N r hM hq hN hr ql))) fun i16 i17 i18 i19 hi16 hi17 hi18 hi19 => ?_
      show T.den _ _ [i0, i1, i2, i3, i4, i5, i6, i7, i8, i9, i10, i11, i12, i13, i14, i15, i16, i17, i18, i19] [b0, b1, b2, b3, b4, b5, b6, b7] = _
      rw [e5, cond_true] at hi16 hi17 hi18 hi19
      refine st_lb fun b8 hb8 => ?_
      replace hb8 : b8 = (((i16 == i12) && (i17 == i13)) && ((i18 == i14) && (i19 == i15))) := hb8
      show T.den _ _ [i0, i1, i2, i3, i4, i5, i6, i7, i8, i9, i10, i11, i12, i13, i14, i15, i16, i17, i18, i19] [b0, b1, b2, b3, b4, b5, b6, b7, b8] = _
      refine st_lb fun b9 hb9 => ?_
      replace hb9 : b9 = ((b5 == (b6 && b7)) && b8) := hb9
      show T.den _ _ [i0, i1, i2, i3, i4, i5, i6, i7, i8, i9, i10, i11, i12, i13, i14, i15, i16, i17, i18, i19] [b0, b1, b2, b3, b4, b5, b6, b7, b8, b9] = _
      refine st_4_0 (e3_8) (g := b9) rfl (l := [i0, i1, i2, i3, i0, i1, i2, i3]) rfl (m := []) rfl (cl_4 ((show F8 [i0, i1, i2, i3, i0, i1, i2, i3] [] = F8 [i0, i1, ((N : Nat) : Int), ((r : Nat) : Int), i0, i1, ((N : Nat) : Int), ((r : Nat) : Int)] [] from by rw [eN, er]).trans (q8 i0 i1 i0 i1 N r N r hN hr hN hr rl))) fun i20 i21 i22 i23 hi20 hi21 hi22 hi23 => ?_
      show T.den _ _ [i0, i1, i2, i3, i4, i5, i6, i7, i8, i9, i10, i11, i12, i13, i14, i15, i16, i17, i18, i19, i20, i21, i22, i23] [b0, b1, b2, b3, b4, b5, b6, b7, b8, b9] = _
      have t8 : b8 = true := by rw [hb8, hi16, hi17, hi18, hi19, hi12, hi13, hi14, hi15, jN_co, jR_co N r M q hN hr hq, Int.min_comm i4 i0, Int.max_comm i5 i1, beq_self_eq_true, beq_self_eq_true, beq_self_eq_true, beq_self_eq_true]; rfl
      have t9 : b9 = true := by rw [hb9, e5, t8]; rfl
      rw [t9, cond_true] at hi20 hi21 hi22 hi23
      refine st_lb fun b10 hb10 => ?_
      replace hb10 : b10 = (((i20 == i0) && (i21 == i1)) && ((i22 == i2) && (i23 == i3))) := hb10
      show T.den _ _ [i0, i1, i2, i3, i4, i5, i6, i7, i8, i9, i10, i11, i12, i13, i14, i15, i16, i17, i18, i19, i20, i21, i22, i23] [b0, b1, b2, b3, b4, b5, b6, b7, b8, b9, b10] = _
      refine st_ret ?_
      show some ([], [(b9 && b10)]) = _
      have js := j_self N r hN hr rl
      have t10 : b10 = true := by rw [hb10, hi20, hi21, hi22, hi23, js.1, js.2, eN, er, Int.min_self, Int.max_self, beq_self_eq_true, beq_self_eq_true, beq_self_eq_true, beq_self_eq_true]; rfl
      rw [t9, t10]; rfl
end Go.Proofs.YticpdchlknbodaaDoor.YAbsJoin
