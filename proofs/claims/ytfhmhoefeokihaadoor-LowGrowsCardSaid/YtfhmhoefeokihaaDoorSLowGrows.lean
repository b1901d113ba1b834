/-
  What the functions of layer 17 (known low bits) answer, in natural numbers: no program in sight.
-/
import Derived.Test.YtfhmhoefeokihaaDoorPLowGrowsx
import Derived.Test.YtfhmhoefeokihaaDoorNums
namespace Go.Proofs.YtfhmhoefeokihaaDoor.SLowGrows
open Go.RowKit Go.Proofs.YtfhmhoefeokihaaDoor.PLowGrows Go.Proofs.YtfhmhoefeokihaaDoorW.PrintWords Go.Proofs.YtfhmhoefeokihaaDoorW.PrintLast Go.Proofs.YtfhmhoefeokihaaDoorW.PrintMore Go.Proofs.YtfhmhoefeokihaaDoor.Nums
theorem min64_le (n : Nat) : min n 64 ≤ 64 := Nat.min_le_right _ _
theorem pow_min_lt (n : Nat) : 2 ^ min n 64 - 1 < 2 ^ 64 := by have := pow_le (min64_le n); have := pow_pos (min n 64); omega
theorem mx0 (n : Int) : mx n 0 = (n.toNat : Int) := by unfold mx; split <;> omega
theorem mask_eq (n : Int) : low_mask.f n = some ((2 ^ min n.toNat 64 - 1 : Nat) : Int) := by
  unfold low_mask.f
  by_cases h : n ≥ 64
  · rw [if_pos h, Nat.min_eq_right (by omega)]; rfl
  · rw [if_neg h, mx0, wraps_u64 _ (by omega) (by omega), if_pos (by omega), shl_one (by omega), Nat.min_eq_left (by omega)]
    have h1 := pow_pos n.toNat
    have h2 := pow_lt (i := n.toNat) (by omega)
    have e : ((2 ^ n.toNat : Nat) : Int) - 1 = ((2 ^ n.toNat - 1 : Nat) : Int) := by omega
    rw [e, wrap_u64_nat, Nat.mod_eq_of_lt (by omega)]
theorem has_eq {n r : Nat} (hn : n < 2 ^ 64) (hr : r < 2 ^ 64) (N : Int) : low_Has.f N r n = some (decide (n % 2 ^ min N.toNat 64 = r % 2 ^ min N.toNat 64)) := by
  unfold low_Has.f
  rw [mask_eq, Option.bind_some, bxor hn hr, band (Nat.xor_lt_two_pow hn hr) (pow_min_lt _)]
  refine congrArg some ?_
  rw [Bool.eq_iff_iff, beq_iff_eq, decide_eq_true_iff, ← xor_mask_eq_zero]
  omega
theorem cut_eq {r : Nat} (hr : r < 2 ^ 64) (N n : Int) : low_Cut.f N r n = some (if n ≥ N then (N, (r : Int)) else ((n.toNat : Int), ((r % 2 ^ min n.toNat 64 : Nat) : Int))) := by
  unfold low_Cut.f
  by_cases h : n ≥ N
  · rw [if_pos h, if_pos h]
  · rw [if_neg h, if_neg h, mask_eq, Option.bind_some, mx0, band hr (pow_min_lt _), and_mask]
theorem within_eq {r q : Nat} (hr : r < 2 ^ 64) (hq : q < 2 ^ 64) (N M : Int) : low_Within.f N r M q = some (decide (N ≥ M ∧ r % 2 ^ min M.toNat 64 = q % 2 ^ min M.toNat 64)) := by
  unfold low_Within.f
  by_cases h : N ≥ M
  · rw [if_pos h, has_eq hr hq, Option.bind_some]
    refine congrArg some ?_
    rw [Bool.eq_iff_iff, decide_eq_true_iff, decide_eq_true_iff]
    exact ⟨fun x => ⟨h, x⟩, fun x => x.2⟩
  · rw [if_neg h, decide_eq_false (fun x => h x.1)]
theorem mn_nat (a b : Nat) : mn (a : Int) (b : Int) = ((min a b : Nat) : Int) := by unfold mn; split <;> omega
theorem mx_nat (a b : Nat) : mx (a : Int) (b : Int) = ((max a b : Nat) : Int) := by unfold mx; split <;> omega
/-- Known bits on 32 and on 64 bits. -/
def wd (n r w : Nat) : Nat × Nat := if w = 32 ∧ 32 ≤ n then (64, r % 2 ^ 32) else (n, r % 2 ^ min n 64)
/-- Two whole numbers that may not be below 0, as the code has them. -/
def ii (p : Nat × Nat) : Int × Int := ((p.1 : Int), (p.2 : Int))
theorem mask_nat (n : Nat) : low_mask.f (n : Int) = some ((2 ^ min n 64 - 1 : Nat) : Int) := by rw [mask_eq, Int.toNat_natCast]
theorem wide_ev (n r w : Nat) (hr : r < 2 ^ 64) : Ev (fun k => low_wide.f k n r w) (ii (wd n r w)) := by
  have hf : Ev (fun k => low_wide.j0 k n r false) ((n : Int), ((r % 2 ^ min n 64 : Nat) : Int)) := by
    refine Ev.step (f := fun _ => some ((n : Int), ((r % 2 ^ min n 64 : Nat) : Int))) (fun k => ?_) (Ev.now _)
    simp only [low_wide.j0]
    rw [if_neg (by decide), mask_nat, Option.bind_some, band hr (pow_min_lt _), and_mask]
  unfold low_wide.f wd
  by_cases hw : w = 32
  · subst hw
    simp only [if_pos (show ((32 : Nat) : Int) = 32 from rfl), true_and]
    by_cases hn : 32 ≤ n
    · rw [if_pos hn, decide_eq_true (show (n : Int) ≥ 32 from by omega)]
      refine Ev.step (f := fun _ => some (ii (64, r % 2 ^ 32))) (fun k => ?_) (Ev.now _)
      simp only [low_wide.j0]
      rw [if_pos trivial, show (32 : Int) = ((32 : Nat) : Int) from rfl, mask_nat, Option.bind_some, band hr (pow_min_lt _), and_mask]
      rfl
    · rw [if_neg hn, decide_eq_false (show ¬ (n : Int) ≥ 32 from by omega)]
      exact hf
  · simp only [if_neg (show ¬ (w : Int) = 32 from by omega), hw, false_and, if_false]
    exact hf
theorem pair_eta (p : Int × Int) : (p.1, p.2) = p := rfl
theorem add_ev (n r m q w : Nat) : Ev (fun k => low_Add.f k n r m q w) (ii (wd (min n m) ((r + q) % 2 ^ 64) w)) := by
  unfold low_Add.f
  have h := wide_ev (min n m) ((r + q) % 2 ^ 64) w (Nat.mod_lt _ (by decide))
  rw [mn_nat, show (r : Int) + (q : Int) = ((r + q : Nat) : Int) from rfl, wrap_u64_nat]
  exact Ev.bind h (Ev.now _)
theorem sub_ev (n r m q w : Nat) (hr : r < 2 ^ 64) (hq : q < 2 ^ 64) : Ev (fun k => low_Sub.f k n r m q w) (ii (wd (min n m) ((r + (2 ^ 64 - q)) % 2 ^ 64) w)) := by
  have _ := hr
  unfold low_Sub.f
  have h := wide_ev (min n m) ((r + (2 ^ 64 - q)) % 2 ^ 64) w (Nat.mod_lt _ (by decide))
  have e : IntKind.u64.wrap ((r : Int) - (q : Int)) = (((r + (2 ^ 64 - q)) % 2 ^ 64 : Nat) : Int) := by rw [wrap_u64]; omega
  rw [mn_nat, e]
  exact Ev.bind h (Ev.now _)
theorem mul_ev (n r m q w : Nat) : Ev (fun k => low_Mul.f k n r m q w) (ii (wd (min n m) ((r * q) % 2 ^ 64) w)) := by
  unfold low_Mul.f
  have h := wide_ev (min n m) ((r * q) % 2 ^ 64) w (Nat.mod_lt _ (by decide))
  rw [mn_nat, show (r : Int) * (q : Int) = ((r * q : Nat) : Int) from (Int.natCast_mul r q).symm, wrap_u64_nat]
  exact Ev.bind h (Ev.now _)
/-- Known bits, cut to a number of them. -/
def ct (N r n : Nat) : Nat × Nat := if N ≤ n then (N, r) else (n, r % 2 ^ min n 64)
theorem cut_nat {r : Nat} (hr : r < 2 ^ 64) (N n : Nat) : low_Cut.f N r n = some (ii (ct N r n)) := by
  rw [cut_eq hr, Int.toNat_natCast]
  unfold ct
  by_cases h : N ≤ n
  · rw [if_pos (by omega), if_pos h]; rfl
  · rw [if_neg (by omega), if_neg h]; rfl
theorem or_eq (n m : Nat) {r q : Nat} (hr : r < 2 ^ 64) (hq : q < 2 ^ 64) : low_Or.f n r m q = some (ii (ct 64 (r ||| q) (min n m))) := by
  unfold low_Or.f
  rw [bor hr hq, mn_nat, show (64 : Int) = ((64 : Nat) : Int) from rfl, cut_nat (Nat.or_lt_two_pow hr hq)]
  rfl
theorem xor_eq (n m : Nat) {r q : Nat} (hr : r < 2 ^ 64) (hq : q < 2 ^ 64) : low_Xor.f n r m q = some (ii (ct 64 (r ^^^ q) (min n m))) := by
  unfold low_Xor.f
  rw [bxor hr hq, mn_nat, show (64 : Int) = ((64 : Nat) : Int) from rfl, cut_nat (Nat.xor_lt_two_pow hr hq)]
  rfl
def nt (n r : Nat) : Nat := min n (Lib.ctz 64 r)
theorem noughts_eq (n : Nat) {r : Nat} (hr : r < 2 ^ 64) : low_noughts.f n r = some ((nt n r : Nat) : Int) := by
  unfold low_noughts.f bits_TrailingZeros64.f Tabs.tz64f
  rw [if_pos (by omega), Option.bind_some, mn_nat, Int.toNat_natCast]
  rfl
/-- Known bits of an and. -/
def an (n r m q : Nat) : Nat × Nat := if max (nt n r) (nt m q) > min n m then (max (nt n r) (nt m q), 0) else ct 64 (r &&& q) (min n m)
theorem and_eq (n m : Nat) {r q : Nat} (hr : r < 2 ^ 64) (hq : q < 2 ^ 64) : low_And.f n r m q = some (ii (an n r m q)) := by
  unfold low_And.f an
  rw [noughts_eq n hr, Option.bind_some, noughts_eq m hq, Option.bind_some, mx_nat, mn_nat]
  by_cases h : max (nt n r) (nt m q) > min n m
  · rw [if_pos (by omega), if_pos h]; rfl
  · rw [if_neg (by omega), if_neg h, band hr hq, show (64 : Int) = ((64 : Nat) : Int) from rfl, cut_nat (Nat.lt_of_le_of_lt Nat.and_le_left hr)]
    rfl
theorem const_eq (a : Int) : low_Const.f a = some (64, a) := rfl
theorem up_one (i : Nat) (hi : i ≤ 4611686018427387904) : wrap64 ((i : Int) + 1) = ((i + 1 : Nat) : Int) := by
  rw [wrap64_id _ (by omega) (by omega)]
  omega
theorem mod_bit (a i : Nat) : a % 2 ^ i ||| a &&& 2 ^ i = a % 2 ^ (i + 1) := by
  refine Nat.eq_of_testBit_eq (fun j => ?_)
  rw [Nat.testBit_or, Nat.testBit_and, Nat.testBit_two_pow, Nat.testBit_mod_two_pow, Nat.testBit_mod_two_pow]
  by_cases h : j < i
  · simp [h, show j < i + 1 from by omega, show ¬ i = j from by omega]
  · by_cases h2 : i = j
    · subst h2; simp
    · simp [h, h2, show ¬ j < i + 1 from by omega]
theorem some_loop (a : Nat) (ha : a < 2 ^ 64) (n : Nat) (hn : n ≤ 64) : ∀ (d i : Nat), i + d = n → Ev (fun k => trammellaw17_some.l0 k a i n ((a % 2 ^ i : Nat) : Int)) (ii (n, a % 2 ^ n))
  | 0, i, hi => by
    refine Ev.step (f := fun _ => some (ii (n, a % 2 ^ n))) (fun k => ?_) (Ev.now _)
    simp only [trammellaw17_some.l0]
    rw [if_neg (by omega), show i = n from by omega]
    rfl
  | d + 1, i, hi => by
    have ih := some_loop a ha n hn d (i + 1) (by omega)
    have e2 := up_one i (by omega)
    refine Ev.step (fun k => ?_) ih
    simp only [trammellaw17_some.l0]
    have h1 : a % 2 ^ i < 2 ^ 64 := Nat.lt_of_le_of_lt (Nat.mod_le _ _) ha
    have h2 : a &&& 2 ^ i < 2 ^ 64 := Nat.lt_of_le_of_lt Nat.and_le_left ha
    rw [e2, if_pos (by omega), wraps_u64 _ (by omega) (by omega), if_pos (by omega), shl_one (by omega), band ha (pow_lt (by omega)), bor h1 h2, mod_bit]
/-- The known bits that the statement makes. -/
def sm (a k : Nat) : Nat × Nat := (k % 65, a % 2 ^ (k % 65))
theorem some_ev (a k : Nat) (ha : a < 2 ^ 64) (hk : k < 256) : Ev (fun f => trammellaw17_some.f f a k) (ii (sm a k)) := by
  unfold trammellaw17_some.f sm
  have e : wrap64 (Int.tmod (k : Int) 65) = ((k % 65 : Nat) : Int) := by
    rw [Int.tmod_eq_emod_of_nonneg (by omega), wrap64_id _ (by omega) (by omega)]; omega
  rw [e]
  have h := some_loop a ha (k % 65) (by omega) (k % 65) 0 (by omega)
  rw [Nat.pow_zero, Nat.mod_one] at h
  exact h
theorem sm_lt (a k : Nat) (ha : a < 2 ^ 64) : (sm a k).2 < 2 ^ 64 := Nat.lt_of_le_of_lt (Nat.mod_le _ _) ha
theorem sm_le (a k : Nat) : (sm a k).1 ≤ 64 := by show k % 65 ≤ 64; omega
theorem sm_right (a k : Nat) : (sm a k).2 < 2 ^ (sm a k).1 := mod_lt_pow _ _
end Go.Proofs.YtfhmhoefeokihaaDoor.SLowGrows
