/-
  NumDoes: what the reference's small functions of layer 3 answer.
-/
import Derived.Test.YtghekmcdokgkkaaDoorXNumDoes
import Derived.Test.YtghekmcdokgkkaaDoorVo
namespace Go.Proofs.YtghekmcdokgkkaaDoor.ANumDoes
set_option linter.all false
open Go.Proofs.YtghekmcdokgkkaaDoor.Vx Go.Proofs.YtghekmcdokgkkaaDoor.XNumDoes Go.Proofs.YtghekmcdokgkkaaDoor.Vd Go.Proofs.YtghekmcdokgkkaaDoor.Vn Go.Proofs.YtghekmcdokgkkaaDoor.Vl Go.Proofs.YtghekmcdokgkkaaDoor.Vp Go.Proofs.YtghekmcdokgkkaaDoor.Vb Go.Proofs.YtghekmcdokgkkaaDoor.Vo
theorem nat_bit (a i : Nat) : a / 2 ^ i % 2 = (a.testBit i).toNat := by
  rw [Nat.testBit_eq_decide_div_mod_eq]
  have := Nat.mod_two_eq_zero_or_one (a / 2 ^ i)
  rcases this with h | h <;> rw [h] <;> rfl
theorem half_bit (a m : Nat) : a / 2 ^ m = 2 * (a / 2 ^ (m + 1)) + (a.testBit m).toNat := by
  rw [← nat_bit, Nat.pow_succ, ← Nat.div_div_eq_div_mul]; omega
theorem bit_le (b : Bool) : b.toNat ≤ 1 := by cases b <;> decide
theorem shrN (a i : Nat) (hi : i ≤ 64) : arI .shr .u64 (a : Int) (i : Int) = ((a / 2 ^ i : Nat) : Int) := by
  show (a : Int).fdiv (2 ^ (min ((i : Int)).toNat 64)) = _
  rw [Int.toNat_natCast, Nat.min_eq_left hi, Int.fdiv_eq_ediv_of_nonneg _ (Int.le_of_lt (Int.pow_pos (by decide))), Int.natCast_ediv, Int.natCast_pow]; rfl
theorem shlN (a i : Nat) (hi : i ≤ 64) : arI .shl .u64 (a : Int) (i : Int) = ((a * 2 ^ i % 2 ^ 64 : Nat) : Int) := shl_nat a i hi
theorem wuN {n : Nat} (h : n < 2 ^ 64) : IntKind.u64.wrap (n : Int) = (n : Int) := wu (by omega) (by omega)
theorem q_bit {a i : Nat} (hi : i < 64) : F27 [(a : Int), (i : Int)] [] [] = some ([(((a.testBit i).toNat : Nat) : Int)], [], []) := by
  refine of_ret ?_
  unfold t27
  refine d_rq (ge_t (show (0 : Int) ≤ IntKind.u64.wrap (i : Int) by rw [wuN (by omega)]; omega)) ?_
  show some (Out.ret ([(arI .shr .u64 (a : Int) (IntKind.u64.wrap (i : Int))).tmod 2], [], [])) = _
  rw [wuN (by omega), shrN a i (by omega), Int.tmod_eq_emod_of_nonneg (Int.natCast_nonneg _), ← nat_bit]
  rfl
theorem wm1 {w : Nat} (h : w = 32 ∨ w = 64) : arI .sub .i64 (w : Int) 1 = (w : Int) - 1 := subI (by omega) (by omega)
theorem pw {w : Nat} (hw : w = 32 ∨ w = 64) : 2 ^ w ≤ 2 ^ 64 := by rcases hw with rfl | rfl <;> decide
theorem q_cut {a w : Nat} (hw : w = 32 ∨ w = 64) (ha : a < 2 ^ 64) : F25 [(a : Int), (w : Int)] [] [] = some ([((a % 2 ^ w : Nat) : Int)], [], []) := by
  refine of_ret ?_
  unfold t25
  rcases hw with rfl | rfl
  · refine d_itF rfl (d_rq rfl (d_rq rfl ?_))
    show some (Out.ret ([(a : Int).tmod 4294967296], [], [])) = _
    rw [Int.tmod_eq_emod_of_nonneg (by omega)]; rfl
  · refine d_itT rfl ?_
    show some (Out.ret ([(a : Int)], [], [])) = _
    rw [Nat.mod_eq_of_lt ha]
theorem q_one (b : Bool) : F26 [] [b] [] = some ([bif b then 1 else 0], [], []) := by cases b <;> rfl
theorem q_minus {a w : Nat} (hw : w = 32 ∨ w = 64) (ha : a < 2 ^ 64) : F30 [(a : Int), (w : Int)] [] [] = some ([(((2 ^ 64 - a) % 2 ^ w : Nat) : Int)], [], []) := by
  refine of_ret ?_
  unfold t30
  have e : arI .sub .u64 0 (a : Int) = (((2 ^ 64 - a) % 2 ^ 64 : Nat) : Int) := by
    show IntKind.u64.wrap (0 - (a : Int)) = _
    have : IntKind.u64.wrap (0 - (a : Int)) = (0 - (a : Int)) % 18446744073709551616 := by simp [IntKind.wrap, IntKind.bits, IntKind.signed]
    rw [this]; omega
  refine d_callx [(((2 ^ 64 - a) % 2 ^ 64 : Nat) : Int), (w : Int)] [] [] ([(((2 ^ 64 - a) % 2 ^ 64 % 2 ^ w : Nat) : Int)], [], []) e30_25 (by show [arI .sub .u64 0 (a : Int), (w : Int)] = _; rw [e]) rfl rfl (q_cut hw (Nat.mod_lt _ (by decide))) rfl ?_
  show some (Out.ret ([(((2 ^ 64 - a) % 2 ^ 64 % 2 ^ w : Nat) : Int)], [], [])) = _
  congr 5
  rcases hw with rfl | rfl <;> omega
/-- A loop from the highest bit on. -/
theorem d_down {C : Nat → Vx.Fn} {e1 e2 : E} {body k : Vx.T} {is : List Int} {bs : List Bool} {ls : LL} {o : Option Out} (V w : Nat) (hw : w ≤ 64) (hV : V < 2 ^ w) (he1 : e1.I is bs ls = 0) (he2 : e2.I is bs ls = (w : Int) - 1)
    (hs : ∀ m acc : Nat, m < w → acc < 2 ^ 63 → body.den C (is ++ [(acc : Int), (m : Int)]) (bs ++ []) (ls ++ []) = some (.nxt ([((2 * acc + (V.testBit m).toNat : Nat) : Int), (m : Int) - 1], [], [])))
    (he : ∀ acc : Int, body.den C (is ++ [acc, -1]) (bs ++ []) (ls ++ []) = some (.brk 2 ([acc, -1], [], []))) (hk : k.den C (is ++ [2, (V : Int), -1]) (bs ++ []) (ls ++ []) = o) : (Vx.T.lp [e1, e2] [] [] 2 0 0 body k).den C is bs ls = o := by
  refine d_loop (fun i => ([((V / 2 ^ (w - i) : Nat) : Int), (w : Int) - 1 - (i : Int)], [], [])) w (by omega) 2 ([(V : Int), -1], [], []) ?_ (fun i hi => ?_) (fun _ _ => rfl) ?_ rfl hk
  · show ([e1.I is bs ls, e2.I is bs ls], [], []) = _
    rw [he1, he2, Nat.sub_zero, Nat.div_eq_of_lt hV, show (w : Int) - 1 - ((0 : Nat) : Int) = (w : Int) - 1 by omega]
    rfl
  · obtain ⟨m, hm⟩ : ∃ m : Nat, w - i = m + 1 := ⟨w - i - 1, by omega⟩
    have h1 : w - (i + 1) = m := by omega
    have h2 : (w : Int) - 1 - (i : Int) = (m : Int) := by omega
    have h3 : (w : Int) - 1 - ((i + 1 : Nat) : Int) = (m : Int) - 1 := by omega
    dsimp only
    rw [hm, h1, h2, h3, half_bit V m]
    refine hs m _ (by omega) ?_
    have hV64 : V < 2 ^ 64 := Nat.lt_of_lt_of_le hV (Nat.pow_le_pow_right (by decide) hw)
    rw [Nat.div_lt_iff_lt_mul (Nat.two_pow_pos _)]
    have : 2 ^ 1 ≤ 2 ^ (m + 1) := Nat.pow_le_pow_right (by decide) (by omega)
    have : 2 ^ 63 * 2 ≤ 2 ^ 63 * 2 ^ (m + 1) := Nat.mul_le_mul_left _ this
    omega
  · dsimp only
    rw [Nat.sub_self, Nat.pow_zero, Nat.div_one, show (w : Int) - 1 - (w : Int) = -1 by omega]
    exact he _
theorem acc_step {acc : Nat} (b : Bool) (h : acc < 2 ^ 63) : arI .add .u64 (arI .mul .u64 (acc : Int) 2) ((b.toNat : Nat) : Int) = ((2 * acc + b.toNat : Nat) : Int) := by
  have := bit_le b
  show IntKind.u64.wrap (IntKind.u64.wrap ((acc : Int) * 2) + ((b.toNat : Nat) : Int)) = _
  rw [wu (n := (acc : Int) * 2) (by omega) (by omega), wu (by omega) (by omega)]; omega
theorem acc_zero {acc : Nat} (h : acc < 2 ^ 63) : arI .mul .u64 (acc : Int) 2 = ((2 * acc + (false).toNat : Nat) : Int) := by
  show IntKind.u64.wrap ((acc : Int) * 2) = _
  rw [wu (by omega) (by omega)]
  simp only [Bool.toNat_false]; omega
theorem acc_one {acc : Nat} (h : acc < 2 ^ 63) : arI .add .u64 (arI .mul .u64 (acc : Int) 2) 1 = ((2 * acc + (true).toNat : Nat) : Int) := acc_step true h
theorem dn {m : Nat} (h : m < 64) : arI .sub .i64 (m : Int) 1 = (m : Int) - 1 := subI (by omega) (by omega)
theorem q_each {a b how V : Nat} (hV : V < 2 ^ 64) (hh : how < 3) (hb : ∀ m, m < 64 → V.testBit m = if how = 0 then a.testBit m && b.testBit m else if how = 1 then a.testBit m || b.testBit m else a.testBit m != b.testBit m) :
    F32 [(a : Int), (b : Int), (how : Int)] [] [] = some ([(V : Int)], [], []) := by
  refine of_ret ?_
  unfold t32
  refine d_down V 64 (Nat.le_refl _) hV rfl rfl (fun m acc hm hacc => ?_) (fun acc => ?_) ?_
  · show Vx.T.den _ l32_1 [(a : Int), (b : Int), (how : Int), (acc : Int), (m : Int)] [] [] = _
    unfold l32_1
    refine d_itT (ge_t (show (0 : Int) ≤ (m : Int) by omega)) ?_
    refine d_callx [(a : Int), (m : Int)] [] [] _ e32_27 rfl rfl rfl (q_bit hm) rfl ?_
    refine d_callx [(b : Int), (m : Int)] [] [] _ e32_27 rfl rfl rfl (q_bit hm) rfl ?_
    have hbm := hb m hm
    have h3 : how = 0 ∨ how = 1 ∨ how = 2 := by omega
    rw [hbm]
    generalize a.testBit m = x
    generalize b.testBit m = y
    have e1 := acc_one hacc
    have e0 := acc_zero hacc
    have ed := dn hm
    rcases h3 with rfl | rfl | rfl <;> cases x <;> cases y <;>
      refine d_lb _ rfl (d_lb _ rfl (d_lb _ rfl ?_)) <;>
      first
      | (refine d_itT rfl ?_
         show some (Out.nxt ([arI .add .u64 (arI .mul .u64 (acc : Int) 2) 1, arI .sub .i64 (m : Int) 1], [], [])) = _
         rw [e1, ed]; rfl)
      | (refine d_itF rfl ?_
         show some (Out.nxt ([arI .mul .u64 (acc : Int) 2, arI .sub .i64 (m : Int) 1], [], [])) = _
         rw [e0, ed]; rfl)
  · show Vx.T.den _ l32_1 [(a : Int), (b : Int), (how : Int), acc, -1] [] [] = _
    unfold l32_1
    exact d_itF rfl rfl
  · unfold k32_2
    exact d_rq rfl rfl
theorem q_spread {a kk w V : Nat} (hw : w = 32 ∨ w = 64) (hk : 0 < kk ∧ kk ≤ 64) (hV : V < 2 ^ w) (hb : ∀ m, m < w → V.testBit m = a.testBit (if m ≥ kk then kk - 1 else m)) :
    F28 [(a : Int), (kk : Int), (w : Int)] [] [] = some ([(V : Int)], [], []) := by
  refine of_ret ?_
  unfold t28
  refine d_down V w (by omega) hV rfl (wm1 hw) (fun m acc hm hacc => ?_) (fun acc => ?_) ?_
  · show Vx.T.den _ l28_1 [(a : Int), (kk : Int), (w : Int), (acc : Int), (m : Int)] [] [] = _
    unfold l28_1
    have hbm := hb m hm
    have ed := dn (show m < 64 by omega)
    refine d_itT (ge_t (show (0 : Int) ≤ (m : Int) by omega)) ?_
    by_cases h : m ≥ kk
    · rw [if_pos h] at hbm
      refine d_itT (ge_t (show (kk : Int) ≤ (m : Int) by omega)) ?_
      refine d_callx [(a : Int), ((kk - 1 : Nat) : Int)] [] [] _ e28_27 (by show [(a : Int), arI .sub .i64 (kk : Int) 1] = _; rw [subI (by omega) (by omega)]; congr 2; omega) rfl rfl (q_bit (by omega)) rfl ?_
      show some (Out.nxt ([arI .add .u64 (arI .mul .u64 (acc : Int) 2) (((a.testBit (kk - 1)).toNat : Nat) : Int), arI .sub .i64 (m : Int) 1], [], [])) = _
      rw [acc_step _ hacc, ed, hbm]
    · rw [if_neg h] at hbm
      refine d_itF (ge_f (show (m : Int) < (kk : Int) by omega)) ?_
      refine d_callx [(a : Int), (m : Int)] [] [] _ e28_27 rfl rfl rfl (q_bit (by omega)) rfl ?_
      show some (Out.nxt ([arI .add .u64 (arI .mul .u64 (acc : Int) 2) (((a.testBit m).toNat : Nat) : Int), arI .sub .i64 (m : Int) 1], [], [])) = _
      rw [acc_step _ hacc, ed, hbm]
  · show Vx.T.den _ l28_1 [(a : Int), (kk : Int), (w : Int), acc, -1] [] [] = _
    unfold l28_1
    exact d_itF rfl rfl
  · unfold k28_2
    exact d_rq rfl rfl
theorem q_turned {a n w V : Nat} (hw : w = 32 ∨ w = 64) (hn : n ≤ w) (hV : V < 2 ^ w) (hb : ∀ m, m < w → V.testBit m = a.testBit ((m + w - n % w) % w)) :
    F34 [(a : Int), (n : Int), (w : Int)] [] [] = some ([(V : Int)], [], []) := by
  refine of_ret ?_
  unfold t34
  have hw0 : 0 < w := by omega
  have hl := Nat.mod_lt n hw0
  refine d_down V w (by omega) hV rfl (wm1 hw) (fun m acc hm hacc => ?_) (fun acc => ?_) ?_
  · show Vx.T.den _ l34_1 [(a : Int), (n : Int), (w : Int), (acc : Int), (m : Int)] [] [] = _
    unfold l34_1
    have hbm := hb m hm
    have ed := dn (show m < 64 by omega)
    have e1 : arI .add .i64 (arI .sub .i64 (m : Int) ((n : Int).tmod (w : Int))) (w : Int) = ((m + w - n % w : Nat) : Int) := by
      rw [Int.tmod_eq_emod_of_nonneg (by omega), ← Int.natCast_emod, subI (by omega) (by omega), addI (by omega) (by omega)]; omega
    refine d_itT (ge_t (show (0 : Int) ≤ (m : Int) by omega)) (d_rq (ne_t (show (w : Int) ≠ 0 by omega)) (d_li ((m + w - n % w : Nat) : Int) e1 ?_))
    refine d_callx [(a : Int), (((m + w - n % w) % w : Nat) : Int)] [] [] _ e34_27 (by show [(a : Int), (((m + w - n % w : Nat) : Int)).tmod (w : Int)] = _; rw [Int.tmod_eq_emod_of_nonneg (by omega), ← Int.natCast_emod]) rfl rfl (q_bit (by have := Nat.mod_lt (m + w - n % w) hw0; omega)) rfl ?_
    show some (Out.nxt ([arI .add .u64 (arI .mul .u64 (acc : Int) 2) (((a.testBit ((m + w - n % w) % w)).toNat : Nat) : Int), arI .sub .i64 (m : Int) 1], [], [])) = _
    rw [acc_step _ hacc, ed, hbm]
  · show Vx.T.den _ l34_1 [(a : Int), (n : Int), (w : Int), acc, -1] [] [] = _
    unfold l34_1
    exact d_itF rfl rfl
  · unfold k34_2
    exact d_rq rfl rfl
/-- Moved up. -/
theorem q_up {a s w V : Nat} (hw : w = 32 ∨ w = 64) (hs : s < w) (hV : V < 2 ^ w) (hb : ∀ m, m < w → V.testBit m = (decide (s ≤ m) && a.testBit (m - s))) :
    F33 [(a : Int), (s : Int), (w : Int), 0] [] [] = some ([(V : Int)], [], []) := by
  refine of_ret ?_
  unfold t33
  refine d_down V w (by omega) hV rfl (wm1 hw) (fun m acc hm hacc => ?_) (fun acc => ?_) ?_
  · show Vx.T.den _ l33_1 [(a : Int), (s : Int), (w : Int), 0, (acc : Int), (m : Int)] [] [] = _
    unfold l33_1
    have hbm := hb m hm
    have ed := dn (show m < 64 by omega)
    have e1 : arI .sub .i64 (m : Int) (s : Int) = (m : Int) - (s : Int) := subI (by omega) (by omega)
    refine d_itT (ge_t (show (0 : Int) ≤ (m : Int) by omega)) ?_
    by_cases h : s ≤ m
    · rw [decide_eq_true h, Bool.true_and] at hbm
      refine d_lb true (by show (decide (arI .sub .i64 (m : Int) (s : Int) ≥ 0) && decide (arI .sub .i64 (m : Int) (s : Int) < (w : Int))) = true; rw [e1]; simp; omega) (d_itT rfl ?_)
      refine d_callx [(a : Int), ((m - s : Nat) : Int)] [] [] _ e33_27 (by show [(a : Int), arI .sub .i64 (m : Int) (s : Int)] = _; rw [e1]; congr 2; omega) rfl rfl (q_bit (by omega)) rfl ?_
      refine d_itF (lt_f (show (0 : Int) ≤ arI .sub .i64 (m : Int) (s : Int) by rw [e1]; omega)) ?_
      show some (Out.nxt ([arI .add .u64 (arI .mul .u64 (acc : Int) 2) (((a.testBit (m - s)).toNat : Nat) : Int), arI .sub .i64 (m : Int) 1], [], [])) = _
      rw [acc_step _ hacc, ed, hbm]
    · rw [decide_eq_false h, Bool.false_and] at hbm
      refine d_lb false (by show (decide (arI .sub .i64 (m : Int) (s : Int) ≥ 0) && decide (arI .sub .i64 (m : Int) (s : Int) < (w : Int))) = false; rw [e1, ge_f (by omega)]; rfl) (d_itF rfl (d_itT (lt_t (show arI .sub .i64 (m : Int) (s : Int) < 0 by rw [e1]; omega)) ?_))
      show some (Out.nxt ([arI .add .u64 (arI .mul .u64 (acc : Int) 2) (((false).toNat : Nat) : Int), arI .sub .i64 (m : Int) 1], [], [])) = _
      rw [acc_step _ hacc, ed, hbm]
  · show Vx.T.den _ l33_1 [(a : Int), (s : Int), (w : Int), 0, acc, -1] [] [] = _
    unfold l33_1
    exact d_itF rfl rfl
  · unfold k33_2
    exact d_rq rfl rfl
/-- Moved down. -/
theorem q_down {a s w V : Nat} {fl : Bool} (hw : w = 32 ∨ w = 64) (hs : s < w) (hV : V < 2 ^ w) (hb : ∀ m, m < w → V.testBit m = if m + s < w then a.testBit (m + s) else fl) :
    F33 [(a : Int), -(s : Int), (w : Int), ((fl.toNat : Nat) : Int)] [] [] = some ([(V : Int)], [], []) := by
  refine of_ret ?_
  unfold t33
  refine d_down V w (by omega) hV rfl (wm1 hw) (fun m acc hm hacc => ?_) (fun acc => ?_) ?_
  · show Vx.T.den _ l33_1 [(a : Int), -(s : Int), (w : Int), ((fl.toNat : Nat) : Int), (acc : Int), (m : Int)] [] [] = _
    unfold l33_1
    have hbm := hb m hm
    have ed := dn (show m < 64 by omega)
    have e1 : arI .sub .i64 (m : Int) (-(s : Int)) = ((m + s : Nat) : Int) := by rw [subI (by omega) (by omega)]; omega
    refine d_itT (ge_t (show (0 : Int) ≤ (m : Int) by omega)) ?_
    by_cases h : m + s < w
    · rw [if_pos h] at hbm
      refine d_lb true (by show (decide (arI .sub .i64 (m : Int) (-(s : Int)) ≥ 0) && decide (arI .sub .i64 (m : Int) (-(s : Int)) < (w : Int))) = true; rw [e1]; simp; omega) (d_itT rfl ?_)
      refine d_callx [(a : Int), ((m + s : Nat) : Int)] [] [] _ e33_27 (by show [(a : Int), arI .sub .i64 (m : Int) (-(s : Int))] = _; rw [e1]) rfl rfl (q_bit (by omega)) rfl ?_
      refine d_itF (lt_f (show (0 : Int) ≤ arI .sub .i64 (m : Int) (-(s : Int)) by rw [e1]; omega)) ?_
      show some (Out.nxt ([arI .add .u64 (arI .mul .u64 (acc : Int) 2) (((a.testBit (m + s)).toNat : Nat) : Int), arI .sub .i64 (m : Int) 1], [], [])) = _
      rw [acc_step _ hacc, ed, hbm]
    · rw [if_neg h] at hbm
      refine d_lb false (by show (decide (arI .sub .i64 (m : Int) (-(s : Int)) ≥ 0) && decide (arI .sub .i64 (m : Int) (-(s : Int)) < (w : Int))) = false; rw [e1, lt_f (show (w : Int) ≤ ((m + s : Nat) : Int) by omega), Bool.and_false]) (d_itF rfl (d_itF (lt_f (show (0 : Int) ≤ arI .sub .i64 (m : Int) (-(s : Int)) by rw [e1]; omega)) ?_))
      show some (Out.nxt ([arI .add .u64 (arI .mul .u64 (acc : Int) 2) ((fl.toNat : Nat) : Int), arI .sub .i64 (m : Int) 1], [], [])) = _
      rw [acc_step _ hacc, ed, hbm]
  · show Vx.T.den _ l33_1 [(a : Int), -(s : Int), (w : Int), ((fl.toNat : Nat) : Int), acc, -1] [] [] = _
    unfold l33_1
    exact d_itF rfl rfl
  · unfold k33_2
    exact d_rq rfl rfl
/-! Division. -/
theorem div_step (h b t : Nat) (hb : 0 < b) (ht : t ≤ 1) : (h % b * 2 + t ≥ b → (2 * h + t) / b = h / b * 2 + 1 ∧ (2 * h + t) % b = h % b * 2 + t - b) ∧ (h % b * 2 + t < b → (2 * h + t) / b = h / b * 2 ∧ (2 * h + t) % b = h % b * 2 + t) := by
  have h1 := Nat.div_add_mod h b
  have h2 := Nat.mod_lt h hb
  generalize h / b = q at *
  generalize h % b = r at *
  have e : 2 * h + t = b * (q * 2) + (r * 2 + t) := by rw [← h1, ← Nat.mul_assoc]; omega
  refine ⟨fun hc => ?_, fun hc => ?_⟩
  · have e2 : 2 * h + t = (r * 2 + t - b) + b * (q * 2 + 1) := by rw [e, Nat.mul_add]; omega
    rw [e2]
    exact ⟨by rw [Nat.add_mul_div_left _ _ hb, Nat.div_eq_of_lt (by omega)]; omega, by rw [Nat.add_mul_mod_self_left, Nat.mod_eq_of_lt (by omega)]⟩
  · rw [e, Nat.add_comm]
    exact ⟨by rw [Nat.add_mul_div_left _ _ hb, Nat.div_eq_of_lt (by omega)]; omega, by rw [Nat.add_mul_mod_self_left, Nat.mod_eq_of_lt (by omega)]⟩
theorem wrap_u (x : Int) : IntKind.u64.wrap x = x % 18446744073709551616 := by simp [IntKind.wrap, IntKind.bits, IntKind.signed]
theorem q_divide {a b : Nat} (ha : a < 2 ^ 64) (hb : 0 < b) (hb2 : b < 2 ^ 64) : F39 [(a : Int), (b : Int)] [] [] = some ([((a / b : Nat) : Int), ((a % b : Nat) : Int)], [], []) := by
  refine of_ret ?_
  unfold t39
  refine d_loop (fun i => ([((a / 2 ^ (64 - i) / b : Nat) : Int), ((a / 2 ^ (64 - i) % b : Nat) : Int), 63 - (i : Int)], [], [])) 64 (by omega) 2 ([((a / b : Nat) : Int), ((a % b : Nat) : Int), -1], [], []) ?_ (fun i hi => ?_) (fun _ _ => rfl) ?_ rfl ?_
  · show ([0, 0, 63], [], []) = ([((a / 2 ^ 64 / b : Nat) : Int), ((a / 2 ^ 64 % b : Nat) : Int), 63 - ((0 : Nat) : Int)], [], [])
    rw [Nat.div_eq_of_lt ha, Nat.zero_div, Nat.zero_mod]; rfl
  · obtain ⟨m, hm⟩ : ∃ m : Nat, 64 - i = m + 1 := ⟨64 - i - 1, by omega⟩
    have h1 : 64 - (i + 1) = m := by omega
    have h2 : 63 - (i : Int) = (m : Int) := by omega
    have h3 : 63 - ((i + 1 : Nat) : Int) = (m : Int) - 1 := by omega
    dsimp only
    rw [hm, h1, h2, h3]
    show Vx.T.den _ l39_1 [(a : Int), (b : Int), ((a / 2 ^ (m + 1) / b : Nat) : Int), ((a / 2 ^ (m + 1) % b : Nat) : Int), (m : Int)] [] [] = _
    have hd := half_bit a m
    have ht : (a.testBit m).toNat ≤ 1 := bit_le _
    obtain ⟨s1, s2⟩ := div_step (a / 2 ^ (m + 1)) b (a.testBit m).toNat hb ht
    rw [← hd] at s1 s2
    have hr := Nat.mod_lt (a / 2 ^ (m + 1)) hb
    have hq : a / 2 ^ m / b < 2 ^ 64 := Nat.lt_of_le_of_lt (Nat.div_le_self _ _) (Nat.lt_of_le_of_lt (Nat.div_le_self _ _) ha)
    have ed := dn (show m < 64 by omega)
    unfold l39_1
    refine d_itT (ge_t (show (0 : Int) ≤ (m : Int) by omega)) ?_
    refine d_callx [(a : Int), (m : Int)] [] [] _ e39_27 rfl rfl rfl (q_bit (by omega)) rfl ?_
    generalize (a.testBit m).toNat = t at *
    generalize a / 2 ^ (m + 1) / b = q at *
    generalize a / 2 ^ (m + 1) % b = r at *
    generalize a / 2 ^ m / b = q' at *
    generalize a / 2 ^ m % b = r' at *
    have e2 : arI .add .u64 (arI .mul .u64 (r : Int) 2) (t : Int) = (((r : Int) * 2 + t) % 18446744073709551616) := by
      show IntKind.u64.wrap (IntKind.u64.wrap ((r : Int) * 2) + (t : Int)) = _
      rw [wrap_u, wrap_u]; omega
    have e63 : arI .shr .u64 (r : Int) 63 = ((r / 2 ^ 63 : Nat) : Int) := shrN r 63 (by decide)
    refine d_lb (decide (((r : Int) * 2 + t) % 18446744073709551616 ≥ (b : Int))) (by show decide (arI .add .u64 (arI .mul .u64 (r : Int) 2) (t : Int) ≥ (b : Int)) = _; rw [e2]) ?_
    by_cases hc : r * 2 + t ≥ b
    · obtain ⟨q1, q2⟩ := s1 hc
      refine d_lb true ?_ (d_itT rfl ?_)
      · show ((arI .shr .u64 (r : Int) 63 == 1) || decide (((r : Int) * 2 + t) % 18446744073709551616 ≥ (b : Int))) = true
        rw [e63]
        by_cases ho : r / 2 ^ 63 = 1
        · rw [eq_t (show ((r / 2 ^ 63 : Nat) : Int) = 1 by omega)]; rfl
        · rw [ge_t (show (b : Int) ≤ ((r : Int) * 2 + t) % 18446744073709551616 by omega), Bool.or_true]
      · refine d_li (r' : Int) ?_ ?_
        · show IntKind.u64.wrap (arI .add .u64 (arI .mul .u64 (r : Int) 2) (t : Int) - (b : Int)) = _
          rw [e2, wrap_u]; omega
        · show some (Out.nxt ([arI .add .u64 (arI .mul .u64 (q : Int) 2) 1, (r' : Int), arI .sub .i64 (m : Int) 1], [], [])) = _
          have : arI .add .u64 (arI .mul .u64 (q : Int) 2) 1 = (q' : Int) := by
            show IntKind.u64.wrap (IntKind.u64.wrap ((q : Int) * 2) + 1) = _
            rw [wrap_u, wrap_u]; omega
          rw [this, ed]
    · obtain ⟨q1, q2⟩ := s2 (by omega)
      refine d_lb false ?_ (d_itF rfl ?_)
      · show ((arI .shr .u64 (r : Int) 63 == 1) || decide (((r : Int) * 2 + t) % 18446744073709551616 ≥ (b : Int))) = false
        rw [e63, eq_f (show ((r / 2 ^ 63 : Nat) : Int) ≠ 1 by omega), ge_f (show ((r : Int) * 2 + t) % 18446744073709551616 < (b : Int) by omega)]; rfl
      · show some (Out.nxt ([arI .mul .u64 (q : Int) 2, arI .add .u64 (arI .mul .u64 (r : Int) 2) (t : Int), arI .sub .i64 (m : Int) 1], [], [])) = _
        have : arI .mul .u64 (q : Int) 2 = (q' : Int) := by
          show IntKind.u64.wrap ((q : Int) * 2) = _
          rw [wrap_u]; omega
        rw [this, ed, e2, show ((r : Int) * 2 + t) % 18446744073709551616 = (r' : Int) by omega]
  · show Vx.T.den _ l39_1 [(a : Int), (b : Int), ((a / 2 ^ (64 - 64) / b : Nat) : Int), ((a / 2 ^ (64 - 64) % b : Nat) : Int), 63 - ((64 : Nat) : Int)] [] [] = _
    rw [Nat.sub_self, Nat.pow_zero, Nat.div_one]
    unfold l39_1
    exact d_itF rfl rfl
  · unfold k39_2
    exact d_rq rfl rfl
end Go.Proofs.YtghekmcdokgkkaaDoor.ANumDoes
