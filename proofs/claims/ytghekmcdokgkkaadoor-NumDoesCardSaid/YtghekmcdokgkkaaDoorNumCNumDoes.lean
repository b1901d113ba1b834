/-
  NumDoes: what the reference's Bin answers.
-/
import Derived.Test.YtghekmcdokgkkaaDoorNumBNumDoes
namespace Go.Proofs.YtghekmcdokgkkaaDoor.CNumDoes
set_option linter.all false
set_option maxHeartbeats 2000000
open Go.Proofs.YtghekmcdokgkkaaDoor.Vx Go.Proofs.YtghekmcdokgkkaaDoor.XNumDoes Go.Proofs.YtghekmcdokgkkaaDoor.Vd Go.Proofs.YtghekmcdokgkkaaDoor.Vn Go.Proofs.YtghekmcdokgkkaaDoor.Vl Go.Proofs.YtghekmcdokgkkaaDoor.Vp Go.Proofs.YtghekmcdokgkkaaDoor.Vb Go.Proofs.YtghekmcdokgkkaaDoor.Vo Go.Proofs.YtghekmcdokgkkaaDoor.ANumDoes Go.Proofs.YtghekmcdokgkkaaDoor.BNumDoes
def K13 : Vx.T := (.rq (.cm .eql (.iv 3) (.n 0)) (.call 25 [(.iv 1), (.iv 6)] [] [] 1 0 0 (.call 25 [(.iv 2), (.iv 6)] [] [] 1 0 0 (.rq (.cm .neq (.cv .u64 (.iv 6)) (.n 0)) (.ite (.cm .eql (.iv 7) (.n 0)) (.call 26 [] [(.cm .eql (.iv 8) (.iv 9))] [] 1 0 0 (.ret [(.iv 10), (.n 0)] [(.t true)] [])) (.ite (.cm .eql (.iv 7) (.n 1)) (.call 26 [] [(.cm .neq (.iv 8) (.iv 9))] [] 1 0 0 (.ret [(.iv 10), (.n 0)] [(.t true)] [])) (.jn (.ite (.cm .eql (.iv 7) (.n 2)) (.brk 0 [] [(.cm .eql (.iv 7) (.n 2))] []) (.brk 0 [] [(.cm .eql (.iv 7) (.n 3))] [])) 0 1 0 (.rq (.cm .eql (.iv 10) (.n 0)) (.ite (.bv 2) (.call 29 [(.iv 8), (.iv 9), (.iv 6)] [(.cm .eql (.iv 7) (.n 2))] [] 0 1 0 (.call 26 [] [(.bv 3)] [] 1 0 0 (.ret [(.iv 11), (.n 0)] [(.t true)] []))) (.jn (.ite (.cm .eql (.iv 7) (.n 4)) (.brk 0 [] [(.cm .eql (.iv 7) (.n 4))] []) (.brk 0 [] [(.cm .eql (.iv 7) (.n 5))] [])) 0 1 0 (.rq (.cm .eql (.iv 11) (.n 0)) (.ite (.bv 3) (.call 29 [(.iv 9), (.iv 8), (.iv 6)] [(.cm .eql (.iv 7) (.n 4))] [] 0 1 0 (.call 26 [] [(.bv 4)] [] 1 0 0 (.ret [(.iv 12), (.n 0)] [(.t true)] []))) (.jn (.ite (.cm .eql (.iv 7) (.n 6)) (.brk 0 [] [(.cm .eql (.iv 7) (.n 6))] []) (.brk 0 [] [(.cm .eql (.iv 7) (.n 7))] [])) 0 1 0 (.rq (.cm .eql (.iv 12) (.n 0)) (.ite (.bv 4) (.call 29 [(.iv 9), (.iv 8), (.iv 6)] [(.cm .eql (.iv 7) (.n 6))] [] 0 1 0 (.call 26 [] [(.nt (.bv 5))] [] 1 0 0 (.ret [(.iv 13), (.n 0)] [(.t true)] []))) (.jn (.ite (.cm .eql (.iv 7) (.n 8)) (.brk 0 [] [(.cm .eql (.iv 7) (.n 8))] []) (.brk 0 [] [(.cm .eql (.iv 7) (.n 9))] [])) 0 1 0 (.rq (.cm .eql (.iv 13) (.n 0)) (.ite (.bv 5) (.call 29 [(.iv 8), (.iv 9), (.iv 6)] [(.cm .eql (.iv 7) (.n 8))] [] 0 1 0 (.call 26 [] [(.nt (.bv 6))] [] 1 0 0 (.ret [(.iv 14), (.n 0)] [(.t true)] []))) (.ite (.cm .eql (.iv 7) (.n 10)) (.call 25 [(.ar .add .u64 (.iv 8) (.iv 9)), (.iv 6)] [] [] 1 0 0 (.ret [(.iv 14), (.n 0)] [(.t true)] [])) (.ite (.cm .eql (.iv 7) (.n 11)) (.call 30 [(.iv 9), (.iv 6)] [] [] 1 0 0 (.call 25 [(.ar .add .u64 (.iv 8) (.iv 14)), (.iv 6)] [] [] 1 0 0 (.ret [(.iv 15), (.n 0)] [(.t true)] []))) (.ite (.cm .eql (.iv 7) (.n 12)) (.lp [(.n 0), (.n 0)] [] [] 2 0 0 l13_1 k13_2) (.jn (.ite (.cm .eql (.iv 7) (.n 13)) (.brk 0 [] [(.cm .eql (.iv 7) (.n 13))] []) (.brk 0 [] [(.cm .eql (.iv 7) (.n 14))] [])) 0 1 0 (.rq (.cm .eql (.iv 14) (.n 0)) (.ite (.bv 6) (.call 31 [(.iv 8), (.iv 9), (.iv 6)] [(.cm .eql (.iv 7) (.n 13))] [] 4 0 0 (.ret [(.iv 15), (.iv 17)] [(.t true)] [])) (.jn (.ite (.cm .eql (.iv 7) (.n 15)) (.brk 0 [] [(.cm .eql (.iv 7) (.n 15))] []) (.brk 0 [] [(.cm .eql (.iv 7) (.n 16))] [])) 0 1 0 (.rq (.cm .eql (.iv 15) (.n 0)) (.ite (.bv 7) (.call 31 [(.iv 8), (.iv 9), (.iv 6)] [(.cm .eql (.iv 7) (.n 15))] [] 4 0 0 (.ret [(.iv 17), (.iv 19)] [(.t true)] [])) (.jn (.ite (.cm .eql (.iv 7) (.n 17)) (.brk 0 [] [(.cm .eql (.iv 7) (.n 17))] []) (.jn (.ite (.cm .eql (.iv 7) (.n 18)) (.brk 0 [] [(.cm .eql (.iv 7) (.n 18))] []) (.brk 0 [] [(.cm .eql (.iv 7) (.n 19))] [])) 0 1 0 (.rq (.cm .eql (.iv 16) (.n 0)) (.brk 0 [] [(.bv 8)] [])))) 0 1 0 (.rq (.cm .eql (.iv 16) (.n 0)) (.ite (.bv 8) (.call 32 [(.iv 8), (.iv 9), (.ar .sub .i64 (.iv 7) (.n 17))] [] [] 1 0 0 (.ret [(.iv 17), (.n 0)] [(.t true)] [])) (.ite (.cm .eql (.iv 7) (.n 20)) (.call 33 [(.iv 8), (.cv .i64 (.ar .rem .u64 (.iv 9) (.cv .u64 (.iv 6)))), (.iv 6), (.n 0)] [] [] 1 0 0 (.ret [(.iv 17), (.n 0)] [(.t true)] [])) (.ite (.cm .eql (.iv 7) (.n 21)) (.li (.ar .sub .i64 (.n 0) (.cv .i64 (.ar .rem .u64 (.iv 9) (.cv .u64 (.iv 6))))) (.call 27 [(.iv 8), (.ar .sub .i64 (.iv 6) (.n 1))] [] [] 1 0 0 (.call 33 [(.iv 8), (.iv 17), (.iv 6), (.iv 18)] [] [] 1 0 0 (.ret [(.iv 19), (.n 0)] [(.t true)] [])))) (.ite (.cm .eql (.iv 7) (.n 22)) (.li (.ar .sub .i64 (.n 0) (.cv .i64 (.ar .rem .u64 (.iv 9) (.cv .u64 (.iv 6))))) (.call 33 [(.iv 8), (.iv 17), (.iv 6), (.n 0)] [] [] 1 0 0 (.ret [(.iv 18), (.n 0)] [(.t true)] []))) (.ite (.cm .eql (.iv 7) (.n 23)) (.call 34 [(.iv 8), (.cv .i64 (.ar .rem .u64 (.iv 9) (.cv .u64 (.iv 6)))), (.iv 6)] [] [] 1 0 0 (.ret [(.iv 17), (.n 0)] [(.t true)] [])) (.li (.ar .sub .i64 (.iv 6) (.cv .i64 (.ar .rem .u64 (.iv 9) (.cv .u64 (.iv 6))))) (.call 34 [(.iv 8), (.iv 17), (.iv 6)] [] [] 1 0 0 (.ret [(.iv 18), (.n 0)] [(.t true)] [])))))))))))))))))))))))))))))))))))))
theorem q_less_s {A B w : Nat} (hw : w = 32 ∨ w = 64) (hA : A < 2 ^ w) (hB : B < 2 ^ w) : F29 [(A : Int), (B : Int), (w : Int)] [true] [] = some ([], [decide (sg w A < sg w B)], []) := q_less hw hA hB
theorem q_less_u {A B w : Nat} (hw : w = 32 ∨ w = 64) (hA : A < 2 ^ w) (hB : B < 2 ^ w) : F29 [(A : Int), (B : Int), (w : Int)] [false] [] = some ([], [decide ((A : Int) < (B : Int))], []) := q_less hw hA hB
theorem not_lt' (x y : Int) : (!decide (x < y)) = decide (y ≤ x) := by by_cases h : x < y <;> simp [h] <;> omega
def SR (w A s : Nat) : Nat := if A < 2 ^ (w - 1) then A / 2 ^ s else A / 2 ^ s + (2 ^ w - 2 ^ (w - s))
def RL (w A n : Nat) : Nat := (A % 2 ^ (w - n)) * 2 ^ n + A / 2 ^ (w - n)
theorem wpos {w : Nat} (hw : w = 32 ∨ w = 64) : 0 < w ∧ w ≤ 64 := by omega
theorem shamt {w B : Nat} (hw : w = 32 ∨ w = 64) : IntKind.i64.wrap (arI .rem .u64 (B : Int) (IntKind.u64.wrap (w : Int))) = ((B % w : Nat) : Int) := by
  have h := Nat.mod_lt B (wpos hw).1
  rw [wuN (by omega)]
  show IntKind.i64.wrap ((B : Int).tmod (w : Int)) = _
  rw [tmn, wi (by omega) (by omega)]
theorem up_bits {w A s : Nat} (hs : s < w) (m : Nat) (hm : m < w) : (A * 2 ^ s % 2 ^ w).testBit m = (decide (s ≤ m) && A.testBit (m - s)) := by
  rw [Nat.testBit_mod_two_pow, decide_eq_true hm, Bool.true_and, Nat.testBit_mul_two_pow]
theorem pow_split {w s : Nat} (hs : s ≤ w) : 2 ^ w = 2 ^ s * 2 ^ (w - s) := by rw [← Nat.pow_add]; congr 1; omega
theorem div_lt {w A s : Nat} (hs : s ≤ w) (hA : A < 2 ^ w) : A / 2 ^ s < 2 ^ (w - s) := by
  rw [Nat.div_lt_iff_lt_mul (Nat.two_pow_pos _), Nat.mul_comm, ← pow_split hs]; exact hA
theorem top_bit {w A : Nat} (hw : 0 < w) (hA : A < 2 ^ w) : A.testBit (w - 1) = !decide (A < 2 ^ (w - 1)) := by
  by_cases h : A < 2 ^ (w - 1)
  · rw [Nat.testBit_lt_two_pow h, decide_eq_true h]; rfl
  · rw [decide_eq_false h]
    obtain ⟨k, rfl⟩ : ∃ k, w = k + 1 := ⟨w - 1, by omega⟩
    rw [Nat.add_sub_cancel] at h ⊢
    rw [show A = 2 ^ k * 1 + (A - 2 ^ k) by omega, Nat.testBit_two_pow_mul_add _ (by rw [Nat.pow_succ] at hA; omega), if_neg (by omega), Nat.sub_self]; rfl
theorem sr_eq {w A s : Nat} (hs : s ≤ w) (h : ¬ A < 2 ^ (w - 1)) : SR w A s = 2 ^ (w - s) * (2 ^ s - 1) + A / 2 ^ s := by
  unfold SR
  rw [if_neg h, Nat.mul_sub, Nat.mul_one, Nat.mul_comm (2 ^ (w - s)), ← pow_split hs]; omega
theorem sr_lt {w A s : Nat} (hs : s ≤ w) (hA : A < 2 ^ w) : SR w A s < 2 ^ w := by
  by_cases h : A < 2 ^ (w - 1)
  · unfold SR; rw [if_pos h]; exact Nat.lt_of_le_of_lt (Nat.div_le_self _ _) hA
  · have h1 := div_lt hs hA
    have h2 : 2 ^ (w - s) ≤ 2 ^ w := Nat.pow_le_pow_right (by decide) (by omega)
    unfold SR; rw [if_neg h]; omega
theorem sr_bits {w A s : Nat} (hs : s < w) (hA : A < 2 ^ w) (m : Nat) (hm : m < w) : (SR w A s).testBit m = if m + s < w then A.testBit (m + s) else A.testBit (w - 1) := by
  rw [top_bit (by omega) hA]
  by_cases h : A < 2 ^ (w - 1)
  · rw [decide_eq_true h]
    unfold SR; rw [if_pos h, Nat.testBit_div_two_pow]
    by_cases h2 : m + s < w
    · rw [if_pos h2, Nat.add_comm]
    · rw [if_neg h2, Nat.testBit_lt_two_pow (Nat.lt_of_lt_of_le hA (Nat.pow_le_pow_right (by decide) (by omega)))]; rfl
  · rw [decide_eq_false h, sr_eq (by omega) h, Nat.testBit_two_pow_mul_add _ (div_lt (by omega) hA), Nat.testBit_div_two_pow, Nat.testBit_two_pow_sub_one]
    by_cases h2 : m + s < w
    · rw [if_pos h2, if_pos (by omega), Nat.add_comm]
    · rw [if_neg h2, if_neg (by omega), decide_eq_true (by omega)]; rfl
theorem rl_lt {w A n : Nat} (hn : n ≤ w) (hA : A < 2 ^ w) : RL w A n < 2 ^ w := by
  have h1 : A / 2 ^ (w - n) < 2 ^ n := by have := div_lt (s := w - n) (by omega) hA; rwa [show w - (w - n) = n by omega] at this
  have h2 : A % 2 ^ (w - n) + 1 ≤ 2 ^ (w - n) := Nat.mod_lt _ (Nat.two_pow_pos _)
  have h3 := Nat.mul_le_mul_right (2 ^ n) h2
  rw [Nat.add_mul, Nat.mul_comm (2 ^ (w - n)), ← pow_split hn] at h3
  unfold RL; omega
theorem rl_bits {w A n : Nat} (hw : 0 < w) (hn : n ≤ w) (hA : A < 2 ^ w) (m : Nat) (hm : m < w) : (RL w A n).testBit m = A.testBit ((m + w - n % w) % w) := by
  have h1 : A / 2 ^ (w - n) < 2 ^ n := by have := div_lt (s := w - n) (by omega) hA; rwa [show w - (w - n) = n by omega] at this
  unfold RL
  rw [Nat.mul_comm, Nat.testBit_two_pow_mul_add _ h1]
  by_cases e : n = w
  · subst e
    rw [if_pos hm, Nat.sub_self, Nat.pow_zero, Nat.div_one, Nat.mod_self, Nat.sub_zero, Nat.add_mod_right, Nat.mod_eq_of_lt hm]
  · rw [Nat.mod_eq_of_lt (show n < w by omega)]
    by_cases h : m < n
    · rw [if_pos h, Nat.testBit_div_two_pow, Nat.mod_eq_of_lt (by omega)]; congr 1; omega
    · rw [if_neg h, Nat.testBit_mod_two_pow, decide_eq_true (by omega), Bool.true_and, show m + w - n = (m - n) + w by omega, Nat.add_mod_right, Nat.mod_eq_of_lt (by omega)]
theorem q_up' {A s w : Nat} (hw : w = 32 ∨ w = 64) (hs : s < w) : F33 [(A : Int), (s : Int), (w : Int), 0] [] [] = some ([((A * 2 ^ s % 2 ^ w : Nat) : Int)], [], []) :=
  q_up hw hs (Nat.mod_lt _ (Nat.two_pow_pos _)) fun m hm => up_bits hs m hm
theorem q_dn_s {A s w : Nat} (hw : w = 32 ∨ w = 64) (hs : s < w) (hA : A < 2 ^ w) : F33 [(A : Int), -(s : Int), (w : Int), (((A.testBit (w - 1)).toNat : Nat) : Int)] [] [] = some ([((SR w A s : Nat) : Int)], [], []) :=
  q_down hw hs (sr_lt (by omega) hA) fun m hm => sr_bits hs hA m hm
theorem q_dn_u {A s w : Nat} (hw : w = 32 ∨ w = 64) (hs : s < w) (hA : A < 2 ^ w) : F33 [(A : Int), -(s : Int), (w : Int), 0] [] [] = some ([((A / 2 ^ s : Nat) : Int)], [], []) :=
  q_down (fl := false) hw hs (Nat.lt_of_le_of_lt (Nat.div_le_self _ _) hA) fun m hm => by
    rw [Nat.testBit_div_two_pow]
    by_cases h : m + s < w
    · rw [if_pos h]
    · rw [if_neg h, Nat.testBit_lt_two_pow (Nat.lt_of_lt_of_le hA (Nat.pow_le_pow_right (by decide) (by omega)))]
theorem q_turn {A n w : Nat} (hw : w = 32 ∨ w = 64) (hn : n ≤ w) (hA : A < 2 ^ w) : F34 [(A : Int), (n : Int), (w : Int)] [] [] = some ([((RL w A n : Nat) : Int)], [], []) :=
  q_turned hw hn (rl_lt hn hA) fun m hm => rl_bits (wpos hw).1 hn hA m hm
theorem q_and (A B : Nat) (hA : A < 2 ^ 64) : F32 [(A : Int), (B : Int), 0] [] [] = some ([((A &&& B : Nat) : Int)], [], []) :=
  q_each (how := 0) (Nat.lt_of_le_of_lt Nat.and_le_left hA) (by decide) fun m _ => by rw [Nat.testBit_and]; rfl
theorem q_or (A B : Nat) (hA : A < 2 ^ 64) (hB : B < 2 ^ 64) : F32 [(A : Int), (B : Int), 1] [] [] = some ([((A ||| B : Nat) : Int)], [], []) :=
  q_each (how := 1) (Nat.or_lt_two_pow hA hB) (by decide) fun m _ => by rw [Nat.testBit_or]; rfl
theorem q_xor (A B : Nat) (hA : A < 2 ^ 64) (hB : B < 2 ^ 64) : F32 [(A : Int), (B : Int), 2] [] [] = some ([((A ^^^ B : Nat) : Int)], [], []) :=
  q_each (how := 2) (Nat.xor_lt_two_pow hA hB) (by decide) fun m _ => by rw [Nat.testBit_xor]; cases A.testBit m <;> cases B.testBit m <;> rfl
/-! Case by case. -/
theorem r_0 {a b w A B : Nat} {code : Int} {b0 : Bool} (hw : w = 32 ∨ w = 64) (ha : a < 2 ^ 64) (hb : b < 2 ^ 64) (hA : a % 2 ^ w = A) (hB : b % 2 ^ w = B) : K13.den (Tab.fn a13) [code, (a : Int), (b : Int), 0, 0, 0, (w : Int), 0] [b0, false] [] = some (.ret ([bif ((A : Int) == (B : Int)) then 1 else 0, 0], [true], [])) := by
  have lA : A < 2 ^ w := hA ▸ Nat.mod_lt _ (Nat.two_pow_pos _)
  have lB : B < 2 ^ w := hB ▸ Nat.mod_lt _ (Nat.two_pow_pos _)
  have l64 := pw hw
  have w0 := wpos hw
  unfold K13
  refine d_rq rfl ?_
  refine d_callx [(a : Int), (w : Int)] [] [] ([(A : Int)], [], []) e13_25 rfl rfl rfl (by rw [q_cut hw ha, hA]) rfl ?_
  refine d_callx [(b : Int), (w : Int)] [] [] ([(B : Int)], [], []) e13_25 rfl rfl rfl (by rw [q_cut hw hb, hB]) rfl ?_
  refine d_rq (ne_t (show IntKind.u64.wrap (w : Int) ≠ 0 by rw [wuN (by omega)]; omega)) ?_
  refine d_itT rfl ?_
  refine d_callx [] [((A : Int) == (B : Int))] [] ([bif ((A : Int) == (B : Int)) then 1 else 0], [], []) e13_26 rfl rfl rfl (q_one _) rfl ?_
  rfl
theorem r_1 {a b w A B : Nat} {code : Int} {b0 : Bool} (hw : w = 32 ∨ w = 64) (ha : a < 2 ^ 64) (hb : b < 2 ^ 64) (hA : a % 2 ^ w = A) (hB : b % 2 ^ w = B) : K13.den (Tab.fn a13) [code, (a : Int), (b : Int), 0, 0, 0, (w : Int), 1] [b0, false] [] = some (.ret ([bif ((A : Int) != (B : Int)) then 1 else 0, 0], [true], [])) := by
  have lA : A < 2 ^ w := hA ▸ Nat.mod_lt _ (Nat.two_pow_pos _)
  have lB : B < 2 ^ w := hB ▸ Nat.mod_lt _ (Nat.two_pow_pos _)
  have l64 := pw hw
  have w0 := wpos hw
  unfold K13
  refine d_rq rfl ?_
  refine d_callx [(a : Int), (w : Int)] [] [] ([(A : Int)], [], []) e13_25 rfl rfl rfl (by rw [q_cut hw ha, hA]) rfl ?_
  refine d_callx [(b : Int), (w : Int)] [] [] ([(B : Int)], [], []) e13_25 rfl rfl rfl (by rw [q_cut hw hb, hB]) rfl ?_
  refine d_rq (ne_t (show IntKind.u64.wrap (w : Int) ≠ 0 by rw [wuN (by omega)]; omega)) ?_
  refine d_itF rfl ?_
  refine d_itT rfl ?_
  refine d_callx [] [((A : Int) != (B : Int))] [] ([bif ((A : Int) != (B : Int)) then 1 else 0], [], []) e13_26 rfl rfl rfl (q_one _) rfl ?_
  rfl
theorem r_2 {a b w A B : Nat} {code : Int} {b0 : Bool} (hw : w = 32 ∨ w = 64) (ha : a < 2 ^ 64) (hb : b < 2 ^ 64) (hA : a % 2 ^ w = A) (hB : b % 2 ^ w = B) : K13.den (Tab.fn a13) [code, (a : Int), (b : Int), 0, 0, 0, (w : Int), 2] [b0, false] [] = some (.ret ([bif decide (sg w A < sg w B) then 1 else 0, 0], [true], [])) := by
  have lA : A < 2 ^ w := hA ▸ Nat.mod_lt _ (Nat.two_pow_pos _)
  have lB : B < 2 ^ w := hB ▸ Nat.mod_lt _ (Nat.two_pow_pos _)
  have l64 := pw hw
  have w0 := wpos hw
  unfold K13
  refine d_rq rfl ?_
  refine d_callx [(a : Int), (w : Int)] [] [] ([(A : Int)], [], []) e13_25 rfl rfl rfl (by rw [q_cut hw ha, hA]) rfl ?_
  refine d_callx [(b : Int), (w : Int)] [] [] ([(B : Int)], [], []) e13_25 rfl rfl rfl (by rw [q_cut hw hb, hB]) rfl ?_
  refine d_rq (ne_t (show IntKind.u64.wrap (w : Int) ≠ 0 by rw [wuN (by omega)]; omega)) ?_
  refine d_itF rfl ?_
  refine d_itF rfl ?_
  refine d_jn 0 ([], [true], []) rfl rfl (d_rq rfl (d_itT rfl ?_))
  refine d_callx [(A : Int), (B : Int), (w : Int)] [true] [] ([], [decide (sg w A < sg w B)], []) e13_29 rfl rfl rfl (q_less_s hw lA lB) rfl ?_
  refine d_callx [] [decide (sg w A < sg w B)] [] ([bif decide (sg w A < sg w B) then 1 else 0], [], []) e13_26 rfl rfl rfl (q_one _) rfl ?_
  rfl
theorem r_3 {a b w A B : Nat} {code : Int} {b0 : Bool} (hw : w = 32 ∨ w = 64) (ha : a < 2 ^ 64) (hb : b < 2 ^ 64) (hA : a % 2 ^ w = A) (hB : b % 2 ^ w = B) : K13.den (Tab.fn a13) [code, (a : Int), (b : Int), 0, 0, 0, (w : Int), 3] [b0, false] [] = some (.ret ([bif decide ((A : Int) < (B : Int)) then 1 else 0, 0], [true], [])) := by
  have lA : A < 2 ^ w := hA ▸ Nat.mod_lt _ (Nat.two_pow_pos _)
  have lB : B < 2 ^ w := hB ▸ Nat.mod_lt _ (Nat.two_pow_pos _)
  have l64 := pw hw
  have w0 := wpos hw
  unfold K13
  refine d_rq rfl ?_
  refine d_callx [(a : Int), (w : Int)] [] [] ([(A : Int)], [], []) e13_25 rfl rfl rfl (by rw [q_cut hw ha, hA]) rfl ?_
  refine d_callx [(b : Int), (w : Int)] [] [] ([(B : Int)], [], []) e13_25 rfl rfl rfl (by rw [q_cut hw hb, hB]) rfl ?_
  refine d_rq (ne_t (show IntKind.u64.wrap (w : Int) ≠ 0 by rw [wuN (by omega)]; omega)) ?_
  refine d_itF rfl ?_
  refine d_itF rfl ?_
  refine d_jn 0 ([], [true], []) rfl rfl (d_rq rfl (d_itT rfl ?_))
  refine d_callx [(A : Int), (B : Int), (w : Int)] [false] [] ([], [decide ((A : Int) < (B : Int))], []) e13_29 rfl rfl rfl (q_less_u hw lA lB) rfl ?_
  refine d_callx [] [decide ((A : Int) < (B : Int))] [] ([bif decide ((A : Int) < (B : Int)) then 1 else 0], [], []) e13_26 rfl rfl rfl (q_one _) rfl ?_
  rfl
theorem r_4 {a b w A B : Nat} {code : Int} {b0 : Bool} (hw : w = 32 ∨ w = 64) (ha : a < 2 ^ 64) (hb : b < 2 ^ 64) (hA : a % 2 ^ w = A) (hB : b % 2 ^ w = B) : K13.den (Tab.fn a13) [code, (a : Int), (b : Int), 0, 0, 0, (w : Int), 4] [b0, false] [] = some (.ret ([bif decide (sg w B < sg w A) then 1 else 0, 0], [true], [])) := by
  have lA : A < 2 ^ w := hA ▸ Nat.mod_lt _ (Nat.two_pow_pos _)
  have lB : B < 2 ^ w := hB ▸ Nat.mod_lt _ (Nat.two_pow_pos _)
  have l64 := pw hw
  have w0 := wpos hw
  unfold K13
  refine d_rq rfl ?_
  refine d_callx [(a : Int), (w : Int)] [] [] ([(A : Int)], [], []) e13_25 rfl rfl rfl (by rw [q_cut hw ha, hA]) rfl ?_
  refine d_callx [(b : Int), (w : Int)] [] [] ([(B : Int)], [], []) e13_25 rfl rfl rfl (by rw [q_cut hw hb, hB]) rfl ?_
  refine d_rq (ne_t (show IntKind.u64.wrap (w : Int) ≠ 0 by rw [wuN (by omega)]; omega)) ?_
  refine d_itF rfl ?_
  refine d_itF rfl ?_
  refine d_jn 0 ([], [false], []) rfl rfl (d_rq rfl (d_itF rfl ?_))
  refine d_jn 0 ([], [true], []) rfl rfl (d_rq rfl (d_itT rfl ?_))
  refine d_callx [(B : Int), (A : Int), (w : Int)] [true] [] ([], [decide (sg w B < sg w A)], []) e13_29 rfl rfl rfl (q_less_s hw lB lA) rfl ?_
  refine d_callx [] [decide (sg w B < sg w A)] [] ([bif decide (sg w B < sg w A) then 1 else 0], [], []) e13_26 rfl rfl rfl (q_one _) rfl ?_
  rfl
theorem r_5 {a b w A B : Nat} {code : Int} {b0 : Bool} (hw : w = 32 ∨ w = 64) (ha : a < 2 ^ 64) (hb : b < 2 ^ 64) (hA : a % 2 ^ w = A) (hB : b % 2 ^ w = B) : K13.den (Tab.fn a13) [code, (a : Int), (b : Int), 0, 0, 0, (w : Int), 5] [b0, false] [] = some (.ret ([bif decide ((B : Int) < (A : Int)) then 1 else 0, 0], [true], [])) := by
  have lA : A < 2 ^ w := hA ▸ Nat.mod_lt _ (Nat.two_pow_pos _)
  have lB : B < 2 ^ w := hB ▸ Nat.mod_lt _ (Nat.two_pow_pos _)
  have l64 := pw hw
  have w0 := wpos hw
  unfold K13
  refine d_rq rfl ?_
  refine d_callx [(a : Int), (w : Int)] [] [] ([(A : Int)], [], []) e13_25 rfl rfl rfl (by rw [q_cut hw ha, hA]) rfl ?_
  refine d_callx [(b : Int), (w : Int)] [] [] ([(B : Int)], [], []) e13_25 rfl rfl rfl (by rw [q_cut hw hb, hB]) rfl ?_
  refine d_rq (ne_t (show IntKind.u64.wrap (w : Int) ≠ 0 by rw [wuN (by omega)]; omega)) ?_
  refine d_itF rfl ?_
  refine d_itF rfl ?_
  refine d_jn 0 ([], [false], []) rfl rfl (d_rq rfl (d_itF rfl ?_))
  refine d_jn 0 ([], [true], []) rfl rfl (d_rq rfl (d_itT rfl ?_))
  refine d_callx [(B : Int), (A : Int), (w : Int)] [false] [] ([], [decide ((B : Int) < (A : Int))], []) e13_29 rfl rfl rfl (q_less_u hw lB lA) rfl ?_
  refine d_callx [] [decide ((B : Int) < (A : Int))] [] ([bif decide ((B : Int) < (A : Int)) then 1 else 0], [], []) e13_26 rfl rfl rfl (q_one _) rfl ?_
  rfl
theorem r_6 {a b w A B : Nat} {code : Int} {b0 : Bool} (hw : w = 32 ∨ w = 64) (ha : a < 2 ^ 64) (hb : b < 2 ^ 64) (hA : a % 2 ^ w = A) (hB : b % 2 ^ w = B) : K13.den (Tab.fn a13) [code, (a : Int), (b : Int), 0, 0, 0, (w : Int), 6] [b0, false] [] = some (.ret ([bif decide (sg w A ≤ sg w B) then 1 else 0, 0], [true], [])) := by
  have lA : A < 2 ^ w := hA ▸ Nat.mod_lt _ (Nat.two_pow_pos _)
  have lB : B < 2 ^ w := hB ▸ Nat.mod_lt _ (Nat.two_pow_pos _)
  have l64 := pw hw
  have w0 := wpos hw
  unfold K13
  refine d_rq rfl ?_
  refine d_callx [(a : Int), (w : Int)] [] [] ([(A : Int)], [], []) e13_25 rfl rfl rfl (by rw [q_cut hw ha, hA]) rfl ?_
  refine d_callx [(b : Int), (w : Int)] [] [] ([(B : Int)], [], []) e13_25 rfl rfl rfl (by rw [q_cut hw hb, hB]) rfl ?_
  refine d_rq (ne_t (show IntKind.u64.wrap (w : Int) ≠ 0 by rw [wuN (by omega)]; omega)) ?_
  refine d_itF rfl ?_
  refine d_itF rfl ?_
  refine d_jn 0 ([], [false], []) rfl rfl (d_rq rfl (d_itF rfl ?_))
  refine d_jn 0 ([], [false], []) rfl rfl (d_rq rfl (d_itF rfl ?_))
  refine d_jn 0 ([], [true], []) rfl rfl (d_rq rfl (d_itT rfl ?_))
  refine d_callx [(B : Int), (A : Int), (w : Int)] [true] [] ([], [decide (sg w B < sg w A)], []) e13_29 rfl rfl rfl (q_less_s hw lB lA) rfl ?_
  refine d_callx [] [decide (sg w A ≤ sg w B)] [] ([bif decide (sg w A ≤ sg w B) then 1 else 0], [], []) e13_26 rfl (by show [!decide (sg w B < sg w A)] = _; rw [not_lt']) rfl (q_one _) rfl ?_
  rfl
theorem r_7 {a b w A B : Nat} {code : Int} {b0 : Bool} (hw : w = 32 ∨ w = 64) (ha : a < 2 ^ 64) (hb : b < 2 ^ 64) (hA : a % 2 ^ w = A) (hB : b % 2 ^ w = B) : K13.den (Tab.fn a13) [code, (a : Int), (b : Int), 0, 0, 0, (w : Int), 7] [b0, false] [] = some (.ret ([bif decide ((A : Int) ≤ (B : Int)) then 1 else 0, 0], [true], [])) := by
  have lA : A < 2 ^ w := hA ▸ Nat.mod_lt _ (Nat.two_pow_pos _)
  have lB : B < 2 ^ w := hB ▸ Nat.mod_lt _ (Nat.two_pow_pos _)
  have l64 := pw hw
  have w0 := wpos hw
  unfold K13
  refine d_rq rfl ?_
  refine d_callx [(a : Int), (w : Int)] [] [] ([(A : Int)], [], []) e13_25 rfl rfl rfl (by rw [q_cut hw ha, hA]) rfl ?_
  refine d_callx [(b : Int), (w : Int)] [] [] ([(B : Int)], [], []) e13_25 rfl rfl rfl (by rw [q_cut hw hb, hB]) rfl ?_
  refine d_rq (ne_t (show IntKind.u64.wrap (w : Int) ≠ 0 by rw [wuN (by omega)]; omega)) ?_
  refine d_itF rfl ?_
  refine d_itF rfl ?_
  refine d_jn 0 ([], [false], []) rfl rfl (d_rq rfl (d_itF rfl ?_))
  refine d_jn 0 ([], [false], []) rfl rfl (d_rq rfl (d_itF rfl ?_))
  refine d_jn 0 ([], [true], []) rfl rfl (d_rq rfl (d_itT rfl ?_))
  refine d_callx [(B : Int), (A : Int), (w : Int)] [false] [] ([], [decide ((B : Int) < (A : Int))], []) e13_29 rfl rfl rfl (q_less_u hw lB lA) rfl ?_
  refine d_callx [] [decide ((A : Int) ≤ (B : Int))] [] ([bif decide ((A : Int) ≤ (B : Int)) then 1 else 0], [], []) e13_26 rfl (by show [!decide ((B : Int) < (A : Int))] = _; rw [not_lt']) rfl (q_one _) rfl ?_
  rfl
theorem r_8 {a b w A B : Nat} {code : Int} {b0 : Bool} (hw : w = 32 ∨ w = 64) (ha : a < 2 ^ 64) (hb : b < 2 ^ 64) (hA : a % 2 ^ w = A) (hB : b % 2 ^ w = B) : K13.den (Tab.fn a13) [code, (a : Int), (b : Int), 0, 0, 0, (w : Int), 8] [b0, false] [] = some (.ret ([bif decide (sg w B ≤ sg w A) then 1 else 0, 0], [true], [])) := by
  have lA : A < 2 ^ w := hA ▸ Nat.mod_lt _ (Nat.two_pow_pos _)
  have lB : B < 2 ^ w := hB ▸ Nat.mod_lt _ (Nat.two_pow_pos _)
  have l64 := pw hw
  have w0 := wpos hw
  unfold K13
  refine d_rq rfl ?_
  refine d_callx [(a : Int), (w : Int)] [] [] ([(A : Int)], [], []) e13_25 rfl rfl rfl (by rw [q_cut hw ha, hA]) rfl ?_
  refine d_callx [(b : Int), (w : Int)] [] [] ([(B : Int)], [], []) e13_25 rfl rfl rfl (by rw [q_cut hw hb, hB]) rfl ?_
  refine d_rq (ne_t (show IntKind.u64.wrap (w : Int) ≠ 0 by rw [wuN (by omega)]; omega)) ?_
  refine d_itF rfl ?_
  refine d_itF rfl ?_
  refine d_jn 0 ([], [false], []) rfl rfl (d_rq rfl (d_itF rfl ?_))
  refine d_jn 0 ([], [false], []) rfl rfl (d_rq rfl (d_itF rfl ?_))
  refine d_jn 0 ([], [false], []) rfl rfl (d_rq rfl (d_itF rfl ?_))
  refine d_jn 0 ([], [true], []) rfl rfl (d_rq rfl (d_itT rfl ?_))
  refine d_callx [(A : Int), (B : Int), (w : Int)] [true] [] ([], [decide (sg w A < sg w B)], []) e13_29 rfl rfl rfl (q_less_s hw lA lB) rfl ?_
  refine d_callx [] [decide (sg w B ≤ sg w A)] [] ([bif decide (sg w B ≤ sg w A) then 1 else 0], [], []) e13_26 rfl (by show [!decide (sg w A < sg w B)] = _; rw [not_lt']) rfl (q_one _) rfl ?_
  rfl
theorem r_9 {a b w A B : Nat} {code : Int} {b0 : Bool} (hw : w = 32 ∨ w = 64) (ha : a < 2 ^ 64) (hb : b < 2 ^ 64) (hA : a % 2 ^ w = A) (hB : b % 2 ^ w = B) : K13.den (Tab.fn a13) [code, (a : Int), (b : Int), 0, 0, 0, (w : Int), 9] [b0, false] [] = some (.ret ([bif decide ((B : Int) ≤ (A : Int)) then 1 else 0, 0], [true], [])) := by
  have lA : A < 2 ^ w := hA ▸ Nat.mod_lt _ (Nat.two_pow_pos _)
  have lB : B < 2 ^ w := hB ▸ Nat.mod_lt _ (Nat.two_pow_pos _)
  have l64 := pw hw
  have w0 := wpos hw
  unfold K13
  refine d_rq rfl ?_
  refine d_callx [(a : Int), (w : Int)] [] [] ([(A : Int)], [], []) e13_25 rfl rfl rfl (by rw [q_cut hw ha, hA]) rfl ?_
  refine d_callx [(b : Int), (w : Int)] [] [] ([(B : Int)], [], []) e13_25 rfl rfl rfl (by rw [q_cut hw hb, hB]) rfl ?_
  refine d_rq (ne_t (show IntKind.u64.wrap (w : Int) ≠ 0 by rw [wuN (by omega)]; omega)) ?_
  refine d_itF rfl ?_
  refine d_itF rfl ?_
  refine d_jn 0 ([], [false], []) rfl rfl (d_rq rfl (d_itF rfl ?_))
  refine d_jn 0 ([], [false], []) rfl rfl (d_rq rfl (d_itF rfl ?_))
  refine d_jn 0 ([], [false], []) rfl rfl (d_rq rfl (d_itF rfl ?_))
  refine d_jn 0 ([], [true], []) rfl rfl (d_rq rfl (d_itT rfl ?_))
  refine d_callx [(A : Int), (B : Int), (w : Int)] [false] [] ([], [decide ((A : Int) < (B : Int))], []) e13_29 rfl rfl rfl (q_less_u hw lA lB) rfl ?_
  refine d_callx [] [decide ((B : Int) ≤ (A : Int))] [] ([bif decide ((B : Int) ≤ (A : Int)) then 1 else 0], [], []) e13_26 rfl (by show [!decide ((A : Int) < (B : Int))] = _; rw [not_lt']) rfl (q_one _) rfl ?_
  rfl
theorem r_10 {a b w A B : Nat} {code : Int} {b0 : Bool} (hw : w = 32 ∨ w = 64) (ha : a < 2 ^ 64) (hb : b < 2 ^ 64) (hA : a % 2 ^ w = A) (hB : b % 2 ^ w = B) : K13.den (Tab.fn a13) [code, (a : Int), (b : Int), 0, 0, 0, (w : Int), 10] [b0, false] [] = some (.ret ([((A : Int) + (B : Int)) % 2 ^ w, 0], [true], [])) := by
  have lA : A < 2 ^ w := hA ▸ Nat.mod_lt _ (Nat.two_pow_pos _)
  have lB : B < 2 ^ w := hB ▸ Nat.mod_lt _ (Nat.two_pow_pos _)
  have l64 := pw hw
  have w0 := wpos hw
  unfold K13
  refine d_rq rfl ?_
  refine d_callx [(a : Int), (w : Int)] [] [] ([(A : Int)], [], []) e13_25 rfl rfl rfl (by rw [q_cut hw ha, hA]) rfl ?_
  refine d_callx [(b : Int), (w : Int)] [] [] ([(B : Int)], [], []) e13_25 rfl rfl rfl (by rw [q_cut hw hb, hB]) rfl ?_
  refine d_rq (ne_t (show IntKind.u64.wrap (w : Int) ≠ 0 by rw [wuN (by omega)]; omega)) ?_
  refine d_itF rfl ?_
  refine d_itF rfl ?_
  refine d_jn 0 ([], [false], []) rfl rfl (d_rq rfl (d_itF rfl ?_))
  refine d_jn 0 ([], [false], []) rfl rfl (d_rq rfl (d_itF rfl ?_))
  refine d_jn 0 ([], [false], []) rfl rfl (d_rq rfl (d_itF rfl ?_))
  refine d_jn 0 ([], [false], []) rfl rfl (d_rq rfl (d_itF rfl ?_))
  refine d_itT rfl ?_
  have e : arI .add .u64 (A : Int) (B : Int) = (((A + B) % 2 ^ 64 : Nat) : Int) := by show IntKind.u64.wrap _ = _; rw [wrap_u]; omega
  refine d_callx [(((A + B) % 2 ^ 64 : Nat) : Int), (w : Int)] [] [] ([((A : Int) + (B : Int)) % 2 ^ w], [], []) e13_25 (by show [arI .add .u64 (A : Int) (B : Int), (w : Int)] = _; rw [e]) rfl rfl (by rw [q_cut hw (Nat.mod_lt _ (by decide))]; rcases hw with rfl | rfl <;> (congr 3; omega)) rfl ?_
  rfl
theorem r_11 {a b w A B : Nat} {code : Int} {b0 : Bool} (hw : w = 32 ∨ w = 64) (ha : a < 2 ^ 64) (hb : b < 2 ^ 64) (hA : a % 2 ^ w = A) (hB : b % 2 ^ w = B) : K13.den (Tab.fn a13) [code, (a : Int), (b : Int), 0, 0, 0, (w : Int), 11] [b0, false] [] = some (.ret ([((A : Int) - (B : Int)) % 2 ^ w, 0], [true], [])) := by
  have lA : A < 2 ^ w := hA ▸ Nat.mod_lt _ (Nat.two_pow_pos _)
  have lB : B < 2 ^ w := hB ▸ Nat.mod_lt _ (Nat.two_pow_pos _)
  have l64 := pw hw
  have w0 := wpos hw
  unfold K13
  refine d_rq rfl ?_
  refine d_callx [(a : Int), (w : Int)] [] [] ([(A : Int)], [], []) e13_25 rfl rfl rfl (by rw [q_cut hw ha, hA]) rfl ?_
  refine d_callx [(b : Int), (w : Int)] [] [] ([(B : Int)], [], []) e13_25 rfl rfl rfl (by rw [q_cut hw hb, hB]) rfl ?_
  refine d_rq (ne_t (show IntKind.u64.wrap (w : Int) ≠ 0 by rw [wuN (by omega)]; omega)) ?_
  refine d_itF rfl ?_
  refine d_itF rfl ?_
  refine d_jn 0 ([], [false], []) rfl rfl (d_rq rfl (d_itF rfl ?_))
  refine d_jn 0 ([], [false], []) rfl rfl (d_rq rfl (d_itF rfl ?_))
  refine d_jn 0 ([], [false], []) rfl rfl (d_rq rfl (d_itF rfl ?_))
  refine d_jn 0 ([], [false], []) rfl rfl (d_rq rfl (d_itF rfl ?_))
  refine d_itF rfl ?_
  refine d_itT rfl ?_
  refine d_callx [(B : Int), (w : Int)] [] [] ([(((2 ^ 64 - B) % 2 ^ w : Nat) : Int)], [], []) e13_30 rfl rfl rfl (q_minus hw (by omega)) rfl ?_
  have e : arI .add .u64 (A : Int) (((2 ^ 64 - B) % 2 ^ w : Nat) : Int) = (((A + (2 ^ 64 - B) % 2 ^ w) % 2 ^ 64 : Nat) : Int) := by show IntKind.u64.wrap _ = _; rw [wrap_u]; omega
  refine d_callx [(((A + (2 ^ 64 - B) % 2 ^ w) % 2 ^ 64 : Nat) : Int), (w : Int)] [] [] ([((A : Int) - (B : Int)) % 2 ^ w], [], []) e13_25 (by show [arI .add .u64 (A : Int) (((2 ^ 64 - B) % 2 ^ w : Nat) : Int), (w : Int)] = _; rw [e]) rfl rfl (by rw [q_cut hw (Nat.mod_lt _ (by decide))]; rcases hw with rfl | rfl <;> (congr 3; omega)) rfl ?_
  rfl
theorem r_12 {a b w A B : Nat} {code : Int} {b0 : Bool} (hw : w = 32 ∨ w = 64) (ha : a < 2 ^ 64) (hb : b < 2 ^ 64) (hA : a % 2 ^ w = A) (hB : b % 2 ^ w = B) : K13.den (Tab.fn a13) [code, (a : Int), (b : Int), 0, 0, 0, (w : Int), 12] [b0, false] [] = some (.ret ([((A : Int) * (B : Int)) % 2 ^ w, 0], [true], [])) := by
  have lA : A < 2 ^ w := hA ▸ Nat.mod_lt _ (Nat.two_pow_pos _)
  have lB : B < 2 ^ w := hB ▸ Nat.mod_lt _ (Nat.two_pow_pos _)
  have l64 := pw hw
  have w0 := wpos hw
  unfold K13
  refine d_rq rfl ?_
  refine d_callx [(a : Int), (w : Int)] [] [] ([(A : Int)], [], []) e13_25 rfl rfl rfl (by rw [q_cut hw ha, hA]) rfl ?_
  refine d_callx [(b : Int), (w : Int)] [] [] ([(B : Int)], [], []) e13_25 rfl rfl rfl (by rw [q_cut hw hb, hB]) rfl ?_
  refine d_rq (ne_t (show IntKind.u64.wrap (w : Int) ≠ 0 by rw [wuN (by omega)]; omega)) ?_
  refine d_itF rfl ?_
  refine d_itF rfl ?_
  refine d_jn 0 ([], [false], []) rfl rfl (d_rq rfl (d_itF rfl ?_))
  refine d_jn 0 ([], [false], []) rfl rfl (d_rq rfl (d_itF rfl ?_))
  refine d_jn 0 ([], [false], []) rfl rfl (d_rq rfl (d_itF rfl ?_))
  refine d_jn 0 ([], [false], []) rfl rfl (d_rq rfl (d_itF rfl ?_))
  refine d_itF rfl ?_
  refine d_itF rfl ?_
  refine d_itT rfl ?_
  refine d_loop (fun i => ([((A * (B % 2 ^ i) % 2 ^ 64 : Nat) : Int), (i : Int)], [], [])) w (by omega) 4 ([((A * (B % 2 ^ w) % 2 ^ 64 : Nat) : Int), (w : Int)], [], []) ?_ (fun i hi => ?_) (fun _ _ => rfl) ?_ rfl ?_
  · show ([0, 0], [], []) = ([((A * (B % 2 ^ 0) % 2 ^ 64 : Nat) : Int), ((0 : Nat) : Int)], [], [])
    rw [Nat.pow_zero, Nat.mod_one, Nat.mul_zero]; rfl
  · show Vx.T.den _ l13_1 [code, (a : Int), (b : Int), 0, 0, 0, (w : Int), 12, (A : Int), (B : Int), 0, 0, 0, 0, ((A * (B % 2 ^ i) % 2 ^ 64 : Nat) : Int), (i : Int)] [b0, false, false, false, false, false] [] = _
    unfold l13_1
    refine d_itT (lt_t (show (i : Int) < (w : Int) by omega)) ?_
    refine d_callx [(B : Int), (i : Int)] [] [] _ e13_27 rfl rfl rfl (q_bit (by omega)) rfl ?_
    have e : B % 2 ^ (i + 1) = B % 2 ^ i + 2 ^ i * (B.testBit i).toNat := by rw [Nat.mod_pow_succ, ANumDoes.nat_bit]
    have ei : arI .add .i64 (i : Int) 1 = ((i + 1 : Nat) : Int) := by rw [addI (by omega) (by omega)]; omega
    dsimp only
    rw [e]
    have h1 : (A * (B % 2 ^ i) % 2 ^ 64) < 2 ^ 64 := Nat.mod_lt _ (by decide)
    cases hbit : B.testBit i with
    | true =>
      have es : arI .shl .u64 (A : Int) (IntKind.u64.wrap (i : Int)) = ((A * 2 ^ i % 2 ^ 64 : Nat) : Int) := by rw [wuN (by omega)]; exact ANumDoes.shlN A i (by omega)
      have ea : arI .add .u64 ((A * (B % 2 ^ i) % 2 ^ 64 : Nat) : Int) (arI .shl .u64 (A : Int) (IntKind.u64.wrap (i : Int))) = ((A * (B % 2 ^ i + 2 ^ i * (true).toNat) % 2 ^ 64 : Nat) : Int) := by
        rw [es, Bool.toNat_true, Nat.mul_one, Nat.mul_add, Nat.add_mod]
        show IntKind.u64.wrap _ = _
        rw [wrap_u]; omega
      refine d_jn 0 ([((A * (B % 2 ^ i + 2 ^ i * (true).toNat) % 2 ^ 64 : Nat) : Int)], [], []) (d_itT rfl (d_rq (ge_t (show (0 : Int) ≤ IntKind.u64.wrap (i : Int) by rw [wuN (by omega)]; omega)) ?_)) rfl (d_rq rfl ?_)
      · show some (Out.brk 0 ([arI .add .u64 ((A * (B % 2 ^ i) % 2 ^ 64 : Nat) : Int) (arI .shl .u64 (A : Int) (IntKind.u64.wrap (i : Int)))], [], [])) = _
        rw [ea]
      · show some (Out.nxt ([((A * (B % 2 ^ i + 2 ^ i * (true).toNat) % 2 ^ 64 : Nat) : Int), arI .add .i64 (i : Int) 1], [], [])) = _
        rw [ei]
    | false =>
      refine d_jn 0 ([((A * (B % 2 ^ i) % 2 ^ 64 : Nat) : Int)], [], []) (d_itF rfl rfl) rfl (d_rq rfl ?_)
      show some (Out.nxt ([((A * (B % 2 ^ i) % 2 ^ 64 : Nat) : Int), arI .add .i64 (i : Int) 1], [], [])) = _
      rw [ei, Bool.toNat_false, Nat.mul_zero, Nat.add_zero (B % 2 ^ i)]
  · show Vx.T.den _ l13_1 [code, (a : Int), (b : Int), 0, 0, 0, (w : Int), 12, (A : Int), (B : Int), 0, 0, 0, 0, ((A * (B % 2 ^ w) % 2 ^ 64 : Nat) : Int), (w : Int)] [b0, false, false, false, false, false] [] = _
    unfold l13_1
    exact d_itF (lt_f (show (w : Int) ≤ (w : Int) by omega)) rfl
  · unfold k13_2
    refine d_rq rfl ?_
    have hm : ((A * (B % 2 ^ w) % 2 ^ 64 % 2 ^ w : Nat) : Int) = ((A : Int) * (B : Int)) % 2 ^ w := by
      rw [Nat.mod_eq_of_lt lB, Nat.mod_mod_of_dvd _ (by rcases hw with rfl | rfl <;> decide)]
      rw [Int.natCast_emod, Int.natCast_mul, Int.natCast_pow]; rfl
    refine d_callx [((A * (B % 2 ^ w) % 2 ^ 64 : Nat) : Int), (w : Int)] [] [] ([((A : Int) * (B : Int)) % 2 ^ w], [], []) e13_25 rfl rfl rfl (by rw [q_cut hw (Nat.mod_lt _ (by decide)), hm]) rfl ?_
    rfl
theorem r_13 {a b w A B : Nat} {code : Int} {b0 : Bool} (hw : w = 32 ∨ w = 64) (ha : a < 2 ^ 64) (hb : b < 2 ^ 64) (hA : a % 2 ^ w = A) (hB : b % 2 ^ w = B) : K13.den (Tab.fn a13) [code, (a : Int), (b : Int), 0, 0, 0, (w : Int), 13] [b0, false] [] = some (.ret ([QD true w A B, TD true w A B], [true], [])) := by
  have lA : A < 2 ^ w := hA ▸ Nat.mod_lt _ (Nat.two_pow_pos _)
  have lB : B < 2 ^ w := hB ▸ Nat.mod_lt _ (Nat.two_pow_pos _)
  have l64 := pw hw
  have w0 := wpos hw
  unfold K13
  refine d_rq rfl ?_
  refine d_callx [(a : Int), (w : Int)] [] [] ([(A : Int)], [], []) e13_25 rfl rfl rfl (by rw [q_cut hw ha, hA]) rfl ?_
  refine d_callx [(b : Int), (w : Int)] [] [] ([(B : Int)], [], []) e13_25 rfl rfl rfl (by rw [q_cut hw hb, hB]) rfl ?_
  refine d_rq (ne_t (show IntKind.u64.wrap (w : Int) ≠ 0 by rw [wuN (by omega)]; omega)) ?_
  refine d_itF rfl ?_
  refine d_itF rfl ?_
  refine d_jn 0 ([], [false], []) rfl rfl (d_rq rfl (d_itF rfl ?_))
  refine d_jn 0 ([], [false], []) rfl rfl (d_rq rfl (d_itF rfl ?_))
  refine d_jn 0 ([], [false], []) rfl rfl (d_rq rfl (d_itF rfl ?_))
  refine d_jn 0 ([], [false], []) rfl rfl (d_rq rfl (d_itF rfl ?_))
  refine d_itF rfl ?_
  refine d_itF rfl ?_
  refine d_itF rfl ?_
  refine d_jn 0 ([], [true], []) rfl rfl (d_rq rfl (d_itT rfl ?_))
  refine d_callx [(A : Int), (B : Int), (w : Int)] [true] [] ([QD true w A B, QR true w A B, TD true w A B, TR B], [], []) e13_31 rfl rfl rfl (q_quot_s hw lA lB) rfl ?_
  rfl
theorem r_14 {a b w A B : Nat} {code : Int} {b0 : Bool} (hw : w = 32 ∨ w = 64) (ha : a < 2 ^ 64) (hb : b < 2 ^ 64) (hA : a % 2 ^ w = A) (hB : b % 2 ^ w = B) : K13.den (Tab.fn a13) [code, (a : Int), (b : Int), 0, 0, 0, (w : Int), 14] [b0, false] [] = some (.ret ([QD false w A B, TD false w A B], [true], [])) := by
  have lA : A < 2 ^ w := hA ▸ Nat.mod_lt _ (Nat.two_pow_pos _)
  have lB : B < 2 ^ w := hB ▸ Nat.mod_lt _ (Nat.two_pow_pos _)
  have l64 := pw hw
  have w0 := wpos hw
  unfold K13
  refine d_rq rfl ?_
  refine d_callx [(a : Int), (w : Int)] [] [] ([(A : Int)], [], []) e13_25 rfl rfl rfl (by rw [q_cut hw ha, hA]) rfl ?_
  refine d_callx [(b : Int), (w : Int)] [] [] ([(B : Int)], [], []) e13_25 rfl rfl rfl (by rw [q_cut hw hb, hB]) rfl ?_
  refine d_rq (ne_t (show IntKind.u64.wrap (w : Int) ≠ 0 by rw [wuN (by omega)]; omega)) ?_
  refine d_itF rfl ?_
  refine d_itF rfl ?_
  refine d_jn 0 ([], [false], []) rfl rfl (d_rq rfl (d_itF rfl ?_))
  refine d_jn 0 ([], [false], []) rfl rfl (d_rq rfl (d_itF rfl ?_))
  refine d_jn 0 ([], [false], []) rfl rfl (d_rq rfl (d_itF rfl ?_))
  refine d_jn 0 ([], [false], []) rfl rfl (d_rq rfl (d_itF rfl ?_))
  refine d_itF rfl ?_
  refine d_itF rfl ?_
  refine d_itF rfl ?_
  refine d_jn 0 ([], [true], []) rfl rfl (d_rq rfl (d_itT rfl ?_))
  refine d_callx [(A : Int), (B : Int), (w : Int)] [false] [] ([QD false w A B, QR false w A B, TD false w A B, TR B], [], []) e13_31 rfl rfl rfl (q_quot_u hw lA lB) rfl ?_
  rfl
theorem r_15 {a b w A B : Nat} {code : Int} {b0 : Bool} (hw : w = 32 ∨ w = 64) (ha : a < 2 ^ 64) (hb : b < 2 ^ 64) (hA : a % 2 ^ w = A) (hB : b % 2 ^ w = B) : K13.den (Tab.fn a13) [code, (a : Int), (b : Int), 0, 0, 0, (w : Int), 15] [b0, false] [] = some (.ret ([QR true w A B, TR B], [true], [])) := by
  have lA : A < 2 ^ w := hA ▸ Nat.mod_lt _ (Nat.two_pow_pos _)
  have lB : B < 2 ^ w := hB ▸ Nat.mod_lt _ (Nat.two_pow_pos _)
  have l64 := pw hw
  have w0 := wpos hw
  unfold K13
  refine d_rq rfl ?_
  refine d_callx [(a : Int), (w : Int)] [] [] ([(A : Int)], [], []) e13_25 rfl rfl rfl (by rw [q_cut hw ha, hA]) rfl ?_
  refine d_callx [(b : Int), (w : Int)] [] [] ([(B : Int)], [], []) e13_25 rfl rfl rfl (by rw [q_cut hw hb, hB]) rfl ?_
  refine d_rq (ne_t (show IntKind.u64.wrap (w : Int) ≠ 0 by rw [wuN (by omega)]; omega)) ?_
  refine d_itF rfl ?_
  refine d_itF rfl ?_
  refine d_jn 0 ([], [false], []) rfl rfl (d_rq rfl (d_itF rfl ?_))
  refine d_jn 0 ([], [false], []) rfl rfl (d_rq rfl (d_itF rfl ?_))
  refine d_jn 0 ([], [false], []) rfl rfl (d_rq rfl (d_itF rfl ?_))
  refine d_jn 0 ([], [false], []) rfl rfl (d_rq rfl (d_itF rfl ?_))
  refine d_itF rfl ?_
  refine d_itF rfl ?_
  refine d_itF rfl ?_
  refine d_jn 0 ([], [false], []) rfl rfl (d_rq rfl (d_itF rfl ?_))
  refine d_jn 0 ([], [true], []) rfl rfl (d_rq rfl (d_itT rfl ?_))
  refine d_callx [(A : Int), (B : Int), (w : Int)] [true] [] ([QD true w A B, QR true w A B, TD true w A B, TR B], [], []) e13_31 rfl rfl rfl (q_quot_s hw lA lB) rfl ?_
  rfl
theorem r_16 {a b w A B : Nat} {code : Int} {b0 : Bool} (hw : w = 32 ∨ w = 64) (ha : a < 2 ^ 64) (hb : b < 2 ^ 64) (hA : a % 2 ^ w = A) (hB : b % 2 ^ w = B) : K13.den (Tab.fn a13) [code, (a : Int), (b : Int), 0, 0, 0, (w : Int), 16] [b0, false] [] = some (.ret ([QR false w A B, TR B], [true], [])) := by
  have lA : A < 2 ^ w := hA ▸ Nat.mod_lt _ (Nat.two_pow_pos _)
  have lB : B < 2 ^ w := hB ▸ Nat.mod_lt _ (Nat.two_pow_pos _)
  have l64 := pw hw
  have w0 := wpos hw
  unfold K13
  refine d_rq rfl ?_
  refine d_callx [(a : Int), (w : Int)] [] [] ([(A : Int)], [], []) e13_25 rfl rfl rfl (by rw [q_cut hw ha, hA]) rfl ?_
  refine d_callx [(b : Int), (w : Int)] [] [] ([(B : Int)], [], []) e13_25 rfl rfl rfl (by rw [q_cut hw hb, hB]) rfl ?_
  refine d_rq (ne_t (show IntKind.u64.wrap (w : Int) ≠ 0 by rw [wuN (by omega)]; omega)) ?_
  refine d_itF rfl ?_
  refine d_itF rfl ?_
  refine d_jn 0 ([], [false], []) rfl rfl (d_rq rfl (d_itF rfl ?_))
  refine d_jn 0 ([], [false], []) rfl rfl (d_rq rfl (d_itF rfl ?_))
  refine d_jn 0 ([], [false], []) rfl rfl (d_rq rfl (d_itF rfl ?_))
  refine d_jn 0 ([], [false], []) rfl rfl (d_rq rfl (d_itF rfl ?_))
  refine d_itF rfl ?_
  refine d_itF rfl ?_
  refine d_itF rfl ?_
  refine d_jn 0 ([], [false], []) rfl rfl (d_rq rfl (d_itF rfl ?_))
  refine d_jn 0 ([], [true], []) rfl rfl (d_rq rfl (d_itT rfl ?_))
  refine d_callx [(A : Int), (B : Int), (w : Int)] [false] [] ([QD false w A B, QR false w A B, TD false w A B, TR B], [], []) e13_31 rfl rfl rfl (q_quot_u hw lA lB) rfl ?_
  rfl
theorem r_17 {a b w A B : Nat} {code : Int} {b0 : Bool} (hw : w = 32 ∨ w = 64) (ha : a < 2 ^ 64) (hb : b < 2 ^ 64) (hA : a % 2 ^ w = A) (hB : b % 2 ^ w = B) : K13.den (Tab.fn a13) [code, (a : Int), (b : Int), 0, 0, 0, (w : Int), 17] [b0, false] [] = some (.ret ([((A &&& B : Nat) : Int), 0], [true], [])) := by
  have lA : A < 2 ^ w := hA ▸ Nat.mod_lt _ (Nat.two_pow_pos _)
  have lB : B < 2 ^ w := hB ▸ Nat.mod_lt _ (Nat.two_pow_pos _)
  have l64 := pw hw
  have w0 := wpos hw
  unfold K13
  refine d_rq rfl ?_
  refine d_callx [(a : Int), (w : Int)] [] [] ([(A : Int)], [], []) e13_25 rfl rfl rfl (by rw [q_cut hw ha, hA]) rfl ?_
  refine d_callx [(b : Int), (w : Int)] [] [] ([(B : Int)], [], []) e13_25 rfl rfl rfl (by rw [q_cut hw hb, hB]) rfl ?_
  refine d_rq (ne_t (show IntKind.u64.wrap (w : Int) ≠ 0 by rw [wuN (by omega)]; omega)) ?_
  refine d_itF rfl ?_
  refine d_itF rfl ?_
  refine d_jn 0 ([], [false], []) rfl rfl (d_rq rfl (d_itF rfl ?_))
  refine d_jn 0 ([], [false], []) rfl rfl (d_rq rfl (d_itF rfl ?_))
  refine d_jn 0 ([], [false], []) rfl rfl (d_rq rfl (d_itF rfl ?_))
  refine d_jn 0 ([], [false], []) rfl rfl (d_rq rfl (d_itF rfl ?_))
  refine d_itF rfl ?_
  refine d_itF rfl ?_
  refine d_itF rfl ?_
  refine d_jn 0 ([], [false], []) rfl rfl (d_rq rfl (d_itF rfl ?_))
  refine d_jn 0 ([], [false], []) rfl rfl (d_rq rfl (d_itF rfl ?_))
  refine d_jn 0 ([], [true], []) rfl rfl (d_rq rfl (d_itT rfl ?_))
  refine d_callx [(A : Int), (B : Int), 0] [] [] ([((A &&& B : Nat) : Int)], [], []) e13_32 rfl rfl rfl (q_and A B (by omega)) rfl ?_
  rfl
theorem r_18 {a b w A B : Nat} {code : Int} {b0 : Bool} (hw : w = 32 ∨ w = 64) (ha : a < 2 ^ 64) (hb : b < 2 ^ 64) (hA : a % 2 ^ w = A) (hB : b % 2 ^ w = B) : K13.den (Tab.fn a13) [code, (a : Int), (b : Int), 0, 0, 0, (w : Int), 18] [b0, false] [] = some (.ret ([((A ||| B : Nat) : Int), 0], [true], [])) := by
  have lA : A < 2 ^ w := hA ▸ Nat.mod_lt _ (Nat.two_pow_pos _)
  have lB : B < 2 ^ w := hB ▸ Nat.mod_lt _ (Nat.two_pow_pos _)
  have l64 := pw hw
  have w0 := wpos hw
  unfold K13
  refine d_rq rfl ?_
  refine d_callx [(a : Int), (w : Int)] [] [] ([(A : Int)], [], []) e13_25 rfl rfl rfl (by rw [q_cut hw ha, hA]) rfl ?_
  refine d_callx [(b : Int), (w : Int)] [] [] ([(B : Int)], [], []) e13_25 rfl rfl rfl (by rw [q_cut hw hb, hB]) rfl ?_
  refine d_rq (ne_t (show IntKind.u64.wrap (w : Int) ≠ 0 by rw [wuN (by omega)]; omega)) ?_
  refine d_itF rfl ?_
  refine d_itF rfl ?_
  refine d_jn 0 ([], [false], []) rfl rfl (d_rq rfl (d_itF rfl ?_))
  refine d_jn 0 ([], [false], []) rfl rfl (d_rq rfl (d_itF rfl ?_))
  refine d_jn 0 ([], [false], []) rfl rfl (d_rq rfl (d_itF rfl ?_))
  refine d_jn 0 ([], [false], []) rfl rfl (d_rq rfl (d_itF rfl ?_))
  refine d_itF rfl ?_
  refine d_itF rfl ?_
  refine d_itF rfl ?_
  refine d_jn 0 ([], [false], []) rfl rfl (d_rq rfl (d_itF rfl ?_))
  refine d_jn 0 ([], [false], []) rfl rfl (d_rq rfl (d_itF rfl ?_))
  refine d_jn 0 ([], [true], []) rfl rfl (d_rq rfl (d_itT rfl ?_))
  refine d_callx [(A : Int), (B : Int), 1] [] [] ([((A ||| B : Nat) : Int)], [], []) e13_32 rfl rfl rfl (q_or A B (by omega) (by omega)) rfl ?_
  rfl
theorem r_19 {a b w A B : Nat} {code : Int} {b0 : Bool} (hw : w = 32 ∨ w = 64) (ha : a < 2 ^ 64) (hb : b < 2 ^ 64) (hA : a % 2 ^ w = A) (hB : b % 2 ^ w = B) : K13.den (Tab.fn a13) [code, (a : Int), (b : Int), 0, 0, 0, (w : Int), 19] [b0, false] [] = some (.ret ([((A ^^^ B : Nat) : Int), 0], [true], [])) := by
  have lA : A < 2 ^ w := hA ▸ Nat.mod_lt _ (Nat.two_pow_pos _)
  have lB : B < 2 ^ w := hB ▸ Nat.mod_lt _ (Nat.two_pow_pos _)
  have l64 := pw hw
  have w0 := wpos hw
  unfold K13
  refine d_rq rfl ?_
  refine d_callx [(a : Int), (w : Int)] [] [] ([(A : Int)], [], []) e13_25 rfl rfl rfl (by rw [q_cut hw ha, hA]) rfl ?_
  refine d_callx [(b : Int), (w : Int)] [] [] ([(B : Int)], [], []) e13_25 rfl rfl rfl (by rw [q_cut hw hb, hB]) rfl ?_
  refine d_rq (ne_t (show IntKind.u64.wrap (w : Int) ≠ 0 by rw [wuN (by omega)]; omega)) ?_
  refine d_itF rfl ?_
  refine d_itF rfl ?_
  refine d_jn 0 ([], [false], []) rfl rfl (d_rq rfl (d_itF rfl ?_))
  refine d_jn 0 ([], [false], []) rfl rfl (d_rq rfl (d_itF rfl ?_))
  refine d_jn 0 ([], [false], []) rfl rfl (d_rq rfl (d_itF rfl ?_))
  refine d_jn 0 ([], [false], []) rfl rfl (d_rq rfl (d_itF rfl ?_))
  refine d_itF rfl ?_
  refine d_itF rfl ?_
  refine d_itF rfl ?_
  refine d_jn 0 ([], [false], []) rfl rfl (d_rq rfl (d_itF rfl ?_))
  refine d_jn 0 ([], [false], []) rfl rfl (d_rq rfl (d_itF rfl ?_))
  refine d_jn 0 ([], [true], []) rfl rfl (d_rq rfl (d_itT rfl ?_))
  refine d_callx [(A : Int), (B : Int), 2] [] [] ([((A ^^^ B : Nat) : Int)], [], []) e13_32 rfl rfl rfl (q_xor A B (by omega) (by omega)) rfl ?_
  rfl
theorem r_20 {a b w A B : Nat} {code : Int} {b0 : Bool} (hw : w = 32 ∨ w = 64) (ha : a < 2 ^ 64) (hb : b < 2 ^ 64) (hA : a % 2 ^ w = A) (hB : b % 2 ^ w = B) : K13.den (Tab.fn a13) [code, (a : Int), (b : Int), 0, 0, 0, (w : Int), 20] [b0, false] [] = some (.ret ([((A * 2 ^ (B % w) % 2 ^ w : Nat) : Int), 0], [true], [])) := by
  have lA : A < 2 ^ w := hA ▸ Nat.mod_lt _ (Nat.two_pow_pos _)
  have lB : B < 2 ^ w := hB ▸ Nat.mod_lt _ (Nat.two_pow_pos _)
  have l64 := pw hw
  have w0 := wpos hw
  unfold K13
  refine d_rq rfl ?_
  refine d_callx [(a : Int), (w : Int)] [] [] ([(A : Int)], [], []) e13_25 rfl rfl rfl (by rw [q_cut hw ha, hA]) rfl ?_
  refine d_callx [(b : Int), (w : Int)] [] [] ([(B : Int)], [], []) e13_25 rfl rfl rfl (by rw [q_cut hw hb, hB]) rfl ?_
  refine d_rq (ne_t (show IntKind.u64.wrap (w : Int) ≠ 0 by rw [wuN (by omega)]; omega)) ?_
  refine d_itF rfl ?_
  refine d_itF rfl ?_
  refine d_jn 0 ([], [false], []) rfl rfl (d_rq rfl (d_itF rfl ?_))
  refine d_jn 0 ([], [false], []) rfl rfl (d_rq rfl (d_itF rfl ?_))
  refine d_jn 0 ([], [false], []) rfl rfl (d_rq rfl (d_itF rfl ?_))
  refine d_jn 0 ([], [false], []) rfl rfl (d_rq rfl (d_itF rfl ?_))
  refine d_itF rfl ?_
  refine d_itF rfl ?_
  refine d_itF rfl ?_
  refine d_jn 0 ([], [false], []) rfl rfl (d_rq rfl (d_itF rfl ?_))
  refine d_jn 0 ([], [false], []) rfl rfl (d_rq rfl (d_itF rfl ?_))
  refine d_jn 0 ([], [false], []) rfl rfl (d_rq rfl (d_itF rfl ?_))
  refine d_itT rfl ?_
  have hs : B % w < w := Nat.mod_lt _ w0.1
  have sh : IntKind.i64.wrap (arI .rem .u64 (B : Int) (IntKind.u64.wrap (w : Int))) = ((B % w : Nat) : Int) := shamt hw
  refine d_callx [(A : Int), ((B % w : Nat) : Int), (w : Int), 0] [] [] ([((A * 2 ^ (B % w) % 2 ^ w : Nat) : Int)], [], []) e13_33 (by show [(A : Int), IntKind.i64.wrap (arI .rem .u64 (B : Int) (IntKind.u64.wrap (w : Int))), (w : Int), 0] = _; rw [sh]) rfl rfl (q_up' hw hs) rfl ?_
  rfl
theorem r_21 {a b w A B : Nat} {code : Int} {b0 : Bool} (hw : w = 32 ∨ w = 64) (ha : a < 2 ^ 64) (hb : b < 2 ^ 64) (hA : a % 2 ^ w = A) (hB : b % 2 ^ w = B) : K13.den (Tab.fn a13) [code, (a : Int), (b : Int), 0, 0, 0, (w : Int), 21] [b0, false] [] = some (.ret ([((SR w A (B % w) : Nat) : Int), 0], [true], [])) := by
  have lA : A < 2 ^ w := hA ▸ Nat.mod_lt _ (Nat.two_pow_pos _)
  have lB : B < 2 ^ w := hB ▸ Nat.mod_lt _ (Nat.two_pow_pos _)
  have l64 := pw hw
  have w0 := wpos hw
  unfold K13
  refine d_rq rfl ?_
  refine d_callx [(a : Int), (w : Int)] [] [] ([(A : Int)], [], []) e13_25 rfl rfl rfl (by rw [q_cut hw ha, hA]) rfl ?_
  refine d_callx [(b : Int), (w : Int)] [] [] ([(B : Int)], [], []) e13_25 rfl rfl rfl (by rw [q_cut hw hb, hB]) rfl ?_
  refine d_rq (ne_t (show IntKind.u64.wrap (w : Int) ≠ 0 by rw [wuN (by omega)]; omega)) ?_
  refine d_itF rfl ?_
  refine d_itF rfl ?_
  refine d_jn 0 ([], [false], []) rfl rfl (d_rq rfl (d_itF rfl ?_))
  refine d_jn 0 ([], [false], []) rfl rfl (d_rq rfl (d_itF rfl ?_))
  refine d_jn 0 ([], [false], []) rfl rfl (d_rq rfl (d_itF rfl ?_))
  refine d_jn 0 ([], [false], []) rfl rfl (d_rq rfl (d_itF rfl ?_))
  refine d_itF rfl ?_
  refine d_itF rfl ?_
  refine d_itF rfl ?_
  refine d_jn 0 ([], [false], []) rfl rfl (d_rq rfl (d_itF rfl ?_))
  refine d_jn 0 ([], [false], []) rfl rfl (d_rq rfl (d_itF rfl ?_))
  refine d_jn 0 ([], [false], []) rfl rfl (d_rq rfl (d_itF rfl ?_))
  refine d_itF rfl ?_
  refine d_itT rfl ?_
  have hs : B % w < w := Nat.mod_lt _ w0.1
  have sh : IntKind.i64.wrap (arI .rem .u64 (B : Int) (IntKind.u64.wrap (w : Int))) = ((B % w : Nat) : Int) := shamt hw
  have qd := q_dn_s hw hs lA
  generalize SR w A (B % w) = V at *
  refine d_li (-((B % w : Nat) : Int)) (by show arI .sub .i64 0 (IntKind.i64.wrap (arI .rem .u64 (B : Int) (IntKind.u64.wrap (w : Int)))) = _; rw [sh, subI (by omega) (by omega)]; omega) ?_
  refine d_callx [(A : Int), ((w - 1 : Nat) : Int)] [] [] ([(((A.testBit (w - 1)).toNat : Nat) : Int)], [], []) e13_27 (by show [(A : Int), arI .sub .i64 (w : Int) 1] = _; rw [wm1 hw]; congr 2; omega) rfl rfl (q_bit (by omega)) rfl ?_
  refine d_callx [(A : Int), -((B % w : Nat) : Int), (w : Int), (((A.testBit (w - 1)).toNat : Nat) : Int)] [] [] ([(V : Int)], [], []) e13_33 rfl rfl rfl qd rfl ?_
  rfl
theorem r_22 {a b w A B : Nat} {code : Int} {b0 : Bool} (hw : w = 32 ∨ w = 64) (ha : a < 2 ^ 64) (hb : b < 2 ^ 64) (hA : a % 2 ^ w = A) (hB : b % 2 ^ w = B) : K13.den (Tab.fn a13) [code, (a : Int), (b : Int), 0, 0, 0, (w : Int), 22] [b0, false] [] = some (.ret ([((A / 2 ^ (B % w) : Nat) : Int), 0], [true], [])) := by
  have lA : A < 2 ^ w := hA ▸ Nat.mod_lt _ (Nat.two_pow_pos _)
  have lB : B < 2 ^ w := hB ▸ Nat.mod_lt _ (Nat.two_pow_pos _)
  have l64 := pw hw
  have w0 := wpos hw
  unfold K13
  refine d_rq rfl ?_
  refine d_callx [(a : Int), (w : Int)] [] [] ([(A : Int)], [], []) e13_25 rfl rfl rfl (by rw [q_cut hw ha, hA]) rfl ?_
  refine d_callx [(b : Int), (w : Int)] [] [] ([(B : Int)], [], []) e13_25 rfl rfl rfl (by rw [q_cut hw hb, hB]) rfl ?_
  refine d_rq (ne_t (show IntKind.u64.wrap (w : Int) ≠ 0 by rw [wuN (by omega)]; omega)) ?_
  refine d_itF rfl ?_
  refine d_itF rfl ?_
  refine d_jn 0 ([], [false], []) rfl rfl (d_rq rfl (d_itF rfl ?_))
  refine d_jn 0 ([], [false], []) rfl rfl (d_rq rfl (d_itF rfl ?_))
  refine d_jn 0 ([], [false], []) rfl rfl (d_rq rfl (d_itF rfl ?_))
  refine d_jn 0 ([], [false], []) rfl rfl (d_rq rfl (d_itF rfl ?_))
  refine d_itF rfl ?_
  refine d_itF rfl ?_
  refine d_itF rfl ?_
  refine d_jn 0 ([], [false], []) rfl rfl (d_rq rfl (d_itF rfl ?_))
  refine d_jn 0 ([], [false], []) rfl rfl (d_rq rfl (d_itF rfl ?_))
  refine d_jn 0 ([], [false], []) rfl rfl (d_rq rfl (d_itF rfl ?_))
  refine d_itF rfl ?_
  refine d_itF rfl ?_
  refine d_itT rfl ?_
  have hs : B % w < w := Nat.mod_lt _ w0.1
  have sh : IntKind.i64.wrap (arI .rem .u64 (B : Int) (IntKind.u64.wrap (w : Int))) = ((B % w : Nat) : Int) := shamt hw
  refine d_li (-((B % w : Nat) : Int)) (by show arI .sub .i64 0 (IntKind.i64.wrap (arI .rem .u64 (B : Int) (IntKind.u64.wrap (w : Int)))) = _; rw [sh, subI (by omega) (by omega)]; omega) ?_
  refine d_callx [(A : Int), -((B % w : Nat) : Int), (w : Int), 0] [] [] ([((A / 2 ^ (B % w) : Nat) : Int)], [], []) e13_33 rfl rfl rfl (q_dn_u hw hs lA) rfl ?_
  rfl
theorem r_23 {a b w A B : Nat} {code : Int} {b0 : Bool} (hw : w = 32 ∨ w = 64) (ha : a < 2 ^ 64) (hb : b < 2 ^ 64) (hA : a % 2 ^ w = A) (hB : b % 2 ^ w = B) : K13.den (Tab.fn a13) [code, (a : Int), (b : Int), 0, 0, 0, (w : Int), 23] [b0, false] [] = some (.ret ([((RL w A (B % w) : Nat) : Int), 0], [true], [])) := by
  have lA : A < 2 ^ w := hA ▸ Nat.mod_lt _ (Nat.two_pow_pos _)
  have lB : B < 2 ^ w := hB ▸ Nat.mod_lt _ (Nat.two_pow_pos _)
  have l64 := pw hw
  have w0 := wpos hw
  unfold K13
  refine d_rq rfl ?_
  refine d_callx [(a : Int), (w : Int)] [] [] ([(A : Int)], [], []) e13_25 rfl rfl rfl (by rw [q_cut hw ha, hA]) rfl ?_
  refine d_callx [(b : Int), (w : Int)] [] [] ([(B : Int)], [], []) e13_25 rfl rfl rfl (by rw [q_cut hw hb, hB]) rfl ?_
  refine d_rq (ne_t (show IntKind.u64.wrap (w : Int) ≠ 0 by rw [wuN (by omega)]; omega)) ?_
  refine d_itF rfl ?_
  refine d_itF rfl ?_
  refine d_jn 0 ([], [false], []) rfl rfl (d_rq rfl (d_itF rfl ?_))
  refine d_jn 0 ([], [false], []) rfl rfl (d_rq rfl (d_itF rfl ?_))
  refine d_jn 0 ([], [false], []) rfl rfl (d_rq rfl (d_itF rfl ?_))
  refine d_jn 0 ([], [false], []) rfl rfl (d_rq rfl (d_itF rfl ?_))
  refine d_itF rfl ?_
  refine d_itF rfl ?_
  refine d_itF rfl ?_
  refine d_jn 0 ([], [false], []) rfl rfl (d_rq rfl (d_itF rfl ?_))
  refine d_jn 0 ([], [false], []) rfl rfl (d_rq rfl (d_itF rfl ?_))
  refine d_jn 0 ([], [false], []) rfl rfl (d_rq rfl (d_itF rfl ?_))
  refine d_itF rfl ?_
  refine d_itF rfl ?_
  refine d_itF rfl ?_
  refine d_itT rfl ?_
  have hs : B % w < w := Nat.mod_lt _ w0.1
  have sh : IntKind.i64.wrap (arI .rem .u64 (B : Int) (IntKind.u64.wrap (w : Int))) = ((B % w : Nat) : Int) := shamt hw
  refine d_callx [(A : Int), ((B % w : Nat) : Int), (w : Int)] [] [] ([((RL w A (B % w) : Nat) : Int)], [], []) e13_34 (by show [(A : Int), IntKind.i64.wrap (arI .rem .u64 (B : Int) (IntKind.u64.wrap (w : Int))), (w : Int)] = _; rw [sh]) rfl rfl (q_turn hw (by omega) lA) rfl ?_
  rfl
theorem r_24 {a b w A B : Nat} {code : Int} {b0 : Bool} (hw : w = 32 ∨ w = 64) (ha : a < 2 ^ 64) (hb : b < 2 ^ 64) (hA : a % 2 ^ w = A) (hB : b % 2 ^ w = B) : K13.den (Tab.fn a13) [code, (a : Int), (b : Int), 0, 0, 0, (w : Int), 24] [b0, false] [] = some (.ret ([((RL w A (w - B % w) : Nat) : Int), 0], [true], [])) := by
  have lA : A < 2 ^ w := hA ▸ Nat.mod_lt _ (Nat.two_pow_pos _)
  have lB : B < 2 ^ w := hB ▸ Nat.mod_lt _ (Nat.two_pow_pos _)
  have l64 := pw hw
  have w0 := wpos hw
  unfold K13
  refine d_rq rfl ?_
  refine d_callx [(a : Int), (w : Int)] [] [] ([(A : Int)], [], []) e13_25 rfl rfl rfl (by rw [q_cut hw ha, hA]) rfl ?_
  refine d_callx [(b : Int), (w : Int)] [] [] ([(B : Int)], [], []) e13_25 rfl rfl rfl (by rw [q_cut hw hb, hB]) rfl ?_
  refine d_rq (ne_t (show IntKind.u64.wrap (w : Int) ≠ 0 by rw [wuN (by omega)]; omega)) ?_
  refine d_itF rfl ?_
  refine d_itF rfl ?_
  refine d_jn 0 ([], [false], []) rfl rfl (d_rq rfl (d_itF rfl ?_))
  refine d_jn 0 ([], [false], []) rfl rfl (d_rq rfl (d_itF rfl ?_))
  refine d_jn 0 ([], [false], []) rfl rfl (d_rq rfl (d_itF rfl ?_))
  refine d_jn 0 ([], [false], []) rfl rfl (d_rq rfl (d_itF rfl ?_))
  refine d_itF rfl ?_
  refine d_itF rfl ?_
  refine d_itF rfl ?_
  refine d_jn 0 ([], [false], []) rfl rfl (d_rq rfl (d_itF rfl ?_))
  refine d_jn 0 ([], [false], []) rfl rfl (d_rq rfl (d_itF rfl ?_))
  refine d_jn 0 ([], [false], []) rfl rfl (d_rq rfl (d_itF rfl ?_))
  refine d_itF rfl ?_
  refine d_itF rfl ?_
  refine d_itF rfl ?_
  refine d_itF rfl ?_
  have hs : B % w < w := Nat.mod_lt _ w0.1
  have sh : IntKind.i64.wrap (arI .rem .u64 (B : Int) (IntKind.u64.wrap (w : Int))) = ((B % w : Nat) : Int) := shamt hw
  refine d_li (((w - B % w : Nat) : Int)) (by show arI .sub .i64 (w : Int) (IntKind.i64.wrap (arI .rem .u64 (B : Int) (IntKind.u64.wrap (w : Int)))) = _; rw [sh, subI (by omega) (by omega)]; omega) ?_
  refine d_callx [(A : Int), ((w - B % w : Nat) : Int), (w : Int)] [] [] ([((RL w A (w - B % w) : Nat) : Int)], [], []) e13_34 rfl rfl rfl (q_turn hw (by omega) lA) rfl ?_
  rfl
end Go.Proofs.YtghekmcdokgkkaaDoor.CNumDoes
