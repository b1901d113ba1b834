/-
  NumDoes: what the reference's Un answers.
-/
import Derived.Test.YtghekmcdokgkkaaDoorNumCNumDoes
namespace Go.Proofs.YtghekmcdokgkkaaDoor.DNumDoes
set_option linter.all false
set_option maxHeartbeats 2000000
open Go.Proofs.YtghekmcdokgkkaaDoor.Vx Go.Proofs.YtghekmcdokgkkaaDoor.XNumDoes Go.Proofs.YtghekmcdokgkkaaDoor.Vd Go.Proofs.YtghekmcdokgkkaaDoor.Vn Go.Proofs.YtghekmcdokgkkaaDoor.Vl Go.Proofs.YtghekmcdokgkkaaDoor.Vp Go.Proofs.YtghekmcdokgkkaaDoor.Vb Go.Proofs.YtghekmcdokgkkaaDoor.Vo Go.Proofs.YtghekmcdokgkkaaDoor.ANumDoes Go.Proofs.YtghekmcdokgkkaaDoor.BNumDoes Go.Proofs.YtghekmcdokgkkaaDoor.CNumDoes
/-! Counting. -/
theorem clz_at {w A j : Nat} (hw : w ≤ 64) (hA : A < 2 ^ w) (hj : j < w) (h1 : A.testBit (w - 1 - j) = true) (h2 : ∀ q, q < j → A.testBit (w - 1 - q) = false) : w - Go.Lib.bitLen A = j := by
  have h0 : A ≠ 0 := fun h => by rw [h, Nat.zero_testBit] at h1; cases h1
  obtain ⟨l1, l2⟩ := YNumWidth.len_top w A hA h0 hw
  have l3 := Go.Lib.bitLen_le A w hw hA
  generalize Go.Lib.bitLen A = n at *
  obtain ⟨k, rfl⟩ : ∃ k, n = k + 1 := ⟨n - 1, by omega⟩
  rw [Nat.add_sub_cancel] at l2
  have t1 : A.testBit k = true := by rw [Nat.testBit_eq_decide_div_mod_eq, l2]; rfl
  have t2 : A < 2 ^ (k + 1) := by
    rw [Nat.pow_succ, Nat.mul_comm]
    exact (Nat.div_lt_iff_lt_mul (Nat.two_pow_pos k)).1 (by omega)
  by_cases hh : w - 1 - j ≤ k
  · by_cases he : w - 1 - j = k
    · omega
    · have := h2 (w - 1 - k) (by omega)
      rw [show w - 1 - (w - 1 - k) = k by omega, t1] at this
      cases this
  · rw [Nat.testBit_lt_two_pow (Nat.lt_of_lt_of_le t2 (Nat.pow_le_pow_right (by decide) (by omega)))] at h1
    cases h1
theorem zero_of_bits {w A : Nat} (hA : A < 2 ^ w) (h : ∀ m, m < w → A.testBit m = false) : A = 0 := by
  refine Nat.eq_of_testBit_eq fun i => ?_
  rw [Nat.zero_testBit]
  by_cases hi : i < w
  · exact h i hi
  · exact Nat.testBit_lt_two_pow (Nat.lt_of_lt_of_le hA (Nat.pow_le_pow_right (by decide) (by omega)))
theorem ctz_at {w A j : Nat} (hA : A < 2 ^ w) (h1 : A.testBit j = true) (h2 : ∀ q, q < j → A.testBit q = false) : Go.Lib.ctz w A = j := by
  have h0 : A ≠ 0 := fun h => by rw [h, Nat.zero_testBit] at h1; cases h1
  obtain ⟨m, hm, hc⟩ := Go.Lib.ctzFrom_spec w A (by omega) hA
  unfold Go.Lib.ctz
  rw [if_neg h0]
  generalize Go.Lib.ctzFrom w A = c at *
  have t1 : A.testBit c = true := by
    rw [Nat.testBit_eq_decide_div_mod_eq, hm, Nat.mul_div_cancel_left _ (Nat.two_pow_pos c)]
    exact decide_eq_true (by omega)
  have t2 : ∀ q, q < c → A.testBit q = false := fun q hq => by
    obtain ⟨d, rfl⟩ : ∃ d, c = q + (d + 1) := ⟨c - q - 1, by omega⟩
    rw [Nat.testBit_eq_decide_div_mod_eq, hm, Nat.pow_add, Nat.mul_assoc, Nat.mul_div_cancel_left _ (Nat.two_pow_pos q), Nat.pow_succ, Nat.mul_comm (2 ^ d), Nat.mul_assoc]
    exact decide_eq_false (by omega)
  rcases Nat.lt_trichotomy c j with h | h | h
  · have := h2 c h; rw [t1] at this; cases this
  · exact h
  · have := t2 j h; rw [h1] at this; cases this
def popN (A : Nat) : Nat → Nat
  | 0 => 0
  | i + 1 => popN A i + (A.testBit i).toNat
theorem popN_le (A : Nat) : ∀ i, popN A i ≤ i
  | 0 => Nat.le_refl 0
  | i + 1 => by have := popN_le A i; have := bit_le (A.testBit i); unfold popN; omega
theorem popN_add (A k : Nat) : ∀ n, popN A (k + n) = popN A k + popN (A / 2 ^ k) n
  | 0 => rfl
  | n + 1 => by
    show popN A (k + n) + (A.testBit (k + n)).toNat = popN A k + (popN (A / 2 ^ k) n + ((A / 2 ^ k).testBit n).toNat)
    rw [popN_add A k n, Nat.testBit_div_two_pow, Nat.add_comm n k]; omega
theorem popN_low (A k : Nat) : ∀ i, i ≤ k → popN A i = popN (A % 2 ^ k) i
  | 0, _ => rfl
  | i + 1, h => by
    show popN A i + (A.testBit i).toNat = popN (A % 2 ^ k) i + ((A % 2 ^ k).testBit i).toNat
    rw [popN_low A k i (by omega), Nat.testBit_mod_two_pow, decide_eq_true (show i < k by omega), Bool.true_and]
theorem pop8_N : ∀ i : Fin 256, popN i.val 8 = YNumWidth.pop8 i.val := by decide +kernel
theorem popN_byte (A n : Nat) : popN A (8 + n) = YNumWidth.pop8 (A % 256) + popN (A / 256) n := by
  rw [popN_add A 8 n, popN_low A 8 8 (Nat.le_refl 8), ← pop8_N ⟨A % 256, Nat.mod_lt _ (by decide)⟩]
theorem pop_N (A : Nat) : popN A 64 = YNumWidth.pop A := by
  rw [popN_byte A 56, popN_byte _ 48, popN_byte _ 40, popN_byte _ 32, popN_byte _ 24, popN_byte _ 16, popN_byte _ 8, popN_byte _ 0]
  simp only [Nat.div_div_eq_div_mul, YNumWidth.pop, YNumWidth.bytes, List.map_cons, List.map_nil, List.sum_cons, List.sum_nil, popN]
theorem popN_zero : ∀ i, popN 0 i = 0
  | 0 => rfl
  | i + 1 => by show popN 0 i + ((0 : Nat).testBit i).toNat = 0; rw [popN_zero i, Nat.zero_testBit]; rfl
theorem pop_w {w A : Nat} (hw : w = 32 ∨ w = 64) (hA : A < 2 ^ w) : popN A w = YNumWidth.pop A := by
  rcases hw with rfl | rfl
  · rw [← pop_N, popN_add A 32 32, Nat.div_eq_of_lt hA, popN_zero, Nat.add_zero]
  · exact pop_N A
/-! Spreading a sign. -/
def SP (w kk a : Nat) : Nat := if a.testBit (kk - 1) = true then a % 2 ^ kk + (2 ^ w - 2 ^ kk) else a % 2 ^ kk
theorem sp_lt {w kk a : Nat} (hk : kk ≤ w) : SP w kk a < 2 ^ w := by
  have h1 : a % 2 ^ kk < 2 ^ kk := Nat.mod_lt _ (Nat.two_pow_pos _)
  have h2 : 2 ^ kk ≤ 2 ^ w := Nat.pow_le_pow_right (by decide) hk
  unfold SP; split <;> omega
theorem sp_bits {w kk a : Nat} (hk : 0 < kk ∧ kk ≤ w) (m : Nat) (hm : m < w) : (SP w kk a).testBit m = a.testBit (if m ≥ kk then kk - 1 else m) := by
  have h1 : a % 2 ^ kk < 2 ^ kk := Nat.mod_lt _ (Nat.two_pow_pos _)
  unfold SP
  cases h : a.testBit (kk - 1) with
  | true =>
    rw [if_pos rfl, show a % 2 ^ kk + (2 ^ w - 2 ^ kk) = 2 ^ kk * (2 ^ (w - kk) - 1) + a % 2 ^ kk by rw [Nat.mul_sub, Nat.mul_one, ← pow_split hk.2]; omega, Nat.testBit_two_pow_mul_add _ h1]
    by_cases hmk : m < kk
    · rw [if_pos hmk, if_neg (by omega), Nat.testBit_mod_two_pow, decide_eq_true hmk, Bool.true_and]
    · rw [if_neg hmk, if_pos (by omega), Nat.testBit_two_pow_sub_one, h]; exact decide_eq_true (by omega)
  | false =>
    rw [if_neg (by decide), Nat.testBit_mod_two_pow]
    by_cases hmk : m < kk
    · rw [if_neg (by omega), decide_eq_true hmk, Bool.true_and]
    · rw [if_pos (by omega), h, decide_eq_false hmk, Bool.false_and]
theorem q_sp {a kk w : Nat} (hw : w = 32 ∨ w = 64) (hk : 0 < kk ∧ kk ≤ w) : F28 [(a : Int), (kk : Int), (w : Int)] [] [] = some ([((SP w kk a : Nat) : Int)], [], []) :=
  q_spread hw (by omega) (sp_lt hk.2) fun m hm => sp_bits hk m hm
/-! The three loops. -/
theorem lp1 {w A : Nat} {c a : Int} {b0 b1 b2 : Bool} (hw : w = 32 ∨ w = 64) (hA : A < 2 ^ w) : (Vx.T.lp [(.n 0), (.ar .sub .i64 (.iv 3) (.n 1))] [] [] 2 0 0 l12_1 k12_2).den (Tab.fn a12) [c, a, 0, (w : Int), (A : Int), 0, 0] [b0, b1, b2] [] = some (.brk 0 ([0, ((w - Go.Lib.bitLen A : Nat) : Int)], [false], [])) := by
  have w0 := wpos hw
  refine d_find (fun i => ([(i : Int), (w : Int) - 1 - (i : Int)], [], [])) w (by omega) (fun i => A.testBit (w - 1 - i)) ?_ (fun i => (3, ([(i : Int), (w : Int) - 1 - (i : Int)], [], []))) 3 ([(w : Int), -1], [], []) (fun i hi hp => ?_) (fun _ _ => rfl) (fun i hi hp => ⟨?_, rfl⟩) ?_ rfl (fun j hj hp hq => ?_) (fun hq => ?_)
  · show ([0, arI .sub .i64 (w : Int) 1], [], []) = ([((0 : Nat) : Int), (w : Int) - 1 - ((0 : Nat) : Int)], [], [])
    rw [wm1 hw, show (w : Int) - 1 - ((0 : Nat) : Int) = (w : Int) - 1 by omega]; rfl
  · have e : (w : Int) - 1 - (i : Int) = ((w - 1 - i : Nat) : Int) := by omega
    show Vx.T.den _ l12_1 [c, a, 0, (w : Int), (A : Int), 0, 0, (i : Int), (w : Int) - 1 - (i : Int)] [b0, b1, b2] [] = some (.nxt ([((i + 1 : Nat) : Int), (w : Int) - 1 - ((i + 1 : Nat) : Int)], [], []))
    unfold l12_1
    refine d_itT (ge_t (show (0 : Int) ≤ (w : Int) - 1 - (i : Int) by omega)) ?_
    refine d_callx [(A : Int), ((w - 1 - i : Nat) : Int)] [] [] ([0], [], []) e12_27 (by show [(A : Int), (w : Int) - 1 - (i : Int)] = _; rw [e]) rfl rfl (by rw [q_bit (by omega), hp]; rfl) rfl (d_itT rfl ?_)
    show some (Out.nxt ([IntKind.u64.wrap ((i : Int) + 1), arI .sub .i64 ((w : Int) - 1 - (i : Int)) 1], [], [])) = _
    rw [wu (by omega) (by omega), subI (by omega) (by omega), show (w : Int) - 1 - (i : Int) - 1 = (w : Int) - 1 - ((i + 1 : Nat) : Int) by omega]; rfl
  · have e : (w : Int) - 1 - (i : Int) = ((w - 1 - i : Nat) : Int) := by omega
    show Vx.T.den _ l12_1 [c, a, 0, (w : Int), (A : Int), 0, 0, (i : Int), (w : Int) - 1 - (i : Int)] [b0, b1, b2] [] = some (.brk 3 ([(i : Int), (w : Int) - 1 - (i : Int)], [], []))
    unfold l12_1
    refine d_itT (ge_t (show (0 : Int) ≤ (w : Int) - 1 - (i : Int) by omega)) ?_
    refine d_callx [(A : Int), ((w - 1 - i : Nat) : Int)] [] [] ([1], [], []) e12_27 (by show [(A : Int), (w : Int) - 1 - (i : Int)] = _; rw [e]) rfl rfl (by rw [q_bit (by omega), hp]; rfl) rfl (d_itF rfl ?_)
    rfl
  · show Vx.T.den _ l12_1 [c, a, 0, (w : Int), (A : Int), 0, 0, (w : Int), (w : Int) - 1 - (w : Int)] [b0, b1, b2] [] = some (.brk 3 ([(w : Int), -1], [], []))
    rw [show (w : Int) - 1 - (w : Int) = -1 by omega]
    unfold l12_1
    exact d_itF rfl rfl
  · rw [clz_at w0.2 hA hj hp hq]
    unfold k12_2
    exact d_rq rfl rfl
  · have hA0 := zero_of_bits hA (fun m hm => by have := hq (w - 1 - m) (by omega); rwa [show w - 1 - (w - 1 - m) = m by omega] at this)
    subst hA0
    rw [show w - Go.Lib.bitLen 0 = w by rw [show Go.Lib.bitLen 0 = 0 by decide]; omega]
    unfold k12_2
    exact d_rq rfl rfl
theorem lp2 {w A : Nat} {c a : Int} {b0 b1 b2 b3 : Bool} (hw : w = 32 ∨ w = 64) (hA : A < 2 ^ w) : (Vx.T.lp [(.n 0), (.n 0)] [] [] 2 0 0 l12_3 k12_4).den (Tab.fn a12) [c, a, 0, (w : Int), (A : Int), 0, 0, 0] [b0, b1, b2, b3] [] = some (.brk 0 ([0, ((Go.Lib.ctz w A : Nat) : Int)], [false], [])) := by
  have w0 := wpos hw
  refine d_find (fun i => ([(i : Int), (i : Int)], [], [])) w (by omega) (fun i => A.testBit i) rfl (fun i => (5, ([(i : Int), (i : Int)], [], []))) 5 ([(w : Int), (w : Int)], [], []) (fun i hi hp => ?_) (fun _ _ => rfl) (fun i hi hp => ⟨?_, rfl⟩) ?_ rfl (fun j hj hp hq => ?_) (fun hq => ?_)
  · show Vx.T.den _ l12_3 [c, a, 0, (w : Int), (A : Int), 0, 0, 0, (i : Int), (i : Int)] [b0, b1, b2, b3] [] = some (.nxt ([((i + 1 : Nat) : Int), ((i + 1 : Nat) : Int)], [], []))
    unfold l12_3
    refine d_itT (lt_t (show (i : Int) < (w : Int) by omega)) ?_
    refine d_callx [(A : Int), (i : Int)] [] [] ([0], [], []) e12_27 rfl rfl rfl (by rw [q_bit (by omega), hp]; rfl) rfl (d_itT rfl ?_)
    show some (Out.nxt ([IntKind.u64.wrap ((i : Int) + 1), arI .add .i64 (i : Int) 1], [], [])) = _
    rw [wu (by omega) (by omega), addI (by omega) (by omega)]; rfl
  · show Vx.T.den _ l12_3 [c, a, 0, (w : Int), (A : Int), 0, 0, 0, (i : Int), (i : Int)] [b0, b1, b2, b3] [] = some (.brk 5 ([(i : Int), (i : Int)], [], []))
    unfold l12_3
    refine d_itT (lt_t (show (i : Int) < (w : Int) by omega)) ?_
    exact d_callx [(A : Int), (i : Int)] [] [] ([1], [], []) e12_27 rfl rfl rfl (by rw [q_bit (by omega), hp]; rfl) rfl (d_itF rfl rfl)
  · show Vx.T.den _ l12_3 [c, a, 0, (w : Int), (A : Int), 0, 0, 0, (w : Int), (w : Int)] [b0, b1, b2, b3] [] = some (.brk 5 ([(w : Int), (w : Int)], [], []))
    unfold l12_3
    exact d_itF (lt_f (show (w : Int) ≤ (w : Int) by omega)) rfl
  · rw [ctz_at hA hp hq]
    unfold k12_4
    exact d_rq rfl rfl
  · have hA0 := zero_of_bits hA hq
    subst hA0
    rw [show Go.Lib.ctz w 0 = w by unfold Go.Lib.ctz; rw [if_pos rfl]]
    unfold k12_4
    exact d_rq rfl rfl
theorem lp3 {w A : Nat} {c a : Int} {b0 b1 b2 b3 b4 : Bool} (hw : w = 32 ∨ w = 64) (hA : A < 2 ^ w) : (Vx.T.lp [(.n 0), (.n 0)] [] [] 2 0 0 l12_5 k12_6).den (Tab.fn a12) [c, a, 0, (w : Int), (A : Int), 0, 0, 0, 0] [b0, b1, b2, b3, b4] [] = some (.brk 0 ([0, ((YNumWidth.pop A : Nat) : Int)], [false], [])) := by
  have w0 := wpos hw
  refine d_loop (fun i => ([((popN A i : Nat) : Int), (i : Int)], [], [])) w (by omega) 7 ([((popN A w : Nat) : Int), (w : Int)], [], []) rfl (fun i hi => ?_) (fun _ _ => rfl) ?_ rfl ?_
  · show Vx.T.den _ l12_5 [c, a, 0, (w : Int), (A : Int), 0, 0, 0, 0, ((popN A i : Nat) : Int), (i : Int)] [b0, b1, b2, b3, b4] [] = some (.nxt ([((popN A i + (A.testBit i).toNat : Nat) : Int), ((i + 1 : Nat) : Int)], [], []))
    have h1 := popN_le A i
    have h2 := bit_le (A.testBit i)
    unfold l12_5
    refine d_itT (lt_t (show (i : Int) < (w : Int) by omega)) ?_
    refine d_callx [(A : Int), (i : Int)] [] [] ([(((A.testBit i).toNat : Nat) : Int)], [], []) e12_27 rfl rfl rfl (q_bit (by omega)) rfl ?_
    show some (Out.nxt ([IntKind.u64.wrap (((popN A i : Nat) : Int) + (((A.testBit i).toNat : Nat) : Int)), arI .add .i64 (i : Int) 1], [], [])) = _
    rw [wu (by omega) (by omega), addI (by omega) (by omega)]; rfl
  · show Vx.T.den _ l12_5 [c, a, 0, (w : Int), (A : Int), 0, 0, 0, 0, ((popN A w : Nat) : Int), (w : Int)] [b0, b1, b2, b3, b4] [] = some (.brk 7 ([((popN A w : Nat) : Int), (w : Int)], [], []))
    unfold l12_5
    exact d_itF (lt_f (show (w : Int) ≤ (w : Int) by omega)) rfl
  · rw [← pop_w hw hA]
    unfold k12_6
    exact d_rq rfl rfl
/-! Code by code. -/
theorem u_69 {a A : Nat} (ha : a < 2 ^ 64) (hA : a % 2 ^ 32 = A) : F12 [69, (a : Int)] [] [] = some ([(bif ((A : Int) == 0) then 1 else 0)], [true], []) := by
  have lA : A < 2 ^ 32 := hA ▸ Nat.mod_lt _ (Nat.two_pow_pos _)
  refine of_ret ?_
  unfold t12
  refine d_lb false rfl (d_jn 0 ([32], [], []) rfl rfl (d_rq rfl ?_))
  refine d_callx [(a : Int), 32] [] [] ([(A : Int)], [], []) e12_25 rfl rfl rfl ((q_cut (w := 32) (.inl rfl) ha).trans (by rw [hA])) rfl ?_
  refine d_jn 0 ([], [true], []) rfl rfl (d_rq rfl (d_itT rfl ?_))
  refine d_callx [] [((A : Int) == 0)] [] ([(bif ((A : Int) == 0) then 1 else 0)], [], []) e12_26 rfl rfl rfl (q_one _) rfl ?_
  rfl
theorem u_80 {a A : Nat} (ha : a < 2 ^ 64) (hA : a % 2 ^ 64 = A) : F12 [80, (a : Int)] [] [] = some ([(bif ((A : Int) == 0) then 1 else 0)], [true], []) := by
  have lA : A < 2 ^ 64 := hA ▸ Nat.mod_lt _ (Nat.two_pow_pos _)
  refine of_ret ?_
  unfold t12
  refine d_lb false rfl (d_jn 0 ([64], [], []) rfl rfl (d_rq rfl ?_))
  refine d_callx [(a : Int), 64] [] [] ([(A : Int)], [], []) e12_25 rfl rfl rfl ((q_cut (w := 64) (.inr rfl) ha).trans (by rw [hA])) rfl ?_
  refine d_jn 0 ([], [true], []) rfl rfl (d_rq rfl (d_itT rfl ?_))
  refine d_callx [] [((A : Int) == 0)] [] ([(bif ((A : Int) == 0) then 1 else 0)], [], []) e12_26 rfl rfl rfl (q_one _) rfl ?_
  rfl
theorem u_103 {a A : Nat} (ha : a < 2 ^ 64) (hA : a % 2 ^ 32 = A) : F12 [103, (a : Int)] [] [] = some ([((32 - Go.Lib.bitLen A : Nat) : Int)], [true], []) := by
  have lA : A < 2 ^ 32 := hA ▸ Nat.mod_lt _ (Nat.two_pow_pos _)
  refine of_ret ?_
  unfold t12
  refine d_lb false rfl (d_jn 0 ([32], [], []) rfl rfl (d_rq rfl ?_))
  refine d_callx [(a : Int), 32] [] [] ([(A : Int)], [], []) e12_25 rfl rfl rfl ((q_cut (w := 32) (.inl rfl) ha).trans (by rw [hA])) rfl ?_
  refine d_jn 0 ([], [false], []) rfl rfl (d_rq rfl (d_itF rfl ?_))
  refine d_jn 0 ([], [true], []) rfl rfl (d_rq rfl (d_jn 0 ([0, ((32 - Go.Lib.bitLen A : Nat) : Int)], [false], []) ?_ rfl (d_rq rfl rfl)))
  refine d_itT rfl ?_
  exact lp1 (w := 32) (.inl rfl) lA
theorem u_104 {a A : Nat} (ha : a < 2 ^ 64) (hA : a % 2 ^ 32 = A) : F12 [104, (a : Int)] [] [] = some ([((Go.Lib.ctz 32 A : Nat) : Int)], [true], []) := by
  have lA : A < 2 ^ 32 := hA ▸ Nat.mod_lt _ (Nat.two_pow_pos _)
  refine of_ret ?_
  unfold t12
  refine d_lb false rfl (d_jn 0 ([32], [], []) rfl rfl (d_rq rfl ?_))
  refine d_callx [(a : Int), 32] [] [] ([(A : Int)], [], []) e12_25 rfl rfl rfl ((q_cut (w := 32) (.inl rfl) ha).trans (by rw [hA])) rfl ?_
  refine d_jn 0 ([], [false], []) rfl rfl (d_rq rfl (d_itF rfl ?_))
  refine d_jn 0 ([], [false], []) rfl rfl (d_rq rfl (d_jn 0 ([0, ((Go.Lib.ctz 32 A : Nat) : Int)], [false], []) ?_ rfl (d_rq rfl rfl)))
  refine d_itF rfl ?_
  refine d_jn 0 ([], [true], []) rfl rfl (d_rq rfl (d_jn 0 ([0, ((Go.Lib.ctz 32 A : Nat) : Int)], [false], []) ?_ rfl (d_rq rfl rfl)))
  refine d_itT rfl ?_
  exact lp2 (w := 32) (.inl rfl) lA
theorem u_105 {a A : Nat} (ha : a < 2 ^ 64) (hA : a % 2 ^ 32 = A) : F12 [105, (a : Int)] [] [] = some ([((YNumWidth.pop A : Nat) : Int)], [true], []) := by
  have lA : A < 2 ^ 32 := hA ▸ Nat.mod_lt _ (Nat.two_pow_pos _)
  refine of_ret ?_
  unfold t12
  refine d_lb false rfl (d_jn 0 ([32], [], []) rfl rfl (d_rq rfl ?_))
  refine d_callx [(a : Int), 32] [] [] ([(A : Int)], [], []) e12_25 rfl rfl rfl ((q_cut (w := 32) (.inl rfl) ha).trans (by rw [hA])) rfl ?_
  refine d_jn 0 ([], [false], []) rfl rfl (d_rq rfl (d_itF rfl ?_))
  refine d_jn 0 ([], [false], []) rfl rfl (d_rq rfl (d_jn 0 ([0, ((YNumWidth.pop A : Nat) : Int)], [false], []) ?_ rfl (d_rq rfl rfl)))
  refine d_itF rfl ?_
  refine d_jn 0 ([], [false], []) rfl rfl (d_rq rfl (d_jn 0 ([0, ((YNumWidth.pop A : Nat) : Int)], [false], []) ?_ rfl (d_rq rfl rfl)))
  refine d_itF rfl ?_
  refine d_jn 0 ([], [true], []) rfl rfl (d_rq rfl (d_jn 0 ([0, ((YNumWidth.pop A : Nat) : Int)], [false], []) ?_ rfl (d_rq rfl rfl)))
  refine d_itT rfl ?_
  exact lp3 (w := 32) (.inl rfl) lA
theorem u_121 {a A : Nat} (ha : a < 2 ^ 64) (hA : a % 2 ^ 64 = A) : F12 [121, (a : Int)] [] [] = some ([((64 - Go.Lib.bitLen A : Nat) : Int)], [true], []) := by
  have lA : A < 2 ^ 64 := hA ▸ Nat.mod_lt _ (Nat.two_pow_pos _)
  refine of_ret ?_
  unfold t12
  refine d_lb true rfl (d_jn 0 ([64], [], []) rfl rfl (d_rq rfl ?_))
  refine d_callx [(a : Int), 64] [] [] ([(A : Int)], [], []) e12_25 rfl rfl rfl ((q_cut (w := 64) (.inr rfl) ha).trans (by rw [hA])) rfl ?_
  refine d_jn 0 ([], [false], []) rfl rfl (d_rq rfl (d_itF rfl ?_))
  refine d_jn 0 ([], [true], []) rfl rfl (d_rq rfl (d_jn 0 ([0, ((64 - Go.Lib.bitLen A : Nat) : Int)], [false], []) ?_ rfl (d_rq rfl rfl)))
  refine d_itT rfl ?_
  exact lp1 (w := 64) (.inr rfl) lA
theorem u_122 {a A : Nat} (ha : a < 2 ^ 64) (hA : a % 2 ^ 64 = A) : F12 [122, (a : Int)] [] [] = some ([((Go.Lib.ctz 64 A : Nat) : Int)], [true], []) := by
  have lA : A < 2 ^ 64 := hA ▸ Nat.mod_lt _ (Nat.two_pow_pos _)
  refine of_ret ?_
  unfold t12
  refine d_lb true rfl (d_jn 0 ([64], [], []) rfl rfl (d_rq rfl ?_))
  refine d_callx [(a : Int), 64] [] [] ([(A : Int)], [], []) e12_25 rfl rfl rfl ((q_cut (w := 64) (.inr rfl) ha).trans (by rw [hA])) rfl ?_
  refine d_jn 0 ([], [false], []) rfl rfl (d_rq rfl (d_itF rfl ?_))
  refine d_jn 0 ([], [false], []) rfl rfl (d_rq rfl (d_jn 0 ([0, ((Go.Lib.ctz 64 A : Nat) : Int)], [false], []) ?_ rfl (d_rq rfl rfl)))
  refine d_itF rfl ?_
  refine d_jn 0 ([], [true], []) rfl rfl (d_rq rfl (d_jn 0 ([0, ((Go.Lib.ctz 64 A : Nat) : Int)], [false], []) ?_ rfl (d_rq rfl rfl)))
  refine d_itT rfl ?_
  exact lp2 (w := 64) (.inr rfl) lA
theorem u_123 {a A : Nat} (ha : a < 2 ^ 64) (hA : a % 2 ^ 64 = A) : F12 [123, (a : Int)] [] [] = some ([((YNumWidth.pop A : Nat) : Int)], [true], []) := by
  have lA : A < 2 ^ 64 := hA ▸ Nat.mod_lt _ (Nat.two_pow_pos _)
  refine of_ret ?_
  unfold t12
  refine d_lb true rfl (d_jn 0 ([64], [], []) rfl rfl (d_rq rfl ?_))
  refine d_callx [(a : Int), 64] [] [] ([(A : Int)], [], []) e12_25 rfl rfl rfl ((q_cut (w := 64) (.inr rfl) ha).trans (by rw [hA])) rfl ?_
  refine d_jn 0 ([], [false], []) rfl rfl (d_rq rfl (d_itF rfl ?_))
  refine d_jn 0 ([], [false], []) rfl rfl (d_rq rfl (d_jn 0 ([0, ((YNumWidth.pop A : Nat) : Int)], [false], []) ?_ rfl (d_rq rfl rfl)))
  refine d_itF rfl ?_
  refine d_jn 0 ([], [false], []) rfl rfl (d_rq rfl (d_jn 0 ([0, ((YNumWidth.pop A : Nat) : Int)], [false], []) ?_ rfl (d_rq rfl rfl)))
  refine d_itF rfl ?_
  refine d_jn 0 ([], [true], []) rfl rfl (d_rq rfl (d_jn 0 ([0, ((YNumWidth.pop A : Nat) : Int)], [false], []) ?_ rfl (d_rq rfl rfl)))
  refine d_itT rfl ?_
  exact lp3 (w := 64) (.inr rfl) lA
theorem u_167 {a A : Nat} (ha : a < 2 ^ 64) (hA : a % 2 ^ 32 = A) : F12 [167, (a : Int)] [] [] = some ([((a % 2 ^ 32 : Nat) : Int)], [true], []) := by
  have lA : A < 2 ^ 32 := hA ▸ Nat.mod_lt _ (Nat.two_pow_pos _)
  refine of_ret ?_
  unfold t12
  refine d_lb false rfl (d_jn 0 ([32], [], []) rfl rfl (d_rq rfl ?_))
  refine d_callx [(a : Int), 32] [] [] ([(A : Int)], [], []) e12_25 rfl rfl rfl ((q_cut (w := 32) (.inl rfl) ha).trans (by rw [hA])) rfl ?_
  refine d_jn 0 ([], [false], []) rfl rfl (d_rq rfl (d_itF rfl ?_))
  refine d_jn 0 ([], [false], []) rfl rfl (d_rq rfl (d_jn 0 ([0, ((a % 2 ^ 32 : Nat) : Int)], [false], []) ?_ rfl (d_rq rfl rfl)))
  refine d_itF rfl ?_
  refine d_jn 0 ([], [false], []) rfl rfl (d_rq rfl (d_jn 0 ([0, ((a % 2 ^ 32 : Nat) : Int)], [false], []) ?_ rfl (d_rq rfl rfl)))
  refine d_itF rfl ?_
  refine d_jn 0 ([], [false], []) rfl rfl (d_rq rfl (d_jn 0 ([0, ((a % 2 ^ 32 : Nat) : Int)], [false], []) ?_ rfl (d_rq rfl rfl)))
  refine d_itF rfl ?_
  refine d_jn 0 ([], [true], []) rfl rfl (d_rq rfl (d_jn 0 ([0, ((a % 2 ^ 32 : Nat) : Int)], [false], []) ?_ rfl (d_rq rfl rfl)))
  refine d_itT rfl ?_
  refine d_callx [(a : Int), 32] [] [] ([((a % 2 ^ 32 : Nat) : Int)], [], []) e12_25 rfl rfl rfl (q_cut (w := 32) (.inl rfl) ha) rfl ?_
  rfl
theorem u_172 {a A : Nat} (ha : a < 2 ^ 64) (hA : a % 2 ^ 32 = A) : F12 [172, (a : Int)] [] [] = some ([((SP 64 32 a : Nat) : Int)], [true], []) := by
  have lA : A < 2 ^ 32 := hA ▸ Nat.mod_lt _ (Nat.two_pow_pos _)
  refine of_ret ?_
  unfold t12
  refine d_lb false rfl (d_jn 0 ([32], [], []) rfl rfl (d_rq rfl ?_))
  refine d_callx [(a : Int), 32] [] [] ([(A : Int)], [], []) e12_25 rfl rfl rfl ((q_cut (w := 32) (.inl rfl) ha).trans (by rw [hA])) rfl ?_
  refine d_jn 0 ([], [false], []) rfl rfl (d_rq rfl (d_itF rfl ?_))
  refine d_jn 0 ([], [false], []) rfl rfl (d_rq rfl (d_jn 0 ([0, ((SP 64 32 a : Nat) : Int)], [false], []) ?_ rfl (d_rq rfl rfl)))
  refine d_itF rfl ?_
  refine d_jn 0 ([], [false], []) rfl rfl (d_rq rfl (d_jn 0 ([0, ((SP 64 32 a : Nat) : Int)], [false], []) ?_ rfl (d_rq rfl rfl)))
  refine d_itF rfl ?_
  refine d_jn 0 ([], [false], []) rfl rfl (d_rq rfl (d_jn 0 ([0, ((SP 64 32 a : Nat) : Int)], [false], []) ?_ rfl (d_rq rfl rfl)))
  refine d_itF rfl ?_
  refine d_jn 0 ([], [false], []) rfl rfl (d_rq rfl (d_jn 0 ([0, ((SP 64 32 a : Nat) : Int)], [false], []) ?_ rfl (d_rq rfl rfl)))
  refine d_itF rfl ?_
  refine d_jn 0 ([], [true], []) rfl rfl (d_rq rfl (d_jn 0 ([0, ((SP 64 32 a : Nat) : Int)], [false], []) ?_ rfl (d_rq rfl rfl)))
  refine d_itT rfl ?_
  refine d_callx [(a : Int), 32, 64] [] [] ([((SP 64 32 a : Nat) : Int)], [], []) e12_28 rfl rfl rfl (q_sp (w := 64) (kk := 32) (.inr rfl) (by decide)) rfl ?_
  rfl
theorem u_173 {a A : Nat} (ha : a < 2 ^ 64) (hA : a % 2 ^ 32 = A) : F12 [173, (a : Int)] [] [] = some ([((a % 2 ^ 32 : Nat) : Int)], [true], []) := by
  have lA : A < 2 ^ 32 := hA ▸ Nat.mod_lt _ (Nat.two_pow_pos _)
  refine of_ret ?_
  unfold t12
  refine d_lb false rfl (d_jn 0 ([32], [], []) rfl rfl (d_rq rfl ?_))
  refine d_callx [(a : Int), 32] [] [] ([(A : Int)], [], []) e12_25 rfl rfl rfl ((q_cut (w := 32) (.inl rfl) ha).trans (by rw [hA])) rfl ?_
  refine d_jn 0 ([], [false], []) rfl rfl (d_rq rfl (d_itF rfl ?_))
  refine d_jn 0 ([], [false], []) rfl rfl (d_rq rfl (d_jn 0 ([0, ((a % 2 ^ 32 : Nat) : Int)], [false], []) ?_ rfl (d_rq rfl rfl)))
  refine d_itF rfl ?_
  refine d_jn 0 ([], [false], []) rfl rfl (d_rq rfl (d_jn 0 ([0, ((a % 2 ^ 32 : Nat) : Int)], [false], []) ?_ rfl (d_rq rfl rfl)))
  refine d_itF rfl ?_
  refine d_jn 0 ([], [false], []) rfl rfl (d_rq rfl (d_jn 0 ([0, ((a % 2 ^ 32 : Nat) : Int)], [false], []) ?_ rfl (d_rq rfl rfl)))
  refine d_itF rfl ?_
  refine d_jn 0 ([], [true], []) rfl rfl (d_rq rfl (d_jn 0 ([0, ((a % 2 ^ 32 : Nat) : Int)], [false], []) ?_ rfl (d_rq rfl rfl)))
  refine d_itT rfl ?_
  refine d_callx [(a : Int), 32] [] [] ([((a % 2 ^ 32 : Nat) : Int)], [], []) e12_25 rfl rfl rfl (q_cut (w := 32) (.inl rfl) ha) rfl ?_
  rfl
theorem u_192 {a A : Nat} (ha : a < 2 ^ 64) (hA : a % 2 ^ 32 = A) : F12 [192, (a : Int)] [] [] = some ([((SP 32 8 a : Nat) : Int)], [true], []) := by
  have lA : A < 2 ^ 32 := hA ▸ Nat.mod_lt _ (Nat.two_pow_pos _)
  refine of_ret ?_
  unfold t12
  refine d_lb false rfl (d_jn 0 ([32], [], []) rfl rfl (d_rq rfl ?_))
  refine d_callx [(a : Int), 32] [] [] ([(A : Int)], [], []) e12_25 rfl rfl rfl ((q_cut (w := 32) (.inl rfl) ha).trans (by rw [hA])) rfl ?_
  refine d_jn 0 ([], [false], []) rfl rfl (d_rq rfl (d_itF rfl ?_))
  refine d_jn 0 ([], [false], []) rfl rfl (d_rq rfl (d_jn 0 ([0, ((SP 32 8 a : Nat) : Int)], [false], []) ?_ rfl (d_rq rfl rfl)))
  refine d_itF rfl ?_
  refine d_jn 0 ([], [false], []) rfl rfl (d_rq rfl (d_jn 0 ([0, ((SP 32 8 a : Nat) : Int)], [false], []) ?_ rfl (d_rq rfl rfl)))
  refine d_itF rfl ?_
  refine d_jn 0 ([], [false], []) rfl rfl (d_rq rfl (d_jn 0 ([0, ((SP 32 8 a : Nat) : Int)], [false], []) ?_ rfl (d_rq rfl rfl)))
  refine d_itF rfl ?_
  refine d_jn 0 ([], [false], []) rfl rfl (d_rq rfl (d_jn 0 ([0, ((SP 32 8 a : Nat) : Int)], [false], []) ?_ rfl (d_rq rfl rfl)))
  refine d_itF rfl ?_
  refine d_jn 0 ([], [false], []) rfl rfl (d_rq rfl (d_jn 0 ([0, ((SP 32 8 a : Nat) : Int)], [false], []) ?_ rfl (d_rq rfl rfl)))
  refine d_itF rfl ?_
  refine d_jn 0 ([0, ((SP 32 8 a : Nat) : Int)], [false], []) ?_ rfl (d_rq rfl rfl)
  refine d_itT rfl ?_
  refine d_callx [(a : Int), 8, 32] [] [] ([((SP 32 8 a : Nat) : Int)], [], []) e12_28 rfl rfl rfl (q_sp (w := 32) (kk := 8) (.inl rfl) (by decide)) rfl ?_
  rfl
theorem u_193 {a A : Nat} (ha : a < 2 ^ 64) (hA : a % 2 ^ 32 = A) : F12 [193, (a : Int)] [] [] = some ([((SP 32 16 a : Nat) : Int)], [true], []) := by
  have lA : A < 2 ^ 32 := hA ▸ Nat.mod_lt _ (Nat.two_pow_pos _)
  refine of_ret ?_
  unfold t12
  refine d_lb false rfl (d_jn 0 ([32], [], []) rfl rfl (d_rq rfl ?_))
  refine d_callx [(a : Int), 32] [] [] ([(A : Int)], [], []) e12_25 rfl rfl rfl ((q_cut (w := 32) (.inl rfl) ha).trans (by rw [hA])) rfl ?_
  refine d_jn 0 ([], [false], []) rfl rfl (d_rq rfl (d_itF rfl ?_))
  refine d_jn 0 ([], [false], []) rfl rfl (d_rq rfl (d_jn 0 ([0, ((SP 32 16 a : Nat) : Int)], [false], []) ?_ rfl (d_rq rfl rfl)))
  refine d_itF rfl ?_
  refine d_jn 0 ([], [false], []) rfl rfl (d_rq rfl (d_jn 0 ([0, ((SP 32 16 a : Nat) : Int)], [false], []) ?_ rfl (d_rq rfl rfl)))
  refine d_itF rfl ?_
  refine d_jn 0 ([], [false], []) rfl rfl (d_rq rfl (d_jn 0 ([0, ((SP 32 16 a : Nat) : Int)], [false], []) ?_ rfl (d_rq rfl rfl)))
  refine d_itF rfl ?_
  refine d_jn 0 ([], [false], []) rfl rfl (d_rq rfl (d_jn 0 ([0, ((SP 32 16 a : Nat) : Int)], [false], []) ?_ rfl (d_rq rfl rfl)))
  refine d_itF rfl ?_
  refine d_jn 0 ([], [false], []) rfl rfl (d_rq rfl (d_jn 0 ([0, ((SP 32 16 a : Nat) : Int)], [false], []) ?_ rfl (d_rq rfl rfl)))
  refine d_itF rfl ?_
  refine d_jn 0 ([0, ((SP 32 16 a : Nat) : Int)], [false], []) ?_ rfl (d_rq rfl rfl)
  refine d_itF rfl ?_
  refine d_jn 0 ([0, ((SP 32 16 a : Nat) : Int)], [false], []) ?_ rfl (d_rq rfl rfl)
  refine d_itT rfl ?_
  refine d_callx [(a : Int), 16, 32] [] [] ([((SP 32 16 a : Nat) : Int)], [], []) e12_28 rfl rfl rfl (q_sp (w := 32) (kk := 16) (.inl rfl) (by decide)) rfl ?_
  rfl
theorem u_194 {a A : Nat} (ha : a < 2 ^ 64) (hA : a % 2 ^ 32 = A) : F12 [194, (a : Int)] [] [] = some ([((SP 64 8 a : Nat) : Int)], [true], []) := by
  have lA : A < 2 ^ 32 := hA ▸ Nat.mod_lt _ (Nat.two_pow_pos _)
  refine of_ret ?_
  unfold t12
  refine d_lb false rfl (d_jn 0 ([32], [], []) rfl rfl (d_rq rfl ?_))
  refine d_callx [(a : Int), 32] [] [] ([(A : Int)], [], []) e12_25 rfl rfl rfl ((q_cut (w := 32) (.inl rfl) ha).trans (by rw [hA])) rfl ?_
  refine d_jn 0 ([], [false], []) rfl rfl (d_rq rfl (d_itF rfl ?_))
  refine d_jn 0 ([], [false], []) rfl rfl (d_rq rfl (d_jn 0 ([0, ((SP 64 8 a : Nat) : Int)], [false], []) ?_ rfl (d_rq rfl rfl)))
  refine d_itF rfl ?_
  refine d_jn 0 ([], [false], []) rfl rfl (d_rq rfl (d_jn 0 ([0, ((SP 64 8 a : Nat) : Int)], [false], []) ?_ rfl (d_rq rfl rfl)))
  refine d_itF rfl ?_
  refine d_jn 0 ([], [false], []) rfl rfl (d_rq rfl (d_jn 0 ([0, ((SP 64 8 a : Nat) : Int)], [false], []) ?_ rfl (d_rq rfl rfl)))
  refine d_itF rfl ?_
  refine d_jn 0 ([], [false], []) rfl rfl (d_rq rfl (d_jn 0 ([0, ((SP 64 8 a : Nat) : Int)], [false], []) ?_ rfl (d_rq rfl rfl)))
  refine d_itF rfl ?_
  refine d_jn 0 ([], [false], []) rfl rfl (d_rq rfl (d_jn 0 ([0, ((SP 64 8 a : Nat) : Int)], [false], []) ?_ rfl (d_rq rfl rfl)))
  refine d_itF rfl ?_
  refine d_jn 0 ([0, ((SP 64 8 a : Nat) : Int)], [false], []) ?_ rfl (d_rq rfl rfl)
  refine d_itF rfl ?_
  refine d_jn 0 ([0, ((SP 64 8 a : Nat) : Int)], [false], []) ?_ rfl (d_rq rfl rfl)
  refine d_itF rfl ?_
  refine d_jn 0 ([0, ((SP 64 8 a : Nat) : Int)], [false], []) ?_ rfl (d_rq rfl rfl)
  refine d_itT rfl ?_
  refine d_callx [(a : Int), 8, 64] [] [] ([((SP 64 8 a : Nat) : Int)], [], []) e12_28 rfl rfl rfl (q_sp (w := 64) (kk := 8) (.inr rfl) (by decide)) rfl ?_
  rfl
theorem u_195 {a A : Nat} (ha : a < 2 ^ 64) (hA : a % 2 ^ 32 = A) : F12 [195, (a : Int)] [] [] = some ([((SP 64 16 a : Nat) : Int)], [true], []) := by
  have lA : A < 2 ^ 32 := hA ▸ Nat.mod_lt _ (Nat.two_pow_pos _)
  refine of_ret ?_
  unfold t12
  refine d_lb false rfl (d_jn 0 ([32], [], []) rfl rfl (d_rq rfl ?_))
  refine d_callx [(a : Int), 32] [] [] ([(A : Int)], [], []) e12_25 rfl rfl rfl ((q_cut (w := 32) (.inl rfl) ha).trans (by rw [hA])) rfl ?_
  refine d_jn 0 ([], [false], []) rfl rfl (d_rq rfl (d_itF rfl ?_))
  refine d_jn 0 ([], [false], []) rfl rfl (d_rq rfl (d_jn 0 ([0, ((SP 64 16 a : Nat) : Int)], [false], []) ?_ rfl (d_rq rfl rfl)))
  refine d_itF rfl ?_
  refine d_jn 0 ([], [false], []) rfl rfl (d_rq rfl (d_jn 0 ([0, ((SP 64 16 a : Nat) : Int)], [false], []) ?_ rfl (d_rq rfl rfl)))
  refine d_itF rfl ?_
  refine d_jn 0 ([], [false], []) rfl rfl (d_rq rfl (d_jn 0 ([0, ((SP 64 16 a : Nat) : Int)], [false], []) ?_ rfl (d_rq rfl rfl)))
  refine d_itF rfl ?_
  refine d_jn 0 ([], [false], []) rfl rfl (d_rq rfl (d_jn 0 ([0, ((SP 64 16 a : Nat) : Int)], [false], []) ?_ rfl (d_rq rfl rfl)))
  refine d_itF rfl ?_
  refine d_jn 0 ([], [false], []) rfl rfl (d_rq rfl (d_jn 0 ([0, ((SP 64 16 a : Nat) : Int)], [false], []) ?_ rfl (d_rq rfl rfl)))
  refine d_itF rfl ?_
  refine d_jn 0 ([0, ((SP 64 16 a : Nat) : Int)], [false], []) ?_ rfl (d_rq rfl rfl)
  refine d_itF rfl ?_
  refine d_jn 0 ([0, ((SP 64 16 a : Nat) : Int)], [false], []) ?_ rfl (d_rq rfl rfl)
  refine d_itF rfl ?_
  refine d_jn 0 ([0, ((SP 64 16 a : Nat) : Int)], [false], []) ?_ rfl (d_rq rfl rfl)
  refine d_itF rfl ?_
  refine d_itT rfl ?_
  refine d_callx [(a : Int), 16, 64] [] [] ([((SP 64 16 a : Nat) : Int)], [], []) e12_28 rfl rfl rfl (q_sp (w := 64) (kk := 16) (.inr rfl) (by decide)) rfl ?_
  rfl
theorem u_196 {a A : Nat} (ha : a < 2 ^ 64) (hA : a % 2 ^ 32 = A) : F12 [196, (a : Int)] [] [] = some ([((SP 64 32 a : Nat) : Int)], [true], []) := by
  have lA : A < 2 ^ 32 := hA ▸ Nat.mod_lt _ (Nat.two_pow_pos _)
  refine of_ret ?_
  unfold t12
  refine d_lb false rfl (d_jn 0 ([32], [], []) rfl rfl (d_rq rfl ?_))
  refine d_callx [(a : Int), 32] [] [] ([(A : Int)], [], []) e12_25 rfl rfl rfl ((q_cut (w := 32) (.inl rfl) ha).trans (by rw [hA])) rfl ?_
  refine d_jn 0 ([], [false], []) rfl rfl (d_rq rfl (d_itF rfl ?_))
  refine d_jn 0 ([], [false], []) rfl rfl (d_rq rfl (d_jn 0 ([0, ((SP 64 32 a : Nat) : Int)], [false], []) ?_ rfl (d_rq rfl rfl)))
  refine d_itF rfl ?_
  refine d_jn 0 ([], [false], []) rfl rfl (d_rq rfl (d_jn 0 ([0, ((SP 64 32 a : Nat) : Int)], [false], []) ?_ rfl (d_rq rfl rfl)))
  refine d_itF rfl ?_
  refine d_jn 0 ([], [false], []) rfl rfl (d_rq rfl (d_jn 0 ([0, ((SP 64 32 a : Nat) : Int)], [false], []) ?_ rfl (d_rq rfl rfl)))
  refine d_itF rfl ?_
  refine d_jn 0 ([], [false], []) rfl rfl (d_rq rfl (d_jn 0 ([0, ((SP 64 32 a : Nat) : Int)], [false], []) ?_ rfl (d_rq rfl rfl)))
  refine d_itF rfl ?_
  refine d_jn 0 ([], [true], []) rfl rfl (d_rq rfl (d_jn 0 ([0, ((SP 64 32 a : Nat) : Int)], [false], []) ?_ rfl (d_rq rfl rfl)))
  refine d_itT rfl ?_
  refine d_callx [(a : Int), 32, 64] [] [] ([((SP 64 32 a : Nat) : Int)], [], []) e12_28 rfl rfl rfl (q_sp (w := 64) (kk := 32) (.inr rfl) (by decide)) rfl ?_
  rfl
/-- No code of Un. -/
def notU (op : Int) : Prop := op ≠ 69 ∧ op ≠ 80 ∧ op ≠ 103 ∧ op ≠ 104 ∧ op ≠ 105 ∧ op ≠ 121 ∧ op ≠ 122 ∧ op ≠ 123 ∧ op ≠ 167 ∧ op ≠ 172 ∧ op ≠ 173 ∧ op ≠ 192 ∧ op ≠ 193 ∧ op ≠ 194 ∧ op ≠ 195 ∧ op ≠ 196
theorem u_out {a : Nat} {op : Int} (ha : a < 2 ^ 64) (h : notU op) : F12 [op, (a : Int)] [] [] = some ([0], [false], []) := by
  obtain ⟨h69, h80, h103, h104, h105, h121, h122, h123, h167, h172, h173, h192, h193, h194, h195, h196⟩ := h
  refine of_ret ?_
  unfold t12
  refine d_lb false (show (decide (op ≥ 121) && decide (op ≤ 123)) = false by rw [Bool.and_eq_false_iff, decide_eq_false_iff_not, decide_eq_false_iff_not]; omega) (d_jn 0 ([32], [], []) (d_itF (show (false || (op == 80)) = false by rw [eq_f h80]; rfl) rfl) rfl (d_rq rfl ?_))
  refine d_callx [(a : Int), 32] [] [] ([((a % 2 ^ 32 : Nat) : Int)], [], []) e12_25 rfl rfl rfl (q_cut (w := 32) (.inl rfl) ha) rfl ?_
  refine d_jn 0 ([], [false], []) (d_itF (eq_f h69) (by show some (Out.brk 0 ([], [op == 80], [])) = _; rw [eq_f h80])) rfl (d_rq rfl (d_itF rfl ?_))
  refine d_jn 0 ([], [false], []) (d_itF (eq_f h103) (by show some (Out.brk 0 ([], [op == 121], [])) = _; rw [eq_f h121])) rfl (d_rq rfl (d_jn_ret (d_itF rfl ?_)))
  refine d_jn 0 ([], [false], []) (d_itF (eq_f h104) (by show some (Out.brk 0 ([], [op == 122], [])) = _; rw [eq_f h122])) rfl (d_rq rfl (d_jn_ret (d_itF rfl ?_)))
  refine d_jn 0 ([], [false], []) (d_itF (eq_f h105) (by show some (Out.brk 0 ([], [op == 123], [])) = _; rw [eq_f h123])) rfl (d_rq rfl (d_jn_ret (d_itF rfl ?_)))
  refine d_jn 0 ([], [false], []) (d_itF (eq_f h167) (by show some (Out.brk 0 ([], [op == 173], [])) = _; rw [eq_f h173])) rfl (d_rq rfl (d_jn_ret (d_itF rfl ?_)))
  refine d_jn 0 ([], [false], []) (d_itF (eq_f h172) (by show some (Out.brk 0 ([], [op == 196], [])) = _; rw [eq_f h196])) rfl (d_rq rfl (d_jn_ret (d_itF rfl ?_)))
  refine d_jn_ret (d_itF (eq_f h192) ?_)
  refine d_jn_ret (d_itF (eq_f h193) ?_)
  refine d_jn_ret (d_itF (eq_f h194) ?_)
  refine d_itF (eq_f h195) ?_
  rfl
end Go.Proofs.YtghekmcdokgkkaaDoor.DNumDoes
