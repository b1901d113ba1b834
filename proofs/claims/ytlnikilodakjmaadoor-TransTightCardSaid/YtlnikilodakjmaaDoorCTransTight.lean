/-
  Bin of layer 19: what it tells of each kind of operation.
-/
import Derived.Test.YtlnikilodakjmaaDoorXTransTight
import Derived.Test.YtlnikilodakjmaaDoorSn
import Derived.Test.YtlnikilodakjmaaDoorNTransTight
import Derived.Test.YtlnikilodakjmaaDoorITransTight
import Derived.Test.YtlnikilodakjmaaDoorZTransTight
import Derived.Test.YtlnikilodakjmaaDoorRTransTight
import Derived.Test.YtlnikilodakjmaaDoorBTransTight
import Derived.Lib.BitFns
import Derived.Lib.TrailingZeros
namespace Go.Proofs.YtlnikilodakjmaaDoor.CTransTight
open Go.Proofs.YtlnikilodakjmaaDoor.NTransTight Go.Proofs.YtlnikilodakjmaaDoor.ITransTight Go.Proofs.YtlnikilodakjmaaDoor.ZTransTight Go.Proofs.YtlnikilodakjmaaDoor.RTransTight Go.Proofs.YtlnikilodakjmaaDoor.BTransTight Go.Proofs.YtlnikilodakjmaaDoor.Sx Go.Proofs.YtlnikilodakjmaaDoor.Sn Go.Proofs.YtlnikilodakjmaaDoor.XTransTight Go.Proofs.YtlnikilodakjmaaDoor.ETransTight
set_option linter.unusedSimpArgs false
set_option linter.unusedVariables false
set_option maxHeartbeats 4000000 in
theorem q31_o (op : Int) (h : ¬ (70 ≤ op ∧ op ≤ 79) ∧ ¬ (81 ≤ op ∧ op ≤ 90)) : F31 [op] [] = some ([0, 0], [false]) := by
  refine Eq.trans (Fd_of (n := 1) (m := 0) (t := XTransTight.t31) (C := Tab.fn a31) rfl rfl) ?_
  rw [XTransTight.t31]
  refine st_lb fun b0 hb0 => ?_
  replace hb0 : b0 = ((decide (op ≥ 70)) && (decide (op ≤ 79))) := hb0
  show T.den _ _ [op] [b0] = _
  refine st_ite (fun hc => ?_) (fun hc => ?_)
  · replace hc : b0 = true := hc
    have c1 := hc
    clear hc
    rw [hb0] at c1; simp only [Bool.and_eq_true, decide_eq_true_eq] at c1; omega
  · replace hc : b0 = false := hc
    have c2 := hc
    clear hc
    refine st_lb fun b1 hb1 => ?_
    replace hb1 : b1 = ((decide (op ≥ 81)) && (decide (op ≤ 90))) := hb1
    show T.den _ _ [op] [b0, b1] = _
    refine st_ite (fun hc => ?_) (fun hc => ?_)
    · replace hc : b1 = true := hc
      have c3 := hc
      clear hc
      rw [hb1] at c3; simp only [Bool.and_eq_true, decide_eq_true_eq] at c3; omega
    · replace hc : b1 = false := hc
      have c4 := hc
      clear hc
      refine st_ret ?_
      show some ([0, 0], [false]) = _
      rfl

def Fit (t : Int) (n : Nat) : Prop := t = 127 → n < 2 ^ 32
theorem cut_nat {lo hi N r : Nat} (t : Int) (h : Rt lo hi N r) : ∃ a b c d : Nat, Rt a b c d ∧ F32 [(lo : Int), (hi : Int), (N : Int), (r : Int), t] [] = some ([(a : Int), (b : Int), (c : Int), (d : Int)], []) ∧ b ≤ Tn t ∧
    ∀ n, n < 2 ^ 64 → Fit t n → hAN lo hi N r n = true → hAN a b c d n = true := by
  have hq := q32 (lo : Int) hi N r t (by omega)
  unfold cc1 cc2 cc3 cc4 at hq
  unfold Tn
  by_cases ht : t = 127
  · by_cases hm : (lo : Int) ≤ min (hi : Int) 4294967295
    · simp only [if_pos ht, if_pos hm] at hq ⊢
      refine ⟨lo, min hi 4294967295, N, r, ⟨by omega, by have := h.2.1; omega, h.2.2⟩, ?_, by omega, fun n hn hf hA => ?_⟩
      · rw [hq, show min (hi : Int) 4294967295 = ((min hi 4294967295 : Nat) : Int) from by omega]
      · obtain ⟨k1, k2, k3⟩ := hAN_true hA
        have := hf ht
        exact hAN_of k1 (by omega) k3
    · simp only [if_pos ht, if_neg hm] at hq ⊢
      refine ⟨0, 4294967295, 0, 0, ⟨by decide, by decide, by decide, by decide⟩, hq, by omega, fun n hn hf hA => ?_⟩
      obtain ⟨k1, k2, k3⟩ := hAN_true hA
      have := hf ht
      exfalso; omega
  · simp only [if_neg ht] at hq ⊢
    exact ⟨lo, hi, N, r, h, hq, by have := h.2.1; omega, fun n hn hf hA => hA⟩
/-- What Bin tells: right, tight, within the type, and what each number gives is in it. -/
def BinFin (op i o : Int) (f g : Int → Int → Int) : Prop := ∀ lo hi N r lo2 hi2 M q : Nat, Rt lo hi N r → Rt lo2 hi2 M q → ∃ x0 x1 x2 x3, F25 [op, (lo : Int), (hi : Int), (N : Int), (r : Int), (lo2 : Int), (hi2 : Int), (M : Int), (q : Int)] [] = some ([x0, x1, x2, x3], [true]) ∧
  FH (Tn o) (fun v => ∃ n m : Nat, n < 2 ^ 64 ∧ m < 2 ^ 64 ∧ Fit i n ∧ Fit i m ∧ hAN lo hi N r n = true ∧ hAN lo2 hi2 M q m = true ∧ (v : Int) = f n m ∧ g n m = 0) x0 x1 x2 x3
def Val (op o : Int) (f g : Int → Int → Int) : Prop := (∀ a b, InR a → InR b → F16 [op, a, b] [] = some ([f a b, g a b], [true])) ∧ ∀ a b, InR a → InR b → g a b = 0 → ∃ v : Nat, f a b = v ∧ v ≤ Tn o
theorem top_fin {op i o : Int} {f g : Int → Int → Int} (hv : Val op o f g) (lo hi N r lo2 hi2 M q : Nat) : FH (Tn o) (fun v => ∃ n m : Nat, n < 2 ^ 64 ∧ m < 2 ^ 64 ∧ Fit i n ∧ Fit i m ∧ hAN lo hi N r n = true ∧ hAN lo2 hi2 M q m = true ∧ (v : Int) = f n m ∧ g n m = 0) 0 (Tn o : Nat) 0 0 := by
  refine fin_top o ?_
  rintro v ⟨n, m, hn, hm, _, _, _, _, e, hg⟩
  obtain ⟨v', e', h'⟩ := hv.2 n m ⟨by omega, by omega⟩ ⟨by omega, by omega⟩ hg
  omega
/-- Of two numbers that are known. -/
theorem con_fin {op i o : Int} {f g : Int → Int → Int} (hT : F13 [op] [] = some ([2, i, i, o], [true])) (hv : Val op o f g) {lo hi N r lo2 hi2 M q a b c d a' b' c' d' : Nat} (hR : Rt a b c d) (hR' : Rt a' b' c' d')
    (hc1 : F32 [(lo : Int), (hi : Int), (N : Int), (r : Int), i] [] = some ([(a : Int), (b : Int), (c : Int), (d : Int)], [])) (hc2 : F32 [(lo2 : Int), (hi2 : Int), (M : Int), (q : Int), i] [] = some ([(a' : Int), (b' : Int), (c' : Int), (d' : Int)], []))
    (hA : ∀ n, n < 2 ^ 64 → Fit i n → hAN lo hi N r n = true → hAN a b c d n = true) (hA' : ∀ n, n < 2 ^ 64 → Fit i n → hAN lo2 hi2 M q n = true → hAN a' b' c' d' n = true) (hbo : (ob (a : Int) b c && ob (a' : Int) b' c') = true) :
    ∃ x0 x1 x2 x3, F25 [op, (lo : Int), (hi : Int), (N : Int), (r : Int), (lo2 : Int), (hi2 : Int), (M : Int), (q : Int)] [] = some ([x0, x1, x2, x3], [true]) ∧ FH (Tn o) (fun v => ∃ n m : Nat, n < 2 ^ 64 ∧ m < 2 ^ 64 ∧ Fit i n ∧ Fit i m ∧ hAN lo hi N r n = true ∧ hAN lo2 hi2 M q m = true ∧ (v : Int) = f n m ∧ g n m = 0) x0 x1 x2 x3 := by
  have i1 := ov_in (a := (a : Int)) (b := b) (N := c) hR.inr.1 hR.inr.2.2
  have i2 := ov_in (a := (a' : Int)) (b := b') (N := c') hR'.inr.1 hR'.inr.2.2
  have h16 := hv.1 _ _ i1 i2
  by_cases hg : g (ov (a : Int) b c d) (ov (a' : Int) b' c' d') = 0
  · obtain ⟨v, e, hvT⟩ := hv.2 _ _ i1 i2 hg
    rw [e] at h16
    refine ⟨_, _, _, _, q25_con op i _ _ _ _ _ _ _ _ lo hi N r lo2 hi2 M q hc1 hc2 o _ _ hT hbo h16 hg, fh_mono (fin_const v hvT (Tn_lt o).1) ?_⟩
    rintro x ⟨n, m, hn, hm, fn, fm, h1, h2, e1, e2⟩
    rw [Bool.and_eq_true] at hbo
    have k1 := one_N hR hn hbo.1 (hA n hn fn h1)
    have k2 := one_N hR' hm hbo.2 (hA' m hm fm h2)
    rw [k1, k2] at e
    omega
  · exact ⟨_, _, _, _, q25_top op i _ _ _ _ _ _ _ _ lo hi N r lo2 hi2 M q hc1 hc2 o _ _ hT hbo h16 hg, top_fin hv lo hi N r lo2 hi2 M q⟩

theorem arith_126 {op k : Int} {f g : Int → Int → Int} (R : Nat → Nat → Nat → Prop) (hT : F13 [op] [] = some ([2, 126, 126, 126], [true])) (hv : Val op 126 f g) (hp : F31 [op] [] = some ([0, 0], [false])) (hk : arI .sub .i64 op 124 = k)
    (hrec : ∀ {lo hi N r lo2 hi2 M q : Nat}, Rt lo hi N r → Rt lo2 hi2 M q → hi ≤ Tn 126 → hi2 ≤ Tn 126 → Rec (Tn 126) k 126 lo hi N r lo2 hi2 M q R) (hR : ∀ n m v : Nat, n < 2 ^ 64 → m < 2 ^ 64 → Fit 126 n → Fit 126 m → (v : Int) = f n m → g n m = 0 → R n m v) : BinFin op 126 126 f g := by
  intro lo hi N r lo2 hi2 M q h h2
  obtain ⟨a, b, c, d, hRt, hc1, hb, hA⟩ := cut_nat 126 h
  obtain ⟨a', b', c', d', hRt', hc2, hb', hA'⟩ := cut_nat 126 h2
  cases hbo : (ob (a : Int) b c && ob (a' : Int) b' c')
  · rcases rec_fin (hrec hRt hRt' hb hb') with ⟨x0, x1, x2, x3, hF⟩ | ⟨x0, x1, x2, x3, z0, z1, z2, z3, hF, h47, hf⟩
    · exact ⟨_, _, _, _, q25_rf126 op 126 _ _ _ _ _ _ _ _ lo hi N r lo2 hi2 M q hT hc1 hc2 _ _ _ _ 0 0 0 0 _ hbo hp hk hF, top_fin hv lo hi N r lo2 hi2 M q⟩
    · refine ⟨_, _, _, _, q25_rt126 op 126 _ _ _ _ _ _ _ _ lo hi N r lo2 hi2 M q hT hc1 hc2 _ _ _ _ _ _ _ _ _ hbo hp hk hF h47, fh_mono hf ?_⟩
      rintro v ⟨n, m, hn, hm, fn, fm, h1, h3, e1, e2⟩
      exact ⟨n, m, hn, hm, hA n hn fn h1, hA' m hm fm h3, hR n m v hn hm fn fm e1 e2⟩
  · exact con_fin hT hv hRt hRt' hc1 hc2 hA hA' hbo

theorem arith_127 {op k : Int} {f g : Int → Int → Int} (R : Nat → Nat → Nat → Prop) (hT : F13 [op] [] = some ([2, 127, 127, 127], [true])) (hv : Val op 127 f g) (hp : F31 [op] [] = some ([0, 0], [false])) (hk : arI .sub .i64 op 106 = k)
    (hrec : ∀ {lo hi N r lo2 hi2 M q : Nat}, Rt lo hi N r → Rt lo2 hi2 M q → hi ≤ Tn 127 → hi2 ≤ Tn 127 → Rec (Tn 127) k 127 lo hi N r lo2 hi2 M q R) (hR : ∀ n m v : Nat, n < 2 ^ 64 → m < 2 ^ 64 → Fit 127 n → Fit 127 m → (v : Int) = f n m → g n m = 0 → R n m v) : BinFin op 127 127 f g := by
  intro lo hi N r lo2 hi2 M q h h2
  obtain ⟨a, b, c, d, hRt, hc1, hb, hA⟩ := cut_nat 127 h
  obtain ⟨a', b', c', d', hRt', hc2, hb', hA'⟩ := cut_nat 127 h2
  cases hbo : (ob (a : Int) b c && ob (a' : Int) b' c')
  · rcases rec_fin (hrec hRt hRt' hb hb') with ⟨x0, x1, x2, x3, hF⟩ | ⟨x0, x1, x2, x3, z0, z1, z2, z3, hF, h47, hf⟩
    · exact ⟨_, _, _, _, q25_rf127 op 127 _ _ _ _ _ _ _ _ lo hi N r lo2 hi2 M q hT hc1 hc2 _ _ _ _ 0 0 0 0 _ hbo hp hk hF, top_fin hv lo hi N r lo2 hi2 M q⟩
    · refine ⟨_, _, _, _, q25_rt127 op 127 _ _ _ _ _ _ _ _ lo hi N r lo2 hi2 M q hT hc1 hc2 _ _ _ _ _ _ _ _ _ hbo hp hk hF h47, fh_mono hf ?_⟩
      rintro v ⟨n, m, hn, hm, fn, fm, h1, h3, e1, e2⟩
      exact ⟨n, m, hn, hm, hA n hn fn h1, hA' m hm fm h3, hR n m v hn hm fn fm e1 e2⟩
  · exact con_fin hT hv hRt hRt' hc1 hc2 hA hA' hbo

theorem cmp_fin {op i k : Int} {f : Int → Int → Int} (hT : F13 [op] [] = some ([2, i, i, 127], [true])) (c : Nat → Nat → Bool) (hv : Val op 127 f (fun _ _ => 0)) (hp : F31 [op] [] = some ([k, i], [true])) (hf : ∀ n m : Nat, n < 2 ^ 64 → m < 2 ^ 64 → Fit i n → Fit i m → f n m = bif c n m then 1 else 0)
    (h56 : ∀ {lo hi N r lo2 hi2 M q : Nat}, Rt lo hi N r → Rt lo2 hi2 M q → ∃ y s, F56 [k, (lo : Int), (hi : Int), (N : Int), (r : Int), (lo2 : Int), (hi2 : Int), (M : Int), (q : Int)] [] = some ([], [y, s]) ∧ (s = true → ∀ n m, n < 2 ^ 64 → m < 2 ^ 64 → hAN lo hi N r n = true → hAN lo2 hi2 M q m = true → c n m = y)) : BinFin op i 127 f (fun _ _ => 0) := by
  intro lo hi N r lo2 hi2 M q h h2
  obtain ⟨a, b, cc, d, hRt, hc1, hb, hA⟩ := cut_nat i h
  obtain ⟨a', b', c', d', hRt', hc2, hb', hA'⟩ := cut_nat i h2
  cases hbo : (ob (a : Int) b cc && ob (a' : Int) b' c')
  · obtain ⟨y, s, e, hs⟩ := h56 hRt hRt'
    cases hs' : s
    · refine ⟨_, _, _, _, q25_ce op i _ _ _ _ _ _ _ _ lo hi N r lo2 hi2 M q hc1 hc2 127 k i y s hT hbo hp e hs', fh_mono (fin_0 (T := Tn 127) 1 (by decide) (by decide) (by decide)) ?_⟩
      rintro v ⟨n, m, hn, hm, fn, fm, h1, h3, e1, e2⟩
      rw [hf n m hn hm fn fm] at e1
      show v ≤ 1
      cases hcc : c n m <;> rw [hcc] at e1 <;> simp only [cond_true, cond_false] at e1 <;> omega
    · cases y
      · refine ⟨_, _, _, _, q25_cs op i _ _ _ _ _ _ _ _ lo hi N r lo2 hi2 M q hc1 hc2 127 k i false s hT hbo hp e hs', fh_mono (fin_const (T := Tn 127) 0 (by decide) (by decide)) ?_⟩
        rintro v ⟨n, m, hn, hm, fn, fm, h1, h3, e1, e2⟩
        rw [hf n m hn hm fn fm, hs hs' n m hn hm (hA n hn fn h1) (hA' m hm fm h3)] at e1
        simp only [cond_true, cond_false] at e1; omega
      · refine ⟨_, _, _, _, q25_cs op i _ _ _ _ _ _ _ _ lo hi N r lo2 hi2 M q hc1 hc2 127 k i true s hT hbo hp e hs', fh_mono (fin_const (T := Tn 127) 1 (by decide) (by decide)) ?_⟩
        rintro v ⟨n, m, hn, hm, fn, fm, h1, h3, e1, e2⟩
        rw [hf n m hn hm fn fm, hs hs' n m hn hm (hA n hn fn h1) (hA' m hm fm h3)] at e1
        simp only [cond_true, cond_false] at e1; omega
  · exact con_fin hT hv hRt hRt' hc1 hc2 hA hA' hbo

theorem sure_0 {lo hi N r lo2 hi2 M q : Nat} (h : Rt lo hi N r) (h2 : Rt lo2 hi2 M q) : ∃ y s, F56 [0, (lo : Int), (hi : Int), (N : Int), (r : Int), (lo2 : Int), (hi2 : Int), (M : Int), (q : Int)] [] = some ([], [y, s]) ∧ (s = true → ∀ n m, n < 2 ^ 64 → m < 2 ^ 64 → hAN lo hi N r n = true → hAN lo2 hi2 M q m = true → (decide (n = m)) = y) := by
  refine ⟨_, _, q56_0 h h2, fun hs n m hn hm hA hB => ?_⟩
  have e : tb (mt lo hi N r lo2 hi2 M q) = false := by simpa using hs
  have hne : n ≠ m := fun e2 => by
    subst e2
    have := (meet_res h h2).2 n hn hA hB
    rw [e] at this; exact absurd this.1 (by decide)
  rw [decide_eq_false hne]

theorem sure_1 {lo hi N r lo2 hi2 M q : Nat} (h : Rt lo hi N r) (h2 : Rt lo2 hi2 M q) : ∃ y s, F56 [1, (lo : Int), (hi : Int), (N : Int), (r : Int), (lo2 : Int), (hi2 : Int), (M : Int), (q : Int)] [] = some ([], [y, s]) ∧ (s = true → ∀ n m, n < 2 ^ 64 → m < 2 ^ 64 → hAN lo hi N r n = true → hAN lo2 hi2 M q m = true → (decide (n ≠ m)) = y) := by
  refine ⟨_, _, q56_1 h h2, fun hs n m hn hm hA hB => ?_⟩
  have e : tb (mt lo hi N r lo2 hi2 M q) = false := by simpa using hs
  have hne : n ≠ m := fun e2 => by
    subst e2
    have := (meet_res h h2).2 n hn hA hB
    rw [e] at this; exact absurd this.1 (by decide)
  rw [decide_eq_true hne, e]; rfl

theorem sure_2 (c : Nat → Nat → Bool) {lo hi N r lo2 hi2 M q : Nat} (h : Rt lo hi N r) (h2 : Rt lo2 hi2 M q) : ∃ y s, F56 [2, (lo : Int), (hi : Int), (N : Int), (r : Int), (lo2 : Int), (hi2 : Int), (M : Int), (q : Int)] [] = some ([], [y, s]) ∧ (s = true → ∀ n m, n < 2 ^ 64 → m < 2 ^ 64 → hAN lo hi N r n = true → hAN lo2 hi2 M q m = true → c n m = y) := ⟨_, _, q56_2 h h2, fun hs => by cases hs⟩

theorem sure_3 {lo hi N r lo2 hi2 M q : Nat} (h : Rt lo hi N r) (h2 : Rt lo2 hi2 M q) : ∃ y s, F56 [3, (lo : Int), (hi : Int), (N : Int), (r : Int), (lo2 : Int), (hi2 : Int), (M : Int), (q : Int)] [] = some ([], [y, s]) ∧ (s = true → ∀ n m, n < 2 ^ 64 → m < 2 ^ 64 → hAN lo hi N r n = true → hAN lo2 hi2 M q m = true → (decide (n < m)) = y) := by
  refine ⟨_, _, q56_3 h h2, fun hs n m hn hm hA hB => ?_⟩
  have k1 := hAN_true hA
  have k2 := hAN_true hB
  rw [Bool.or_eq_true, decide_eq_true_eq, decide_eq_true_eq] at hs
  rw [Bool.eq_iff_iff, decide_eq_true_iff, decide_eq_true_iff]; omega

theorem sure_4 (c : Nat → Nat → Bool) {lo hi N r lo2 hi2 M q : Nat} (h : Rt lo hi N r) (h2 : Rt lo2 hi2 M q) : ∃ y s, F56 [4, (lo : Int), (hi : Int), (N : Int), (r : Int), (lo2 : Int), (hi2 : Int), (M : Int), (q : Int)] [] = some ([], [y, s]) ∧ (s = true → ∀ n m, n < 2 ^ 64 → m < 2 ^ 64 → hAN lo hi N r n = true → hAN lo2 hi2 M q m = true → c n m = y) := ⟨_, _, q56_4 h h2, fun hs => by cases hs⟩

theorem sure_5 {lo hi N r lo2 hi2 M q : Nat} (h : Rt lo hi N r) (h2 : Rt lo2 hi2 M q) : ∃ y s, F56 [5, (lo : Int), (hi : Int), (N : Int), (r : Int), (lo2 : Int), (hi2 : Int), (M : Int), (q : Int)] [] = some ([], [y, s]) ∧ (s = true → ∀ n m, n < 2 ^ 64 → m < 2 ^ 64 → hAN lo hi N r n = true → hAN lo2 hi2 M q m = true → (decide (n > m)) = y) := by
  refine ⟨_, _, q56_5 h h2, fun hs n m hn hm hA hB => ?_⟩
  have k1 := hAN_true hA
  have k2 := hAN_true hB
  rw [Bool.or_eq_true, decide_eq_true_eq, decide_eq_true_eq] at hs
  rw [Bool.eq_iff_iff, decide_eq_true_iff, decide_eq_true_iff]; omega

theorem sure_6 (c : Nat → Nat → Bool) {lo hi N r lo2 hi2 M q : Nat} (h : Rt lo hi N r) (h2 : Rt lo2 hi2 M q) : ∃ y s, F56 [6, (lo : Int), (hi : Int), (N : Int), (r : Int), (lo2 : Int), (hi2 : Int), (M : Int), (q : Int)] [] = some ([], [y, s]) ∧ (s = true → ∀ n m, n < 2 ^ 64 → m < 2 ^ 64 → hAN lo hi N r n = true → hAN lo2 hi2 M q m = true → c n m = y) := ⟨_, _, q56_6 h h2, fun hs => by cases hs⟩

theorem sure_7 {lo hi N r lo2 hi2 M q : Nat} (h : Rt lo hi N r) (h2 : Rt lo2 hi2 M q) : ∃ y s, F56 [7, (lo : Int), (hi : Int), (N : Int), (r : Int), (lo2 : Int), (hi2 : Int), (M : Int), (q : Int)] [] = some ([], [y, s]) ∧ (s = true → ∀ n m, n < 2 ^ 64 → m < 2 ^ 64 → hAN lo hi N r n = true → hAN lo2 hi2 M q m = true → (decide (n ≤ m)) = y) := by
  refine ⟨_, _, q56_7 h h2, fun hs n m hn hm hA hB => ?_⟩
  have k1 := hAN_true hA
  have k2 := hAN_true hB
  rw [Bool.or_eq_true, decide_eq_true_eq, decide_eq_true_eq] at hs
  rw [Bool.eq_iff_iff, decide_eq_true_iff, decide_eq_true_iff]; omega

theorem sure_8 (c : Nat → Nat → Bool) {lo hi N r lo2 hi2 M q : Nat} (h : Rt lo hi N r) (h2 : Rt lo2 hi2 M q) : ∃ y s, F56 [8, (lo : Int), (hi : Int), (N : Int), (r : Int), (lo2 : Int), (hi2 : Int), (M : Int), (q : Int)] [] = some ([], [y, s]) ∧ (s = true → ∀ n m, n < 2 ^ 64 → m < 2 ^ 64 → hAN lo hi N r n = true → hAN lo2 hi2 M q m = true → c n m = y) := ⟨_, _, q56_8 h h2, fun hs => by cases hs⟩

theorem sure_9 {lo hi N r lo2 hi2 M q : Nat} (h : Rt lo hi N r) (h2 : Rt lo2 hi2 M q) : ∃ y s, F56 [9, (lo : Int), (hi : Int), (N : Int), (r : Int), (lo2 : Int), (hi2 : Int), (M : Int), (q : Int)] [] = some ([], [y, s]) ∧ (s = true → ∀ n m, n < 2 ^ 64 → m < 2 ^ 64 → hAN lo hi N r n = true → hAN lo2 hi2 M q m = true → (decide (n ≥ m)) = y) := by
  refine ⟨_, _, q56_9 h h2, fun hs n m hn hm hA hB => ?_⟩
  have k1 := hAN_true hA
  have k2 := hAN_true hB
  rw [Bool.or_eq_true, decide_eq_true_eq, decide_eq_true_eq] at hs
  rw [Bool.eq_iff_iff, decide_eq_true_iff, decide_eq_true_iff]; omega
end Go.Proofs.YtlnikilodakjmaaDoor.CTransTight
