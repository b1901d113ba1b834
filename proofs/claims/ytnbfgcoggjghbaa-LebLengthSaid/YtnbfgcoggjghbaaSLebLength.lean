/-
  LebLength, of numbers alone: the law answers true.
-/
import Derived.Test.YtnbfgcoggjghbaaXLebLength
import Derived.Test.YtnbfgcoggjghbaaVl
namespace Go.Proofs.Ytnbfgcoggjghbaa.SLebLength
open Go.Proofs.Ytnbfgcoggjghbaa.Vx Go.Proofs.Ytnbfgcoggjghbaa.XLebLength Go.Proofs.Ytnbfgcoggjghbaa.Vd Go.Proofs.Ytnbfgcoggjghbaa.Vn Go.Proofs.Ytnbfgcoggjghbaa.Vl
theorem q9 : F9 [] [] [] = some ([], [true], []) := by kernel_rfl
theorem q22 (l : List D) (h : l.length ≤ 17592186044416) : F22 [] [] [l] = some ([], [], [l]) := by
  refine of_ret ?_
  unfold t22
  refine d_nz (fun e => ?_) ?_
  · have e : l = [] := e
    rw [e]
    rfl
  · have h : ((l.length : Nat) : Int) ≤ 17592186044416 := by omega
    simp [T.den, E.B, E.I, cmB, LE.L, vals, h]
theorem loopU (f : Nat) : ∀ (n k : Nat) (v : Int) (l0 l : List D), n < 128 ^ (f + 1) → l.length + f ≤ 17592186044410 → ∃ (n' : Nat) (l' : List D), n' < 128 ∧ l' ++ dl [(n' : Int)] = l ++ dl (uB f n) ∧
    iterT 1 0 1 (fun r => l15_1.den (Tab.fn a15) ([v] ++ r.1) ([] ++ r.2.1) ([l0, l0] ++ r.2.2)) (k + (f + 1)) ([(n : Int)], [], [l]) = some (.brk 2 ([(n' : Int)], [], [l'])) := by
  have stop : ∀ (n k : Nat) (v : Int) (l0 l : List D), n < 128 → iterT 1 0 1 (fun r => l15_1.den (Tab.fn a15) ([v] ++ r.1) ([] ++ r.2.1) ([l0, l0] ++ r.2.2)) (k + 1) ([(n : Int)], [], [l]) = some (.brk 2 ([(n : Int)], [], [l])) := fun n k v l0 l h => by
    refine it_brk ?_
    have : ¬ (128 : Int) ≤ n := by omega
    simp [l15_1, T.den, E.B, E.I, cmB, LE.L, vals, this]
  induction f with
  | zero =>
    intro n k v l0 l h hl
    have hn : n < 128 := by simpa using h
    exact ⟨n, l, hn, by simp [uB, dl]; omega, stop n k v l0 l hn⟩
  | succ f ih =>
    intro n k v l0 l h hl
    by_cases hn : n < 128
    · exact ⟨n, l, hn, by simp [uB, dl, hn], stop n (k + (f + 1)) v l0 l hn⟩
    · obtain ⟨n', l', h1, h2, h3⟩ := ih (n / 128) k v l0 (l ++ dl [((n % 128 + 128 : Nat) : Int)]) (by rw [Nat.div_lt_iff_lt_mul (by decide), ← Nat.pow_succ]; exact h) (by simp [dl]; omega)
      refine ⟨n', l', h1, ?_, ?_⟩
      · rw [h2]
        conv => rhs; unfold uB
        rw [if_neg hn]
        simp [dl]
      · refine it_nxt (r' := ([((n / 128 : Nat) : Int)], [], [l ++ dl [((n % 128 + 128 : Nat) : Int)]])) ?_ rfl h3
        have h4 : (128 : Int) ≤ n := by omega
        have h5 : ((l.length : Nat) : Int) ≤ 17592186044416 := by omega
        have e1 : (n : Int).fdiv 128 = (n : Int) / 128 := by rw [Int.fdiv_eq_ediv_of_nonneg _ (by decide)]
        simp [l15_1, T.den, E.B, E.I, cmB, LE.L, vals, CE.D, mkD, h4, h5, arI, wrap_u8, bor128, e1, dl, IntKind.bits]
theorem q15 {n : Nat} (hn : n < 2 ^ 64) (l : List D) (h : l.length ≤ 17592186044400) : F15 [(n : Int)] [] [l] = some ([], [], [l ++ dl (uBytes n)]) := by
  refine of_ret ?_
  unfold t15
  refine d_call ([], [], [l]) (tab_hd rfl) (q22 l (by omega)) rfl ?_
  obtain ⟨k, hk⟩ := fuel_eq (9 + 1) (by decide)
  obtain ⟨n', l', h1, h2, h3⟩ := loopU 9 n k (n : Int) l l (by omega) (by omega)
  refine d_lp (t := 2) ([(n' : Int)], [], [l']) (by rw [hk]; exact h3) rfl ?_
  have hl : l'.length + 1 ≤ l.length + 10 := by
    have := congrArg List.length h2
    have h9 := uB_le 9 n
    simp [dl] at this
    omega
  have e1 : (n' : Int) % 256 = n' := by omega
  have h5 : ((l'.length : Nat) : Int) ≤ 17592186044416 := by omega
  simp [k15_2, T.den, E.B, E.I, cmB, LE.L, vals, CE.D, mkD, wrap_u8, h5, e1]
  exact h2
theorem loopS (f : Nat) : ∀ (n : Int) (k : Nat) (v : Int) (l0 l : List D), sR f n → l.length + f ≤ 17592186044410 → ∃ (n' : Int) (l' : List D), l' ++ dl [n' % 128] = l ++ dl (sB f n) ∧
    iterT 1 0 1 (fun r => l16_1.den (Tab.fn a16) ([v] ++ r.1) ([] ++ r.2.1) ([l0, l0] ++ r.2.2)) (k + (f + 1)) ([n], [], [l]) = some (.brk 2 ([n'], [], [l'])) := by
  have stop : ∀ (n : Int) (k : Nat) (v : Int) (l0 l : List D), -64 ≤ n ∧ n ≤ 63 → iterT 1 0 1 (fun r => l16_1.den (Tab.fn a16) ([v] ++ r.1) ([] ++ r.2.1) ([l0, l0] ++ r.2.2)) (k + 1) ([n], [], [l]) = some (.brk 2 ([n], [], [l])) := fun n k v l0 l h => by
    refine it_brk ?_
    have h1 : ¬ n < -64 := by omega
    have h2 : ¬ 63 < n := by omega
    simp [l16_1, T.den, E.B, E.I, cmB, LE.L, vals, h1, h2]
  induction f with
  | zero =>
    intro n k v l0 l h hl
    exact ⟨n, l, by simp [sB, dl], stop n k v l0 l (sR_zero.1 h)⟩
  | succ f ih =>
    intro n k v l0 l h hl
    by_cases hn : -64 ≤ n ∧ n ≤ 63
    · exact ⟨n, l, by simp [sB, dl, hn], stop n (k + (f + 1)) v l0 l hn⟩
    · obtain ⟨n', l', h2, h3⟩ := ih (n / 128) k v l0 (l ++ dl [n % 128 + 128]) (sR_div.1 h) (by simp [dl]; omega)
      refine ⟨n', l', ?_, ?_⟩
      · rw [h2]
        conv => rhs; unfold sB
        rw [if_neg hn]
        simp [dl]
      · refine it_nxt (r' := ([n / 128], [], [l ++ dl [n % 128 + 128]])) ?_ rfl h3
        have h4 : n < -64 ∨ 63 < n := by omega
        have h5 : ((l.length : Nat) : Int) ≤ 17592186044416 := by omega
        have e1 : n.fdiv 128 = n / 128 := by rw [Int.fdiv_eq_ediv_of_nonneg _ (by decide)]
        have h6 : (decide (n < -64) || decide (63 < n)) = true := by simpa using h4
        simp [l16_1, T.den, E.B, E.I, cmB, LE.L, vals, CE.D, mkD, h6, h5, arI, wrap_u8, bor128, e1, dl, IntKind.bits]
theorem q16 {n : Int} (h0 : -9223372036854775808 ≤ n) (h1 : n ≤ 9223372036854775807) (l : List D) (h : l.length ≤ 17592186044400) : F16 [n] [] [l] = some ([], [], [l ++ dl (sBytes n)]) := by
  refine of_ret ?_
  unfold t16
  refine d_call ([], [], [l]) (tab_hd rfl) (q22 l (by omega)) rfl ?_
  obtain ⟨k, hk⟩ := fuel_eq (9 + 1) (by decide)
  obtain ⟨n', l', h2, h3⟩ := loopS 9 n k n l l (sR_nine h0 h1) (by omega)
  refine d_lp (t := 2) ([n'], [], [l']) (by rw [hk]; exact h3) rfl ?_
  have hl : l'.length + 1 ≤ l.length + 10 := by
    have := congrArg List.length h2
    have h9 := sB_le 9 n
    simp [dl] at this
    omega
  have h5 : ((l'.length : Nat) : Int) ≤ 17592186044416 := by omega
  have e1 : Go.bits .and .u8 (n' % 256) 127 = n' % 128 := by rw [u8_and127 (by omega) (by omega)]; omega
  simp [k16_2, T.den, E.B, E.I, cmB, LE.L, vals, CE.D, mkD, arI, wrap_u8, h5, e1]
  exact h2
end Go.Proofs.Ytnbfgcoggjghbaa.SLebLength
