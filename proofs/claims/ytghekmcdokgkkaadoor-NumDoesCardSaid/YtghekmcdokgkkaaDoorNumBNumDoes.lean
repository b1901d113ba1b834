/-
  NumDoes: signed numbers and division: what the reference's less and quotient answer.
-/
import Derived.Test.YtghekmcdokgkkaaDoorNumANumDoes
namespace Go.Proofs.YtghekmcdokgkkaaDoor.BNumDoes
set_option linter.all false
open Go.Proofs.YtghekmcdokgkkaaDoor.Vx Go.Proofs.YtghekmcdokgkkaaDoor.XNumDoes Go.Proofs.YtghekmcdokgkkaaDoor.Vd Go.Proofs.YtghekmcdokgkkaaDoor.Vn Go.Proofs.YtghekmcdokgkkaaDoor.Vl Go.Proofs.YtghekmcdokgkkaaDoor.Vp Go.Proofs.YtghekmcdokgkkaaDoor.Vb Go.Proofs.YtghekmcdokgkkaaDoor.Vo Go.Proofs.YtghekmcdokgkkaaDoor.ANumDoes
/-- The number that w bits tell, with a sign. -/
def sg (w A : Nat) : Int := if A < 2 ^ (w - 1) then (A : Int) else (A : Int) - 2 ^ w
theorem xor_lo {x k : Nat} (h : x < 2 ^ k) : x ^^^ 2 ^ k = 2 ^ k + x := by
  refine Nat.eq_of_testBit_eq fun i => ?_
  rw [Nat.testBit_xor, Nat.testBit_two_pow, show 2 ^ k + x = 2 ^ k * 1 + x by rw [Nat.mul_one], Nat.testBit_two_pow_mul_add _ h]
  by_cases hi : i < k
  · rw [if_pos hi, decide_eq_false (by omega), Bool.xor_false]
  · rw [if_neg hi, Nat.testBit_lt_two_pow (Nat.lt_of_lt_of_le h (Nat.pow_le_pow_right (by decide) (by omega))), Bool.false_xor]
    by_cases e : k = i
    · subst e; simp
    · obtain ⟨d, hd⟩ : ∃ d, i - k = d + 1 := ⟨i - k - 1, by omega⟩
      rw [hd, decide_eq_false e, Nat.testBit_succ]; simp
theorem xor_hi {x k : Nat} (h : 2 ^ k ≤ x) (h2 : x < 2 * 2 ^ k) : x ^^^ 2 ^ k = x - 2 ^ k := by
  have e := xor_lo (x := x - 2 ^ k) (k := k) (by omega)
  rw [show 2 ^ k + (x - 2 ^ k) = x by omega] at e
  calc x ^^^ 2 ^ k = ((x - 2 ^ k) ^^^ 2 ^ k) ^^^ 2 ^ k := by rw [e]
    _ = x - 2 ^ k := by rw [Nat.xor_assoc, Nat.xor_self, Nat.xor_zero]
theorem xorsg {w x : Nat} (hw : w = 32 ∨ w = 64) (hx : x < 2 ^ w) : ((x ^^^ 2 ^ (w - 1) : Nat) : Int) = sg w x + 2 ^ (w - 1) := by
  unfold sg
  by_cases h : x < 2 ^ (w - 1)
  · rw [xor_lo h, if_pos h]
    rw [Int.natCast_add, Int.natCast_pow, Int.add_comm]; rfl
  · have h2 : 2 ^ w = 2 * 2 ^ (w - 1) := by rcases hw with rfl | rfl <;> rfl
    rw [xor_hi (by omega) (by omega), if_neg h]
    rcases hw with rfl | rfl <;> omega
theorem q_less {A B w : Nat} {s : Bool} (hw : w = 32 ∨ w = 64) (hA : A < 2 ^ w) (hB : B < 2 ^ w) :
    F29 [(A : Int), (B : Int), (w : Int)] [s] [] = some ([], [if s = true then decide (sg w A < sg w B) else decide ((A : Int) < (B : Int))], []) := by
  refine of_ret ?_
  unfold t29
  cases s
  · exact d_itF rfl rfl
  · have hp : arI .shl .u64 1 (IntKind.u64.wrap (arI .sub .i64 (w : Int) 1)) = ((2 ^ (w - 1) : Nat) : Int) := by rcases hw with rfl | rfl <;> rfl
    have hl : 2 ^ (w - 1) < 2 ^ 64 := by rcases hw with rfl | rfl <;> decide
    have hl2 := pw hw
    refine d_itT rfl (d_rq (ge_t (show (0 : Int) ≤ IntKind.u64.wrap (arI .sub .i64 (w : Int) 1) by rw [wm1 hw, wrap_u]; omega))
      (d_li (((A ^^^ 2 ^ (w - 1) : Nat) : Int)) (by show arI .xor .u64 (A : Int) (arI .shl .u64 1 (IntKind.u64.wrap (arI .sub .i64 (w : Int) 1))) = _; rw [hp]; exact bxor A _ (by omega) hl)
      (d_li (((B ^^^ 2 ^ (w - 1) : Nat) : Int)) (by show arI .xor .u64 (B : Int) (arI .shl .u64 1 (IntKind.u64.wrap (arI .sub .i64 (w : Int) 1))) = _; rw [hp]; exact bxor B _ (by omega) hl) ?_)))
    show some (Out.ret ([], [decide (((A ^^^ 2 ^ (w - 1) : Nat) : Int) < ((B ^^^ 2 ^ (w - 1) : Nat) : Int))], [])) = _
    rw [if_pos rfl, xorsg hw hA, xorsg hw hB, show decide (sg w A + 2 ^ (w - 1) < sg w B + 2 ^ (w - 1)) = decide (sg w A < sg w B) from decide_eq_decide.2 (by omega)]
/-! Division. -/
theorem neg_mod {w x : Nat} (hw : w = 32 ∨ w = 64) (hx : x < 2 ^ 64) : (((2 ^ 64 - x) % 2 ^ w : Nat) : Int) = (-(x : Int)) % 2 ^ w := by
  rcases hw with rfl | rfl <;> omega
theorem q_neg {a w : Nat} (hw : w = 32 ∨ w = 64) (ha : a < 2 ^ 64) : F30 [(a : Int), (w : Int)] [] [] = some ([(-(a : Int)) % 2 ^ w], [], []) := by
  rw [q_minus hw ha, neg_mod hw ha]
def ovf (w A B : Nat) : Prop := A = 2 ^ (w - 1) ∧ B = 2 ^ w - 1
instance (w A B : Nat) : Decidable (ovf w A B) := inferInstanceAs (Decidable (_ ∧ _))
def QD (s : Bool) (w A B : Nat) : Int := if B = 0 then 0 else if s = true then (if ovf w A B then 0 else (sg w A).tdiv (sg w B) % 2 ^ w) else ((A / B : Nat) : Int)
def QR (s : Bool) (w A B : Nat) : Int := if B = 0 then 0 else if s = true then (sg w A).tmod (sg w B) % 2 ^ w else ((A % B : Nat) : Int)
def TD (s : Bool) (w A B : Nat) : Int := if B = 0 then 6 else if s = true ∧ ovf w A B then 7 else 0
def TR (B : Nat) : Int := if B = 0 then 6 else 0
theorem sg_lo {w A : Nat} (h : A < 2 ^ (w - 1)) : sg w A = A := if_pos h
theorem sg_hi {w A : Nat} (hw : w = 32 ∨ w = 64) (hA : A < 2 ^ w) (h : 2 ^ (w - 1) ≤ A) : sg w A = -((2 ^ w - A : Nat) : Int) := by
  unfold sg
  rw [if_neg (by omega)]
  rcases hw with rfl | rfl <;> omega
theorem small {w : Nat} (hw : w = 32 ∨ w = 64) {x : Nat} (hx : x < 2 ^ w) : (x : Int) % 2 ^ w = (x : Int) := by rcases hw with rfl | rfl <;> omega
theorem neg_big {w : Nat} (hw : w = 32 ∨ w = 64) {x : Nat} (h1 : 2 ^ (w - 1) ≤ x) (hx : x < 2 ^ w) : (-(x : Int)) % 2 ^ w = ((2 ^ w - x : Nat) : Int) := by
  rcases hw with rfl | rfl <;> omega
theorem tdn (a b : Nat) : (a : Int).tdiv (b : Int) = ((a / b : Nat) : Int) := rfl
theorem tmn (a b : Nat) : (a : Int).tmod (b : Int) = ((a % b : Nat) : Int) := rfl
theorem q_quot_u {A B w : Nat} (hw : w = 32 ∨ w = 64) (hA : A < 2 ^ w) (hB : B < 2 ^ w) :
    F31 [(A : Int), (B : Int), (w : Int)] [false] [] = some ([QD false w A B, QR false w A B, TD false w A B, TR B], [], []) := by
  refine of_ret ?_
  unfold t31
  have hl2 := pw hw
  by_cases hB0 : B = 0
  · subst hB0; exact d_itT rfl rfl
  · refine d_itF (eq_f (show (B : Int) ≠ 0 by omega)) (d_rq (ge_t (show (0 : Int) ≤ IntKind.u64.wrap (arI .sub .i64 (w : Int) 1) by rw [wm1 hw, wrap_u]; omega)) (d_itT rfl ?_))
    refine d_callx [(A : Int), (B : Int)] [] [] _ e31_39 rfl rfl rfl (q_divide (by omega) (by omega) (by omega)) rfl ?_
    unfold QD QR TD TR
    rw [if_neg hB0, if_neg hB0, if_neg hB0, if_neg hB0, if_neg (by decide), if_neg (by decide), if_neg (by rintro ⟨h, _⟩; cases h)]
    rfl
theorem tops {w : Nat} (hw : w = 32 ∨ w = 64) : arI .shl .u64 1 (IntKind.u64.wrap (arI .sub .i64 (w : Int) 1)) = ((2 ^ (w - 1) : Nat) : Int) := by rcases hw with rfl | rfl <;> rfl
theorem q_quot_s {A B w : Nat} (hw : w = 32 ∨ w = 64) (hA : A < 2 ^ w) (hB : B < 2 ^ w) :
    F31 [(A : Int), (B : Int), (w : Int)] [true] [] = some ([QD true w A B, QR true w A B, TD true w A B, TR B], [], []) := by
  refine of_ret ?_
  unfold t31
  have hl2 := pw hw
  have hw2 : 2 ^ w = 2 * 2 ^ (w - 1) := by rcases hw with rfl | rfl <;> rfl
  have hK : (1 : Nat) ≤ 2 ^ (w - 1) := Nat.one_le_two_pow
  by_cases hB0 : B = 0
  · subst hB0; exact d_itT rfl rfl
  have hq0 : (0 : Int) ≤ IntKind.u64.wrap (arI .sub .i64 (w : Int) 1) := by rw [wm1 hw, wrap_u]; omega
  refine d_itF (eq_f (show (B : Int) ≠ 0 by omega)) (d_rq (ge_t hq0) (d_itF rfl ?_))
  have tA : ∀ x : Nat, 2 ^ (w - 1) ≤ x → decide ((x : Int) ≥ arI .shl .u64 1 (IntKind.u64.wrap (arI .sub .i64 (w : Int) 1))) = true := fun x h => by rw [tops hw]; exact ge_t (by omega)
  have fA : ∀ x : Nat, x < 2 ^ (w - 1) → decide ((x : Int) ≥ arI .shl .u64 1 (IntKind.u64.wrap (arI .sub .i64 (w : Int) 1))) = false := fun x h => by rw [tops hw]; exact ge_f (by omega)
  unfold QD QR TD TR
  rw [if_neg hB0, if_neg hB0, if_neg hB0, if_neg hB0, if_pos rfl, if_pos rfl]
  have dl : ∀ x y : Nat, x / y ≤ x := fun x y => Nat.div_le_self x y
  have ml : ∀ x y : Nat, x % y ≤ x := fun x y => Nat.mod_le x y
  by_cases nA : 2 ^ (w - 1) ≤ A
  · refine d_lb true (tA A nA) (d_itT rfl ?_)
    refine d_callx [(A : Int), (w : Int)] [] [] ([((2 ^ w - A : Nat) : Int)], [], []) e31_30 rfl rfl rfl (by rw [q_neg hw (by omega), neg_big hw nA hA]) rfl ?_
    have sA := sg_hi hw hA nA
    by_cases nB : 2 ^ (w - 1) ≤ B
    · have sB := sg_hi hw hB nB
      refine d_lb true (tA B nB) (d_itT rfl ?_)
      refine d_callx [(B : Int), (w : Int)] [] [] ([((2 ^ w - B : Nat) : Int)], [], []) e31_30 rfl rfl rfl (by rw [q_neg hw (by omega), neg_big hw nB hB]) rfl ?_
      refine d_callx [((2 ^ w - A : Nat) : Int), ((2 ^ w - B : Nat) : Int)] [] [] _ e31_39 rfl rfl rfl (q_divide (a := 2 ^ w - A) (b := 2 ^ w - B) (by omega) (by omega) (by omega)) rfl ?_
      have h1 := dl (2 ^ w - A) (2 ^ w - B)
      have h2 := ml (2 ^ w - A) (2 ^ w - B)
      refine d_lb true (tA A nA) (d_itT rfl ?_)
      refine d_callx [(((2 ^ w - A) % (2 ^ w - B) : Nat) : Int), (w : Int)] [] [] _ e31_30 rfl rfl rfl (q_neg hw (by omega)) rfl ?_
      refine d_lb true (tA A nA) (d_lb true (tA B nB) (d_itF rfl ?_))
      have er : (sg w A).tmod (sg w B) % 2 ^ w = (-(((2 ^ w - A) % (2 ^ w - B) : Nat) : Int)) % 2 ^ w := by rw [sA, sB, Int.neg_tmod, Int.tmod_neg, tmn]
      rw [er]
      by_cases ho : ovf w A B
      · have e1 : 2 ^ w - A = 2 ^ (w - 1) := by have := ho.1; omega
        have e2 : 2 ^ w - B = 1 := by have := ho.2; omega
        rw [if_pos ho, if_pos ⟨rfl, ho⟩, e1, e2]
        refine d_lb true (tA (2 ^ (w - 1) / 1) (by rw [Nat.div_one]; omega)) (d_itT rfl ?_)
        rfl
      · have hq : (2 ^ w - A) / (2 ^ w - B) < 2 ^ (w - 1) := by
          by_cases hb1 : 2 ^ w - B = 1
          · rw [hb1, Nat.div_one]
            have : ¬ A = 2 ^ (w - 1) := fun h => ho ⟨h, by omega⟩
            omega
          · have := Nat.div_lt_self (n := 2 ^ w - A) (k := 2 ^ w - B) (by omega) (by omega)
            omega
        have ed : (sg w A).tdiv (sg w B) % 2 ^ w = (((2 ^ w - A) / (2 ^ w - B) : Nat) : Int) := by rw [sA, sB, Int.neg_tdiv, Int.tdiv_neg, tdn, Int.neg_neg, small hw (by omega)]
        rw [if_neg ho, if_neg (by rintro ⟨_, h⟩; exact ho h), ed]
        refine d_lb false (fA _ hq) (d_itF rfl ?_)
        rfl
    · have nB' : B < 2 ^ (w - 1) := by omega
      have sB := sg_lo nB'
      refine d_lb false (fA B nB') (d_itF rfl ?_)
      have ho : ¬ ovf w A B := fun h => by have := h.2; omega
      have h1 := dl (2 ^ w - A) B
      have h2 := ml (2 ^ w - A) B
      have ed : (sg w A).tdiv (sg w B) % 2 ^ w = (-(((2 ^ w - A) / B : Nat) : Int)) % 2 ^ w := by rw [sA, sB, Int.neg_tdiv, tdn]
      have er : (sg w A).tmod (sg w B) % 2 ^ w = (-(((2 ^ w - A) % B : Nat) : Int)) % 2 ^ w := by rw [sA, sB, Int.neg_tmod, tmn]
      rw [if_neg ho, if_neg (by rintro ⟨_, h⟩; exact ho h), ed, er]
      refine d_callx [((2 ^ w - A : Nat) : Int), (B : Int)] [] [] _ e31_39 rfl rfl rfl (q_divide (a := 2 ^ w - A) (b := B) (by omega) (by omega) (by omega)) rfl ?_
      unfold b31_1
      refine d_lb true (tA A nA) (d_itT rfl ?_)
      refine d_callx [(((2 ^ w - A) % B : Nat) : Int), (w : Int)] [] [] _ e31_30 rfl rfl rfl (q_neg hw (by omega)) rfl ?_
      refine d_lb true (tA A nA) (d_lb false (fA B nB') (d_itT rfl ?_))
      refine d_callx [(((2 ^ w - A) / B : Nat) : Int), (w : Int)] [] [] _ e31_30 rfl rfl rfl (q_neg hw (by omega)) rfl ?_
      rfl
  · have nA' : A < 2 ^ (w - 1) := by omega
    have sA := sg_lo nA'
    have ho : ¬ ovf w A B := fun h => by have := h.1; omega
    refine d_lb false (fA A nA') (d_itF rfl ?_)
    rw [if_neg ho, if_neg (by rintro ⟨_, h⟩; exact ho h)]
    by_cases nB : 2 ^ (w - 1) ≤ B
    · have sB := sg_hi hw hB nB
      have h1 := dl A (2 ^ w - B)
      have h2 := ml A (2 ^ w - B)
      have ed : (sg w A).tdiv (sg w B) % 2 ^ w = (-((A / (2 ^ w - B) : Nat) : Int)) % 2 ^ w := by rw [sA, sB, Int.tdiv_neg, tdn]
      have er : (sg w A).tmod (sg w B) % 2 ^ w = ((A % (2 ^ w - B) : Nat) : Int) := by rw [sA, sB, Int.tmod_neg, tmn, small hw (by omega)]
      rw [ed, er]
      refine d_lb true (tA B nB) (d_itT rfl ?_)
      refine d_callx [(B : Int), (w : Int)] [] [] ([((2 ^ w - B : Nat) : Int)], [], []) e31_30 rfl rfl rfl (by rw [q_neg hw (by omega), neg_big hw nB hB]) rfl ?_
      refine d_callx [(A : Int), ((2 ^ w - B : Nat) : Int)] [] [] _ e31_39 rfl rfl rfl (q_divide (a := A) (b := 2 ^ w - B) (by omega) (by omega) (by omega)) rfl ?_
      unfold b31_1
      refine d_lb false (fA A nA') (d_itF rfl ?_)
      refine d_lb false (fA A nA') (d_lb true (tA B nB) (d_itT rfl ?_))
      refine d_callx [((A / (2 ^ w - B) : Nat) : Int), (w : Int)] [] [] _ e31_30 rfl rfl rfl (q_neg hw (by omega)) rfl ?_
      rfl
    · have nB' : B < 2 ^ (w - 1) := by omega
      have sB := sg_lo nB'
      have h1 := dl A B
      have h2 := ml A B
      have ed : (sg w A).tdiv (sg w B) % 2 ^ w = ((A / B : Nat) : Int) := by rw [sA, sB, tdn, small hw (by omega)]
      have er : (sg w A).tmod (sg w B) % 2 ^ w = ((A % B : Nat) : Int) := by rw [sA, sB, tmn, small hw (by omega)]
      rw [ed, er]
      refine d_lb false (fA B nB') (d_itF rfl ?_)
      refine d_callx [(A : Int), (B : Int)] [] [] _ e31_39 rfl rfl rfl (q_divide (a := A) (b := B) (by omega) (by omega) (by omega)) rfl ?_
      refine d_lb false (fA A nA') (d_itF rfl ?_)
      refine d_lb false (fA A nA') (d_lb false (fA B nB') (d_itF rfl ?_))
      refine d_lb false (fA (A / B) (by omega)) (d_itF rfl ?_)
      rfl
end Go.Proofs.YtghekmcdokgkkaaDoor.BNumDoes
