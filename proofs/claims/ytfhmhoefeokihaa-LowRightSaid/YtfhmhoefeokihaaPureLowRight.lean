/-
  What is known bits, and what isn't, is told; cut to any number they are such (of numbers alone).
-/
import Derived.Test.YtfhmhoefeokihaaPLowRightx
import Derived.Test.YtfhmhoefeokihaaSLowRight
import Derived.Test.YtfhmhoefeokihaaTypesLowRight
namespace Go.Proofs.Ytfhmhoefeokihaa.Pure
open Go.RowKit Go.Proofs.Ytfhmhoefeokihaa.PLowRight Go.Proofs.YtfhmhoefeokihaaW.PrintWords Go.Proofs.YtfhmhoefeokihaaW.PrintLast Go.Proofs.YtfhmhoefeokihaaW.PrintMore Go.Proofs.Ytfhmhoefeokihaa.Nums Go.Proofs.Ytfhmhoefeokihaa.SLowRight

theorem is_awake : Ev (fun k => trammellaw17_awake.f k) true := Ev.of (fun k => trammellaw17_awake.mono k) (k := 9) (by decide +kernel)

theorem j2_false (n N : Int) (r : Nat) (hr : r < 2 ^ 64) (h : ¬ (0 ≤ N ∧ N ≤ 64 ∧ r < 2 ^ N.toNat)) : Ev (fun k => trammellaw17_LowRight.j2 k n false N r) true := by
  refine Ev.step (f := fun _ => some true) (fun k => ?_) (Ev.now true)
  simp only [trammellaw17_LowRight.j2]
  rw [right_eq hr, Option.bind_some, decide_eq_false h]
  rfl

theorem j2_true (n N : Int) (r : Nat) (hr : r < 2 ^ 64) (h : 0 ≤ N ∧ N ≤ 64 ∧ r < 2 ^ N.toNat) : Ev (fun k => trammellaw17_LowRight.j2 k n true N r) true := by
  refine Ev.step (f := fun _ => some true) (fun k => ?_) (Ev.now true)
  simp only [trammellaw17_LowRight.j2]
  rw [right_eq hr, Option.bind_some, decide_eq_true h, if_neg (by simp), if_pos trivial, cut_eq hr, Option.bind_some]
  by_cases hn : n ≥ N
  · rw [if_pos hn]
    show (low_Right.f N r).bind _ = _
    rw [right_eq hr, Option.bind_some, decide_eq_true h, if_pos rfl, within_eq hr hr, Option.bind_some, decide_eq_true ⟨Int.le_refl N, rfl⟩, if_pos rfl]
    refine congrArg some (beq_iff_eq.2 ?_)
    unfold mn mx
    repeat' split
    all_goals omega
  · rw [if_neg hn]
    have hm : min n.toNat 64 = n.toNat := by omega
    have hlt : r % 2 ^ min n.toNat 64 < 2 ^ n.toNat := by rw [hm]; exact mod_lt_pow _ _
    have hlt' : r % 2 ^ min n.toNat 64 < 2 ^ 64 := Nat.lt_of_le_of_lt (Nat.mod_le _ _) hr
    show (low_Right.f (n.toNat : Int) ((r % 2 ^ min n.toNat 64 : Nat) : Int)).bind _ = _
    rw [right_eq hlt', Option.bind_some, decide_eq_true ⟨by omega, by omega, by rw [Int.toNat_natCast]; exact hlt⟩, if_pos rfl, within_eq hr hlt', Option.bind_some]
    rw [decide_eq_true ⟨by omega, by rw [Int.toNat_natCast, Nat.mod_mod]⟩, if_pos rfl]
    refine congrArg some (beq_iff_eq.2 ?_)
    unfold mn mx
    repeat' split
    all_goals omega

theorem loop (n N : Int) (r : Nat) (hr : r < 2 ^ 64) (h0 : 0 ≤ N) (h1 : N ≤ 64) (d : Nat) : ∀ (i : Nat) (b : Bool), N ≤ i → i + d = 64 →
    (b = true → ∀ j : Nat, N ≤ j → j < i → r.testBit j = false) → (b = false → ¬ r < 2 ^ N.toNat) → Ev (fun k => trammellaw17_LowRight.l0 k n b i N r) true := by
  have stop : ∀ i : Nat, Ev (fun k => trammellaw17_LowRight.j2 k n false N r) true → Ev (fun k => trammellaw17_LowRight.l0 k n false i N r) true := fun i h =>
    Ev.step (fun k => by simp only [trammellaw17_LowRight.l0]; rw [if_neg (by decide)]) h
  induction d with
  | zero =>
    intro i b hi hd hb hb'
    cases b with
    | false => exact stop i (j2_false n N r hr (fun h => hb' rfl h.2.2))
    | true =>
      refine Ev.step (fun k => by simp only [trammellaw17_LowRight.l0]; rw [if_pos trivial, if_neg (by omega)]) (j2_true n N r hr ⟨h0, h1, ?_⟩)
      refine Nat.lt_pow_two_of_testBit r (fun j hj => ?_)
      by_cases hj64 : j < i
      · exact hb rfl j (by omega) hj64
      · exact Nat.testBit_lt_two_pow (Nat.lt_of_lt_of_le hr (pow_le (by omega)))
  | succ d ih =>
    intro i b hi hd hb hb'
    cases b with
    | false => exact stop i (j2_false n N r hr (fun h => hb' rfl h.2.2))
    | true =>
      have hw : wrap64 ((i : Int) + 1) = ((i + 1 : Nat) : Int) := by unfold wrap64; omega
      have hb2 : (Go.bits .and .u64 (r : Int) (shl .u64 1 (i : Int)) == 0) = !r.testBit i := by
        rw [shl_one (by omega), band hr (pow_lt (by omega)), Bool.eq_iff_iff, beq_iff_eq, Bool.not_eq_true', ← and_pow_eq_zero]
        omega
      refine Ev.step (f := fun k => trammellaw17_LowRight.l0 k n (!r.testBit i) ((i + 1 : Nat) : Int) N r) (fun k => ?_) (ih (i + 1) _ (by omega) (by omega) ?_ ?_)
      · simp only [trammellaw17_LowRight.l0]
        rw [if_pos trivial, if_pos (by omega), wraps_u64 _ (by omega) (by omega), if_pos (by omega), hb2, hw]
      · intro hbit j hj hji
        by_cases e : j = i
        · subst e; simpa using hbit
        · exact hb rfl j hj (by omega)
      · intro hbit hlt
        have : r.testBit i = true := by simpa using hbit
        rw [Nat.testBit_lt_two_pow (Nat.lt_of_lt_of_le hlt (pow_le (by omega)))] at this
        cases this

theorem low_right (N R n : Int) (hR : (Lit.int .u64 R).wf = true) : ∃ k, trammellaw17_LowRight.f k N R n = some true := by
  obtain ⟨r, rfl, hr⟩ := wf_u64 hR
  refine Ev.rounds (Ev.bind is_awake ?_)
  simp only [if_true]
  by_cases h0 : N ≥ 0
  · refine Ev.congr (f := fun k => trammellaw17_LowRight.j0 k n (decide (N ≤ 64)) N r) (fun k => by rw [if_pos h0]) ?_
    by_cases h1 : N ≤ 64
    · refine Ev.step (f := fun k => trammellaw17_LowRight.l0 k n true (N.toNat : Nat) N r) (fun k => by simp only [trammellaw17_LowRight.j0]; rw [decide_eq_true h1, mx0]) ?_
      exact loop n N r hr h0 h1 (64 - N.toNat) N.toNat true (by omega) (by omega) (fun _ j h h' => by omega) (fun h => by cases h)
    · refine Ev.step (f := fun k => trammellaw17_LowRight.l0 k n false (mx N 0) N r) (fun k => by simp only [trammellaw17_LowRight.j0]; rw [decide_eq_false h1]) ?_
      exact Ev.step (fun k => by simp only [trammellaw17_LowRight.l0]; rw [if_neg (by decide)]) (j2_false n N r hr (fun h => h1 h.2.1))
  · refine Ev.congr (f := fun k => trammellaw17_LowRight.j0 k n false N r) (fun k => by rw [if_neg h0]) ?_
    refine Ev.step (f := fun k => trammellaw17_LowRight.l0 k n false (mx N 0) N r) (fun k => by simp only [trammellaw17_LowRight.j0]) ?_
    exact Ev.step (fun k => by simp only [trammellaw17_LowRight.l0]; rw [if_neg (by decide)]) (j2_false n N r hr (fun h => h0 h.1))
theorem LowRight : Go.Proofs.Ytfhmhoefeokihaa.TLowRight.Pure := fun N R n _ hR _ => low_right N R n hR
end Go.Proofs.Ytfhmhoefeokihaa.Pure
