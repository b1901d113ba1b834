/-
  Made tight it has just what it had; its ends are such numbers; and again it is the same (of numbers alone).
-/
import Derived.Test.YticpdchlknbodaaPAbsTightx
import Derived.Test.YticpdchlknbodaaQAbsTight
import Derived.Test.YticpdchlknbodaaTypesAbsTight
namespace Go.Proofs.Yticpdchlknbodaa.Pure
open Go.RowKit Go.Proofs.Yticpdchlknbodaa.PAbsTight Go.Proofs.YticpdchlknbodaaW.PrintWords Go.Proofs.YticpdchlknbodaaW.PrintLast Go.Proofs.YticpdchlknbodaaW.PrintMore Go.Proofs.Yticpdchlknbodaa.Nums Go.Proofs.Yticpdchlknbodaa.SAbsTight

theorem is_awake : Ev (fun k => trammellaw18_awake.f k) true := Ev.of (fun k => trammellaw18_awake.mono k) (k := 12) (by decide +kernel)
/-- What being made tight means: of no number, if nothing is told; and else of the same ones, its own ends among them, and again the same. -/
theorem tight_means {lo hi N R : Nat} (hl : lo ≤ hi) (hh : hi < 2 ^ 64) (hN : N ≤ 64) (hR : R < 2 ^ N) :
    (tg lo hi N R = none ∧ ∀ n, n < 2 ^ 64 → ¬ Hs lo hi N R n) ∨
    ∃ a b c d, tg lo hi N R = some (a, b, c, d) ∧ a ≤ b ∧ b < 2 ^ 64 ∧ c ≤ 64 ∧ d < 2 ^ c ∧ tg a b c d = some (a, b, c, d) ∧ Hs lo hi N R a ∧ Hs lo hi N R b ∧
      (a = b → c = 64) ∧ (a ≠ b → c = N ∧ d = R) ∧ (∀ n, n < 2 ^ 64 → (Hs lo hi N R n ↔ Hs a b c d n)) ∧ N ≤ c ∧ d % 2 ^ N = R := by
  have hR64 : R < 2 ^ 64 := Nat.lt_of_lt_of_le hR (pow_le hN)
  have hlo : lo < 2 ^ 64 := by omega
  have hmin : min N 64 = N := Nat.min_eq_left hN
  have hRm : R % 2 ^ N = R := Nat.mod_eq_of_lt hR
  have has : ∀ n, Hs lo hi N R n ↔ (lo ≤ n ∧ n ≤ hi) ∧ n % 2 ^ N = R := fun n => by unfold Hs; rw [hmin, hRm]
  -- a single number
  have one : ∀ x, x < 2 ^ 64 → tg x x 64 x = some (x, x, 64, x) := fun x hx => by
    unfold tg
    rw [if_pos (Nat.le_refl 64), if_pos ⟨Nat.le_refl x, Nat.le_refl x⟩]
  have hone : ∀ x n, x < 2 ^ 64 → n < 2 ^ 64 → (Hs x x 64 x n ↔ n = x) := fun x n hx hn => by
    unfold Hs
    constructor
    · intro h; omega
    · intro h; subst h; exact ⟨⟨Nat.le_refl _, Nat.le_refl _⟩, rfl⟩
  by_cases h : 64 ≤ N
  · have e64 : N = 64 := by omega
    subst e64
    by_cases c : lo ≤ R ∧ R ≤ hi
    · refine Or.inr ⟨R, R, 64, R, ?_, Nat.le_refl _, hR64, Nat.le_refl _, hR, one R hR64, ?_, ?_, fun _ => rfl, fun e => absurd rfl e, fun n hn => ?_, Nat.le_refl _, hRm⟩
      · unfold tg; rw [if_pos h, if_pos c]
      · exact (has R).2 ⟨c, hRm⟩
      · exact (has R).2 ⟨c, hRm⟩
      · rw [has, hone R n hR64 hn, Nat.mod_eq_of_lt hn]
        exact ⟨fun x => x.2, fun x => ⟨by rw [x]; exact c, x⟩⟩
    · refine Or.inl ⟨by unfold tg; rw [if_pos h, if_neg c], fun n hn x => c ?_⟩
      have := (has n).1 x
      rw [Nat.mod_eq_of_lt hn] at this
      rw [← this.2]; exact this.1
  · have hu : ∀ n, n < 2 ^ 64 → lo ≤ n → n % 2 ^ N = R → up lo N R ≤ n - lo := fun n hn h1 h2 => by rw [up_of hN hn h1 h2]; exact Nat.mod_le _ _
    have hd : ∀ n, n ≤ hi → n % 2 ^ N = R → dn hi N R ≤ hi - n := fun n h1 h2 => by rw [dn_of hN hR64 h1 h2]; exact Nat.mod_le _ _
    have mu := up_mod hN hlo hR
    have md := dn_mod (hi := hi) hN hR
    have zu : ∀ x, x < 2 ^ 64 → x % 2 ^ N = R → up x N R = 0 := fun x hx h2 => by rw [up_of hN hx (Nat.le_refl _) h2, Nat.sub_self, Nat.zero_mod]
    have zd : ∀ x, x % 2 ^ N = R → dn x N R = 0 := fun x h2 => by rw [dn_of hN hR64 (Nat.le_refl _) h2, Nat.sub_self, Nat.zero_mod]
    by_cases c : up lo N R ≤ hi - lo ∧ dn hi N R ≤ hi - lo
    · have md' := md (by omega)
      generalize hU : up lo N R = u at *
      generalize hD : dn hi N R = d at *
      have ha : Hs lo hi N R (lo + u) := (has _).2 ⟨by omega, mu⟩
      have hb : Hs lo hi N R (hi - d) := (has _).2 ⟨by omega, md'⟩
      have hab : lo + u ≤ hi - d := by
        have := hd (lo + u) (by omega) mu
        omega
      have hrange : ∀ n, n < 2 ^ 64 → Hs lo hi N R n → lo + u ≤ n ∧ n ≤ hi - d := fun n hn x => by
        have hx := (has n).1 x
        have h1 := hu n hn hx.1.1 hx.2
        have h2 := hd n hx.1.2 hx.2
        omega
      by_cases e : lo + u = hi - d
      · have hx : lo + u < 2 ^ 64 := by omega
        refine Or.inr ⟨lo + u, lo + u, 64, lo + u, ?_, Nat.le_refl _, hx, Nat.le_refl _, hx, one _ hx, ha, ha, fun _ => rfl, fun e => absurd rfl e, fun n hn => ?_, hN, mu⟩
        · unfold tg; rw [if_neg h, hU, hD, if_pos c, if_pos e]
        · rw [hone _ n hx hn]
          refine ⟨fun x => ?_, fun x => by rw [x]; exact ha⟩
          have := hrange n hn x
          omega
      · refine Or.inr ⟨lo + u, hi - d, N, R, ?_, hab, by omega, hN, hR, ?_, ha, hb, fun e' => absurd e' e, fun _ => ⟨rfl, rfl⟩, fun n hn => ?_, Nat.le_refl _, hRm⟩
        · unfold tg; rw [if_neg h, hU, hD, if_pos c, if_neg e]
        · unfold tg
          rw [if_neg h, zu (lo + u) (by omega) mu, zd (hi - d) md', if_pos ⟨Nat.zero_le _, Nat.zero_le _⟩, if_neg (by omega)]
          rfl
        · constructor
          · intro x
            have hx := (has n).1 x
            unfold Hs
            rw [hmin, hRm]
            exact ⟨hrange n hn x, hx.2⟩
          · intro x
            unfold Hs at x
            rw [hmin, hRm] at x
            exact (has n).2 ⟨by omega, x.2⟩
    · refine Or.inl ⟨by unfold tg; rw [if_neg h, if_neg c], fun n hn x => c ?_⟩
      have hx := (has n).1 x
      have h1 := hu n hn hx.1.1 hx.2
      have h2 := hd n hx.1.2 hx.2
      omega
theorem AbsTight : Go.Proofs.Yticpdchlknbodaa.TAbsTight.Pure := by
  intro a0_0 a0_1 a0_2 a0_3 a1 w0 w1 w2 w3 w4
  obtain ⟨lo, rfl, hlo⟩ := wf_u64 w0
  obtain ⟨hi, rfl, hhi⟩ := wf_u64 w1
  obtain ⟨R, rfl, hR⟩ := wf_u64 w3
  obtain ⟨n, rfl, hn⟩ := wf_u64 w4
  refine Ev.rounds (g := fun k => trammellaw18_AbsTight.f k lo hi a0_2 R n) ?_
  unfold trammellaw18_AbsTight.f
  refine Ev.bind is_awake ?_
  simp only [if_true]
  rw [aright_eq lo hi a0_2 hR]
  by_cases hr : lo ≤ hi ∧ 0 ≤ a0_2 ∧ a0_2 ≤ 64 ∧ R < 2 ^ a0_2.toNat
  · obtain ⟨N, rfl⟩ : ∃ N : Nat, a0_2 = (N : Int) := ⟨a0_2.toNat, by omega⟩
    rw [Int.toNat_natCast] at hr
    obtain ⟨h1, _, h2, h3⟩ := hr
    rw [decide_eq_true (by rw [Int.toNat_natCast]; exact ⟨h1, by omega, h2, h3⟩)]
    refine Ev.congr (fun k => (Option.bind_some _ _).trans (if_pos rfl)) ?_
    refine Ev.bind (tight_ev lo hi N R h1 hhi (by omega) hR) ?_
    rcases tight_means h1 hhi (show N ≤ 64 by omega) h3 with ⟨e, hnone⟩ | ⟨a, b, c, d, e, q1, q2, q3, q4, q5, q6, q7, q8, q9, q10, q11, q12⟩
    · rw [e]
      simp only [tgi, Bool.false_eq_true, if_false]
      rw [hs_eq lo hi N hR hn, decide_eq_false (hnone n hn)]
      exact Ev.now true
    · rw [e]
      simp only [tgi, if_true]
      have hd64 : d < 2 ^ 64 := Nat.lt_of_lt_of_le q4 (pow_le q3)
      have ha64 : a < 2 ^ 64 := by omega
      refine Ev.bind (tight_ev a b c d q1 q2 q3 hd64) ?_
      rw [q5]
      simp only [tgi, if_true, beq_self_eq_true, Bool.not_true, Bool.or_self, Bool.false_eq_true, if_false]
      have e1 := aright_eq a b (c : Int) hd64
      rw [Int.toNat_natCast, decide_eq_true ⟨q1, by omega, by omega, q4⟩] at e1
      have e2 := hs_eq lo hi N hR ha64
      rw [decide_eq_true q6] at e2
      have e3 := hs_eq lo hi N hR q2
      rw [decide_eq_true q7] at e3
      simp only [e1, e2, e3, Option.bind_some, if_true]
      have hend : Ev (fun k => trammellaw18_AbsTight.j0 k n false lo hi N R a b c d) true := by
        refine Ev.step (f := fun _ => some true) (fun k => ?_) (Ev.now true)
        simp only [trammellaw18_AbsTight.j0]
        have e4 := hs_eq lo hi N hR hn
        have e5 := hs_eq a b c hd64 hn
        have e6 := awithin_eq a b c lo hi N hd64 hR
        have e7 : decide (Hs lo hi N R n) = decide (Hs a b c d n) := decide_eq_decide.2 (q10 n hn)
        have hwi : (lo ≤ a ∧ b ≤ hi) ∧ N ≤ c ∧ d % 2 ^ min N 64 = R % 2 ^ min N 64 := by
          refine ⟨⟨q6.1.1, q7.1.2⟩, q11, ?_⟩
          rw [Nat.min_eq_left (by omega), q12, Nat.mod_eq_of_lt h3]
        rw [decide_eq_true hwi] at e6
        rw [if_neg (by decide), e4, Option.bind_some, e5, Option.bind_some, e7, beq_self_eq_true, if_pos rfl, e6]
        rfl
      by_cases hab : (a : Int) = (b : Int)
      · have := q8 (by omega)
        exact Ev.congr (fun k => (if_pos hab).trans (if_pos (show (c : Int) = 64 by omega))) hend
      · refine Ev.congr (fun k => if_neg hab) ?_
        obtain ⟨f1, f2⟩ := q9 (by omega)
        subst f1
        subst f2
        simp only [beq_self_eq_true, Bool.not_true, Bool.or_self]
        exact hend
  · rw [decide_eq_false hr]
    exact Ev.now true
end Go.Proofs.Yticpdchlknbodaa.Pure
