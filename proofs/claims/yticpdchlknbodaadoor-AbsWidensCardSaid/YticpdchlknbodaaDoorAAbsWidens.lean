/-
  What the functions of layer 18 (what is known of a number: its ends and its low bits) answer, in natural numbers: no program in sight.
-/
import Derived.Test.YticpdchlknbodaaDoorPAbsWidensx
import Derived.Test.YticpdchlknbodaaDoorSAbsWidens
namespace Go.Proofs.YticpdchlknbodaaDoor.SAbsWidens
set_option linter.unusedVariables false
open Go.RowKit Go.Proofs.YticpdchlknbodaaDoor.PAbsWidens Go.Proofs.YticpdchlknbodaaDoorW.PrintWords Go.Proofs.YticpdchlknbodaaDoorW.PrintLast Go.Proofs.YticpdchlknbodaaDoorW.PrintMore Go.Proofs.YticpdchlknbodaaDoor.Nums
/-- How far the first number with these low bits stands above one end, and the last below the other. -/
def up (lo N R : Nat) : Nat := (R + (2 ^ 64 - lo)) % 2 ^ N
def dn (hi N R : Nat) : Nat := (hi + (2 ^ 64 - R)) % 2 ^ N
theorem pow_split {N : Nat} (h : N ≤ 64) : ∃ e, 2 ^ 64 = 2 ^ N * e := Nat.pow_dvd_pow 2 h
theorem up_of {lo N R n : Nat} (hN : N ≤ 64) (hn : n < 2 ^ 64) (hl : lo ≤ n) (hr : n % 2 ^ N = R) : up lo N R = (n - lo) % 2 ^ N := by
  obtain ⟨e, he⟩ := pow_split hN
  unfold up
  have hq := Nat.div_add_mod n (2 ^ N)
  rw [hr] at hq
  rw [he] at hn ⊢
  have hp := pow_pos N
  generalize 2 ^ N = M at *
  have h1 : n / M < e := Nat.lt_of_mul_lt_mul_left (a := M) (by omega)
  obtain ⟨x, hx⟩ : ∃ x, e = n / M + x := ⟨e - n / M, by omega⟩
  have h2 : M * e = M * (n / M) + M * x := by rw [congrArg (M * ·) hx]; exact Nat.mul_add ..
  have h3 : R + (M * e - lo) = (n - lo) + M * x := by omega
  rw [h3, Nat.add_mul_mod_self_left]
theorem dn_of {hi N R n : Nat} (hN : N ≤ 64) (hR : R < 2 ^ 64) (hl : n ≤ hi) (hr : n % 2 ^ N = R) : dn hi N R = (hi - n) % 2 ^ N := by
  obtain ⟨e, he⟩ := pow_split hN
  unfold dn
  have hq := Nat.div_add_mod n (2 ^ N)
  rw [hr] at hq
  rw [he] at hR ⊢
  generalize 2 ^ N = M at *
  have h3 : hi + (M * e - R) = (hi - n) + M * (n / M + e) := by rw [Nat.mul_add]; omega
  rw [h3, Nat.add_mul_mod_self_left]
theorem up_mod {lo N R : Nat} (hN : N ≤ 64) (hlo : lo < 2 ^ 64) (hR : R < 2 ^ N) : (lo + up lo N R) % 2 ^ N = R := by
  obtain ⟨e, he⟩ := pow_split hN
  unfold up
  rw [Nat.add_mod, Nat.mod_mod, ← Nat.add_mod]
  have h3 : lo + (R + (2 ^ 64 - lo)) = R + 2 ^ 64 := by omega
  rw [h3, he, Nat.add_mul_mod_self_left, Nat.mod_eq_of_lt hR]
theorem dn_mod {hi N R : Nat} (hN : N ≤ 64) (hR : R < 2 ^ N) (hd : dn hi N R ≤ hi) : (hi - dn hi N R) % 2 ^ N = R := by
  obtain ⟨e, he⟩ := pow_split hN
  have hR64 : R < 2 ^ 64 := Nat.lt_of_lt_of_le hR (pow_le hN)
  have hq := Nat.div_add_mod (hi + (2 ^ 64 - R)) (2 ^ N)
  have hd2 : dn hi N R = (hi + (2 ^ 64 - R)) % 2 ^ N := rfl
  rw [← hd2] at hq
  rw [he] at hq hR64
  generalize dn hi N R = d at *
  generalize (hi + (2 ^ N * e - R)) / 2 ^ N = q at *
  generalize 2 ^ N = M at *
  have h1 : (hi - d) + M * e = R + M * q := by omega
  have h2 : ((hi - d) + M * e) % M = (R + M * q) % M := by rw [h1]
  rw [Nat.add_mul_mod_self_left, Nat.add_mul_mod_self_left, Nat.mod_eq_of_lt hR] at h2
  exact h2
/-- What is told, made tight. -/
def tg (lo hi N R : Nat) : Option (Nat × Nat × Nat × Nat) :=
  if 64 ≤ N then (if lo ≤ R ∧ R ≤ hi then some (R, R, 64, R) else none)
  else if up lo N R ≤ hi - lo ∧ dn hi N R ≤ hi - lo then (if lo + up lo N R = hi - dn hi N R then some (lo + up lo N R, lo + up lo N R, 64, lo + up lo N R) else some (lo + up lo N R, hi - dn hi N R, N, R)) else none
def tgi : Option (Nat × Nat × Nat × Nat) → Int × Int × Int × Int × Bool
  | some (a, b, c, d) => (a, b, c, d, true)
  | none => (0, 0, 0, 0, false)
theorem ivl_has_eq (lo hi n : Nat) : ivl_Has.f lo hi n = some (decide (lo ≤ n ∧ n ≤ hi)) := by
  unfold ivl_Has.f
  by_cases h : lo ≤ n
  · rw [if_pos (by omega)]
    refine congrArg some (decide_eq_decide.2 ⟨fun h' => ⟨h, by omega⟩, fun h' => by omega⟩)
  · rw [if_neg (by omega), decide_eq_false (fun h' => h h'.1)]
theorem t_fail (x5 x6 a b c d : Int) : Ev (fun k => abs_Tight.j0 k x5 x6 true a b c d) (0, 0, 0, 0, false) :=
  Ev.step (f := fun _ => some (0, 0, 0, 0, false)) (fun k => by simp only [abs_Tight.j0]; rw [if_pos trivial]) (Ev.now _)
theorem wrap_sub {a b : Nat} (ha : a < 2 ^ 64) (hb : b < 2 ^ 64) : IntKind.u64.wrap ((a : Int) - (b : Int)) = (((a + (2 ^ 64 - b)) % 2 ^ 64 : Nat) : Int) := by rw [wrap_u64]; omega
theorem wrap_sub_le {a b : Nat} (ha : a < 2 ^ 64) (hb : b ≤ a) : IntKind.u64.wrap ((a : Int) - (b : Int)) = ((a - b : Nat) : Int) := by rw [wrap_u64]; omega
theorem wrap_add_lt {a b : Nat} (h : a + b < 2 ^ 64) : IntKind.u64.wrap ((a : Int) + (b : Int)) = ((a + b : Nat) : Int) := by rw [wrap_u64]; omega
theorem mask_wrap {N : Nat} (hN : N < 64) : IntKind.u64.wrap ((shl .u64 1 (IntKind.u64.wrap (mx (N : Int) 0))) - 1) = ((2 ^ N - 1 : Nat) : Int) := by
  have h0 : mx (N : Int) 0 = (N : Int) := by unfold mx; split <;> omega
  rw [h0, wraps_u64 (N : Int) (by omega) (by omega), shl_one hN]
  have h1 := pow_pos N
  have h2 := pow_lt hN
  have e : ((2 ^ N : Nat) : Int) - 1 = ((2 ^ N - 1 : Nat) : Int) := by omega
  rw [e, wrap_u64_nat, Nat.mod_eq_of_lt (by omega)]
theorem mx_pos (N : Nat) (hN : N < 64) : 0 ≤ IntKind.u64.wrap (mx (N : Int) 0) := by
  have h0 : mx (N : Int) 0 = (N : Int) := by unfold mx; split <;> omega
  rw [h0, wraps_u64 _ (by omega) (by omega)]; omega
theorem t_go (lo hi N R u d : Nat) (h1 : lo + u ≤ hi) (h2 : d ≤ hi) (hh : hi < 2 ^ 64) :
    Ev (fun k => abs_Tight.j0 k u d false lo hi N R) (tgi (if lo + u = hi - d then some (lo + u, lo + u, 64, lo + u) else some (lo + u, hi - d, N, R))) := by
  refine Ev.step (f := fun _ => some (tgi (if lo + u = hi - d then some (lo + u, lo + u, 64, lo + u) else some (lo + u, hi - d, N, R)))) (fun k => ?_) (Ev.now _)
  simp only [abs_Tight.j0]
  rw [if_neg (by decide), wrap_add_lt (by omega), wrap_sub_le hh h2]
  by_cases e : lo + u = hi - d
  · rw [if_pos (congrArg _ e), if_pos e]; rfl
  · rw [if_neg (fun h => e (Int.ofNat_inj.1 h)), if_neg e]; rfl
theorem tight_ev (lo hi N R : Nat) (hl : lo ≤ hi) (hh : hi < 2 ^ 64) (hN : N ≤ 64) (hR : R < 2 ^ 64) : Ev (fun k => abs_Tight.f k lo hi N R) (tgi (tg lo hi N R)) := by
  unfold abs_Tight.f tg
  by_cases h : 64 ≤ N
  · simp only [if_pos (show (N : Int) ≥ 64 from by omega), if_pos h]
    rw [ivl_has_eq]
    by_cases c : lo ≤ R ∧ R ≤ hi
    · rw [decide_eq_true c, if_pos c]; exact Ev.now _
    · rw [decide_eq_false c, if_neg c]; exact Ev.now _
  · have h64 : N < 64 := by omega
    have hm : 2 ^ N - 1 < 2 ^ 64 := by have := pow_lt h64; omega
    simp only [if_neg (show ¬ (N : Int) ≥ 64 from by omega), if_neg h, if_pos (mx_pos N h64)]
    have eu : Go.bits .and .u64 (IntKind.u64.wrap ((R : Int) - (lo : Int))) (IntKind.u64.wrap ((shl .u64 1 (IntKind.u64.wrap (mx (N : Int) 0))) - 1)) = ((up lo N R : Nat) : Int) := by
      rw [mask_wrap h64, wrap_sub hR (by omega), band (mod_lt_pow _ 64) hm, and_mask, mod_mod_pow _ (by omega)]
      rfl
    have ed : Go.bits .and .u64 (IntKind.u64.wrap ((hi : Int) - (R : Int))) (IntKind.u64.wrap ((shl .u64 1 (IntKind.u64.wrap (mx (N : Int) 0))) - 1)) = ((dn hi N R : Nat) : Int) := by
      rw [mask_wrap h64, wrap_sub hh hR, band (mod_lt_pow _ 64) hm, and_mask, mod_mod_pow _ (by omega)]
      rfl
    have ew : IntKind.u64.wrap ((hi : Int) - (lo : Int)) = ((hi - lo : Nat) : Int) := wrap_sub_le hh hl
    simp only [eu, ed, ew]
    clear eu ed ew
    generalize up lo N R = u
    generalize dn hi N R = d
    by_cases c1 : u ≤ hi - lo
    · simp only [if_neg (show ¬ ((u : Int) > ((hi - lo : Nat) : Int)) from by omega)]
      by_cases c2 : d ≤ hi - lo
      · rw [decide_eq_false (show ¬ ((d : Int) > ((hi - lo : Nat) : Int)) from by omega), if_pos ⟨c1, c2⟩]
        exact t_go lo hi N R u d (by omega) (by omega) hh
      · rw [decide_eq_true (show ((d : Int) > ((hi - lo : Nat) : Int)) from by omega), if_neg (fun h => c2 h.2)]
        exact t_fail _ _ _ _ _ _
    · simp only [if_pos (show ((u : Int) > ((hi - lo : Nat) : Int)) from by omega)]
      rw [if_neg (fun h => c1 h.1)]
      exact t_fail _ _ _ _ _ _
/-- Whether what is told holds of a number. -/
def Hs (lo hi N R n : Nat) : Prop := (lo ≤ n ∧ n ≤ hi) ∧ n % 2 ^ min N 64 = R % 2 ^ min N 64
instance (lo hi N R n : Nat) : Decidable (Hs lo hi N R n) := inferInstanceAs (Decidable (_ ∧ _))
theorem hs_eq (lo hi N : Nat) {R n : Nat} (hR : R < 2 ^ 64) (hn : n < 2 ^ 64) : abs_Has.f lo hi N R n = some (decide (Hs lo hi N R n)) := by
  unfold abs_Has.f
  rw [ivl_has_eq, Option.bind_some]
  by_cases h : lo ≤ n ∧ n ≤ hi
  · rw [decide_eq_true h, if_pos rfl, has_eq hn hR, Option.bind_some, Int.toNat_natCast]
    exact congrArg some (decide_eq_decide.2 ⟨fun x => ⟨h, x⟩, fun x => x.2⟩)
  · rw [decide_eq_false h, if_neg (by decide), decide_eq_false (fun x => h x.1)]
theorem aright_eq (lo hi : Nat) (N : Int) {R : Nat} (hR : R < 2 ^ 64) : abs_Right.f lo hi N R = some (decide (lo ≤ hi ∧ 0 ≤ N ∧ N ≤ 64 ∧ R < 2 ^ N.toNat)) := by
  unfold abs_Right.f ivl_Right.f
  rw [Option.bind_some]
  by_cases h : lo ≤ hi
  · rw [decide_eq_true (by omega), if_pos rfl, right_eq hR, Option.bind_some]
    exact congrArg some (decide_eq_decide.2 ⟨fun x => ⟨h, x⟩, fun x => x.2⟩)
  · rw [decide_eq_false (by omega), if_neg (by decide), decide_eq_false (fun x => h x.1)]
theorem awithin_eq (lo hi N lo' hi' N' : Nat) {R R' : Nat} (hR : R < 2 ^ 64) (hR' : R' < 2 ^ 64) : abs_Within.f lo hi N R lo' hi' N' R' = some (decide ((lo' ≤ lo ∧ hi ≤ hi') ∧ N' ≤ N ∧ R % 2 ^ min N' 64 = R' % 2 ^ min N' 64)) := by
  unfold abs_Within.f ivl_Within.f
  have hw := within_eq hR hR' (N : Int) (N' : Int)
  rw [Int.toNat_natCast] at hw
  by_cases h : lo' ≤ lo
  · rw [if_pos (by omega), Option.bind_some]
    by_cases h' : hi ≤ hi'
    · rw [decide_eq_true (by omega), if_pos rfl, hw, Option.bind_some]
      exact congrArg some (decide_eq_decide.2 ⟨fun x => ⟨⟨h, h'⟩, by omega, x.2⟩, fun x => ⟨by omega, x.2.2⟩⟩)
    · rw [decide_eq_false (by omega), if_neg (by decide), decide_eq_false (fun x => h' x.1.2)]
  · rw [if_neg (by omega), Option.bind_some, if_neg (by decide), decide_eq_false (fun x => h x.1.1)]
end Go.Proofs.YticpdchlknbodaaDoor.SAbsWidens
