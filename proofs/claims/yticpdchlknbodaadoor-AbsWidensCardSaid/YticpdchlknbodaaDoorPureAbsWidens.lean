/-
  Widened again and again what is known changes at most 66 times, and has all that it had, and what it was widened by: of numbers alone.
-/
import Derived.Test.YticpdchlknbodaaDoorTypesAbsWidens
import Derived.Test.YticpdchlknbodaaDoorAAbsWidens
namespace Go.Proofs.YticpdchlknbodaaDoor.Pure
open Go.RowKit Go.Proofs.YticpdchlknbodaaDoor.PAbsWidens Go.Proofs.YticpdchlknbodaaDoorW.PrintWords Go.Proofs.YticpdchlknbodaaDoorW.PrintLast Go.Proofs.YticpdchlknbodaaDoorW.PrintMore Go.Proofs.YticpdchlknbodaaDoor.Nums Go.Proofs.YticpdchlknbodaaDoor.SAbsWidens Go.Proofs.YticpdchlknbodaaDoor.TAbsWidens
set_option linter.unusedVariables false
def z (r q : Nat) : Nat := Go.Lib.ctz 64 (r ^^^ q)
theorem xor_zero (a b : Nat) : a ^^^ b = 0 ↔ a = b := by
  constructor
  · intro h
    refine Nat.eq_of_testBit_eq fun j => ?_
    have h1 := congrArg (fun x => Nat.testBit x j) h
    simp only [Nat.testBit_xor, Nat.zero_testBit] at h1
    revert h1
    cases Nat.testBit a j <;> cases Nat.testBit b j <;> simp
  · intro h; rw [h, Nat.xor_self]
theorem z_iff (r q i : Nat) (hr : r < 2 ^ 64) (hq : q < 2 ^ 64) (hi : i ≤ 64) : r % 2 ^ i = q % 2 ^ i ↔ i ≤ z r q := by
  have hx : r ^^^ q < 2 ^ 64 := Nat.xor_lt_two_pow hr hq
  rw [← xor_zero, ← Nat.xor_mod_two_pow]
  unfold z Go.Lib.ctz
  by_cases h0 : r ^^^ q = 0
  · rw [if_pos h0, h0, Nat.zero_mod]; simp [hi]
  · rw [if_neg h0]
    obtain ⟨m, e, _⟩ := Go.Lib.ctzFrom_spec 64 (r ^^^ q) (by omega) hx
    generalize Go.Lib.ctzFrom 64 (r ^^^ q) = c at *
    rw [e]
    constructor
    · intro h
      by_cases hc : i ≤ c
      · exact hc
      · exfalso
        have h1 := Nat.dvd_of_mod_eq_zero h
        have h2 : 2 ^ (c + 1) ∣ 2 ^ c * (2 * m + 1) := Nat.dvd_trans (Nat.pow_dvd_pow 2 (by omega)) h1
        rw [Nat.pow_succ] at h2
        have h3 := Nat.dvd_of_mul_dvd_mul_left (pow_pos c) h2
        omega
    · intro h
      exact Nat.mod_eq_zero_of_dvd (Nat.dvd_trans (Nat.pow_dvd_pow 2 h) (Nat.dvd_mul_right _ _))/-! ### What is told of a join of low bits. -/
def jN (N r M q : Nat) : Nat := min N (min M (z r q))
theorem join_eq {N r M q : Nat} (hN : N ≤ 64) (hr : r < 2 ^ N) (hM : M ≤ 64) (hq : q < 2 ^ M) : low_Join.f N r M q = some (((jN N r M q : Nat) : Int), ((r % 2 ^ jN N r M q : Nat) : Int)) := by
  have hr64 : r < 2 ^ 64 := Nat.lt_of_lt_of_le hr (pow_le hN)
  have hq64 : q < 2 ^ 64 := Nat.lt_of_lt_of_le hq (pow_le hM)
  have hx : r ^^^ q < 2 ^ 64 := Nat.xor_lt_two_pow hr64 hq64
  unfold low_Join.f bits_TrailingZeros64.f Tabs.tz64f
  rw [bxor hr64 hq64, if_pos ⟨by omega, by omega⟩, Option.bind_some, Int.toNat_natCast, show mn (M : Int) ((Lib.ctz 64 (r ^^^ q) : Nat) : Int) = ((min M (z r q) : Nat) : Int) from by unfold mn z; split <;> omega]
  rw [cut_eq hr64, Int.toNat_natCast]
  by_cases h : N ≤ min M (z r q)
  · rw [if_pos (show ((min M (z r q) : Nat) : Int) ≥ (N : Int) by omega)]
    have e : jN N r M q = N := by unfold jN; omega
    rw [e, Nat.mod_eq_of_lt hr]; rfl
  · rw [if_neg (show ¬ ((min M (z r q) : Nat) : Int) ≥ (N : Int) by omega)]
    have e : jN N r M q = min M (z r q) := by unfold jN; omega
    rw [e, Nat.min_eq_left (show min M (z r q) ≤ 64 by omega)]; rfl
theorem join_mod {N r M q : Nat} (hN : N ≤ 64) (hr : r < 2 ^ N) (hM : M ≤ 64) (hq : q < 2 ^ M) : r % 2 ^ jN N r M q = q % 2 ^ jN N r M q := by
  have hr64 : r < 2 ^ 64 := Nat.lt_of_lt_of_le hr (pow_le hN)
  have hq64 : q < 2 ^ 64 := Nat.lt_of_lt_of_le hq (pow_le hM)
  exact (z_iff r q _ hr64 hq64 (by unfold jN; omega)).2 (by unfold jN; omega)
/-! ### The ends. -/
def tp (t : Int) : Nat := if t = 127 then 4294967295 else 18446744073709551615
theorem tp_lt (t : Int) : tp t < 2 ^ 64 := by unfold tp; split <;> decide
theorem top_eq (t : Int) : abs_Top.f t = some (0, (tp t : Int), 0, 0) := by
  unfold abs_Top.f abs_width.f tp
  by_cases h : t = 127
  · rw [if_pos h, if_pos h]; rfl
  · rw [if_neg h, if_neg h]; rfl
theorem iwithin_eq (a b c d : Nat) : ivl_Within.f a b c d = some (decide (c ≤ a ∧ b ≤ d)) := by
  unfold ivl_Within.f
  by_cases h : c ≤ a
  · rw [if_pos (by omega)]
    exact congrArg some (decide_eq_decide.2 ⟨fun x => ⟨h, by omega⟩, fun x => by omega⟩)
  · rw [if_neg (by omega), decide_eq_false (fun x => h x.1)]
def wl (lo blo : Nat) : Nat := if blo < lo then 0 else lo
def wh (hi bhi T : Nat) : Nat := if bhi > hi then T else hi
theorem widen_eq {lo hi N r blo bhi M q : Nat} (t : Int) (hN : N ≤ 64) (hr : r < 2 ^ N) (hM : M ≤ 64) (hq : q < 2 ^ M) :
    abs_Widen.f lo hi N r blo bhi M q t = some ((wl lo blo : Int), (wh hi bhi (tp t) : Int), ((jN N r M q : Nat) : Int), ((r % 2 ^ jN N r M q : Nat) : Int)) := by
  have hw : ∃ w, abs_width.f t = some w ∧ ivl_All.f w = some (0, (tp t : Int)) := by
    unfold abs_width.f tp
    by_cases h : t = 127
    · exact ⟨32, by rw [if_pos h], by rw [if_pos h]; rfl⟩
    · exact ⟨64, by rw [if_neg h], by rw [if_neg h]; rfl⟩
  obtain ⟨w, h1, h2⟩ := hw
  unfold abs_Widen.f
  rw [h1, Option.bind_some]
  have h3 : ivl_Widen.f lo hi blo bhi w = some ((wl lo blo : Int), (wh hi bhi (tp t) : Int)) := by
    unfold ivl_Widen.f wl wh
    rw [h2]
    by_cases c1 : blo < lo
    · rw [if_pos (by omega), if_pos c1]
      by_cases c2 : bhi > hi
      · rw [if_pos (by omega), if_pos c2]; rfl
      · rw [if_neg (by omega), if_neg c2]; rfl
    · rw [if_neg (by omega), if_neg c1]
      by_cases c2 : bhi > hi
      · rw [if_pos (by omega), if_pos c2]; rfl
      · rw [if_neg (by omega), if_neg c2]
  rw [h3, Option.bind_some, join_eq hN hr hM hq]; rfl
/-- What is left of the changes. -/
def lft (lo hi N T : Nat) : Nat := (if lo = 0 then 0 else 1) + (if hi = T then 0 else 1) + N
theorem lft_le (lo hi N T : Nat) (hN : N ≤ 64) : lft lo hi N T ≤ 66 := by unfold lft; split <;> split <;> omega
theorem lft_down {lo hi N r blo bhi M q T : Nat} (hr : r < 2 ^ N) (hT : hi ≤ T) (hbT : bhi ≤ T) (hc : ¬ (wl lo blo = lo ∧ wh hi bhi T = hi ∧ jN N r M q = N ∧ r % 2 ^ jN N r M q = r)) :
    lft (wl lo blo) (wh hi bhi T) (jN N r M q) T + 1 ≤ lft lo hi N T := by
  have hJ : jN N r M q ≤ N := by unfold jN; omega
  have hrJ : jN N r M q = N → r % 2 ^ jN N r M q = r := fun e => by rw [e]; exact Nat.mod_eq_of_lt hr
  have h1 : wl lo blo = lo ∨ wl lo blo = 0 ∧ lo ≠ 0 := by unfold wl; split <;> omega
  have h2 : wh hi bhi T = hi ∨ wh hi bhi T = T ∧ hi ≠ T := by unfold wh; split <;> omega
  generalize r % 2 ^ jN N r M q = r' at *
  generalize wl lo blo = l' at *
  generalize wh hi bhi T = h' at *
  generalize jN N r M q = J at *
  have h3 : J < N ∨ J = N ∧ r' = r := by
    rcases Nat.lt_or_ge J N with h | h
    · exact .inl h
    · have : J = N := by omega
      exact .inr ⟨this, hrJ this⟩
  unfold lft
  split <;> split <;> split <;> split <;> omega
theorem ne4 (a b c d a' b' c' d' : Nat) : ((!((a : Int) == (a' : Int)) || (!((b : Int) == (b' : Int)))) || ((!((c : Int) == (c' : Int)) || (!((d : Int) == (d' : Int)))))) = !decide (a = a' ∧ b = b' ∧ c = c' ∧ d = d') := by
  rw [Bool.eq_iff_iff]
  simp only [Bool.or_eq_true, Bool.not_eq_true', beq_eq_false_iff_ne, decide_eq_false_iff_not, ne_eq]
  omega
theorem up1 (i : Nat) (h : i ≤ 300) : wrap64 ((i : Int) + 1) = ((i + 1 : Nat) : Int) := by rw [wrap64_id _ (by omega) (by omega)]; omega
theorem stop (l : List S28) (t : Int) (c i : Nat) (a b d e f g h j : Int) (hc : c ≤ 66) : Ev (fun k => trammellaw18_AbsWidens.j2 k l t (c : Int) (i : Int) false a b d e f g h j) true :=
  Ev.step (f := fun _ => some true) (fun k => by simp only [trammellaw18_AbsWidens.j2]; rw [if_neg (by decide), decide_eq_true (by omega)]) (Ev.now _)
theorem loop (l : List S28) (hw : ∀ y ∈ l, G28 y) (t : Int) : ∀ (d i c lo hi N r : Nat), i + d = 200 → lo ≤ hi → hi ≤ tp t → N ≤ 64 → r < 2 ^ N → c + lft lo hi N (tp t) ≤ 66 →
    Ev (fun k => trammellaw18_AbsWidens.l0 k l t (c : Int) (i : Int) (lo : Int) (hi : Int) (N : Int) (r : Int) 0 (tp t : Int) 0 0) true
  | 0, i, c, lo, hi, N, r, hi0, h1, h2, h3, h4, hc => by
    by_cases hl : (i : Int) < (l.length : Int)
    · refine Ev.step (fun k => ?_) (stop l t c i lo hi N r 0 (tp t) 0 0 (by omega))
      simp only [trammellaw18_AbsWidens.l0]
      rw [if_pos hl, decide_eq_false (by omega)]
    · refine Ev.step (fun k => ?_) (stop l t c i lo hi N r 0 (tp t) 0 0 (by omega))
      simp only [trammellaw18_AbsWidens.l0]
      rw [if_neg hl]
  | d + 1, i, c, lo, hi, N, r, hi0, h1, h2, h3, h4, hc => by
    by_cases hl : (i : Int) < (l.length : Int)
    case neg =>
      refine Ev.step (fun k => ?_) (stop l t c i lo hi N r 0 (tp t) 0 0 (by omega))
      simp only [trammellaw18_AbsWidens.l0]
      rw [if_neg hl]
    refine Ev.step (f := fun k => trammellaw18_AbsWidens.j2 k l t (c : Int) (i : Int) true (lo : Int) (hi : Int) (N : Int) (r : Int) 0 (tp t : Int) 0 0) (fun k => by simp only [trammellaw18_AbsWidens.l0]; rw [if_pos hl, decide_eq_true (by omega)]) ?_
    have hy : rd_T28 l (i : Int) ∈ l := by
      unfold rd_T28
      rw [Int.toNat_natCast, List.getD_eq_getElem?_getD, List.getElem?_eq_getElem (by omega)]
      exact List.getElem_mem _
    obtain ⟨⟨g0, g1⟩, ⟨g2, g3⟩⟩ := hw _ hy
    generalize hyy : rd_T28 l (i : Int) = y at *
    obtain ⟨⟨blo, bhi⟩, ⟨M, q⟩⟩ := y
    simp only at g0 g1 g2 g3
    obtain ⟨blo, rfl, hb0⟩ := wf_u64 g0
    obtain ⟨bhi, rfl, hb1⟩ := wf_u64 g1
    obtain ⟨q, rfl, hq64⟩ := wf_u64 g3
    have hr64 : r < 2 ^ 64 := Nat.lt_of_lt_of_le h4 (pow_le h3)
    have skip : Ev (fun k => trammellaw18_AbsWidens.j3 k l t (c : Int) (i : Int) true (lo : Int) (hi : Int) (N : Int) (r : Int) 0 (tp t : Int) 0 0 (blo : Int) (bhi : Int) M (q : Int)) true := by
      refine Ev.step (fun k => ?_) (loop l hw t d (i + 1) c lo hi N r (by omega) h1 h2 h3 h4 hc)
      simp only [trammellaw18_AbsWidens.j3]
      rw [if_pos trivial, up1 i (by omega)]
    have hR := aright_eq blo bhi M hq64
    by_cases hbr : blo ≤ bhi ∧ 0 ≤ M ∧ M ≤ 64 ∧ q < 2 ^ M.toNat
    case neg =>
      rw [decide_eq_false hbr] at hR
      refine Ev.step (fun k => ?_) skip
      simp only [trammellaw18_AbsWidens.j2, hyy]
      rw [if_pos trivial, if_pos (by omega), if_pos hl, hR, Option.bind_some, if_neg (by decide)]
    rw [decide_eq_true hbr] at hR
    obtain ⟨b1, b2, b3, b4⟩ := hbr
    obtain ⟨M, rfl⟩ := Int.eq_ofNat_of_zero_le b2
    rw [Int.toNat_natCast] at b4
    have hM : M ≤ 64 := by omega
    have hI := iwithin_eq blo bhi 0 (tp t)
    by_cases hbt : 0 ≤ blo ∧ bhi ≤ tp t
    case neg =>
      rw [decide_eq_false hbt] at hI
      refine Ev.step (fun k => ?_) skip
      simp only [trammellaw18_AbsWidens.j2, hyy]
      rw [if_pos trivial, if_pos (by omega), if_pos hl, hR, Option.bind_some, if_pos rfl, show (0 : Int) = ((0 : Nat) : Int) from rfl, hI, Option.bind_some]
      rfl
    rw [decide_eq_true hbt] at hI
    obtain ⟨_, hbT⟩ := hbt
    have hW := widen_eq (lo := lo) (hi := hi) (blo := blo) (bhi := bhi) t h3 h4 hM b4
    have hjm := join_mod h3 h4 hM b4
    have hJN : jN N r M q ≤ N := by unfold jN; omega
    have hJM : jN N r M q ≤ M := by unfold jN; omega
    have w1 : wl lo blo ≤ lo ∧ wl lo blo ≤ blo := by unfold wl; split <;> omega
    have w2 : hi ≤ wh hi bhi (tp t) ∧ bhi ≤ wh hi bhi (tp t) ∧ wh hi bhi (tp t) ≤ tp t := by unfold wh; split <;> omega
    have hd := fun hc' => lft_down (lo := lo) (blo := blo) h4 h2 hbT (M := M) (q := q) hc'
    have hrJ : r % 2 ^ jN N r M q < 2 ^ jN N r M q := Nat.mod_lt _ (pow_pos _)
    have hrJ64 : r % 2 ^ jN N r M q < 2 ^ 64 := Nat.lt_of_le_of_lt (Nat.mod_le _ _) hr64
    have hm1 : r % 2 ^ min (jN N r M q) 64 = r % 2 ^ jN N r M q % 2 ^ min (jN N r M q) 64 := by rw [Nat.min_eq_left (by omega), Nat.mod_mod]
    have hm2 : q % 2 ^ min (jN N r M q) 64 = r % 2 ^ jN N r M q % 2 ^ min (jN N r M q) 64 := by rw [Nat.min_eq_left (by omega), Nat.mod_mod, hjm]
    generalize r % 2 ^ jN N r M q = r' at *
    generalize wl lo blo = lo' at *
    generalize wh hi bhi (tp t) = hi' at *
    generalize jN N r M q = J at *
    have hA1 := awithin_eq lo hi N lo' hi' J hr64 hrJ64
    rw [decide_eq_true ⟨⟨w1.1, w2.1⟩, hJN, hm1⟩] at hA1
    have hA2 := awithin_eq blo bhi M lo' hi' J hq64 hrJ64
    rw [decide_eq_true ⟨⟨w1.2, w2.2.1⟩, hJM, hm2⟩] at hA2
    have hI2 := iwithin_eq lo' hi' 0 (tp t)
    rw [decide_eq_true ⟨Nat.zero_le _, w2.2.2⟩] at hI2
    have hR2 := aright_eq lo' hi' (J : Int) hrJ64
    rw [decide_eq_true ⟨by omega, by omega, by omega, by rw [Int.toNat_natCast]; exact hrJ⟩] at hR2
    refine Ev.step (f := fun k => trammellaw18_AbsWidens.j3 k l t (c : Int) (i : Int) false (lo : Int) (hi : Int) (N : Int) (r : Int) 0 (tp t : Int) 0 0 (blo : Int) (bhi : Int) (M : Int) (q : Int)) (fun k => ?_) ?_
    · simp only [trammellaw18_AbsWidens.j2, hyy]
      rw [if_pos trivial, if_pos (by omega), if_pos hl, hR, Option.bind_some, if_pos rfl, show (0 : Int) = ((0 : Nat) : Int) from rfl, hI, Option.bind_some]
      rfl
    refine Ev.step (f := fun k => trammellaw18_AbsWidens.j4 k l t (c : Int) (i : Int) false (lo : Int) (hi : Int) (N : Int) (r : Int) 0 (tp t : Int) 0 0 (blo : Int) (bhi : Int) (M : Int) (q : Int) (lo' : Int) (hi' : Int) (J : Int) (r' : Int)) (fun k => ?_) ?_
    · simp only [trammellaw18_AbsWidens.j3]
      rw [if_neg (by decide), hW, Option.bind_some]
      simp only [hA1, hA2, Option.bind_some, if_true]
      rw [show (0 : Int) = ((0 : Nat) : Int) from rfl, hI2, Option.bind_some, if_pos rfl, hR2, Option.bind_some]
      rfl
    by_cases hch : lo' = lo ∧ hi' = hi ∧ J = N ∧ r' = r
    · have ih := loop l hw t d (i + 1) c lo' hi' J r' (by omega) (by omega) w2.2.2 (by omega) hrJ (by obtain ⟨rfl, rfl, rfl, rfl⟩ := hch; exact hc)
      have hA3 : abs_Within.f blo bhi M q lo hi N r = some true := by obtain ⟨rfl, rfl, rfl, rfl⟩ := hch; exact hA2
      refine Ev.step (fun k => ?_) ih
      simp only [trammellaw18_AbsWidens.j4]
      rw [if_neg (by decide), ne4, decide_eq_true hch, if_neg (by decide), hA3, Option.bind_some, if_pos rfl, up1 i (by omega)]
    · have hd' := hd hch
      have ih := loop l hw t d (i + 1) (c + 1) lo' hi' J r' (by omega) (by omega) w2.2.2 (by omega) hrJ (by omega)
      refine Ev.step (fun k => ?_) ih
      simp only [trammellaw18_AbsWidens.j4]
      rw [if_neg (by decide), ne4, decide_eq_false hch, if_pos (by decide), up1 i (by omega), up1 c (by omega)]
theorem AbsWidens : TAbsWidens.Pure := by
  intro a0 a1 a2 a3 l t w0 w1 w2 w3 hlen hg wt
  refine Ev.rounds (g := fun k => trammellaw18_AbsWidens.f k a0 a1 a2 a3 l t) ?_
  obtain ⟨lo, rfl, hlo⟩ := wf_u64 w0
  obtain ⟨hi, rfl, hhi⟩ := wf_u64 w1
  obtain ⟨r, rfl, hr64⟩ := wf_u64 w3
  unfold trammellaw18_AbsWidens.f
  have aw : Ev (fun k => trammellaw18_awake.f k) true := Ev.of (fun k => trammellaw18_awake.mono k) (k := 12) (by decide +kernel)
  refine Ev.bind aw ?_
  have skip : Ev (fun k => trammellaw18_AbsWidens.j0 k l t true (lo : Int) (hi : Int) a2 (r : Int) 0 (tp t : Int) 0 0) true :=
    Ev.step (f := fun _ => some true) (fun k => by simp only [trammellaw18_AbsWidens.j0]; rw [if_pos trivial]) (Ev.now _)
  have hR := aright_eq lo hi a2 hr64
  by_cases hbr : lo ≤ hi ∧ 0 ≤ a2 ∧ a2 ≤ 64 ∧ r < 2 ^ a2.toNat
  case neg =>
    rw [decide_eq_false hbr] at hR
    refine Ev.congr (fun k => ?_) skip
    rw [if_pos rfl, top_eq, Option.bind_some, hR, Option.bind_some, if_neg (by decide)]
  rw [decide_eq_true hbr] at hR
  obtain ⟨b1, b2, b3, b4⟩ := hbr
  have hI := iwithin_eq lo hi 0 (tp t)
  by_cases hbt : 0 ≤ lo ∧ hi ≤ tp t
  case neg =>
    rw [decide_eq_false hbt] at hI
    refine Ev.congr (fun k => ?_) skip
    rw [if_pos rfl, top_eq, Option.bind_some, hR, Option.bind_some, if_pos rfl]
    show (ivl_Within.f (lo : Int) (hi : Int) ((0 : Nat) : Int) (tp t : Int)).bind _ = _
    rw [hI]; rfl
  rw [decide_eq_true hbt] at hI
  obtain ⟨N, rfl⟩ := Int.eq_ofNat_of_zero_le b2
  rw [Int.toNat_natCast] at b4
  have hl := loop l hg t 200 0 0 lo hi N r (by omega) b1 hbt.2 (by omega) b4 (by have := lft_le lo hi N (tp t) (by omega); omega)
  refine Ev.congr (fun k => ?_) (Ev.step (f := fun k => trammellaw18_AbsWidens.l0 k l t ((0 : Nat) : Int) ((0 : Nat) : Int) (lo : Int) (hi : Int) (N : Int) (r : Int) 0 (tp t : Int) 0 0) (g := fun k => trammellaw18_AbsWidens.j0 k l t false (lo : Int) (hi : Int) (N : Int) (r : Int) 0 (tp t : Int) 0 0) (fun k => ?_) hl)
  · rw [if_pos rfl, top_eq, Option.bind_some, hR, Option.bind_some, if_pos rfl]
    show (ivl_Within.f (lo : Int) (hi : Int) ((0 : Nat) : Int) (tp t : Int)).bind _ = _
    rw [hI]; rfl
  · simp only [trammellaw18_AbsWidens.j0]
    rw [if_neg (by decide)]
    rfl
end Go.Proofs.YticpdchlknbodaaDoor.Pure
