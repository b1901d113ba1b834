/-
  TypReads: what the functions that it reaches answer.
-/
import Derived.Test.YthmiladfdndciaaXTypReads
import Derived.Test.YthmiladfdndciaaVb
namespace Go.Proofs.Ythmiladfdndciaa.STypReads
set_option linter.all false
open Go.Proofs.Ythmiladfdndciaa.Vx Go.Proofs.Ythmiladfdndciaa.XTypReads Go.Proofs.Ythmiladfdndciaa.Vd Go.Proofs.Ythmiladfdndciaa.Vn Go.Proofs.Ythmiladfdndciaa.Vl Go.Proofs.Ythmiladfdndciaa.Vp Go.Proofs.Ythmiladfdndciaa.Vb
theorem q_most {bits : Nat} (h : bits ≤ 64) : F44 [(bits : Int)] [] [] = some ([((mst bits : Nat) : Int)], [], []) := by
  have e : IntKind.i64.wrap ((IntKind.i64.wrap ((bits : Int) + 6)).tdiv 7) = ((mst bits : Nat) : Int) := by
    rw [wi (n := (bits : Int) + 6) (by omega) (by omega), Int.tdiv_eq_ediv_of_nonneg (by omega), wi (by omega) (by omega)]
    unfold mst
    omega
  refine of_ret ?_
  unfold t44
  simp only [T.den, vals, List.map_cons, List.map_nil, E.I, arI, List.getD_cons_zero, e]
/-- The pieces of a number. -/
def rawO (l : List Int) (bits : Nat) : List Int :=
  if ends l < l.length ∧ ends l < mst bits then [((vl l (ends l + 1) % 2 ^ 64 : Nat) : Int), l.getD (ends l) 0, ((ends l + 1 : Nat) : Int), 0] else if mst bits ≤ ends l then [0, 0, 0, 2] else [0, 0, 0, 1]
theorem q_raw_loop {l : List Int} (hb : Bytes l) {bits : Nat} (h0 : 1 ≤ bits) (h1 : bits ≤ 64) (hl : l.length < 9223372036854775807) : ∀ (d i k : Nat), i + d = min (ends l) (mst bits - 1) → 
    (∃ r, iterT 6 0 0 (fun r => l42_1.den (Tab.fn a42) ([(bits : Int)] ++ r.1) ([false] ++ r.2.1) ([dl l] ++ r.2.2)) (k + (d + 1)) ([0, 0, 0, 0, ((vl l i % 2 ^ 64 : Nat) : Int), (i : Int)], [], []) = some r ∧
      (r = .ret (rawO l bits, [], []) ∨ (rawO l bits = [0, 0, 0, 1] ∧ ∃ x y, r = .brk 2 ([0, 0, 0, 0, x, y], [], [])))) := by
  have hm10 : mst bits ≤ 10 := by unfold mst; omega
  have hm1 : 1 ≤ mst bits := by unfold mst; omega
  have e1 : ∀ i : Nat, i ≤ 9 → arI .add .i64 (i : Int) 1 = ((i + 1 : Nat) : Int) := fun i hi => by show IntKind.i64.wrap ((i : Int) + 1) = _; rw [wi (by omega) (by omega)]; omega
  have e2 : ∀ i : Nat, i ≤ 9 → (0 : Int) ≤ IntKind.u64.wrap (arI .mul .i64 7 (i : Int)) := fun i hi => by
    have : arI .mul .i64 7 (i : Int) = ((7 * i : Nat) : Int) := by show IntKind.i64.wrap (7 * (i : Int)) = _; rw [wi (by omega) (by omega)]; omega
    rw [this, wu (by omega) (by omega)]; omega
  have hel := ends_le l
  intro d
  induction d with
  | zero =>
    intro i k hi
    by_cases hlen : i < l.length
    · have h3 : (i : Int) < (l.length : Nat) := by omega
      have h4 := e2 i (by omega)
      have h5 : (0 : Int) ≤ (i : Nat) := by omega
      by_cases hlt : l.getD i 0 < 128
      · have hei : i = ends l := by
          by_cases h : i < ends l
          · have := ends_before l i h; omega
          · omega
        refine ⟨_, it_ret (r' := (rawO l bits, [], [])) ?_, .inl rfl⟩
        have hr : rawO l bits = [((vl l (i + 1) % 2 ^ 64 : Nat) : Int), l.getD i 0, ((i + 1 : Nat) : Int), 0] := by unfold rawO; rw [← hei, if_pos (by omega)]
        rw [hr]
        simp only [l42_1, T.den, E.B, E.I, cmB, vals, List.cons_append, List.nil_append, List.getD_cons_zero, List.getD_cons_succ, List.map_cons, List.map_nil, dl_len, h3, h4, h5, decide_true, cond_true, Int.toNat_natCast, ix_dl, hlt, ge_iff_le, raw_step hb (show i ≤ 9 by omega), e1 _ (show i ≤ 9 by omega)]
      · have hne : i ≠ ends l := fun e => by have := ends_at l (by omega); rw [← e] at this; omega
        have him : i + 1 = mst bits := by omega
        have h6 : (((i + 1 : Nat) : Int) == ((mst bits : Nat) : Int)) = true := by rw [beq_iff_eq]; omega
        refine ⟨_, it_ret (r' := (rawO l bits, [], [])) ?_, .inl rfl⟩
        have hr : rawO l bits = [0, 0, 0, 2] := by
          unfold rawO
          have : mst bits ≤ ends l := by omega
          rw [if_neg (by omega), if_pos this]
        rw [hr]
        simp only [l42_1, T.den, E.B, E.I, cmB, vals, List.cons_append, List.nil_append, List.append_nil, List.getD_cons_zero, List.getD_cons_succ, List.map_cons, List.map_nil, dl_len, h3, h4, h5, decide_true, cond_true, Int.toNat_natCast, ix_dl, hlt, decide_false, cond_false, ge_iff_le, raw_step hb (show i ≤ 9 by omega), e1 _ (show i ≤ 9 by omega), e42_44, q_most h1, R.fits, List.length_cons, List.length_nil, Nat.reduceAdd, h6]
        rfl
    · have h3 : ¬ (i : Int) < (l.length : Nat) := by omega
      refine ⟨_, it_brk (t := 2) (r' := ([0, 0, 0, 0, ((vl l i % 2 ^ 64 : Nat) : Int), (i : Int)], [], [])) ?_, .inr ⟨?_, _, _, rfl⟩⟩
      · simp only [l42_1, T.den, E.B, E.I, cmB, vals, List.cons_append, List.nil_append, List.append_nil, List.getD_cons_zero, List.getD_cons_succ, List.map_cons, List.map_nil, dl_len, h3, decide_false, cond_false]
      · unfold rawO
        rw [if_neg (by omega), if_neg (by omega)]
  | succ d ih =>
    intro i k hi
    have hge := ends_before l i (by omega)
    have hlt : ¬ l.getD i 0 < 128 := by omega
    have h3 : (i : Int) < (l.length : Nat) := by omega
    have h4 := e2 i (by omega)
    have h5 : (0 : Int) ≤ (i : Nat) := by omega
    have h6 : (((i + 1 : Nat) : Int) == ((mst bits : Nat) : Int)) = false := by rw [beq_eq_false_iff_ne]; omega
    obtain ⟨r, hr, ho⟩ := ih (i + 1) k (by omega)
    refine ⟨r, it_nxt (r' := ([0, 0, 0, 0, ((vl l (i + 1) % 2 ^ 64 : Nat) : Int), ((i + 1 : Nat) : Int)], [], [])) ?_ rfl hr, ho⟩
    simp only [l42_1, T.den, E.B, E.I, cmB, vals, List.cons_append, List.nil_append, List.append_nil, List.getD_cons_zero, List.getD_cons_succ, List.map_cons, List.map_nil, dl_len, h3, h4, h5, decide_true, cond_true, Int.toNat_natCast, ix_dl, hlt, decide_false, cond_false, ge_iff_le, raw_step hb (show i ≤ 9 by omega), e1 _ (show i ≤ 9 by omega), e42_44, q_most h1, R.fits, List.length_cons, List.length_nil, Nat.reduceAdd, h6]
    rfl
theorem q_raw {l : List Int} (hb : Bytes l) {bits : Nat} (h0 : 1 ≤ bits) (h1 : bits ≤ 64) (hl : l.length < 9223372036854775807) : F42 [(bits : Int)] [] [dl l] = some (rawO l bits, [], []) := by
  refine of_ret ?_
  unfold t42
  have hm10 : mst bits ≤ 10 := by unfold mst; omega
  obtain ⟨k, hk⟩ := fuel_eq (min (ends l) (mst bits - 1) + 1) (by omega)
  have h2 : ¬ ((bits : Int) < 1) := by omega
  have h3 : ¬ ((bits : Int) > 64) := by omega
  have e : ((E.cm .lss (.iv 0) (.n 1)).oo (.cm .gtr (.iv 0) (.n 64))).B [(bits : Int)] [] [dl l] = false := by simp only [E.B, E.I, cmB, List.getD_cons_zero, h2, h3, decide_false, Bool.or_false]
  show T.den _ _ _ ([] ++ [_]) _ = _
  rw [e]
  refine d_ite (fun h => by cases h) fun _ => ?_
  obtain ⟨r, hr, ho⟩ := q_raw_loop hb h0 h1 hl (min (ends l) (mst bits - 1)) 0 k (by omega)
  rw [← hk] at hr
  rcases ho with rfl | ⟨ho, x, y, rfl⟩
  · exact d_lp_ret hr
  · refine d_lp _ hr rfl ?_
    rw [ho]
    rfl
/-- An unsigned number. -/
theorem q_U {l : List Int} (hb : Bytes l) {bits : Nat} (h0 : 1 ≤ bits) (h1 : bits ≤ 64) (hl : l.length < 9223372036854775807) : F31 [(bits : Int)] [] [dl l] = some ((match uP bits l with | .err e => [0, 0, e] | .ok a n => [(a : Int), (n : Int), 0]), [], []) := by
  have hraw := q_raw hb h0 h1 hl
  refine of_ret ?_
  unfold t31
  refine d_callx [(bits : Int)] [] [dl l] _ e31_42 rfl rfl rfl hraw ?_ ?_
  · unfold rawO; split
    · rfl
    · split <;> rfl
  have hm10 : mst bits ≤ 10 := by unfold mst; omega
  unfold rawO uP
  by_cases hc : ends l < l.length ∧ ends l < mst bits
  · rw [if_pos hc, if_pos hc]
    have hx := hb.at (ends l)
    have hlt := ends_at l hc.1
    generalize hS : ends l = s at *
    have hown0 : 1 ≤ (bits : Int) - 7 * (s : Int) := by unfold mst at hc; omega
    obtain ⟨own, ho⟩ : ∃ own : Nat, (bits : Int) - 7 * (s : Int) = own := ⟨((bits : Int) - 7 * (s : Int)).toNat, by omega⟩
    have e1 := own_eq (bits := bits) (s := s) h1 (by omega)
    rw [ho] at e1
    have e2 : IntKind.u64.wrap (own : Int) = own := wu (by omega) (by omega)
    have e3 : (0 : Int) ≤ own := by omega
    have hown : 1 ≤ own := by omega
    have hsm := vl_small l s own hlt hx.1
    rw [show 7 * s + own = bits by omega] at hsm
    have e4 : (decide ((own : Int) < 7) && (arI .shr .u8 (l.getD s 0) (own : Int) != 0)) = !decide (vl l (s + 1) < 2 ^ bits) := by
      by_cases h7 : (own : Int) < 7
      · rw [shr8 own (by omega), decide_eq_true h7, Bool.true_and]
        have := ediv_zero_iff hx.1 (pow_int_pos own) (y := 2 ^ own)
        by_cases hv : vl l (s + 1) < 2 ^ bits
        · rw [this.2 (hsm.1 hv), decide_eq_true hv]; rfl
        · rw [decide_eq_false hv]
          exact bne_iff_ne.2 fun h => hv (hsm.2 (this.1 h))
      · have hV := vl_lt l (s + 1)
        have hp : 2 ^ (7 * (s + 1)) ≤ 2 ^ bits := pow_le (by omega)
        rw [decide_eq_false h7, decide_eq_true (show vl l (s + 1) < 2 ^ bits by omega)]; rfl
    have hmod : vl l (s + 1) < 2 ^ bits → vl l (s + 1) % 2 ^ 64 = vl l (s + 1) := fun h => Nat.mod_eq_of_lt (Nat.lt_of_lt_of_le h (pow_le h1))
    simp only [T.den, E.B, E.I, cmB, vals, List.cons_append, List.nil_append, List.append_nil, List.getD_cons_zero, List.getD_cons_succ, List.map_cons, List.map_nil, e1, e2, ge_iff_le, e3, decide_true, Bool.or_true, cond_true, e4, cond_false, bne_self_eq_false]
    by_cases hv : vl l (s + 1) < 2 ^ bits
    · rw [if_pos hv, hmod hv, decide_eq_true hv]; rfl
    · rw [if_neg hv, decide_eq_false hv]; rfl
  · rw [if_neg hc, if_neg hc]
    split <;> rfl
/-- A signed number. -/
theorem q_S {l : List Int} (hb : Bytes l) {bits : Nat} (h0 : 1 ≤ bits) (h1 : bits ≤ 64) (hl : l.length < 9223372036854775807) : F33 [(bits : Int)] [] [dl l] = some ((match sP bits l with | .err e => [0, 0, e] | .ok a n => [a, (n : Int), 0]), [], []) := by
  have hraw := q_raw hb h0 h1 hl
  have hm10 : mst bits ≤ 10 := by unfold mst; omega
  refine of_ret ?_
  unfold t33
  refine d_callx [(bits : Int)] [] [dl l] _ e33_42 rfl rfl rfl hraw ?_ ?_
  · unfold rawO; split
    · rfl
    · split <;> rfl
  unfold rawO sP
  by_cases hc : ends l < l.length ∧ ends l < mst bits
  case neg =>
    rw [if_neg hc, if_neg hc]
    split <;> rfl
  rw [if_pos hc, if_pos hc]
  have hx := hb.at (ends l)
  have hlt := ends_at l hc.1
  generalize hS : ends l = s at *
  obtain ⟨own, ho⟩ : ∃ own : Nat, (bits : Int) - 7 * (s : Int) = own := ⟨((bits : Int) - 7 * (s : Int)).toNat, by unfold mst at hc; omega⟩
  have hown : 1 ≤ own := by unfold mst at hc; omega
  have e1 := own_eq (s := s) h1 (by omega)
  rw [ho] at e1
  have hbits : 7 * s + own = bits := by omega
  have hV := vl_lt l (s + 1)
  rw [show 7 * (s + 1) = 7 * s + 7 by omega] at hV
  have hpp : 2 ^ (7 * s + 7) = 2 * 2 ^ (7 * s + 6) := by rw [show 7 * s + 7 = (7 * s + 6) + 1 by omega, Nat.pow_succ]; omega
  by_cases h7 : (own : Int) < 7
  · have e2 : arI .sub .i64 (own : Int) 1 = ((own - 1 : Nat) : Int) := by show IntKind.i64.wrap ((own : Int) - 1) = _; rw [wi (by omega) (by omega)]; omega
    have e3 : IntKind.u64.wrap ((own - 1 : Nat) : Int) = ((own - 1 : Nat) : Int) := wu (by omega) (by omega)
    have e4 : (0 : Int) ≤ ((own - 1 : Nat) : Int) := by omega
    have e6 : (!(arI .shr .u8 (l.getD s 0) ((own - 1 : Nat) : Int) != 0) || true) = true := by simp
    have e5 : ((arI .shr .u8 (l.getD s 0) ((own - 1 : Nat) : Int) != 0) && (arI .shr .u8 (l.getD s 0) ((own - 1 : Nat) : Int) != arI .shr .u8 127 ((own - 1 : Nat) : Int))) = !decide (-((2 ^ (bits - 1) : Nat) : Int) ≤ sv l s ∧ sv l s < ((2 ^ (bits - 1) : Nat) : Int)) := by
      rw [shr8 _ (by omega), shr8 _ (by omega)]
      have hsm := vl_small l s (own - 1) hlt hx.1
      have hla := vl_large l s (own - 1) (by omega) hlt hx.1
      have hb1 : 7 * s + (own - 1) = bits - 1 := by omega
      rw [hb1] at hsm hla
      have hz : l.getD s 0 / 2 ^ (own - 1) = 0 ↔ l.getD s 0 < 2 ^ (own - 1) := by
        rw [ediv_zero_iff hx.1 (pow_int_pos _)]
      have ht : l.getD s 0 / 2 ^ (own - 1) = 127 / 2 ^ (own - 1) ↔ 128 - 2 ^ (own - 1) ≤ l.getD s 0 := by
        generalize l.getD s 0 = x at hx hlt ⊢
        have : own = 1 ∨ own = 2 ∨ own = 3 ∨ own = 4 ∨ own = 5 ∨ own = 6 := by omega
        rcases this with rfl | rfl | rfl | rfl | rfl | rfl <;> simp <;> omega
      have hp6 : 2 ^ (bits - 1) ≤ 2 ^ (7 * s + 6) := pow_le (by omega)
      by_cases hr : -((2 ^ (bits - 1) : Nat) : Int) ≤ sv l s ∧ sv l s < ((2 ^ (bits - 1) : Nat) : Int)
      · rw [decide_eq_true hr]
        unfold sv at hr
        split at hr
        · have : 128 - 2 ^ (own - 1) ≤ l.getD s 0 := hla.1 (by omega)
          rw [ht.2 this]
          simp
        · rw [hz.2 (hsm.1 (by omega))]
          simp
      · rw [decide_eq_false hr]
        have n1 : ¬ vl l (s + 1) < 2 ^ (bits - 1) := fun h => hr (by unfold sv; rw [if_neg (by omega)]; omega)
        have n2 : ¬ 2 ^ (7 * s + 7) - 2 ^ (bits - 1) ≤ vl l (s + 1) := fun h => hr (by unfold sv; rw [if_pos (by omega)]; omega)
        rw [bne_iff_ne.2 (fun h => n1 (hsm.2 (hz.1 h))), bne_iff_ne.2 (fun h => n2 (hla.2 (ht.1 h)))]
        rfl
    by_cases hr : -((2 ^ (bits - 1) : Nat) : Int) ≤ sv l s ∧ sv l s < ((2 ^ (bits - 1) : Nat) : Int)
    · rw [decide_eq_true hr] at e5
      have e5 : _ = false := e5
      have h9 : s = 9 → -9223372036854775808 ≤ sv l s ∧ sv l s < 9223372036854775808 := by
        rintro rfl
        have : bits = 64 := by omega
        subst this
        exact hr
      have tail := s_tail hb s hlt (by omega) h9 _ rfl
      rw [if_pos hr]
      rcases tail with ⟨t1, t2, t3⟩ | ⟨t1, t3⟩
      · simp only [T.den, E.B, E.I, cmB, vals, List.cons_append, List.nil_append, List.append_nil, List.getD_cons_zero, List.getD_cons_succ, List.map_cons, List.map_nil, e1, e2, e3, h7, ge_iff_le, e4, decide_true, cond_true, cond_false, bne_self_eq_false, Bool.or_true, e5, t1, t2, t3]
      · simp only [T.den, E.B, E.I, cmB, vals, List.cons_append, List.nil_append, List.append_nil, List.getD_cons_zero, List.getD_cons_succ, List.map_cons, List.map_nil, e1, e2, e3, h7, ge_iff_le, e4, decide_true, cond_true, cond_false, bne_self_eq_false, Bool.or_true, e5, t1, t3]
    · rw [decide_eq_false hr] at e5
      have e5 : _ = true := e5
      rw [if_neg hr]
      simp only [T.den, E.B, E.I, cmB, vals, List.cons_append, List.nil_append, List.append_nil, List.getD_cons_zero, List.getD_cons_succ, List.map_cons, List.map_nil, e1, e2, e3, h7, ge_iff_le, e4, decide_true, cond_true, cond_false, bne_self_eq_false, Bool.or_true, e5]
  · have hp7 : 2 ^ (7 * s + 6) ≤ 2 ^ (bits - 1) := pow_le (by omega)
    have hr : -((2 ^ (bits - 1) : Nat) : Int) ≤ sv l s ∧ sv l s < ((2 ^ (bits - 1) : Nat) : Int) := by
      unfold sv
      split <;> omega
    have tail := s_tail hb s hlt (by omega) (fun h => by omega) _ rfl
    rw [if_pos hr]
    rcases tail with ⟨t1, t2, t3⟩ | ⟨t1, t3⟩
    · simp only [T.den, E.B, E.I, cmB, vals, List.cons_append, List.nil_append, List.append_nil, List.getD_cons_zero, List.getD_cons_succ, List.map_cons, List.map_nil, e1, h7, ge_iff_le, decide_true, decide_false, cond_true, cond_false, bne_self_eq_false, Bool.or_true, t1, t2, t3]
    · simp only [T.den, E.B, E.I, cmB, vals, List.cons_append, List.nil_append, List.append_nil, List.getD_cons_zero, List.getD_cons_succ, List.map_cons, List.map_nil, e1, h7, ge_iff_le, decide_true, decide_false, cond_true, cond_false, bne_self_eq_false, Bool.or_true, t1, t3]
/-- A type of values. -/
def valP : Rd Int := byteP.bind fun x => if x = 127 ∨ x = 126 then fun _ => .ok x 0 else fun _ => .err (if x = 125 ∨ x = 124 ∨ x = 123 ∨ x = 112 ∨ x = 111 then 3 else 2)
theorem valP_stbl : Stbl valP := byteP_stbl.bind fun x => by
  split
  · exact Stbl.pure x
  · refine Stbl.fail _ ?_
    split <;> decide
theorem q_val {l : List Int} (hb : Bytes l) : F16 [] [] [dl l] = some ((match valP l with | .err e => [0, 0, e] | .ok v n => [v, (n : Int), 0]), [], []) := by
  refine of_ret ?_
  cases l with
  | nil => rfl
  | cons x r =>
    have hx := hb x List.mem_cons_self
    have ew : IntKind.i64.wrap x = x := wi (by omega) (by omega)
    have e0 : (((dl (x :: r)).getD (0 : Int).toNat (.i 0)).cell 0).int = x := rfl
    have el : (((dl (x :: r)).length : Nat) : Int) = (r.length : Int) + 1 := by simp [dl]
    have en : ((r.length : Int) + 1 == 0) = false := by rw [beq_eq_false_iff_ne]; omega
    have ep : decide ((0 : Int) < (r.length : Int) + 1) = true := by rw [decide_eq_true_eq]; omega
    simp only [t16, T.den, E.B, E.I, cmB, vals, List.map_cons, List.map_nil, List.getD_cons_zero, el, e0, ew, en, ep, cond_false, cond_true]
    by_cases h1 : x = 127
    · subst h1; rfl
    by_cases h2 : x = 126
    · subst h2; rfl
    by_cases h3 : x = 125
    · subst h3; rfl
    by_cases h4 : x = 124
    · subst h4; rfl
    by_cases h5 : x = 123
    · subst h5; rfl
    by_cases h6 : x = 112
    · subst h6; rfl
    by_cases h7 : x = 111
    · subst h7; rfl
    have b1 := beq_eq_false_iff_ne.2 h1
    have b2 := beq_eq_false_iff_ne.2 h2
    have b3 := beq_eq_false_iff_ne.2 h3
    have b4 := beq_eq_false_iff_ne.2 h4
    have b5 := beq_eq_false_iff_ne.2 h5
    have b6 := beq_eq_false_iff_ne.2 h6
    have b7 := beq_eq_false_iff_ne.2 h7
    simp only [b1, b2, b3, b4, b5, b6, b7, cond_false]
    simp [valP, Rd.bind, byteP, h1, h2, h3, h4, h5, h6, h7]
def loopP : Nat → Rd (List Int)
  | 0 => fun _ => .ok [] 0
  | d + 1 => valP.bind fun v => (loopP d).bind fun r => fun _ => .ok (v :: r) 0
theorem loopP_stbl : ∀ d, Stbl (loopP d)
  | 0 => Stbl.pure []
  | d + 1 => valP_stbl.bind fun v => (loopP_stbl d).bind fun r => Stbl.pure _
def valsP : Rd (List Int) := (uP 32).bind fun c => if 8 < c then fun _ => .err 4 else loopP c
theorem valsP_stbl : Stbl valsP := (uP_stbl 32).bind fun c => by
  split
  · exact Stbl.fail _ (by decide)
  · exact loopP_stbl c
theorem lp_vals {l : List Int} (hb : Bytes l) (hl : l.length < 4611686018427387904) {cnt : Nat} (hc : cnt ≤ 8) (n e : Int) : ∀ (d i pos k : Nat) (acc : List Int), i + d = cnt → acc.length = i → pos ≤ l.length →
    iterT 4 0 2 (fun r => l28_1.den (Tab.fn a28) ([(cnt : Int), n, e] ++ r.1) ([] ++ r.2.1) ([dl l] ++ r.2.2)) (k + (d + 1)) ([0, 0, (pos : Int), (i : Int)], [], [[], dl acc]) =
      some (match loopP d (l.drop pos) with | .err e => .ret ([0, e], [], [[]]) | .ok vs m => .brk 2 ([0, 0, ((pos + m : Nat) : Int), (cnt : Int)], [], [[], dl (acc ++ vs)])) := by
  intro d
  induction d with
  | zero =>
    intro i pos k acc hi ha hp
    obtain rfl : i = cnt := by omega
    refine it_brk ?_
    simp [l28_1, T.den, E.B, E.I, cmB, vals, Vx.LE.L]
  | succ d ih =>
    intro i pos k acc hi ha hp
    have h16 := q_val (hb.drop pos)
    have h3 : (i : Int) < (cnt : Int) := by omega
    have h4 : (0 : Int) ≤ (pos : Int) := by omega
    have h5 : (pos : Int) ≤ (l.length : Nat) := by omega
    have ecut := cut_dl l pos
    have hlo : loopP (d + 1) (l.drop pos) = match valP (l.drop pos) with | .err e => .err e | .ok v n => (match (match loopP d ((l.drop pos).drop n) with | .err e => .err e | .ok r k => .ok (v :: r) (k + 0) : Res (List Int)) with | .err e => .err e | .ok b k => .ok b (n + k)) := by
      simp only [loopP]
      unfold Rd.bind
      cases valP (l.drop pos) with
      | err e => rfl
      | ok v n =>
        dsimp only
        cases loopP d ((l.drop pos).drop n) <;> rfl
    rw [hlo]
    have hnz := valP_stbl.nz (l.drop pos)
    have hle := valP_stbl.le (l.drop pos)
    generalize hv : valP (l.drop pos) = V at *
    cases V with
    | err er =>
      have hne : (er != 0) = true := bne_iff_ne.2 (hnz er rfl)
      refine it_ret ?_
      simp only [l28_1, T.den, E.B, E.I, cmB, vals, Vx.LE.L, List.cons_append, List.nil_append, List.append_nil, List.getD_cons_zero, List.getD_cons_succ, List.map_cons, List.map_nil, dl_len, h3, h4, h5, Int.le_refl, decide_true, Bool.and_true, cond_true, ecut, e28_16, h16, R.fits, List.length_cons, List.length_nil, Nat.reduceAdd, hne]
      rfl
    | ok v n' =>
      have hn := hle v n' rfl
      rw [List.length_drop] at hn
      have e1 : arI .add .i64 (pos : Int) (n' : Int) = ((pos + n' : Nat) : Int) := by show IntKind.i64.wrap ((pos : Int) + (n' : Int)) = _; rw [wi (by omega) (by omega)]; omega
      have e2 : arI .add .u64 (i : Int) 1 = ((i + 1 : Nat) : Int) := by show IntKind.u64.wrap ((i : Int) + 1) = _; rw [wu (by omega) (by omega)]; omega
      have h6 : ((acc.length : Nat) : Int) ≤ 3909374676536 := by omega
      have h16 : F16 [] [] [dl (l.drop pos)] = some ([v, (n' : Int), 0], [], []) := h16
      have h := ih (i + 1) (pos + n') k (acc ++ [v]) (by omega) (by simp [ha]) (by omega)
      rw [← List.drop_drop] at h
      refine it_nxt (r' := ([0, 0, ((pos + n' : Nat) : Int), ((i + 1 : Nat) : Int)], [], [[], dl (acc ++ [v])])) ?_ rfl (h.trans ?_)
      · have e3 : dl acc ++ [D.i v] = dl (acc ++ [v]) := by simp [dl]
        have h7 : ((([D.i v] : List D).length : Nat) : Int) ≤ 3909374676536 := by simp
        simp only [l28_1, T.den, E.B, E.I, cmB, vals, Vx.LE.L, CE.D, mkD, List.cons_append, List.nil_append, List.append_nil, List.getD_cons_zero, List.getD_cons_succ, List.map_cons, List.map_nil, dl_len, h3, h4, h5, Int.le_refl, decide_true, Bool.and_true, cond_true, ecut, e28_16, h16, h6, e1, e2]
        have hf : R.fits ([v, (n' : Int), 0], [], []) 3 0 0 = true := rfl
        simp only [hf, List.cons_append, List.nil_append, List.append_nil, List.getD_cons_zero, List.getD_cons_succ, bne_self_eq_false, cond_false, h6, h7, decide_true, Bool.and_true, cond_true, e1, e3]
      · dsimp only
        generalize loopP d ((l.drop pos).drop n') = W
        cases W with
        | err e => rfl
        | ok r m =>
          show some _ = some _
          congr 4
          simp [Nat.add_assoc]
theorem q_vals {l : List Int} (hb : Bytes l) (hl : l.length < 4611686018427387904) : F28 [] [] [dl l] = some (match valsP l with | .err e => ([0, e], [], [[]]) | .ok vs n => ([(n : Int), 0], [], [dl vs])) := by
  have h31 := q_U hb (bits := 32) (by decide) (by decide) (by omega)
  have hnz := (uP_stbl 32).nz l
  have hle := (uP_stbl 32).le l
  refine of_ret ?_
  unfold t28 valsP
  rw [rd_bind]
  generalize hu : uP 32 l = V at *
  cases V with
  | err e =>
    refine d_callx [32] [] [dl l] _ e28_31 rfl rfl rfl h31 rfl ?_
    have hne : (e != 0) = true := bne_iff_ne.2 (hnz e rfl)
    refine d_ite (fun _ => rfl) fun h => ?_
    have : (e != 0) = false := h
    rw [hne] at this; cases this
  | ok c n =>
    have hn := hle c n rfl
    refine d_callx [32] [] [dl l] _ e28_31 rfl rfl rfl h31 rfl ?_
    refine d_ite (fun h => by cases h) fun _ => ?_
    by_cases h8 : 8 < c
    · refine d_ite (fun _ => ?_) fun h => ?_
      · simp only [if_pos h8]; rfl
      · have : decide ((c : Int) > 8) = false := h
        rw [decide_eq_false_iff_not] at this; omega
    · refine d_ite (fun h => ?_) fun _ => ?_
      · have : decide ((c : Int) > 8) = true := h
        rw [decide_eq_true_eq] at this; omega
      obtain ⟨k, hk⟩ := fuel_eq (c + 1) (by omega)
      have hlp := lp_vals hb hl (cnt := c) (by omega) (n : Int) 0 c 0 n k [] (by omega) rfl hn
      rw [← hk] at hlp
      simp only [if_neg h8]
      generalize loopP c (l.drop n) = W at hlp ⊢
      cases W with
      | err e => exact d_lp_ret hlp
      | ok vs m =>
        refine d_lp _ hlp rfl ?_
        rfl
theorem loopP_len : ∀ (d : Nat) (l : List Int) vs n, loopP d l = .ok vs n → vs.length = d
  | 0, l, vs, n, h => by cases h; rfl
  | d + 1, l, vs, n, h => by
    simp only [loopP] at h
    unfold Rd.bind at h
    split at h
    · cases h
    · split at h
      · cases h
      · rename_i h2
        try dsimp only at h2
        split at h2
        · cases h2
        · rename_i r m h3
          cases h2
          cases h
          simp [loopP_len d _ _ _ h3]
theorem valsP_len {l : List Int} {vs n} (h : valsP l = .ok vs n) : vs.length ≤ 8 := by
  unfold valsP Rd.bind at h
  split at h
  · cases h
  · split at h
    · cases h
    · rename_i h2
      try dsimp only at h2
      split at h2
      · cases h2
      · cases h
        rw [loopP_len _ _ _ _ h2]
        omega
def funcP : Rd (List Int × List Int) := byteP.bind fun x => if x = 96 then valsP.bind fun a => valsP.bind fun b => fun _ => .ok (a, b) 0 else fun _ => .err 2
theorem funcP_stbl : Stbl funcP := byteP_stbl.bind fun x => by
  split
  · exact valsP_stbl.bind fun a => valsP_stbl.bind fun b => Stbl.pure _
  · exact Stbl.fail _ (by decide)
theorem q_func {l : List Int} (hb : Bytes l) (hl : l.length < 4611686018427387904) : F8 [] [] [dl l] = some (match funcP l with | .err e => ([0, e], [], [[], []]) | .ok (a, b) n => ([(n : Int), 0], [], [dl a, dl b])) := by
  refine of_ret ?_
  unfold t8 funcP
  rw [rd_bind]
  cases l with
  | nil => exact d_ite (fun _ => rfl) fun h => by cases h
  | cons x r =>
    have e0 : (((dl (x :: r)).getD (0 : Int).toNat (.i 0)).cell 0).int = x := rfl
    have el : (((dl (x :: r)).length : Nat) : Int) = (r.length : Int) + 1 := by simp [dl]
    have hr : r.length < 4611686018427387904 := by simp at hl; omega
    have hbr : Bytes r := hb.drop 1
    refine d_ite (fun h => ?_) fun _ => ?_
    · have : ((((dl (x :: r)).length : Nat) : Int) == 0) = true := h
      rw [el, beq_iff_eq] at this; omega
    refine d_rq (by show decide ((0 : Int) < (((dl (x :: r)).length : Nat) : Int)) = true; rw [el, decide_eq_true_eq]; omega) ?_
    simp only [show byteP (x :: r) = Res.ok x 1 from rfl, List.drop_succ_cons, List.drop_zero]
    by_cases h96 : x = 96
    case neg =>
      refine d_ite (fun _ => ?_) fun h => ?_
      · simp only [if_neg h96]; rfl
      · have : ((((dl (x :: r)).getD (0 : Int).toNat (.i 0)).cell 0).int != 96) = false := h
        rw [e0] at this
        exact absurd (bne_iff_ne.2 h96) (by rw [this]; decide)
    refine d_ite (fun h => ?_) fun _ => ?_
    · have : ((((dl (x :: r)).getD (0 : Int).toNat (.i 0)).cell 0).int != 96) = true := h
      rw [e0, h96] at this; cases this
    simp only [if_pos h96]
    rw [rd_bind]
    refine d_rq (by show (decide ((1 : Int) ≤ (((dl (x :: r)).length : Nat) : Int)) && decide ((((dl (x :: r)).length : Nat) : Int) ≤ (((dl (x :: r)).length : Nat) : Int))) = true; rw [el]; simp; omega) ?_
    have c1 : ((dl (x :: r)).take (((dl (x :: r)).length : Nat) : Int).toNat).drop (1 : Int).toNat = dl r := by
      rw [dl_len]; exact cut_dl (x :: r) 1
    show T.den _ _ _ _ ([dl (x :: r)] ++ [((dl (x :: r)).take (((dl (x :: r)).length : Nat) : Int).toNat).drop (1 : Int).toNat]) = _
    rw [c1]
    have h1 := q_vals hbr hr
    have hnz := valsP_stbl.nz r
    have hle := valsP_stbl.le r
    generalize valsP r = V at *
    cases V with
    | err e =>
      refine d_callx [] [] [dl r] _ e8_28 rfl rfl rfl h1 rfl ?_
      refine d_ite (fun _ => rfl) fun h => ?_
      have : (e != 0) = false := h
      rw [bne_iff_ne.2 (hnz e rfl)] at this; cases this
    | ok a n =>
      have hn := hle a n rfl
      refine d_callx [] [] [dl r] _ e8_28 rfl rfl rfl h1 rfl ?_
      refine d_ite (fun h => by cases h) fun _ => ?_
      have ea : arI .add .i64 1 (n : Int) = ((1 + n : Nat) : Int) := by show IntKind.i64.wrap (1 + (n : Int)) = _; rw [wi (by omega) (by omega)]; omega
      refine d_rq (by show (decide ((0 : Int) ≤ arI .add .i64 1 (n : Int)) && (decide (arI .add .i64 1 (n : Int) ≤ (((dl (x :: r)).length : Nat) : Int)) && decide ((((dl (x :: r)).length : Nat) : Int) ≤ (((dl (x :: r)).length : Nat) : Int)))) = true; rw [el, ea]; simp; omega) ?_
      have c2 : ((dl (x :: r)).take (((dl (x :: r)).length : Nat) : Int).toNat).drop (arI .add .i64 1 (n : Int)).toNat = dl (r.drop n) := by
        rw [dl_len, ea, cut_dl (x :: r) (1 + n), ← List.drop_drop]; rfl
      show T.den _ _ _ _ ([dl (x :: r)] ++ [dl r] ++ [dl a] ++ [((dl (x :: r)).take (((dl (x :: r)).length : Nat) : Int).toNat).drop (arI .add .i64 1 (n : Int)).toNat]) = _
      rw [c2]
      have h2 := q_vals (hbr.drop n) (by rw [List.length_drop]; omega)
      have hnz2 := valsP_stbl.nz (r.drop n)
      have hle2 := valsP_stbl.le (r.drop n)
      dsimp only
      rw [rd_bind]
      generalize valsP (r.drop n) = W at *
      cases W with
      | err e =>
        refine d_callx [] [] [dl (r.drop n)] _ e8_28 rfl rfl rfl h2 rfl ?_
        refine d_ite (fun _ => rfl) fun h => ?_
        have : (e != 0) = false := h
        rw [bne_iff_ne.2 (hnz2 e rfl)] at this; cases this
      | ok b m =>
        have hm := hle2 b m rfl
        rw [List.length_drop] at hm
        refine d_callx [] [] [dl (r.drop n)] _ e8_28 rfl rfl rfl h2 rfl ?_
        refine d_ite (fun h => by cases h) fun _ => ?_
        have eb : arI .add .i64 (arI .add .i64 1 (n : Int)) (m : Int) = ((1 + (n + (m + 0)) : Nat) : Int) := by rw [ea]; show IntKind.i64.wrap (((1 + n : Nat) : Int) + (m : Int)) = _; rw [wi (by omega) (by omega)]; omega
        show some (Out.ret ([arI .add .i64 (arI .add .i64 1 (n : Int)) (m : Int), 0], [], [dl a, dl b])) = _
        rw [eb]
theorem funcP_len {l : List Int} {a b n} (h : funcP l = .ok (a, b) n) : a.length ≤ 8 ∧ b.length ≤ 8 := by
  unfold funcP Rd.bind at h
  split at h
  · cases h
  · split at h
    · cases h
    · rename_i h2
      try dsimp only at h2
      split at h2
      · dsimp only at h2
        split at h2
        · cases h2
        · rename_i h3
          try dsimp only at h2
          split at h2
          · cases h2
          · rename_i h4
            try dsimp only at h4
            split at h4
            · cases h4
            · rename_i h5
              cases h4
              cases h2
              cases h
              exact ⟨valsP_len h3, valsP_len h5⟩
      · cases h2
theorem lp_same (l : List D) (hl : l.length < 4611686018427387904) : ∀ (d i k : Nat), i + d = l.length → iterT 1 1 0 (fun r => l29_1.den (Tab.fn a29) ([] ++ r.1) ([] ++ r.2.1) ([l, l] ++ r.2.2)) (k + (d + 1)) ([(i : Int)], [false], []) = some (.brk 2 ([(l.length : Int)], [false], [])) := by
  intro d
  induction d with
  | zero =>
    intro i k hi
    obtain rfl : i = l.length := by omega
    refine it_brk ?_
    simp [l29_1, T.den, E.B, E.I, cmB, vals]
  | succ d ih =>
    intro i k hi
    have h3 : (i : Int) < (l.length : Nat) := by omega
    have h4 : (0 : Int) ≤ (i : Int) := by omega
    have e2 : arI .add .i64 (i : Int) 1 = ((i + 1 : Nat) : Int) := by show IntKind.i64.wrap ((i : Int) + 1) = _; rw [wi (by omega) (by omega)]; omega
    refine it_nxt (r' := ([((i + 1 : Nat) : Int)], [false], [])) ?_ rfl (ih (i + 1) k (by omega))
    simp only [l29_1, T.den, E.B, E.I, cmB, vals, List.cons_append, List.nil_append, List.append_nil, List.getD_cons_zero, List.getD_cons_succ, List.map_cons, List.map_nil, h3, h4, ge_iff_le, decide_true, cond_true, bne_self_eq_false, cond_false, e2]
theorem q_sameints (l : List D) (hl : l.length < 4611686018427387904) : F29 [] [] [l, l] = some ([], [true], []) := by
  refine of_ret ?_
  unfold t29
  refine d_ite (fun h => ?_) fun _ => ?_
  · have : ((l.length : Int) != (l.length : Int)) = true := h
    simp at this
  obtain ⟨k, hk⟩ := fuel_eq (l.length + 1) (by omega)
  have h := lp_same l hl l.length 0 k (by omega)
  rw [← hk] at h
  exact d_lp _ h rfl rfl
theorem q_same (a b : List D) (ha : a.length < 4611686018427387904) (hb : b.length < 4611686018427387904) : F10 [] [] [a, b, a, b] = some ([], [true], []) := by
  refine of_ret ?_
  unfold t10
  refine d_callx [] [] [a, a] _ e10_29 rfl rfl rfl (q_sameints a ha) rfl ?_
  refine d_ite (fun _ => ?_) fun h => by cases h
  exact d_callx [] [] [b, b] _ e10_29 rfl rfl rfl (q_sameints b hb) rfl rfl
theorem q_rmost {bits : Nat} (h1 : bits ≤ 64) : F45 [(bits : Int)] [] [] = some ([((mst bits : Nat) : Int)], [], []) := by
  refine of_ret ?_
  unfold t45
  have go : ∀ (d i k : Nat), i + d = mst bits → iterT 1 0 0 (fun r => l45_1.den (Tab.fn a45) ([(bits : Int)] ++ r.1) ([] ++ r.2.1) ([] ++ r.2.2)) (k + (d + 1)) ([(i : Int)], [], []) = some (.brk 2 ([((mst bits : Nat) : Int)], [], [])) := by
    intro d
    induction d with
    | zero =>
      intro i k hi
      obtain rfl : i = mst bits := by omega
      refine it_brk ?_
      unfold l45_1
      refine d_itF (lt_f ?_) rfl
      show (bits : Int) ≤ IntKind.i64.wrap (7 * ((mst bits : Nat) : Int))
      rw [wi (by unfold mst; omega) (by unfold mst; omega)]; unfold mst; omega
    | succ d ih =>
      intro i k hi
      refine it_nxt (r' := ([((i + 1 : Nat) : Int)], [], [])) ?_ rfl (ih (i + 1) k (by omega))
      unfold l45_1
      refine d_itT (lt_t ?_) ?_
      · show IntKind.i64.wrap (7 * (i : Int)) < (bits : Int)
        unfold mst at hi
        rw [wi (by omega) (by omega)]; omega
      · show some (Out.nxt ([arI .add .i64 (i : Int) 1], [], [])) = _
        rw [up1 i (by unfold mst at hi; omega)]
  obtain ⟨k, hk⟩ := fuel_eq (mst bits + 1) (by unfold mst; omega)
  have h := go (mst bits) 0 k (by omega)
  rw [← hk] at h
  exact d_lp _ h rfl (d_rq rfl rfl)
def bl (V n : Nat) : List D := (bitsOf V n).map D.b
theorem bl_len (V n : Nat) : (bl V n).length = n := by simp [bl, bitsOf_length]
theorem bl_succ (V n : Nat) : bl V n ++ [.b (V.testBit n)] = bl V (n + 1) := by unfold bl; rw [← bitsOf_succ, List.map_append]; rfl
theorem bl_vl (l : List Int) (i : Nat) : bl (vl l (i + 1)) (7 * i) = bl (vl l i) (7 * i) := by unfold bl; rw [bitsOf_vl]
/-- The document's bits of a number. -/
def readO (l : List Int) (bits : Nat) : Vx.R :=
  if ends l < l.length ∧ ends l < mst bits then ([((ends l + 1 : Nat) : Int), 0], [], [bl (vl l (ends l + 1)) (7 * (ends l + 1))]) else if mst bits ≤ ends l then ([0, 2], [], [[]]) else ([0, 1], [], [[]])
theorem l_read {l : List Int} (hb : Bytes l) {bits i : Nat} (hi : i < l.length) (hi9 : i ≤ 9) (hl : l.length < 9223372036854775807) {x1 x2 m : Int} {y1 y2 : List D} : ∀ (d j k : Nat), j + d = 7 →
    iterT 1 0 1 (fun r => l43_1.den (Tab.fn a43) ([(bits : Int), x1, x2, (i : Int), m] ++ r.1) ([false] ++ r.2.1) ([dl l, y1, y2] ++ r.2.2)) (k + (d + 1)) ([(j : Int)], [], [bl (vl l (i + 1)) (7 * i + j)]) = some (.brk 4 ([7], [], [bl (vl l (i + 1)) (7 * i + 7)])) := by
  have hx := hb.at i
  intro d
  induction d with
  | zero =>
    intro j k hj
    obtain rfl : j = 7 := by omega
    refine it_brk ?_
    unfold l43_1
    exact d_itF (lt_f (show (7 : Int) ≤ ((7 : Nat) : Int) by omega)) rfl
  | succ d ih =>
    intro j k hj
    refine it_nxt (r' := ([((j + 1 : Nat) : Int)], [], [bl (vl l (i + 1)) (7 * i + (j + 1))])) ?_ rfl (ih (j + 1) k (by omega))
    have hbit : ((l.getD i 0).toNat % 128).testBit j = (vl l (i + 1)).testBit (7 * i + j) := by
      rw [vl_testBit, if_neg (by omega)]
      congr 1
      omega
    have eb : (arI .rem .u8 (arI .shr .u8 (((dl l).getD (i : Int).toNat (.i 0)).cell 0).int (IntKind.u64.wrap (j : Int))) 2 == 1) = (vl l (i + 1)).testBit (7 * i + j) := by
      rw [Int.toNat_natCast, ix_dl, wu (by omega) (by omega), read_bit hx.1 j (by omega), hbit]
    have hin : (decide ((i : Int) ≥ 0) && decide ((i : Int) < (((dl l).length : Nat) : Int))) = true := by rw [dl_len]; simp; omega
    unfold l43_1
    refine d_itT (lt_t (by show (j : Int) < 7; omega)) (d_rq hin (d_rq hin (d_rq (decide_eq_true (show (0 : Int) ≤ IntKind.u64.wrap (j : Int) by rw [wu (by omega) (by omega)]; omega)) ?_)))
    refine d_li _ rfl (d_lst [[.b (arI .rem .u8 (arI .shr .u8 (((dl l).getD (i : Int).toNat (.i 0)).cell 0).int (IntKind.u64.wrap (j : Int))) 2 == 1)]] rfl ?_)
    rw [eb]
    refine d_rq ?_ (d_lst [bl (vl l (i + 1)) (7 * i + j) ++ [.b ((vl l (i + 1)).testBit (7 * i + j))]] rfl ?_)
    · refine an_t (decide_eq_true ?_) rfl
      show (((bl (vl l (i + 1)) (7 * i + j)).length : Nat) : Int) ≤ 17592186044416
      rw [bl_len]; omega
    · rw [bl_succ]
      show some (Out.nxt ([arI .add .i64 (j : Int) 1], [], [bl (vl l (i + 1)) (7 * i + j + 1)])) = _
      rw [up1 j (by omega)]
      rfl
theorem q_read {l : List Int} (hb : Bytes l) {bits : Nat} (h0 : 1 ≤ bits) (h1 : bits ≤ 64) (hl : l.length < 9223372036854775807) : F43 [(bits : Int)] [] [dl l] = some (readO l bits) := by
  have hm : mst bits ≤ 10 := by unfold mst; omega
  have hM := q_rmost h1
  have outer : ∀ (d i k : Nat), i + d = mst bits → i ≤ l.length → (∀ j, j < i → 128 ≤ l.getD j 0) → ∃ r, iterT 3 0 2 (fun r => l43_3.den (Tab.fn a43) ([(bits : Int)] ++ r.1) ([false] ++ r.2.1) ([dl l] ++ r.2.2)) (k + (d + 1)) ([0, 0, (i : Int)], [], [[], bl (vl l i) (7 * i)]) = some r ∧
      (r = .ret (readO l bits) ∨ (readO l bits = ([0, 2], [], [[]]) ∧ ∃ x y, r = .brk 2 ([0, 0, x], [], [[], y]))) := by
    intro d
    induction d with
    | zero =>
      intro i k hi hil hj
      have he := ends_ge hil hj
      refine ⟨_, it_brk (t := 2) (r' := ([0, 0, (i : Int)], [], [[], bl (vl l i) (7 * i)])) ?_, .inr ⟨?_, _, _, rfl⟩⟩
      · unfold l43_3
        refine d_callx [(bits : Int)] [] [] _ e43_45 rfl rfl rfl hM rfl (d_itF (lt_f ?_) rfl)
        show ((mst bits : Nat) : Int) ≤ (i : Int)
        omega
      · unfold readO
        rw [if_neg (by omega), if_pos (by omega)]
    | succ d ih =>
      intro i k hi hil hj
      by_cases hlen : i = l.length
      · have he := ends_ge hil hj
        have he2 := ends_le l
        refine ⟨_, it_ret (r' := readO l bits) ?_, .inl rfl⟩
        unfold l43_3
        refine d_callx [(bits : Int)] [] [] _ e43_45 rfl rfl rfl hM rfl (d_itT (lt_t ?_) (d_itT (decide_eq_true ?_) ?_))
        · show (i : Int) < ((mst bits : Nat) : Int); omega
        · show (((dl l).length : Nat) : Int) ≤ (i : Int); rw [dl_len]; omega
        · unfold readO
          rw [if_neg (by omega), if_neg (by omega)]
          rfl
      · have hx := hb.at i
        obtain ⟨k2, hk2⟩ := fuel_eq (7 + 1) (by decide)
        have hin := l_read hb (bits := bits) (i := i) (by omega) (by omega) hl (x1 := 0) (x2 := 0) (m := ((mst bits : Nat) : Int)) (y1 := []) (y2 := bl (vl l i) (7 * i)) 7 0 k2 (by omega)
        rw [← hk2, show 7 * i + 0 = 7 * i from rfl, bl_vl] at hin
        have hin2 : (decide ((i : Int) ≥ 0) && decide ((i : Int) < (((dl l).length : Nat) : Int))) = true := by rw [dl_len]; simp; omega
        by_cases hlt : l.getD i 0 < 128
        · have he := ends_eq (by omega) hj hlt
          refine ⟨_, it_ret (r' := readO l bits) ?_, .inl rfl⟩
          unfold l43_3
          refine d_callx [(bits : Int)] [] [] _ e43_45 rfl rfl rfl hM rfl (d_itT (lt_t ?_) (d_itF (decide_eq_false ?_) ?_))
          · show (i : Int) < ((mst bits : Nat) : Int); omega
          · show ¬ (((dl l).length : Nat) : Int) ≤ (i : Int); rw [dl_len]; omega
          refine d_lp _ hin rfl (d_rq rfl (d_rq hin2 (d_rq hin2 (d_itT (lt_t ?_) (d_rt ?_)))))
          · show (((dl l).getD (i : Int).toNat (.i 0)).cell 0).int < 128
            rw [Int.toNat_natCast, ix_dl]; exact hlt
          · unfold readO
            rw [he, if_pos (by omega)]
            show some (Out.ret ([arI .add .i64 (i : Int) 1, 0], [], [bl (vl l (i + 1)) (7 * i + 7)])) = _
            rw [up1 i (by omega)]
            rfl
        · obtain ⟨r, hr, ho⟩ := ih (i + 1) k (by omega) (by omega) (fun j hj2 => by
            by_cases e : j = i
            · subst e; omega
            · exact hj j (by omega))
          refine ⟨r, it_nxt (r' := ([0, 0, ((i + 1 : Nat) : Int)], [], [[], bl (vl l (i + 1)) (7 * (i + 1))])) ?_ rfl hr, ho⟩
          unfold l43_3
          refine d_callx [(bits : Int)] [] [] _ e43_45 rfl rfl rfl hM rfl (d_itT (lt_t ?_) (d_itF (decide_eq_false ?_) ?_))
          · show (i : Int) < ((mst bits : Nat) : Int); omega
          · show ¬ (((dl l).length : Nat) : Int) ≤ (i : Int); rw [dl_len]; omega
          refine d_lp _ hin rfl (d_rq rfl (d_rq hin2 (d_rq hin2 (d_itF (lt_f ?_) ?_))))
          · show 128 ≤ (((dl l).getD (i : Int).toNat (.i 0)).cell 0).int
            rw [Int.toNat_natCast, ix_dl]; omega
          · show some (Out.nxt ([0, 0, arI .add .i64 (i : Int) 1], [], [[], bl (vl l (i + 1)) (7 * i + 7)])) = _
            rw [up1 i (by omega)]
            rfl
  refine of_ret ?_
  unfold t43
  refine d_lb false ?_ (d_itF rfl ?_)
  · show (decide ((bits : Int) < 1) || decide ((bits : Int) > 64)) = false
    simp; omega
  obtain ⟨k, hk⟩ := fuel_eq (mst bits + 1) (by omega)
  obtain ⟨r, hr, ho⟩ := outer (mst bits) 0 k (by omega) (by omega) (fun j hj => by omega)
  rw [← hk] at hr
  rcases ho with rfl | ⟨ho, x, y, rfl⟩
  · exact d_lp_ret hr
  · refine d_lp _ hr rfl (d_rq rfl ?_)
    rw [ho]
    rfl
theorem q_rU {l : List Int} (hb : Bytes l) {bits : Nat} (h0 : 1 ≤ bits) (h1 : bits ≤ 64) (hl : l.length < 9223372036854775807) : F32 [(bits : Int)] [] [dl l] = some ((match uP bits l with | .err e => [0, 0, e] | .ok a n => [(a : Int), (n : Int), 0]), [], []) := by
  have hm : mst bits ≤ 10 := by unfold mst; omega
  have hR := q_read hb h0 h1 hl
  have loop : ∀ (V n : Nat) (s e : Int), n ≤ 70 → V < 2 ^ n → ∀ (d i k : Nat), i + d = n → V % 2 ^ i < 2 ^ bits → iterT 5 0 0 (fun r => l32_1.den (Tab.fn a32) ([(bits : Int), s, e] ++ r.1) ([] ++ r.2.1) ([dl l, bl V n] ++ r.2.2)) (k + (d + 1)) ([0, 0, 0, ((V % 2 ^ i : Nat) : Int), (i : Int)], [], []) =
      some (if V < 2 ^ bits then .brk 2 ([0, 0, 0, (V : Int), (n : Int)], [], []) else .ret ([0, 0, 2], [], [])) := by
    intro V n s e hn hV d
    induction d with
    | zero =>
      intro i k hi hb
      obtain rfl : i = n := by omega
      rw [Nat.mod_eq_of_lt hV] at hb ⊢
      rw [if_pos hb]
      refine it_brk ?_
      unfold l32_1
      exact d_itF (lt_f (by show (((bl V i).length : Nat) : Int) ≤ (i : Int); rw [bl_len]; omega)) rfl
    | succ d ih =>
      intro i k hi hb
      have hlen : (i : Int) < (((bl V n).length : Nat) : Int) := by rw [bl_len]; omega
      have hbx : (((bl V n).getD (i : Int).toNat (.i 0)).cell 0).bool = V.testBit i := by
        rw [Int.toNat_natCast]; exact bits_at V (by omega)
      have hmod : V % 2 ^ (i + 1) = V % 2 ^ i + 2 ^ i * (V / 2 ^ i % 2) := by rw [Nat.pow_succ]; exact Nat.mod_mul
      have htb : V.testBit i = decide (V / 2 ^ i % 2 = 1) := Nat.testBit_eq_decide_div_mod_eq
      by_cases ht : V.testBit i = true
      · have hone : V / 2 ^ i % 2 = 1 := by rw [ht] at htb; exact of_decide_eq_true htb.symm
        rw [hone, Nat.mul_one] at hmod
        by_cases hib : bits ≤ i
        · have hbig : ¬ V < 2 ^ bits := fun h => by
            have := Nat.testBit_lt_two_pow (Nat.lt_of_lt_of_le h (pow_le hib))
            rw [this] at ht; cases ht
          rw [if_neg hbig]
          refine it_ret ?_
          unfold l32_1
          refine d_itT (lt_t hlen) (d_rq (decide_eq_true (show (0 : Int) ≤ (i : Int) by omega)) (d_itF ?_ (d_itT (decide_eq_true (show (bits : Int) ≤ (i : Int) by omega)) rfl)))
          show (!(((bl V n).getD (i : Int).toNat (.i 0)).cell 0).bool) = false
          rw [hbx, ht]; rfl
        · have h64 : 2 ^ i < 2 ^ 64 := Nat.pow_lt_pow_right (by decide) (by omega)
          have hlt : V % 2 ^ (i + 1) < 2 ^ bits := Nat.lt_of_lt_of_le (mod_lt_pow _ _) (pow_le (by omega))
          have hb64 : 2 ^ bits ≤ 2 ^ 64 := pow_le h1
          refine it_nxt (r' := ([0, 0, 0, ((V % 2 ^ (i + 1) : Nat) : Int), ((i + 1 : Nat) : Int)], [], [])) ?_ rfl (ih (i + 1) k (by omega) hlt)
          have es : arI .add .u64 ((V % 2 ^ i : Nat) : Int) (arI .shl .u64 1 (IntKind.u64.wrap (i : Int))) = ((V % 2 ^ (i + 1) : Nat) : Int) := by
            rw [wu (by omega) (by omega), show (1 : Int) = ((1 : Nat) : Int) from rfl, shl_nat 1 i (by omega), Nat.one_mul, Nat.mod_eq_of_lt h64, hmod]
            show IntKind.u64.wrap (((V % 2 ^ i : Nat) : Int) + ((2 ^ i : Nat) : Int)) = _
            rw [hmod] at hlt
            rw [wu (by omega) (by omega)]; omega
          unfold l32_1
          refine d_itT (lt_t hlen) (d_rq (decide_eq_true (show (0 : Int) ≤ (i : Int) by omega)) (d_itF ?_ (d_itF (decide_eq_false (show ¬ (bits : Int) ≤ (i : Int) by omega)) (d_rq (decide_eq_true (show (0 : Int) ≤ IntKind.u64.wrap (i : Int) by rw [wu (by omega) (by omega)]; omega)) ?_))))
          · show (!(((bl V n).getD (i : Int).toNat (.i 0)).cell 0).bool) = false
            rw [hbx, ht]; rfl
          · show some (Out.nxt ([0, 0, 0, arI .add .u64 ((V % 2 ^ i : Nat) : Int) (arI .shl .u64 1 (IntKind.u64.wrap (i : Int))), arI .add .i64 (i : Int) 1], [], [])) = _
            rw [es, up1 i (by omega)]
      · have hzero : V / 2 ^ i % 2 = 0 := by
          have : ¬ V / 2 ^ i % 2 = 1 := fun h => ht (by rw [htb, decide_eq_true h])
          omega
        simp only [hzero, Nat.mul_zero, Nat.add_zero] at hmod
        refine it_nxt (r' := ([0, 0, 0, ((V % 2 ^ (i + 1) : Nat) : Int), ((i + 1 : Nat) : Int)], [], [])) ?_ rfl (ih (i + 1) k (by omega) (by rw [hmod]; exact hb))
        unfold l32_1
        refine d_itT (lt_t hlen) (d_rq (decide_eq_true (show (0 : Int) ≤ (i : Int) by omega)) (d_itT ?_ ?_))
        · show (!(((bl V n).getD (i : Int).toNat (.i 0)).cell 0).bool) = true
          rw [hbx]; simpa using ht
        · show some (Out.nxt ([0, 0, 0, ((V % 2 ^ i : Nat) : Int), arI .add .i64 (i : Int) 1], [], [])) = _
          rw [up1 i (by omega), hmod]
  refine of_ret ?_
  unfold t32
  refine d_callx [(bits : Int)] [] [dl l] _ e32_43 rfl rfl rfl hR ?_ ?_
  · unfold readO; split
    · rfl
    · split <;> rfl
  unfold readO uP
  by_cases hc : ends l < l.length ∧ ends l < mst bits
  · rw [if_pos hc, if_pos hc]
    refine d_itF rfl ?_
    obtain ⟨k, hk⟩ := fuel_eq (7 * (ends l + 1) + 1) (by omega)
    have h := loop (vl l (ends l + 1)) (7 * (ends l + 1)) ((ends l + 1 : Nat) : Int) 0 (by omega) (vl_lt l _) (7 * (ends l + 1)) 0 k (by omega) (by rw [Nat.pow_zero, Nat.mod_one]; exact pow_pos _)
    rw [← hk, Nat.pow_zero, Nat.mod_one] at h
    by_cases hv : vl l (ends l + 1) < 2 ^ bits
    · rw [if_pos hv] at h ⊢
      exact d_lp _ h rfl (d_rq rfl rfl)
    · rw [if_neg hv] at h ⊢
      exact d_lp_ret h
  · rw [if_neg hc, if_neg hc]
    by_cases h2 : mst bits ≤ ends l
    · rw [if_pos h2, if_pos h2]; exact d_itT rfl rfl
    · rw [if_neg h2, if_neg h2]; exact d_itT rfl rfl
theorem wrap_mul (q : Int) : arI .mul .i64 q 2 = wrap64 (q * 2) := wrap_w64 _
theorem wrap_add (q : Int) : arI .add .i64 q 1 = wrap64 (q + 1) := wrap_w64 _
theorem rS_tail {l : List Int} (V n : Nat) (h0 : 1 ≤ n) (hn : n ≤ 70) (hV : V < 2 ^ n) {x0 x1 x2 x3 x4 x5 x6 x7 : Int} : ∀ (d k : Nat) (i : Int), i + 1 = (d : Int) → d ≤ 64 →
    iterT 2 0 0 (fun r => l34_1.den (Tab.fn a34) ([x0, x1, x2, x3, x4, x5, x6, x7] ++ r.1) ([] ++ r.2.1) ([dl l, bl V n] ++ r.2.2)) (k + (d + 1)) ([wrap64 ((full V n / 2 ^ d : Nat) : Int), i], [], []) = some (.brk 4 ([wrap64 ((full V n : Nat) : Int), -1], [], [])) := by
  have hlen : (((bl V n).length : Nat) : Int) = (n : Int) := by rw [bl_len]
  intro d
  induction d with
  | zero =>
    intro k i hi _
    obtain rfl : i = -1 := by omega
    rw [Nat.pow_zero, Nat.div_one]
    refine it_brk ?_
    unfold l34_1
    refine d_itF (by rfl) ?_
    simp only [T.den, vals, E.I, List.map_cons, List.map_nil, List.cons_append, List.nil_append, List.getD_cons_succ, List.getD_cons_zero]
  | succ d ih =>
    intro k i hi hd
    obtain rfl : i = (d : Int) := by omega
    have step := fun (b : Bool) (hb : (full V n).testBit d = b) => step_num (full V n / 2 ^ (d + 1)) (full V n / 2 ^ d) b (half_lt (full_lt hV)) ((halves (full V n) d).trans (by rw [hb]))
    have hfb := full_bit hV h0 (show d < 64 by omega)
    have e1 : arI .sub .i64 (((bl V n).length : Nat) : Int) 1 = ((n - 1 : Nat) : Int) := by rw [hlen, subI (by omega) (by omega)]; omega
    have e2 : arI .sub .i64 (d : Int) 1 = (d : Int) - 1 := subI (by omega) (by omega)
    have hin : (decide (arI .sub .i64 (((bl V n).length : Nat) : Int) 1 ≥ 0) && decide (arI .sub .i64 (((bl V n).length : Nat) : Int) 1 < (((bl V n).length : Nat) : Int))) = true := by rw [e1, hlen]; simp; omega
    refine it_nxt (r' := ([wrap64 ((full V n / 2 ^ d : Nat) : Int), (d : Int) - 1], [], [])) ?_ rfl (ih k ((d : Int) - 1) (by omega) (by omega))
    unfold l34_1
    refine d_itT (decide_eq_true (show (0 : Int) ≤ (d : Int) by omega)) (d_rq hin (d_rq hin ?_))
    have fin1 : (full V n).testBit d = true → (some (Out.nxt ([arI .add .i64 (arI .mul .i64 (wrap64 ((full V n / 2 ^ (d + 1) : Nat) : Int)) 2) 1, arI .sub .i64 (d : Int) 1], [], [])) : Option Out) = some (Out.nxt ([wrap64 ((full V n / 2 ^ d : Nat) : Int), (d : Int) - 1], [], [])) := fun hb => by
      have := step true hb
      rw [if_pos rfl] at this
      rw [e2, wrap_mul, wrap_add, this]
    have fin0 : (full V n).testBit d = false → (some (Out.nxt ([arI .mul .i64 (wrap64 ((full V n / 2 ^ (d + 1) : Nat) : Int)) 2, arI .sub .i64 (d : Int) 1], [], [])) : Option Out) = some (Out.nxt ([wrap64 ((full V n / 2 ^ d : Nat) : Int), (d : Int) - 1], [], [])) := fun hb => by
      have := step false hb
      rw [if_neg (by decide)] at this
      rw [e2, wrap_mul, this]
    generalize wrap64 ((full V n / 2 ^ (d + 1) : Nat) : Int) = Q at *
    by_cases hdn : d < n
    · rw [if_pos hdn] at hfb
      refine d_itT (lt_t (show (d : Int) < (((bl V n).length : Nat) : Int) by rw [hlen]; omega)) ?_
      have eb : (((bl V n).getD (d : Int).toNat (.i 0)).cell 0).bool = V.testBit d := by rw [Int.toNat_natCast]; exact bits_at V hdn
      cases hvb : V.testBit d
      · refine d_itF (eb.trans hvb) ?_
        simp only [T.den, vals, E.I, List.map_cons, List.map_nil, List.cons_append, List.nil_append, List.getD_cons_succ, List.getD_cons_zero]
        exact fin0 (hfb.trans hvb)
      · refine d_itT (eb.trans hvb) ?_
        simp only [T.den, vals, E.I, List.map_cons, List.map_nil, List.cons_append, List.nil_append, List.getD_cons_succ, List.getD_cons_zero]
        exact fin1 (hfb.trans hvb)
    · rw [if_neg hdn] at hfb
      refine d_itF (lt_f (show (((bl V n).length : Nat) : Int) ≤ (d : Int) by rw [hlen]; omega)) ?_
      have eb : (((bl V n).getD (arI .sub .i64 (((bl V n).length : Nat) : Int) 1).toNat (.i 0)).cell 0).bool = V.testBit (n - 1) := by rw [e1, Int.toNat_natCast]; exact bits_at V (by omega)
      cases hvb : V.testBit (n - 1)
      · refine d_itF (eb.trans hvb) ?_
        simp only [T.den, vals, E.I, List.map_cons, List.map_nil, List.cons_append, List.nil_append, List.getD_cons_succ, List.getD_cons_zero]
        exact fin0 (hfb.trans hvb)
      · refine d_itT (eb.trans hvb) ?_
        simp only [T.den, vals, E.I, List.map_cons, List.map_nil, List.cons_append, List.nil_append, List.getD_cons_succ, List.getD_cons_zero]
        exact fin1 (hfb.trans hvb)
open Classical in
theorem rS_loop {l : List Int} {bits : Nat} (hb0 : 1 ≤ bits) (hb1 : bits ≤ 64) (V n : Nat) (hn : n ≤ 70) (s e : Int) : ∀ (d i k : Nat), bits ≤ i → (n ≤ i ∨ i + d = n) → (∀ j, bits ≤ j → j < i → j < n → V.testBit j = V.testBit (bits - 1)) →
    ∃ r, iterT 4 0 0 (fun r => l34_3.den (Tab.fn a34) ([(bits : Int), s, e] ++ r.1) ([] ++ r.2.1) ([dl l, bl V n] ++ r.2.2)) (k + (d + 1)) ([0, 0, 0, (i : Int)], [], []) = some r ∧
      if ∀ j, bits ≤ j → j < n → V.testBit j = V.testBit (bits - 1) then ∃ x, r = .brk 2 ([0, 0, 0, x], [], []) else r = .ret ([0, 0, 2], [], []) := by
  have hlen : (((bl V n).length : Nat) : Int) = (n : Int) := by rw [bl_len]
  have last : ∀ i k : Nat, n ≤ i → (∀ j, bits ≤ j → j < n → V.testBit j = V.testBit (bits - 1)) → ∃ r, iterT 4 0 0 (fun r => l34_3.den (Tab.fn a34) ([(bits : Int), s, e] ++ r.1) ([] ++ r.2.1) ([dl l, bl V n] ++ r.2.2)) (k + 1) ([0, 0, 0, (i : Int)], [], []) = some r ∧
      if ∀ j, bits ≤ j → j < n → V.testBit j = V.testBit (bits - 1) then ∃ x, r = .brk 2 ([0, 0, 0, x], [], []) else r = .ret ([0, 0, 2], [], []) := fun i k hi hall => by
    refine ⟨_, it_brk (t := 2) (r' := ([0, 0, 0, (i : Int)], [], [])) ?_, by rw [if_pos hall]; exact ⟨_, rfl⟩⟩
    unfold l34_3
    exact d_itF (lt_f (show (((bl V n).length : Nat) : Int) ≤ (i : Int) by rw [hlen]; omega)) rfl
  intro d
  induction d with
  | zero =>
    intro i k hi hin hj
    exact last i k (by omega) (fun j h1 h2 => hj j h1 (by omega) h2)
  | succ d ih =>
    intro i k hi hin hj
    by_cases hni : n ≤ i
    · exact last i (k + (d + 1)) hni (fun j h1 h2 => hj j h1 (by omega) h2)
    · have e1 : arI .sub .i64 (bits : Int) 1 = ((bits - 1 : Nat) : Int) := by rw [subI (by omega) (by omega)]; omega
      have hin' : (decide (arI .sub .i64 (bits : Int) 1 ≥ 0) && decide (arI .sub .i64 (bits : Int) 1 < (((bl V n).length : Nat) : Int))) = true := by rw [e1, hlen]; simp; omega
      have eb : (!((((bl V n).getD (i : Int).toNat (.i 0)).cell 0).bool == (((bl V n).getD (arI .sub .i64 (bits : Int) 1).toNat (.i 0)).cell 0).bool)) = !(V.testBit i == V.testBit (bits - 1)) := by
        rw [e1, Int.toNat_natCast, Int.toNat_natCast, show (((bl V n).getD i (.i 0)).cell 0).bool = V.testBit i from bits_at V (by omega), show (((bl V n).getD (bits - 1) (.i 0)).cell 0).bool = V.testBit (bits - 1) from bits_at V (by omega)]
      by_cases hb : V.testBit i = V.testBit (bits - 1)
      · obtain ⟨r, hr, ho⟩ := ih (i + 1) k (by omega) (by omega) (fun j h1 h2 h3 => by
          by_cases e : j = i
          · subst e; exact hb
          · exact hj j h1 (by omega) h3)
        refine ⟨r, it_nxt (r' := ([0, 0, 0, ((i + 1 : Nat) : Int)], [], [])) ?_ rfl hr, ho⟩
        unfold l34_3
        refine d_itT (lt_t (show (i : Int) < (((bl V n).length : Nat) : Int) by rw [hlen]; omega)) (d_rq (decide_eq_true (show (0 : Int) ≤ (i : Int) by omega)) (d_rq hin' (d_rq hin' (d_lb false ?_ (d_itF rfl ?_)))))
        · refine Eq.trans eb ?_
          rw [hb]; simp
        · show some (Out.nxt ([0, 0, 0, arI .add .i64 (i : Int) 1], [], [])) = _
          rw [up1 i (by omega)]
      · refine ⟨_, it_ret (r' := ([0, 0, 2], [], [])) ?_, by rw [if_neg (fun h => hb (h i hi (by omega)))]⟩
        unfold l34_3
        refine d_itT (lt_t (show (i : Int) < (((bl V n).length : Nat) : Int) by rw [hlen]; omega)) (d_rq (decide_eq_true (show (0 : Int) ≤ (i : Int) by omega)) (d_rq hin' (d_rq hin' (d_lb true ?_ (d_itT rfl rfl)))))
        refine Eq.trans eb ?_
        simpa using hb
theorem q_rS {l : List Int} (hb : Bytes l) {bits : Nat} (h0 : 1 ≤ bits) (h1 : bits ≤ 64) (hl : l.length < 9223372036854775807) : F34 [(bits : Int)] [] [dl l] = some ((match sP bits l with | .err e => [0, 0, e] | .ok a n => [a, (n : Int), 0]), [], []) := by
  have hm : mst bits ≤ 10 := by unfold mst; omega
  have hR := q_read hb h0 h1 hl
  refine of_ret ?_
  unfold t34
  refine d_callx [(bits : Int)] [] [dl l] _ e34_43 rfl rfl rfl hR ?_ ?_
  · unfold readO; split
    · rfl
    · split <;> rfl
  unfold readO sP
  by_cases hc : ends l < l.length ∧ ends l < mst bits
  · rw [if_pos hc, if_pos hc]
    refine d_itF rfl ?_
    generalize hs : ends l = s at *
    have hV := vl_lt l (s + 1)
    have hbm : 7 * s < bits := by unfold mst at hc; omega
    have hpp : 2 ^ (7 * s + 7) = 2 * 2 ^ (7 * s + 6) := by rw [show 7 * s + 7 = (7 * s + 6) + 1 by omega, Nat.pow_succ]; omega
    obtain ⟨k, hk⟩ := fuel_eq (7 * (s + 1) - bits + 1) (by omega)
    obtain ⟨r, hr, ho⟩ := rS_loop (l := l) h0 h1 (vl l (s + 1)) (7 * (s + 1)) (by omega) ((s + 1 : Nat) : Int) 0 (7 * (s + 1) - bits) bits k (by omega) (by omega) (fun j h2 h3 => by omega)
    rw [← hk] at hr
    have hiff : (∀ j, bits ≤ j → j < 7 * (s + 1) → (vl l (s + 1)).testBit j = (vl l (s + 1)).testBit (bits - 1)) ↔ (-((2 ^ (bits - 1) : Nat) : Int) ≤ sv l s ∧ sv l s < ((2 ^ (bits - 1) : Nat) : Int)) := by
      rw [show 7 * (s + 1) = 7 * s + 7 by omega] at hV ⊢
      by_cases hsm : bits - 1 < 7 * s + 7
      · have hp6 : 2 ^ (bits - 1) ≤ 2 ^ (7 * s + 6) := pow_le (by omega)
        have := same_bits hV hsm
        rw [show bits - 1 + 1 = bits by omega] at this
        rw [this]
        unfold sv
        split <;> omega
      · have hp7 : 2 ^ (7 * s + 6) ≤ 2 ^ (bits - 1) := pow_le (by omega)
        constructor
        · intro _
          unfold sv
          split <;> omega
        · intro _ j h2 h3; omega
    by_cases hr2 : -((2 ^ (bits - 1) : Nat) : Int) ≤ sv l s ∧ sv l s < ((2 ^ (bits - 1) : Nat) : Int)
    · rw [if_pos (hiff.2 hr2)] at ho
      obtain ⟨x, rfl⟩ := ho
      rw [if_pos hr2]
      refine d_lp _ hr rfl (d_rq rfl ?_)
      obtain ⟨k2, hk2⟩ := fuel_eq (64 + 1) (by omega)
      have ht := rS_tail (l := l) (vl l (s + 1)) (7 * (s + 1)) (by omega) (by omega) hV (x0 := (bits : Int)) (x1 := ((s + 1 : Nat) : Int)) (x2 := 0) (x3 := 2) (x4 := 0) (x5 := 0) (x6 := 0) (x7 := x) 64 k2 63 (by omega) (by omega)
      rw [← hk2, Nat.div_eq_of_lt (full_lt hV), wrap64_id ((0 : Nat) : Int) (by decide) (by decide)] at ht
      refine d_lp _ ht rfl (d_rq rfl ?_)
      rw [show 7 * (s + 1) = 7 * s + 7 by omega]
      rw [sv_full l s (by omega) (fun h => by
        subst h
        have : bits = 64 := by omega
        subst this
        exact hr2)]
      rfl
    · rw [if_neg (fun h => hr2 (hiff.1 h))] at ho
      subst ho
      rw [if_neg hr2]
      exact d_lp_ret hr
  · rw [if_neg hc, if_neg hc]
    by_cases h2 : mst bits ≤ ends l
    · rw [if_pos h2, if_pos h2]; exact d_itT rfl rfl
    · rw [if_neg h2, if_neg h2]; exact d_itT rfl rfl
/-- The error of a byte as a type. -/
def valE (x : Int) : Int := if x = 127 ∨ x = 126 then 0 else if x = 125 ∨ x = 124 ∨ x = 123 ∨ x = 112 ∨ x = 111 then 3 else 2
theorem valP_cons (x : Int) (r : List Int) : valP (x :: r) = if valE x = 0 then .ok x 1 else .err (valE x) := by
  unfold valP valE Rd.bind
  simp only [byteP]
  by_cases h1 : x = 127 ∨ x = 126
  · simp only [if_pos h1]; rfl
  · by_cases h2 : x = 125 ∨ x = 124 ∨ x = 123 ∨ x = 112 ∨ x = 111
    · simp only [if_neg h1, if_pos h2]; rfl
    · simp only [if_neg h1, if_neg h2]; rfl
theorem valP_nil : valP [] = .err 1 := rfl
theorem drop_cons {l : List Int} {p : Nat} (h : p < l.length) : l.drop p = l.getD p 0 :: l.drop (p + 1) := by
  rw [List.drop_eq_getElem_cons h, List.getD_eq_getElem?_getD, List.getElem?_eq_getElem h]; rfl
def limP : Rd (Int × Bool × Int) := byteP.bind fun x => if 1 < x then fun _ => .err 2 else (uP 32).bind fun a => if x = 0 then fun _ => .ok ((a : Int), false, 0) 0 else (uP 32).bind fun b => fun _ => .ok ((a : Int), true, (b : Int)) 0
theorem uP_lt {bits : Nat} {l : List Int} {a n : Nat} (h : uP bits l = .ok a n) : a < 2 ^ bits := by
  unfold uP at h
  split at h
  · split at h
    · cases h; assumption
    · cases h
  · split at h <;> cases h
def limO (l : List Int) : Vx.R := match limP l with | .err e => ([0, 0, 0, e], [false], []) | .ok (a, c, b) n => ([a, b, (n : Int), 0], [c], [])
theorem q_limits {l : List Int} (hb : Bytes l) (hl : l.length < 4611686018427387904) : F12 [] [] [dl l] = some (limO l) := by
  refine of_ret ?_
  unfold t12 limO limP
  rw [rd_bind]
  cases l with
  | nil => exact d_itT rfl rfl
  | cons x r =>
    have e0 : (((dl (x :: r)).getD (0 : Int).toNat (.i 0)).cell 0).int = x := rfl
    have el : (((dl (x :: r)).length : Nat) : Int) = (r.length : Int) + 1 := by simp [dl]
    have hr : r.length < 4611686018427387904 := by simp at hl; omega
    have hbr : Bytes r := hb.drop 1
    have hx := hb x List.mem_cons_self
    refine d_itF (eq_f (by rw [show (((E.ln 0)).I ([] : List Int) ([] : List Bool) [dl (x :: r)]) = (((dl (x :: r)).length : Nat) : Int) from rfl, el]; show (r.length : Int) + 1 ≠ 0; omega)) ?_
    refine d_rq (by show decide ((0 : Int) < (((dl (x :: r)).length : Nat) : Int)) = true; rw [el, decide_eq_true_eq]; omega) ?_
    simp only [show byteP (x :: r) = Res.ok x 1 from rfl, List.drop_succ_cons, List.drop_zero]
    by_cases h1 : 1 < x
    · refine d_itT (decide_eq_true (show (1 : Int) < x from h1)) ?_
      simp only [if_pos h1]; rfl
    refine d_itF (decide_eq_false (show ¬ (1 : Int) < x from h1)) ?_
    simp only [if_neg h1]
    refine d_rq (by show (decide ((1 : Int) ≤ (((dl (x :: r)).length : Nat) : Int)) && decide ((((dl (x :: r)).length : Nat) : Int) ≤ (((dl (x :: r)).length : Nat) : Int))) = true; rw [el]; simp <;> omega) ?_
    refine d_lst [dl r] ?_ ?_
    · have := cut_dl (x :: r) 1
      rw [← dl_len] at this
      exact congrArg (fun y => [y]) this
    have hu := q_U hbr (bits := 32) (by decide) (by decide) (by omega)
    have hlt := fun a n => uP_lt (bits := 32) (l := r) (a := a) (n := n)
    have hnz := (uP_stbl 32).nz r
    have hle := (uP_stbl 32).le r
    rw [rd_bind]
    generalize uP 32 r = V at *
    cases V with
    | err e =>
      have hne : (e != 0) = true := bne_iff_ne.2 (hnz e rfl)
      refine d_callx [32] [] [dl r] ([0, 0, e], [], []) e12_31 rfl rfl rfl hu rfl ?_
      refine d_rq ?_ (d_itF ?_ ?_)
      · show ((e != 0) || decide ((0 : Int) < (((dl (x :: r)).length : Nat) : Int))) = true
        rw [hne]; rfl
      · show (!(e != 0)) = false
        rw [hne]; rfl
      · exact d_itT hne rfl
    | ok a n =>
      have ha := hlt a n rfl
      have hn := hle a n rfl
      refine d_callx [32] [] [dl r] ([(a : Int), (n : Int), 0], [], []) e12_31 rfl rfl rfl hu rfl ?_
      refine d_rq ?_ (d_itT rfl ?_)
      · show (false || decide ((0 : Int) < (((dl (x :: r)).length : Nat) : Int))) = true
        rw [el]; simp <;> omega
      have ew : IntKind.i64.wrap (a : Int) = (a : Int) := wi (by omega) (by omega)
      have e1 : arI .add .i64 1 (n : Int) = ((1 + n : Nat) : Int) := by rw [addI (by omega) (by omega)]; omega
      by_cases h0 : x = 0
      · refine d_itT (eq_t h0) (d_itF rfl ?_)
        show some (Out.ret ([IntKind.i64.wrap (a : Int), 0, arI .add .i64 1 (n : Int), 0], [false], [])) = _
        rw [ew, e1]
        simp only [if_pos h0]
        rfl
      · refine d_itF (eq_f h0) ?_
        refine d_rq (by show (decide ((0 : Int) ≤ arI .add .i64 1 (n : Int)) && (decide (arI .add .i64 1 (n : Int) ≤ (((dl (x :: r)).length : Nat) : Int)) && decide ((((dl (x :: r)).length : Nat) : Int) ≤ (((dl (x :: r)).length : Nat) : Int)))) = true; rw [el, e1]; simp; omega) ?_
        refine d_lst [dl (r.drop n)] ?_ ?_
        · have := cut_dl (x :: r) (1 + n)
          rw [← dl_len, show (x :: r).drop (1 + n) = r.drop n by rw [Nat.add_comm]; rfl, ← e1] at this
          exact congrArg (fun y => [y]) this
        simp only [if_neg h0]
        rw [rd_bind]
        have hu2 := q_U (hbr.drop n) (bits := 32) (by decide) (by decide) (by rw [List.length_drop]; omega)
        have hlt2 := fun a m => uP_lt (bits := 32) (l := r.drop n) (a := a) (n := m)
        have hnz2 := (uP_stbl 32).nz (r.drop n)
        have hle2 := (uP_stbl 32).le (r.drop n)
        generalize uP 32 (r.drop n) = W at *
        cases W with
        | err e =>
          refine d_callx [32] [] [dl (r.drop n)] ([0, 0, e], [], []) e12_31 rfl rfl rfl hu2 rfl ?_
          exact d_itT (bne_iff_ne.2 (hnz2 e rfl)) rfl
        | ok b m =>
          have hb2 := hlt2 b m rfl
          have hm2 := hle2 b m rfl
          rw [List.length_drop] at hm2
          refine d_callx [32] [] [dl (r.drop n)] ([(b : Int), (m : Int), 0], [], []) e12_31 rfl rfl rfl hu2 rfl ?_
          refine d_itF rfl ?_
          show some (Out.ret ([IntKind.i64.wrap (a : Int), IntKind.i64.wrap (b : Int), arI .add .i64 (arI .add .i64 1 (n : Int)) (m : Int), 0], [true], [])) = _
          rw [ew, e1, wi (n := (b : Int)) (by omega) (by omega), addI (by omega) (by omega)]
          have : ((1 + n : Nat) : Int) + (m : Int) = ((1 + (n + (m + 0)) : Nat) : Int) := by omega
          rw [this]
def blockP : Rd Int := fun l => if l.getD 0 0 = 64 then .ok (-64) 1 else match valP l with | .ok v _ => .ok (v - 128) 1 | .err e => if e ≠ 2 then .err e else match sP 33 l with | .err e => .err e | .ok n k => if n < 0 then .err 2 else .ok n k
def blockO (l : List Int) : Vx.R := match blockP l with | .err e => ([0, 0, e], [], []) | .ok a n => ([a, (n : Int), 0], [], [])
theorem q_block {l : List Int} (hb : Bytes l) (hl : l.length < 4611686018427387904) : F14 [] [] [dl l] = some (blockO l) := by
  have hv := q_val hb
  have hs := q_S hb (bits := 33) (by decide) (by decide) (by omega)
  refine of_ret ?_
  unfold t14 blockO blockP
  have key : ∀ r : Vx.R, r = ((match (match valP l with | .ok v _ => .ok (v - 128) 1 | .err e => if e ≠ 2 then .err e else match sP 33 l with | .err e => .err e | .ok n k => if n < 0 then .err 2 else .ok n k : Res Int) with | .err e => ([0, 0, e], [], []) | .ok a n => ([a, (n : Int), 0], [], [])) : Vx.R) →
      (Vx.T.call 16 [] [] [(.v 0)] 3 0 0 (.ite (.cm .neq (.iv 2) (.n 2)) (.ite (.cm .neq (.iv 2) (.n 0)) (.ret [(.n 0), (.n 0), (.iv 2)] [] []) (.ret [(.ar .sub .i64 (.iv 0) (.n 128)), (.n 1), (.n 0)] [] [])) (.call 33 [(.n 33)] [] [(.v 0)] 3 0 0 (.ite (.cm .neq (.iv 5) (.n 0)) (.ret [(.n 0), (.n 0), (.iv 5)] [] []) (.ite (.cm .lss (.iv 3) (.n 0)) (.ret [(.n 0), (.n 0), (.n 2)] [] []) (.ret [(.iv 3), (.iv 4), (.n 0)] [] [])))))).den (Tab.fn a14) [] [] [dl l] = some (.ret r) := by
    rintro r rfl
    have hnz := valP_stbl.nz l
    have hin : ∀ v n, valP l = .ok v n → 0 ≤ v ∧ v < 256 := fun v n h => by
      cases l with
      | nil => cases h
      | cons x q =>
        rw [valP_cons] at h
        split at h
        · cases h; exact hb _ List.mem_cons_self
        · cases h
    generalize valP l = V at *
    cases V with
    | err e =>
      refine d_callx [] [] [dl l] ([0, 0, e], [], []) e14_16 rfl rfl rfl hv rfl ?_
      by_cases h2 : e = 2
      · subst h2
        refine d_itF rfl ?_
        simp only [ne_eq, not_true_eq_false, if_false]
        have hsz := (sP_stbl 33).nz l
        generalize sP 33 l = W at *
        cases W with
        | err e =>
          refine d_callx [33] [] [dl l] ([0, 0, e], [], []) e14_33 rfl rfl rfl hs rfl ?_
          exact d_itT (bne_iff_ne.2 (hsz e rfl)) rfl
        | ok a n =>
          refine d_callx [33] [] [dl l] ([a, (n : Int), 0], [], []) e14_33 rfl rfl rfl hs rfl ?_
          refine d_itF rfl ?_
          by_cases h0 : a < 0
          · refine d_itT (lt_t h0) ?_
            simp only [if_pos h0]; rfl
          · refine d_itF (decide_eq_false h0) ?_
            simp only [if_neg h0]; rfl
      · refine d_itT (bne_iff_ne.2 h2) (d_itT (bne_iff_ne.2 (hnz e rfl)) ?_)
        simp only [ne_eq, h2, not_false_eq_true, if_true]
        rfl
    | ok v n =>
      have hv' := hin v n rfl
      refine d_callx [] [] [dl l] ([v, (n : Int), 0], [], []) e14_16 rfl rfl rfl hv rfl ?_
      refine d_itT rfl (d_itF rfl ?_)
      show some (Out.ret ([arI .sub .i64 v 128, 1, 0], [], [])) = _
      rw [subI (by omega) (by omega)]
      rfl
  cases l with
  | nil =>
    refine d_rq rfl (d_itF rfl ?_)
    refine key _ ?_
    rfl
  | cons x r =>
    have el : (((dl (x :: r)).length : Nat) : Int) = (r.length : Int) + 1 := by simp [dl]
    refine d_rq ?_ (d_itT ?_ (d_rq ?_ ?_))
    · show (!(decide ((((dl (x :: r)).length : Nat) : Int) > 0)) || decide ((0 : Int) < (((dl (x :: r)).length : Nat) : Int))) = true
      rw [el]; simp <;> omega
    · show decide ((((dl (x :: r)).length : Nat) : Int) > 0) = true
      rw [el]; simp <;> omega
    · show decide ((0 : Int) < (((dl (x :: r)).length : Nat) : Int)) = true
      rw [el]; simp <;> omega
    by_cases h64 : x = 64
    · refine d_itT (eq_t h64) ?_
      rw [if_pos (show (x :: r).getD 0 0 = 64 from h64)]
      rfl
    · refine d_itF (eq_f h64) ?_
      rw [if_neg (show ¬ (x :: r).getD 0 0 = 64 from h64)]
      exact key _ rfl
theorem q_rval {x : Int} (h0 : 0 ≤ x) (h1 : x < 256) : F17 [x] [] [] = some ([if valE x = 0 then x else 0, valE x], [], []) := by
  refine of_ret ?_
  unfold t17
  by_cases h7 : x = 127
  · subst h7; rfl
  by_cases h6 : x = 126
  · subst h6; rfl
  have b1 := beq_eq_false_iff_ne.2 h7
  have b2 := beq_eq_false_iff_ne.2 h6
  refine d_lb false ?_ (d_itF rfl ?_)
  · show ((x == 127) || (x == 126)) = false
    rw [b1, b2]; rfl
  refine d_lb (x == 125 || x == 124) rfl (d_lb ((x == 125 || x == 124 || x == 123) || x == 112) rfl ?_)
  refine d_ite (fun h => ?_) fun h => ?_
  · have h : (((x == 125 || x == 124 || x == 123) || x == 112) || x == 111) = true := h
    simp only [Bool.or_eq_true, beq_iff_eq] at h
    have hE : valE x = 3 := by unfold valE; rw [if_neg (by omega), if_pos (by omega)]
    rw [hE]; rfl
  · have h : (((x == 125 || x == 124 || x == 123) || x == 112) || x == 111) = false := h
    simp only [Bool.or_eq_false_iff, beq_eq_false_iff_ne, ne_eq] at h
    have hE : valE x = 2 := by unfold valE; rw [if_neg (by omega), if_neg (by omega)]
    rw [hE]; rfl
theorem q_rvals {l : List Int} (hb : Bytes l) (hl : l.length < 4611686018427387904) {p : Nat} (hp : p ≤ l.length) : F30 [(p : Int)] [] [dl l] = some (match valsP (l.drop p) with | .err e => ([0, e], [], [[]]) | .ok vs n => ([((p + n : Nat) : Int), 0], [], [dl vs])) := by
  have hu := q_rU (hb.drop p) (bits := 32) (by decide) (by decide) (by rw [List.length_drop]; omega)
  have hnz := (uP_stbl 32).nz (l.drop p)
  have hle := (uP_stbl 32).le (l.drop p)
  have loop : ∀ (c : Nat) (s e : Int) (y : List D), c ≤ 8 → ∀ (d q k : Nat) (acc : List Int), acc.length + d = c → q ≤ l.length →
      iterT 3 0 2 (fun r => l30_1.den (Tab.fn a30) ([(p : Int), (c : Int), s, e] ++ r.1) ([] ++ r.2.1) ([dl l, y] ++ r.2.2)) (k + (d + 1)) ([(q : Int), 0, 0], [], [[], dl acc]) =
      some (match loopP d (l.drop q) with | .err e => .ret ([0, e], [], [[]]) | .ok vs m => .brk 2 ([((q + m : Nat) : Int), 0, 0], [], [[], dl (acc ++ vs)])) := by
    intro c s e y hc d
    induction d with
    | zero =>
      intro q k acc ha hq
      refine it_brk ?_
      unfold l30_1
      refine d_itF (lt_f ?_) ?_
      · show IntKind.i64.wrap (c : Int) ≤ (((dl acc).length : Nat) : Int)
        rw [wi (by omega) (by omega), dl_len]; omega
      · show some (Out.brk 2 ([(q : Int), 0, 0], [], [[], dl acc])) = _
        simp
    | succ d ih =>
      intro q k acc ha hq
      have hlt : (((dl acc).length : Nat) : Int) < IntKind.i64.wrap (c : Int) := by rw [wi (by omega) (by omega), dl_len]; omega
      by_cases hql : q < l.length
      · have hx := hb.at q
        have hin : (decide ((q : Int) ≥ 0) && decide ((q : Int) < (((dl l).length : Nat) : Int))) = true := by rw [dl_len]; simp; omega
        have ex : (((dl l).getD (q : Int).toNat (.i 0)).cell 0).int = l.getD q 0 := by rw [Int.toNat_natCast, ix_dl]
        have hv := q_rval hx.1 hx.2
        have hP : loopP (d + 1) (l.drop q) = if valE (l.getD q 0) = 0 then (match loopP d (l.drop (q + 1)) with | .err e => .err e | .ok r k => .ok (l.getD q 0 :: r) (1 + k)) else .err (valE (l.getD q 0)) := by
          rw [drop_cons hql]
          simp only [loopP]
          rw [rd_bind, valP_cons]
          by_cases h0 : valE (l.getD q 0) = 0
          · rw [if_pos h0, if_pos h0]
            simp only [rd_bind, List.drop_succ_cons, List.drop_zero]
            cases loopP d (l.drop (q + 1)) <;> rfl
          · rw [if_neg h0, if_neg h0]
        rw [hP]
        by_cases h0 : valE (l.getD q 0) = 0
        · simp only [if_pos h0] at hv ⊢
          have h := ih (q + 1) k (acc ++ [l.getD q 0]) (by simp; omega) (by omega)
          refine it_nxt (r' := ([((q + 1 : Nat) : Int), 0, 0], [], [[], dl (acc ++ [l.getD q 0])])) ?_ rfl (h.trans ?_)
          · unfold l30_1
            refine d_itT (lt_t hlt) (d_itF (decide_eq_false ?_) (d_rq hin (d_rq hin ?_)))
            · show ¬ (((dl l).length : Nat) : Int) ≤ (q : Int)
              rw [dl_len]; omega
            refine d_callx [l.getD q 0] [] [] ([l.getD q 0, valE (l.getD q 0)], [], []) e30_17 (congrArg (fun z => [z]) ex) rfl rfl hv rfl (d_itF (ne_f h0) ?_)
            refine d_lst [[.i (l.getD q 0)]] rfl (d_rq ?_ (d_lst [dl acc ++ [.i (l.getD q 0)]] rfl ?_))
            · refine an_t (decide_eq_true ?_) rfl
              show (((dl acc).length : Nat) : Int) ≤ 3909374676536
              rw [dl_len]; omega
            · have e3 : dl acc ++ [D.i (l.getD q 0)] = dl (acc ++ [l.getD q 0]) := by simp [dl]
              rw [e3]
              show some (Out.nxt ([arI .add .i64 (q : Int) 1, 0, 0], [], [[], dl (acc ++ [l.getD q 0])])) = _
              rw [up1 q (by omega)]
          · generalize loopP d (l.drop (q + 1)) = W
            cases W with
            | err e => rfl
            | ok r m =>
              dsimp only
              rw [show q + 1 + m = q + (1 + m) by omega, List.append_assoc]
              rfl
        · simp only [if_neg h0] at hv ⊢
          refine it_ret ?_
          unfold l30_1
          refine d_itT (lt_t hlt) (d_itF (decide_eq_false ?_) (d_rq hin (d_rq hin ?_)))
          · show ¬ (((dl l).length : Nat) : Int) ≤ (q : Int)
            rw [dl_len]; omega
          exact d_callx [l.getD q 0] [] [] ([0, valE (l.getD q 0)], [], []) e30_17 (congrArg (fun z => [z]) ex) rfl rfl hv rfl (d_itT (ne_t h0) rfl)
      · obtain rfl : q = l.length := by omega
        have hP : loopP (d + 1) (l.drop l.length) = .err 1 := by
          rw [List.drop_length]; rfl
        rw [hP]
        refine it_ret ?_
        unfold l30_1
        refine d_itT (lt_t hlt) (d_itT (decide_eq_true ?_) rfl)
        show (((dl l).length : Nat) : Int) ≤ (l.length : Int)
        rw [dl_len]; omega
  refine of_ret ?_
  unfold t30
  refine d_rq ?_ (d_lst [dl (l.drop p)] (congrArg (fun y => [y]) (by rw [← cut_dl l p, ← dl_len]; rfl)) ?_)
  · show (decide ((0 : Int) ≤ (p : Int)) && (decide ((p : Int) ≤ (((dl l).length : Nat) : Int)) && decide ((((dl l).length : Nat) : Int) ≤ (((dl l).length : Nat) : Int)))) = true
    rw [dl_len]; simp; omega
  unfold valsP
  rw [rd_bind]
  generalize uP 32 (l.drop p) = V at *
  cases V with
  | err e =>
    exact d_callx [32] [] [dl (l.drop p)] ([0, 0, e], [], []) e30_32 rfl rfl rfl hu rfl (d_itT (bne_iff_ne.2 (hnz e rfl)) rfl)
  | ok c n =>
    have hn := hle c n rfl
    rw [List.length_drop] at hn
    refine d_callx [32] [] [dl (l.drop p)] ([(c : Int), (n : Int), 0], [], []) e30_32 rfl rfl rfl hu rfl (d_itF rfl ?_)
    by_cases h8 : 8 < c
    · refine d_itT (decide_eq_true (show (8 : Int) < (c : Int) by omega)) ?_
      simp only [if_pos h8]; rfl
    refine d_itF (decide_eq_false (show ¬ (8 : Int) < (c : Int) by omega)) ?_
    simp only [if_neg h8]
    have ea : arI .add .i64 (p : Int) (n : Int) = ((p + n : Nat) : Int) := by rw [addI (by omega) (by omega)]; omega
    obtain ⟨k, hk⟩ := fuel_eq (c + 1) (by omega)
    have h := loop c (n : Int) 0 (dl (l.drop p)) (by omega) c (p + n) k [] (by simp) (by omega)
    rw [← hk, ← List.drop_drop, ← ea] at h
    generalize loopP c ((l.drop p).drop n) = W at h ⊢
    cases W with
    | err e => exact d_lp_ret h
    | ok vs m =>
      refine d_lp _ h rfl (d_rq rfl ?_)
      show some (Out.ret ([((p + n + m : Nat) : Int), 0], [], [dl vs])) = _
      rw [Nat.add_assoc]
theorem q_rfunc {l : List Int} (hb : Bytes l) (hl : l.length < 4611686018427387904) : F11 [] [] [dl l] = some (match funcP l with | .err e => ([0, e], [], [[], []]) | .ok (a, b) n => ([(n : Int), 0], [], [dl a, dl b])) := by
  refine of_ret ?_
  unfold t11 funcP
  rw [rd_bind]
  cases l with
  | nil => exact d_itT rfl rfl
  | cons x r =>
    have el : (((dl (x :: r)).length : Nat) : Int) = (r.length : Int) + 1 := by simp [dl]
    refine d_itF (show decide ((((dl (x :: r)).length : Nat) : Int) < 1) = false from lt_f (by rw [el]; omega)) ?_
    refine d_rq (by show decide ((0 : Int) < (((dl (x :: r)).length : Nat) : Int)) = true; rw [el, decide_eq_true_eq]; omega) ?_
    simp only [show byteP (x :: r) = Res.ok x 1 from rfl, List.drop_succ_cons, List.drop_zero]
    by_cases h96 : x = 96
    case neg =>
      refine d_itT (ne_t h96) ?_
      simp only [if_neg h96]; rfl
    refine d_itF (ne_f h96) ?_
    simp only [if_pos h96]
    rw [rd_bind]
    have h1 := q_rvals hb hl (p := 1) (by simp)
    rw [show (x :: r).drop 1 = r from rfl] at h1
    have hnz := valsP_stbl.nz r
    have hle := valsP_stbl.le r
    generalize valsP r = V at *
    cases V with
    | err e => exact d_callx [1] [] [dl (x :: r)] ([0, e], [], [[]]) e11_30 rfl rfl rfl h1 rfl (d_itT (bne_iff_ne.2 (hnz e rfl)) rfl)
    | ok a n =>
      have hn := hle a n rfl
      refine d_callx [1] [] [dl (x :: r)] ([((1 + n : Nat) : Int), 0], [], [dl a]) e11_30 rfl rfl rfl h1 rfl (d_itF rfl ?_)
      have h2 := q_rvals hb hl (p := 1 + n) (by simp; omega)
      rw [show (x :: r).drop (1 + n) = r.drop n by rw [Nat.add_comm]; rfl] at h2
      have hnz2 := valsP_stbl.nz (r.drop n)
      dsimp only
      rw [rd_bind]
      generalize valsP (r.drop n) = W at *
      cases W with
      | err e => exact d_callx [((1 + n : Nat) : Int)] [] [dl (x :: r)] ([0, e], [], [[]]) e11_30 rfl rfl rfl h2 rfl (d_itT (bne_iff_ne.2 (hnz2 e rfl)) rfl)
      | ok b m =>
        refine d_callx [((1 + n : Nat) : Int)] [] [dl (x :: r)] ([((1 + n + m : Nat) : Int), 0], [], [dl b]) e11_30 rfl rfl rfl h2 rfl (d_itF rfl ?_)
        show some (Out.ret ([((1 + n + m : Nat) : Int), 0], [], [dl a, dl b])) = _
        rw [show 1 + n + m = 1 + (n + (m + 0)) by omega]
theorem q_rblock {l : List Int} (hb : Bytes l) (hl : l.length < 4611686018427387904) : F15 [] [] [dl l] = some (blockO l) := by
  have hs := q_rS hb (bits := 33) (by decide) (by decide) (by omega)
  refine of_ret ?_
  unfold t15 blockO blockP
  cases l with
  | nil => exact d_itT rfl rfl
  | cons x r =>
    have hx := hb x List.mem_cons_self
    have hv := q_rval hx.1 hx.2
    have el : (((dl (x :: r)).length : Nat) : Int) = (r.length : Int) + 1 := by simp [dl]
    refine d_itF (show decide ((((dl (x :: r)).length : Nat) : Int) < 1) = false from lt_f (by rw [el]; omega)) ?_
    refine d_rq (by show decide ((0 : Int) < (((dl (x :: r)).length : Nat) : Int)) = true; rw [el, decide_eq_true_eq]; omega) ?_
    by_cases h64 : x = 64
    · refine d_itT (eq_t h64) ?_
      rw [if_pos (show (x :: r).getD 0 0 = 64 from h64)]
      rfl
    refine d_itF (eq_f h64) ?_
    rw [if_neg (show ¬ (x :: r).getD 0 0 = 64 from h64), valP_cons]
    refine d_callx [x] [] [] _ e15_17 rfl rfl rfl hv rfl ?_
    have hcase : valE x = 0 ∨ valE x = 3 ∨ valE x = 2 := by unfold valE; split <;> (try split) <;> simp
    rcases hcase with h | h | h
    · rw [h]
      refine d_itF rfl (d_itT rfl ?_)
      simp only [if_true]
      show some (Out.ret ([arI .sub .i64 x 128, 1, 0], [], [])) = _
      rw [subI (by omega) (by omega)]
      rfl
    · rw [h]
      exact d_itT rfl rfl
    · rw [h]
      refine d_itF rfl (d_itF rfl ?_)
      simp only [show ¬ (2 : Int) = 0 from by decide, if_false, ne_eq, not_true_eq_false]
      have hsz := (sP_stbl 33).nz (x :: r)
      generalize sP 33 (x :: r) = W at *
      cases W with
      | err e =>
        exact d_callx [33] [] [dl (x :: r)] ([0, 0, e], [], []) e15_34 rfl rfl rfl hs rfl (d_itT (bne_iff_ne.2 (hsz e rfl)) rfl)
      | ok a n =>
        refine d_callx [33] [] [dl (x :: r)] ([a, (n : Int), 0], [], []) e15_34 rfl rfl rfl hs rfl (d_itF rfl ?_)
        by_cases h0 : a < 0
        · refine d_itT (lt_t h0) ?_
          simp only [if_pos h0]; rfl
        · refine d_itF (decide_eq_false h0) ?_
          simp only [if_neg h0]; rfl
theorem q_rlimits {l : List Int} (hb : Bytes l) (hl : l.length < 4611686018427387904) : F13 [] [] [dl l] = some (limO l) := by
  refine of_ret ?_
  unfold t13 limO limP
  rw [rd_bind]
  cases l with
  | nil => exact d_itT rfl rfl
  | cons x r =>
    have el : (((dl (x :: r)).length : Nat) : Int) = (r.length : Int) + 1 := by simp [dl]
    have hr : r.length < 4611686018427387904 := by simp at hl; omega
    have hbr : Bytes r := hb.drop 1
    have hx := hb x List.mem_cons_self
    refine d_itF (show decide ((((dl (x :: r)).length : Nat) : Int) < 1) = false from lt_f (by rw [el]; omega)) ?_
    have hq0 : decide ((0 : Int) < (((dl (x :: r)).length : Nat) : Int)) = true := by rw [el, decide_eq_true_eq]; omega
    refine d_rq hq0 (d_rq (by show (_ || decide ((0 : Int) < (((dl (x :: r)).length : Nat) : Int))) = true; rw [hq0, Bool.or_true]) ?_)
    simp only [show byteP (x :: r) = Res.ok x 1 from rfl, List.drop_succ_cons, List.drop_zero]
    have hq1 : (decide ((1 : Int) ≤ (((dl (x :: r)).length : Nat) : Int)) && decide ((((dl (x :: r)).length : Nat) : Int) ≤ (((dl (x :: r)).length : Nat) : Int))) = true := by rw [el]; simp <;> omega
    have hc1 : (((dl (x :: r)).take (((dl (x :: r)).length : Nat) : Int).toNat).drop (1 : Int).toNat) = dl r := by
      have := cut_dl (x :: r) 1
      rw [← dl_len] at this
      exact this
    have hu := q_rU hbr (bits := 32) (by decide) (by decide) (by omega)
    have hlt := fun a n => uP_lt (bits := 32) (l := r) (a := a) (n := n)
    have hnz := (uP_stbl 32).nz r
    have hle := (uP_stbl 32).le r
    by_cases h0 : x = 0
    · subst h0
      refine d_itF rfl (d_itT rfl (d_rq hq1 (d_lst [dl r] (congrArg (fun y => [y]) hc1) ?_)))
      simp only [show ¬ (1 : Int) < 0 by decide, if_false, if_true]
      rw [rd_bind]
      generalize uP 32 r = V at *
      cases V with
      | err e => exact d_callx [32] [] [dl r] ([0, 0, e], [], []) e13_32 rfl rfl rfl hu rfl (d_itT (bne_iff_ne.2 (hnz e rfl)) rfl)
      | ok a n =>
        have ha := hlt a n rfl
        have hn := hle a n rfl
        refine d_callx [32] [] [dl r] ([(a : Int), (n : Int), 0], [], []) e13_32 rfl rfl rfl hu rfl (d_itF rfl (d_itF rfl ?_))
        have ew : IntKind.i64.wrap (a : Int) = (a : Int) := wi (by omega) (by omega)
        have e1 : arI .add .i64 1 (n : Int) = ((1 + n : Nat) : Int) := by rw [addI (by omega) (by omega)]; omega
        have fin : (some (Out.ret ([IntKind.i64.wrap (a : Int), 0, arI .add .i64 1 (n : Int), 0], [false], [])) : Option Out) = some (Out.ret ([(a : Int), 0, ((1 + (n + 0) : Nat) : Int), 0], [false], [])) := by rw [ew, e1]; rfl
        refine Eq.trans ?_ fin
        exact d_both (d_both rfl rfl) rfl
    by_cases h1 : x = 1
    · subst h1
      refine d_itT rfl (d_itF rfl (d_itT rfl (d_rq hq1 (d_lst [dl r] (congrArg (fun y => [y]) hc1) ?_))))
      simp only [show ¬ (1 : Int) < 1 by decide, if_false, show ¬ (1 : Int) = 0 by decide]
      rw [rd_bind]
      generalize uP 32 r = V at *
      cases V with
      | err e => exact d_callx [32] [] [dl r] ([0, 0, e], [], []) e13_32 rfl rfl rfl hu rfl (d_itT (bne_iff_ne.2 (hnz e rfl)) rfl)
      | ok a n =>
        have ha := hlt a n rfl
        have hn := hle a n rfl
        have ew : IntKind.i64.wrap (a : Int) = (a : Int) := wi (by omega) (by omega)
        have e1 : arI .add .i64 1 (n : Int) = ((1 + n : Nat) : Int) := by rw [addI (by omega) (by omega)]; omega
        refine d_callx [32] [] [dl r] ([(a : Int), (n : Int), 0], [], []) e13_32 rfl rfl rfl hu rfl (d_itF rfl (d_itT rfl (d_rq ?_ (d_lst [dl (r.drop n)] ?_ ?_))))
        · show (decide ((0 : Int) ≤ arI .add .i64 1 (n : Int)) && (decide (arI .add .i64 1 (n : Int) ≤ (((dl (1 :: r)).length : Nat) : Int)) && decide ((((dl (1 :: r)).length : Nat) : Int) ≤ (((dl (1 :: r)).length : Nat) : Int)))) = true
          rw [el, e1]; simp <;> omega
        · have := cut_dl (1 :: r) (1 + n)
          rw [← dl_len, show (1 :: r).drop (1 + n) = r.drop n by rw [Nat.add_comm]; rfl, ← e1] at this
          exact congrArg (fun y => [y]) this
        dsimp only
        rw [rd_bind]
        have hu2 := q_rU (hbr.drop n) (bits := 32) (by decide) (by decide) (by rw [List.length_drop]; omega)
        have hlt2 := fun a m => uP_lt (bits := 32) (l := r.drop n) (a := a) (n := m)
        have hnz2 := (uP_stbl 32).nz (r.drop n)
        have hle2 := (uP_stbl 32).le (r.drop n)
        generalize uP 32 (r.drop n) = W at *
        cases W with
        | err e => exact d_callx [32] [] [dl (r.drop n)] ([0, 0, e], [], []) e13_32 rfl rfl rfl hu2 rfl (d_itT (bne_iff_ne.2 (hnz2 e rfl)) rfl)
        | ok b m =>
          have hb2 := hlt2 b m rfl
          have hm2 := hle2 b m rfl
          rw [List.length_drop] at hm2
          refine d_callx [32] [] [dl (r.drop n)] ([(b : Int), (m : Int), 0], [], []) e13_32 rfl rfl rfl hu2 rfl (d_itF rfl (d_itF rfl ?_))
          have fin : (some (Out.ret ([IntKind.i64.wrap (a : Int), IntKind.i64.wrap (b : Int), arI .add .i64 (arI .add .i64 1 (n : Int)) (m : Int), 0], [true], [])) : Option Out) = some (Out.ret ([(a : Int), (b : Int), ((1 + (n + (m + 0)) : Nat) : Int), 0], [true], [])) := by
            rw [ew, e1, wi (n := (b : Int)) (by omega) (by omega), addI (by omega) (by omega)]
            have : ((1 + n : Nat) : Int) + (m : Int) = ((1 + (n + (m + 0)) : Nat) : Int) := by omega
            rw [this]
          refine Eq.trans ?_ fin
          exact d_both (d_both rfl rfl) rfl
    · refine d_itT (ne_t h0) (d_itT (ne_t h1) ?_)
      simp only [show 1 < x by omega, if_true]
      rfl
end Go.Proofs.Ythmiladfdndciaa.STypReads
