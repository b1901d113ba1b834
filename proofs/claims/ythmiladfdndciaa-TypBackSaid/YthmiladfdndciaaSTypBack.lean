/-
  TypBack: what the functions that it reaches answer.
-/
import Derived.Test.YthmiladfdndciaaXTypBack
import Derived.Test.YthmiladfdndciaaVb
namespace Go.Proofs.Ythmiladfdndciaa.STypBack
set_option linter.all false
open Go.Proofs.Ythmiladfdndciaa.Vx Go.Proofs.Ythmiladfdndciaa.XTypBack Go.Proofs.Ythmiladfdndciaa.Vd Go.Proofs.Ythmiladfdndciaa.Vn Go.Proofs.Ythmiladfdndciaa.Vl Go.Proofs.Ythmiladfdndciaa.Vp Go.Proofs.Ythmiladfdndciaa.Vb
theorem q_clone (l : List D) (h : l.length ≤ 17592186044416) : F36 [] [] [l] = some ([], [], [l]) := by
  have h : ((l.length : Nat) : Int) ≤ 17592186044416 := by omega
  refine of_ret ?_
  unfold t36
  refine d_nz (fun e => ?_) ?_
  · have e : l = [] := e
    subst e; rfl
  · simp [T.den, E.B, E.I, cmB, vals, Vx.LE.L, h]
theorem q_most {bits : Nat} (h : bits ≤ 64) : F44 [(bits : Int)] [] [] = some ([((mst bits : Nat) : Int)], [], []) := by
  have e : IntKind.i64.wrap ((IntKind.i64.wrap ((bits : Int) + 6)).tdiv 7) = ((mst bits : Nat) : Int) := by
    rw [wi (n := (bits : Int) + 6) (by omega) (by omega), Int.tdiv_eq_ediv_of_nonneg (by omega), wi (by omega) (by omega)]
    unfold mst
    omega
  refine of_ret ?_
  unfold t44
  simp only [T.den, vals, List.map_cons, List.map_nil, E.I, arI, List.getD_cons_zero, e]
/-- The pieces of a number. -/
def rawO (l : List Int) (bits : Nat) : List Int :=
  if ends l < l.length ∧ ends l < mst bits then [((vl l (ends l + 1) % 2 ^ 64 : Nat) : Int), l.getD (ends l) 0, ((ends l + 1 : Nat) : Int), 0] else if mst bits ≤ ends l then [0, 0, 0, 2] else [0, 0, 0, 1]
theorem q_raw_loop {l : List Int} (hb : Bytes l) {bits : Nat} (h0 : 1 ≤ bits) (h1 : bits ≤ 64) (hl : l.length < 9223372036854775807) : ∀ (d i k : Nat), i + d = min (ends l) (mst bits - 1) → 
    (∃ r, iterT 6 0 0 (fun r => l42_1.den (Tab.fn a42) ([(bits : Int)] ++ r.1) ([false] ++ r.2.1) ([dl l] ++ r.2.2)) (k + (d + 1)) ([0, 0, 0, 0, ((vl l i % 2 ^ 64 : Nat) : Int), (i : Int)], [], []) = some r ∧
      (r = .ret (rawO l bits, [], []) ∨ (rawO l bits = [0, 0, 0, 1] ∧ ∃ x y, r = .brk 2 ([0, 0, 0, 0, x, y], [], [])))) := by
  have hm10 : mst bits ≤ 10 := by unfold mst; omega
  have hm1 : 1 ≤ mst bits := by unfold mst; omega
  have e1 : ∀ i : Nat, i ≤ 9 → arI .add .i64 (i : Int) 1 = ((i + 1 : Nat) : Int) := fun i hi => by show IntKind.i64.wrap ((i : Int) + 1) = _; rw [wi (by omega) (by omega)]; omega
  have e2 : ∀ i : Nat, i ≤ 9 → (0 : Int) ≤ IntKind.u64.wrap (arI .mul .i64 7 (i : Int)) := fun i hi => by
    have : arI .mul .i64 7 (i : Int) = ((7 * i : Nat) : Int) := by show IntKind.i64.wrap (7 * (i : Int)) = _; rw [wi (by omega) (by omega)]; omega
    rw [this, wu (by omega) (by omega)]; omega
  have hel := ends_le l
  intro d
  induction d with
  | zero =>
    intro i k hi
    by_cases hlen : i < l.length
    · have h3 : (i : Int) < (l.length : Nat) := by omega
      have h4 := e2 i (by omega)
      have h5 : (0 : Int) ≤ (i : Nat) := by omega
      by_cases hlt : l.getD i 0 < 128
      · have hei : i = ends l := by
          by_cases h : i < ends l
          · have := ends_before l i h; omega
          · omega
        refine ⟨_, it_ret (r' := (rawO l bits, [], [])) ?_, .inl rfl⟩
        have hr : rawO l bits = [((vl l (i + 1) % 2 ^ 64 : Nat) : Int), l.getD i 0, ((i + 1 : Nat) : Int), 0] := by unfold rawO; rw [← hei, if_pos (by omega)]
        rw [hr]
        simp only [l42_1, T.den, E.B, E.I, cmB, vals, List.cons_append, List.nil_append, List.getD_cons_zero, List.getD_cons_succ, List.map_cons, List.map_nil, dl_len, h3, h4, h5, decide_true, cond_true, Int.toNat_natCast, ix_dl, hlt, ge_iff_le, raw_step hb (show i ≤ 9 by omega), e1 _ (show i ≤ 9 by omega)]
      · have hne : i ≠ ends l := fun e => by have := ends_at l (by omega); rw [← e] at this; omega
        have him : i + 1 = mst bits := by omega
        have h6 : (((i + 1 : Nat) : Int) == ((mst bits : Nat) : Int)) = true := by rw [beq_iff_eq]; omega
        refine ⟨_, it_ret (r' := (rawO l bits, [], [])) ?_, .inl rfl⟩
        have hr : rawO l bits = [0, 0, 0, 2] := by
          unfold rawO
          have : mst bits ≤ ends l := by omega
          rw [if_neg (by omega), if_pos this]
        rw [hr]
        simp only [l42_1, T.den, E.B, E.I, cmB, vals, List.cons_append, List.nil_append, List.append_nil, List.getD_cons_zero, List.getD_cons_succ, List.map_cons, List.map_nil, dl_len, h3, h4, h5, decide_true, cond_true, Int.toNat_natCast, ix_dl, hlt, decide_false, cond_false, ge_iff_le, raw_step hb (show i ≤ 9 by omega), e1 _ (show i ≤ 9 by omega), e42_44, q_most h1, R.fits, List.length_cons, List.length_nil, Nat.reduceAdd, h6]
        rfl
    · have h3 : ¬ (i : Int) < (l.length : Nat) := by omega
      refine ⟨_, it_brk (t := 2) (r' := ([0, 0, 0, 0, ((vl l i % 2 ^ 64 : Nat) : Int), (i : Int)], [], [])) ?_, .inr ⟨?_, _, _, rfl⟩⟩
      · simp only [l42_1, T.den, E.B, E.I, cmB, vals, List.cons_append, List.nil_append, List.append_nil, List.getD_cons_zero, List.getD_cons_succ, List.map_cons, List.map_nil, dl_len, h3, decide_false, cond_false]
      · unfold rawO
        rw [if_neg (by omega), if_neg (by omega)]
  | succ d ih =>
    intro i k hi
    have hge := ends_before l i (by omega)
    have hlt : ¬ l.getD i 0 < 128 := by omega
    have h3 : (i : Int) < (l.length : Nat) := by omega
    have h4 := e2 i (by omega)
    have h5 : (0 : Int) ≤ (i : Nat) := by omega
    have h6 : (((i + 1 : Nat) : Int) == ((mst bits : Nat) : Int)) = false := by rw [beq_eq_false_iff_ne]; omega
    obtain ⟨r, hr, ho⟩ := ih (i + 1) k (by omega)
    refine ⟨r, it_nxt (r' := ([0, 0, 0, 0, ((vl l (i + 1) % 2 ^ 64 : Nat) : Int), ((i + 1 : Nat) : Int)], [], [])) ?_ rfl hr, ho⟩
    simp only [l42_1, T.den, E.B, E.I, cmB, vals, List.cons_append, List.nil_append, List.append_nil, List.getD_cons_zero, List.getD_cons_succ, List.map_cons, List.map_nil, dl_len, h3, h4, h5, decide_true, cond_true, Int.toNat_natCast, ix_dl, hlt, decide_false, cond_false, ge_iff_le, raw_step hb (show i ≤ 9 by omega), e1 _ (show i ≤ 9 by omega), e42_44, q_most h1, R.fits, List.length_cons, List.length_nil, Nat.reduceAdd, h6]
    rfl
theorem q_raw {l : List Int} (hb : Bytes l) {bits : Nat} (h0 : 1 ≤ bits) (h1 : bits ≤ 64) (hl : l.length < 9223372036854775807) : F42 [(bits : Int)] [] [dl l] = some (rawO l bits, [], []) := by
  refine of_ret ?_
  unfold t42
  have hm10 : mst bits ≤ 10 := by unfold mst; omega
  obtain ⟨k, hk⟩ := fuel_eq (min (ends l) (mst bits - 1) + 1) (by omega)
  have h2 : ¬ ((bits : Int) < 1) := by omega
  have h3 : ¬ ((bits : Int) > 64) := by omega
  have e : ((E.cm .lss (.iv 0) (.n 1)).oo (.cm .gtr (.iv 0) (.n 64))).B [(bits : Int)] [] [dl l] = false := by simp only [E.B, E.I, cmB, List.getD_cons_zero, h2, h3, decide_false, Bool.or_false]
  show T.den _ _ _ ([] ++ [_]) _ = _
  rw [e]
  refine d_ite (fun h => by cases h) fun _ => ?_
  obtain ⟨r, hr, ho⟩ := q_raw_loop hb h0 h1 hl (min (ends l) (mst bits - 1)) 0 k (by omega)
  rw [← hk] at hr
  rcases ho with rfl | ⟨ho, x, y, rfl⟩
  · exact d_lp_ret hr
  · refine d_lp _ hr rfl ?_
    rw [ho]
    rfl
/-- An unsigned number. -/
theorem q_U {l : List Int} (hb : Bytes l) {bits : Nat} (h0 : 1 ≤ bits) (h1 : bits ≤ 64) (hl : l.length < 9223372036854775807) : F31 [(bits : Int)] [] [dl l] = some ((match uP bits l with | .err e => [0, 0, e] | .ok a n => [(a : Int), (n : Int), 0]), [], []) := by
  have hraw := q_raw hb h0 h1 hl
  refine of_ret ?_
  unfold t31
  refine d_callx [(bits : Int)] [] [dl l] _ e31_42 rfl rfl rfl hraw ?_ ?_
  · unfold rawO; split
    · rfl
    · split <;> rfl
  have hm10 : mst bits ≤ 10 := by unfold mst; omega
  unfold rawO uP
  by_cases hc : ends l < l.length ∧ ends l < mst bits
  · rw [if_pos hc, if_pos hc]
    have hx := hb.at (ends l)
    have hlt := ends_at l hc.1
    generalize hS : ends l = s at *
    have hown0 : 1 ≤ (bits : Int) - 7 * (s : Int) := by unfold mst at hc; omega
    obtain ⟨own, ho⟩ : ∃ own : Nat, (bits : Int) - 7 * (s : Int) = own := ⟨((bits : Int) - 7 * (s : Int)).toNat, by omega⟩
    have e1 := own_eq (bits := bits) (s := s) h1 (by omega)
    rw [ho] at e1
    have e2 : IntKind.u64.wrap (own : Int) = own := wu (by omega) (by omega)
    have e3 : (0 : Int) ≤ own := by omega
    have hown : 1 ≤ own := by omega
    have hsm := vl_small l s own hlt hx.1
    rw [show 7 * s + own = bits by omega] at hsm
    have e4 : (decide ((own : Int) < 7) && (arI .shr .u8 (l.getD s 0) (own : Int) != 0)) = !decide (vl l (s + 1) < 2 ^ bits) := by
      by_cases h7 : (own : Int) < 7
      · rw [shr8 own (by omega), decide_eq_true h7, Bool.true_and]
        have := ediv_zero_iff hx.1 (pow_int_pos own) (y := 2 ^ own)
        by_cases hv : vl l (s + 1) < 2 ^ bits
        · rw [this.2 (hsm.1 hv), decide_eq_true hv]; rfl
        · rw [decide_eq_false hv]
          exact bne_iff_ne.2 fun h => hv (hsm.2 (this.1 h))
      · have hV := vl_lt l (s + 1)
        have hp : 2 ^ (7 * (s + 1)) ≤ 2 ^ bits := pow_le (by omega)
        rw [decide_eq_false h7, decide_eq_true (show vl l (s + 1) < 2 ^ bits by omega)]; rfl
    have hmod : vl l (s + 1) < 2 ^ bits → vl l (s + 1) % 2 ^ 64 = vl l (s + 1) := fun h => Nat.mod_eq_of_lt (Nat.lt_of_lt_of_le h (pow_le h1))
    simp only [T.den, E.B, E.I, cmB, vals, List.cons_append, List.nil_append, List.append_nil, List.getD_cons_zero, List.getD_cons_succ, List.map_cons, List.map_nil, e1, e2, ge_iff_le, e3, decide_true, Bool.or_true, cond_true, e4, cond_false, bne_self_eq_false]
    by_cases hv : vl l (s + 1) < 2 ^ bits
    · rw [if_pos hv, hmod hv, decide_eq_true hv]; rfl
    · rw [if_neg hv, decide_eq_false hv]; rfl
  · rw [if_neg hc, if_neg hc]
    split <;> rfl
/-- A signed number. -/
theorem q_S {l : List Int} (hb : Bytes l) {bits : Nat} (h0 : 1 ≤ bits) (h1 : bits ≤ 64) (hl : l.length < 9223372036854775807) : F33 [(bits : Int)] [] [dl l] = some ((match sP bits l with | .err e => [0, 0, e] | .ok a n => [a, (n : Int), 0]), [], []) := by
  have hraw := q_raw hb h0 h1 hl
  have hm10 : mst bits ≤ 10 := by unfold mst; omega
  refine of_ret ?_
  unfold t33
  refine d_callx [(bits : Int)] [] [dl l] _ e33_42 rfl rfl rfl hraw ?_ ?_
  · unfold rawO; split
    · rfl
    · split <;> rfl
  unfold rawO sP
  by_cases hc : ends l < l.length ∧ ends l < mst bits
  case neg =>
    rw [if_neg hc, if_neg hc]
    split <;> rfl
  rw [if_pos hc, if_pos hc]
  have hx := hb.at (ends l)
  have hlt := ends_at l hc.1
  generalize hS : ends l = s at *
  obtain ⟨own, ho⟩ : ∃ own : Nat, (bits : Int) - 7 * (s : Int) = own := ⟨((bits : Int) - 7 * (s : Int)).toNat, by unfold mst at hc; omega⟩
  have hown : 1 ≤ own := by unfold mst at hc; omega
  have e1 := own_eq (s := s) h1 (by omega)
  rw [ho] at e1
  have hbits : 7 * s + own = bits := by omega
  have hV := vl_lt l (s + 1)
  rw [show 7 * (s + 1) = 7 * s + 7 by omega] at hV
  have hpp : 2 ^ (7 * s + 7) = 2 * 2 ^ (7 * s + 6) := by rw [show 7 * s + 7 = (7 * s + 6) + 1 by omega, Nat.pow_succ]; omega
  by_cases h7 : (own : Int) < 7
  · have e2 : arI .sub .i64 (own : Int) 1 = ((own - 1 : Nat) : Int) := by show IntKind.i64.wrap ((own : Int) - 1) = _; rw [wi (by omega) (by omega)]; omega
    have e3 : IntKind.u64.wrap ((own - 1 : Nat) : Int) = ((own - 1 : Nat) : Int) := wu (by omega) (by omega)
    have e4 : (0 : Int) ≤ ((own - 1 : Nat) : Int) := by omega
    have e6 : (!(arI .shr .u8 (l.getD s 0) ((own - 1 : Nat) : Int) != 0) || true) = true := by simp
    have e5 : ((arI .shr .u8 (l.getD s 0) ((own - 1 : Nat) : Int) != 0) && (arI .shr .u8 (l.getD s 0) ((own - 1 : Nat) : Int) != arI .shr .u8 127 ((own - 1 : Nat) : Int))) = !decide (-((2 ^ (bits - 1) : Nat) : Int) ≤ sv l s ∧ sv l s < ((2 ^ (bits - 1) : Nat) : Int)) := by
      rw [shr8 _ (by omega), shr8 _ (by omega)]
      have hsm := vl_small l s (own - 1) hlt hx.1
      have hla := vl_large l s (own - 1) (by omega) hlt hx.1
      have hb1 : 7 * s + (own - 1) = bits - 1 := by omega
      rw [hb1] at hsm hla
      have hz : l.getD s 0 / 2 ^ (own - 1) = 0 ↔ l.getD s 0 < 2 ^ (own - 1) := by
        rw [ediv_zero_iff hx.1 (pow_int_pos _)]
      have ht : l.getD s 0 / 2 ^ (own - 1) = 127 / 2 ^ (own - 1) ↔ 128 - 2 ^ (own - 1) ≤ l.getD s 0 := by
        generalize l.getD s 0 = x at hx hlt ⊢
        have : own = 1 ∨ own = 2 ∨ own = 3 ∨ own = 4 ∨ own = 5 ∨ own = 6 := by omega
        rcases this with rfl | rfl | rfl | rfl | rfl | rfl <;> simp <;> omega
      have hp6 : 2 ^ (bits - 1) ≤ 2 ^ (7 * s + 6) := pow_le (by omega)
      by_cases hr : -((2 ^ (bits - 1) : Nat) : Int) ≤ sv l s ∧ sv l s < ((2 ^ (bits - 1) : Nat) : Int)
      · rw [decide_eq_true hr]
        unfold sv at hr
        split at hr
        · have : 128 - 2 ^ (own - 1) ≤ l.getD s 0 := hla.1 (by omega)
          rw [ht.2 this]
          simp
        · rw [hz.2 (hsm.1 (by omega))]
          simp
      · rw [decide_eq_false hr]
        have n1 : ¬ vl l (s + 1) < 2 ^ (bits - 1) := fun h => hr (by unfold sv; rw [if_neg (by omega)]; omega)
        have n2 : ¬ 2 ^ (7 * s + 7) - 2 ^ (bits - 1) ≤ vl l (s + 1) := fun h => hr (by unfold sv; rw [if_pos (by omega)]; omega)
        rw [bne_iff_ne.2 (fun h => n1 (hsm.2 (hz.1 h))), bne_iff_ne.2 (fun h => n2 (hla.2 (ht.1 h)))]
        rfl
    by_cases hr : -((2 ^ (bits - 1) : Nat) : Int) ≤ sv l s ∧ sv l s < ((2 ^ (bits - 1) : Nat) : Int)
    · rw [decide_eq_true hr] at e5
      have e5 : _ = false := e5
      have h9 : s = 9 → -9223372036854775808 ≤ sv l s ∧ sv l s < 9223372036854775808 := by
        rintro rfl
        have : bits = 64 := by omega
        subst this
        exact hr
      have tail := s_tail hb s hlt (by omega) h9 _ rfl
      rw [if_pos hr]
      rcases tail with ⟨t1, t2, t3⟩ | ⟨t1, t3⟩
      · simp only [T.den, E.B, E.I, cmB, vals, List.cons_append, List.nil_append, List.append_nil, List.getD_cons_zero, List.getD_cons_succ, List.map_cons, List.map_nil, e1, e2, e3, h7, ge_iff_le, e4, decide_true, cond_true, cond_false, bne_self_eq_false, Bool.or_true, e5, t1, t2, t3]
      · simp only [T.den, E.B, E.I, cmB, vals, List.cons_append, List.nil_append, List.append_nil, List.getD_cons_zero, List.getD_cons_succ, List.map_cons, List.map_nil, e1, e2, e3, h7, ge_iff_le, e4, decide_true, cond_true, cond_false, bne_self_eq_false, Bool.or_true, e5, t1, t3]
    · rw [decide_eq_false hr] at e5
      have e5 : _ = true := e5
      rw [if_neg hr]
      simp only [T.den, E.B, E.I, cmB, vals, List.cons_append, List.nil_append, List.append_nil, List.getD_cons_zero, List.getD_cons_succ, List.map_cons, List.map_nil, e1, e2, e3, h7, ge_iff_le, e4, decide_true, cond_true, cond_false, bne_self_eq_false, Bool.or_true, e5]
  · have hp7 : 2 ^ (7 * s + 6) ≤ 2 ^ (bits - 1) := pow_le (by omega)
    have hr : -((2 ^ (bits - 1) : Nat) : Int) ≤ sv l s ∧ sv l s < ((2 ^ (bits - 1) : Nat) : Int) := by
      unfold sv
      split <;> omega
    have tail := s_tail hb s hlt (by omega) (fun h => by omega) _ rfl
    rw [if_pos hr]
    rcases tail with ⟨t1, t2, t3⟩ | ⟨t1, t3⟩
    · simp only [T.den, E.B, E.I, cmB, vals, List.cons_append, List.nil_append, List.append_nil, List.getD_cons_zero, List.getD_cons_succ, List.map_cons, List.map_nil, e1, h7, ge_iff_le, decide_true, decide_false, cond_true, cond_false, bne_self_eq_false, Bool.or_true, t1, t2, t3]
    · simp only [T.den, E.B, E.I, cmB, vals, List.cons_append, List.nil_append, List.append_nil, List.getD_cons_zero, List.getD_cons_succ, List.map_cons, List.map_nil, e1, h7, ge_iff_le, decide_true, decide_false, cond_true, cond_false, bne_self_eq_false, Bool.or_true, t1, t3]
theorem loopU (f : Nat) : ∀ (n k : Nat) (v : Int) (l0 l : List D), n < 128 ^ (f + 1) → l.length + f ≤ 17592186044410 → ∃ (n' : Nat) (l' : List D), n' < 128 ∧ l' ++ dl [(n' : Int)] = l ++ dl (uB f n) ∧
    iterT 1 0 1 (fun r => l38_1.den (Tab.fn a38) ([v] ++ r.1) ([] ++ r.2.1) ([l0, l0] ++ r.2.2)) (k + (f + 1)) ([(n : Int)], [], [l]) = some (.brk 2 ([(n' : Int)], [], [l'])) := by
  have stop : ∀ (n k : Nat) (v : Int) (l0 l : List D), n < 128 → iterT 1 0 1 (fun r => l38_1.den (Tab.fn a38) ([v] ++ r.1) ([] ++ r.2.1) ([l0, l0] ++ r.2.2)) (k + 1) ([(n : Int)], [], [l]) = some (.brk 2 ([(n : Int)], [], [l])) := fun n k v l0 l h => by
    refine it_brk ?_
    have : ¬ (128 : Int) ≤ n := by omega
    simp [l38_1, T.den, E.B, E.I, cmB, LE.L, vals, this]
  induction f with
  | zero =>
    intro n k v l0 l h hl
    have hn : n < 128 := by simpa using h
    exact ⟨n, l, hn, by simp [uB, dl]; omega, stop n k v l0 l hn⟩
  | succ f ih =>
    intro n k v l0 l h hl
    by_cases hn : n < 128
    · exact ⟨n, l, hn, by simp [uB, dl, hn], stop n (k + (f + 1)) v l0 l hn⟩
    · obtain ⟨n', l', h1, h2, h3⟩ := ih (n / 128) k v l0 (l ++ dl [((n % 128 + 128 : Nat) : Int)]) (by rw [Nat.div_lt_iff_lt_mul (by decide), ← Nat.pow_succ]; exact h) (by simp [dl]; omega)
      refine ⟨n', l', h1, ?_, ?_⟩
      · rw [h2]
        conv => rhs; unfold uB
        rw [if_neg hn]
        simp [dl]
      · refine it_nxt (r' := ([((n / 128 : Nat) : Int)], [], [l ++ dl [((n % 128 + 128 : Nat) : Int)]])) ?_ rfl h3
        have h4 : (128 : Int) ≤ n := by omega
        have h5 : ((l.length : Nat) : Int) ≤ 17592186044416 := by omega
        have e1 : (n : Int).fdiv 128 = (n : Int) / 128 := by rw [Int.fdiv_eq_ediv_of_nonneg _ (by decide)]
        simp [l38_1, T.den, E.B, E.I, cmB, LE.L, vals, CE.D, mkD, h4, h5, arI, wrap_u8, bor128, e1, dl, IntKind.bits]
theorem q_putU {n : Nat} (hn : n < 2 ^ 64) (l : List D) (h : l.length ≤ 17592186044400) : F38 [(n : Int)] [] [l] = some ([], [], [l ++ dl (uBytes n)]) := by
  refine of_ret ?_
  unfold t38
  refine d_call ([], [], [l]) (tab_hd rfl) (q_clone l (by omega)) rfl ?_
  obtain ⟨k, hk⟩ := fuel_eq (9 + 1) (by decide)
  obtain ⟨n', l', h1, h2, h3⟩ := loopU 9 n k (n : Int) l l (by omega) (by omega)
  refine d_lp (t := 2) ([(n' : Int)], [], [l']) (by rw [hk]; exact h3) rfl ?_
  have hl : l'.length + 1 ≤ l.length + 10 := by
    have := congrArg List.length h2
    have h9 := uB_le 9 n
    simp [dl] at this
    omega
  have e1 : (n' : Int) % 256 = n' := by omega
  have h5 : ((l'.length : Nat) : Int) ≤ 17592186044416 := by omega
  simp [k38_2, T.den, E.B, E.I, cmB, LE.L, vals, CE.D, mkD, wrap_u8, h5, e1]
  exact h2
theorem loopS (f : Nat) : ∀ (n : Int) (k : Nat) (v : Int) (l0 l : List D), sR f n → l.length + f ≤ 17592186044410 → ∃ (n' : Int) (l' : List D), l' ++ dl [n' % 128] = l ++ dl (sB f n) ∧
    iterT 1 0 1 (fun r => l40_1.den (Tab.fn a40) ([v] ++ r.1) ([] ++ r.2.1) ([l0, l0] ++ r.2.2)) (k + (f + 1)) ([n], [], [l]) = some (.brk 2 ([n'], [], [l'])) := by
  have stop : ∀ (n : Int) (k : Nat) (v : Int) (l0 l : List D), -64 ≤ n ∧ n ≤ 63 → iterT 1 0 1 (fun r => l40_1.den (Tab.fn a40) ([v] ++ r.1) ([] ++ r.2.1) ([l0, l0] ++ r.2.2)) (k + 1) ([n], [], [l]) = some (.brk 2 ([n], [], [l])) := fun n k v l0 l h => by
    refine it_brk ?_
    have h1 : ¬ n < -64 := by omega
    have h2 : ¬ 63 < n := by omega
    simp [l40_1, T.den, E.B, E.I, cmB, LE.L, vals, h1, h2]
  induction f with
  | zero =>
    intro n k v l0 l h hl
    exact ⟨n, l, by simp [sB, dl], stop n k v l0 l (sR_zero.1 h)⟩
  | succ f ih =>
    intro n k v l0 l h hl
    by_cases hn : -64 ≤ n ∧ n ≤ 63
    · exact ⟨n, l, by simp [sB, dl, hn], stop n (k + (f + 1)) v l0 l hn⟩
    · obtain ⟨n', l', h2, h3⟩ := ih (n / 128) k v l0 (l ++ dl [n % 128 + 128]) (sR_div.1 h) (by simp [dl]; omega)
      refine ⟨n', l', ?_, ?_⟩
      · rw [h2]
        conv => rhs; unfold sB
        rw [if_neg hn]
        simp [dl]
      · refine it_nxt (r' := ([n / 128], [], [l ++ dl [n % 128 + 128]])) ?_ rfl h3
        have h4 : n < -64 ∨ 63 < n := by omega
        have h5 : ((l.length : Nat) : Int) ≤ 17592186044416 := by omega
        have e1 : n.fdiv 128 = n / 128 := by rw [Int.fdiv_eq_ediv_of_nonneg _ (by decide)]
        have h6 : (decide (n < -64) || decide (63 < n)) = true := by simpa using h4
        simp [l40_1, T.den, E.B, E.I, cmB, LE.L, vals, CE.D, mkD, h6, h5, arI, wrap_u8, bor128, e1, dl, IntKind.bits]
theorem q_putS {n : Int} (h0 : -9223372036854775808 ≤ n) (h1 : n ≤ 9223372036854775807) (l : List D) (h : l.length ≤ 17592186044400) : F40 [n] [] [l] = some ([], [], [l ++ dl (sBytes n)]) := by
  refine of_ret ?_
  unfold t40
  refine d_call ([], [], [l]) (tab_hd rfl) (q_clone l (by omega)) rfl ?_
  obtain ⟨k, hk⟩ := fuel_eq (9 + 1) (by decide)
  obtain ⟨n', l', h2, h3⟩ := loopS 9 n k n l l (sR_nine h0 h1) (by omega)
  refine d_lp (t := 2) ([n'], [], [l']) (by rw [hk]; exact h3) rfl ?_
  have hl : l'.length + 1 ≤ l.length + 10 := by
    have := congrArg List.length h2
    have h9 := sB_le 9 n
    simp [dl] at this
    omega
  have h5 : ((l'.length : Nat) : Int) ≤ 17592186044416 := by omega
  have e1 : Go.bits .and .u8 (n' % 256) 127 = n' % 128 := by rw [u8_and127 (by omega) (by omega)]; omega
  simp [k40_2, T.den, E.B, E.I, cmB, LE.L, vals, CE.D, mkD, arI, wrap_u8, h5, e1]
  exact h2

/-- A type of values. -/
def valP : Rd Int := byteP.bind fun x => if x = 127 ∨ x = 126 then fun _ => .ok x 0 else fun _ => .err (if x = 125 ∨ x = 124 ∨ x = 123 ∨ x = 112 ∨ x = 111 then 3 else 2)
theorem valP_stbl : Stbl valP := byteP_stbl.bind fun x => by
  split
  · exact Stbl.pure x
  · refine Stbl.fail _ ?_
    split <;> decide
theorem q_val {l : List Int} (hb : Bytes l) : F16 [] [] [dl l] = some ((match valP l with | .err e => [0, 0, e] | .ok v n => [v, (n : Int), 0]), [], []) := by
  refine of_ret ?_
  cases l with
  | nil => rfl
  | cons x r =>
    have hx := hb x List.mem_cons_self
    have ew : IntKind.i64.wrap x = x := wi (by omega) (by omega)
    have e0 : (((dl (x :: r)).getD (0 : Int).toNat (.i 0)).cell 0).int = x := rfl
    have el : (((dl (x :: r)).length : Nat) : Int) = (r.length : Int) + 1 := by simp [dl]
    have en : ((r.length : Int) + 1 == 0) = false := by rw [beq_eq_false_iff_ne]; omega
    have ep : decide ((0 : Int) < (r.length : Int) + 1) = true := by rw [decide_eq_true_eq]; omega
    simp only [t16, T.den, E.B, E.I, cmB, vals, List.map_cons, List.map_nil, List.getD_cons_zero, el, e0, ew, en, ep, cond_false, cond_true]
    by_cases h1 : x = 127
    · subst h1; rfl
    by_cases h2 : x = 126
    · subst h2; rfl
    by_cases h3 : x = 125
    · subst h3; rfl
    by_cases h4 : x = 124
    · subst h4; rfl
    by_cases h5 : x = 123
    · subst h5; rfl
    by_cases h6 : x = 112
    · subst h6; rfl
    by_cases h7 : x = 111
    · subst h7; rfl
    have b1 := beq_eq_false_iff_ne.2 h1
    have b2 := beq_eq_false_iff_ne.2 h2
    have b3 := beq_eq_false_iff_ne.2 h3
    have b4 := beq_eq_false_iff_ne.2 h4
    have b5 := beq_eq_false_iff_ne.2 h5
    have b6 := beq_eq_false_iff_ne.2 h6
    have b7 := beq_eq_false_iff_ne.2 h7
    simp only [b1, b2, b3, b4, b5, b6, b7, cond_false]
    simp [valP, Rd.bind, byteP, h1, h2, h3, h4, h5, h6, h7]
def loopP : Nat → Rd (List Int)
  | 0 => fun _ => .ok [] 0
  | d + 1 => valP.bind fun v => (loopP d).bind fun r => fun _ => .ok (v :: r) 0
theorem loopP_stbl : ∀ d, Stbl (loopP d)
  | 0 => Stbl.pure []
  | d + 1 => valP_stbl.bind fun v => (loopP_stbl d).bind fun r => Stbl.pure _
def valsP : Rd (List Int) := (uP 32).bind fun c => if 8 < c then fun _ => .err 4 else loopP c
theorem valsP_stbl : Stbl valsP := (uP_stbl 32).bind fun c => by
  split
  · exact Stbl.fail _ (by decide)
  · exact loopP_stbl c
theorem lp_vals {l : List Int} (hb : Bytes l) (hl : l.length < 4611686018427387904) {cnt : Nat} (hc : cnt ≤ 8) (n e : Int) : ∀ (d i pos k : Nat) (acc : List Int), i + d = cnt → acc.length = i → pos ≤ l.length →
    iterT 4 0 2 (fun r => l28_1.den (Tab.fn a28) ([(cnt : Int), n, e] ++ r.1) ([] ++ r.2.1) ([dl l] ++ r.2.2)) (k + (d + 1)) ([0, 0, (pos : Int), (i : Int)], [], [[], dl acc]) =
      some (match loopP d (l.drop pos) with | .err e => .ret ([0, e], [], [[]]) | .ok vs m => .brk 2 ([0, 0, ((pos + m : Nat) : Int), (cnt : Int)], [], [[], dl (acc ++ vs)])) := by
  intro d
  induction d with
  | zero =>
    intro i pos k acc hi ha hp
    obtain rfl : i = cnt := by omega
    refine it_brk ?_
    simp [l28_1, T.den, E.B, E.I, cmB, vals, Vx.LE.L]
  | succ d ih =>
    intro i pos k acc hi ha hp
    have h16 := q_val (hb.drop pos)
    have h3 : (i : Int) < (cnt : Int) := by omega
    have h4 : (0 : Int) ≤ (pos : Int) := by omega
    have h5 : (pos : Int) ≤ (l.length : Nat) := by omega
    have ecut := cut_dl l pos
    have hlo : loopP (d + 1) (l.drop pos) = match valP (l.drop pos) with | .err e => .err e | .ok v n => (match (match loopP d ((l.drop pos).drop n) with | .err e => .err e | .ok r k => .ok (v :: r) (k + 0) : Res (List Int)) with | .err e => .err e | .ok b k => .ok b (n + k)) := by
      simp only [loopP]
      unfold Rd.bind
      cases valP (l.drop pos) with
      | err e => rfl
      | ok v n =>
        dsimp only
        cases loopP d ((l.drop pos).drop n) <;> rfl
    rw [hlo]
    have hnz := valP_stbl.nz (l.drop pos)
    have hle := valP_stbl.le (l.drop pos)
    generalize hv : valP (l.drop pos) = V at *
    cases V with
    | err er =>
      have hne : (er != 0) = true := bne_iff_ne.2 (hnz er rfl)
      refine it_ret ?_
      simp only [l28_1, T.den, E.B, E.I, cmB, vals, Vx.LE.L, List.cons_append, List.nil_append, List.append_nil, List.getD_cons_zero, List.getD_cons_succ, List.map_cons, List.map_nil, dl_len, h3, h4, h5, Int.le_refl, decide_true, Bool.and_true, cond_true, ecut, e28_16, h16, R.fits, List.length_cons, List.length_nil, Nat.reduceAdd, hne]
      rfl
    | ok v n' =>
      have hn := hle v n' rfl
      rw [List.length_drop] at hn
      have e1 : arI .add .i64 (pos : Int) (n' : Int) = ((pos + n' : Nat) : Int) := by show IntKind.i64.wrap ((pos : Int) + (n' : Int)) = _; rw [wi (by omega) (by omega)]; omega
      have e2 : arI .add .u64 (i : Int) 1 = ((i + 1 : Nat) : Int) := by show IntKind.u64.wrap ((i : Int) + 1) = _; rw [wu (by omega) (by omega)]; omega
      have h6 : ((acc.length : Nat) : Int) ≤ 3909374676536 := by omega
      have h16 : F16 [] [] [dl (l.drop pos)] = some ([v, (n' : Int), 0], [], []) := h16
      have h := ih (i + 1) (pos + n') k (acc ++ [v]) (by omega) (by simp [ha]) (by omega)
      rw [← List.drop_drop] at h
      refine it_nxt (r' := ([0, 0, ((pos + n' : Nat) : Int), ((i + 1 : Nat) : Int)], [], [[], dl (acc ++ [v])])) ?_ rfl (h.trans ?_)
      · have e3 : dl acc ++ [D.i v] = dl (acc ++ [v]) := by simp [dl]
        have h7 : ((([D.i v] : List D).length : Nat) : Int) ≤ 3909374676536 := by simp
        simp only [l28_1, T.den, E.B, E.I, cmB, vals, Vx.LE.L, CE.D, mkD, List.cons_append, List.nil_append, List.append_nil, List.getD_cons_zero, List.getD_cons_succ, List.map_cons, List.map_nil, dl_len, h3, h4, h5, Int.le_refl, decide_true, Bool.and_true, cond_true, ecut, e28_16, h16, h6, e1, e2]
        have hf : R.fits ([v, (n' : Int), 0], [], []) 3 0 0 = true := rfl
        simp only [hf, List.cons_append, List.nil_append, List.append_nil, List.getD_cons_zero, List.getD_cons_succ, bne_self_eq_false, cond_false, h6, h7, decide_true, Bool.and_true, cond_true, e1, e3]
      · dsimp only
        generalize loopP d ((l.drop pos).drop n') = W
        cases W with
        | err e => rfl
        | ok r m =>
          show some _ = some _
          congr 4
          simp [Nat.add_assoc]
theorem q_vals {l : List Int} (hb : Bytes l) (hl : l.length < 4611686018427387904) : F28 [] [] [dl l] = some (match valsP l with | .err e => ([0, e], [], [[]]) | .ok vs n => ([(n : Int), 0], [], [dl vs])) := by
  have h31 := q_U hb (bits := 32) (by decide) (by decide) (by omega)
  have hnz := (uP_stbl 32).nz l
  have hle := (uP_stbl 32).le l
  refine of_ret ?_
  unfold t28 valsP
  rw [rd_bind]
  generalize hu : uP 32 l = V at *
  cases V with
  | err e =>
    refine d_callx [32] [] [dl l] _ e28_31 rfl rfl rfl h31 rfl ?_
    have hne : (e != 0) = true := bne_iff_ne.2 (hnz e rfl)
    refine d_ite (fun _ => rfl) fun h => ?_
    have : (e != 0) = false := h
    rw [hne] at this; cases this
  | ok c n =>
    have hn := hle c n rfl
    refine d_callx [32] [] [dl l] _ e28_31 rfl rfl rfl h31 rfl ?_
    refine d_ite (fun h => by cases h) fun _ => ?_
    by_cases h8 : 8 < c
    · refine d_ite (fun _ => ?_) fun h => ?_
      · simp only [if_pos h8]; rfl
      · have : decide ((c : Int) > 8) = false := h
        rw [decide_eq_false_iff_not] at this; omega
    · refine d_ite (fun h => ?_) fun _ => ?_
      · have : decide ((c : Int) > 8) = true := h
        rw [decide_eq_true_eq] at this; omega
      obtain ⟨k, hk⟩ := fuel_eq (c + 1) (by omega)
      have hlp := lp_vals hb hl (cnt := c) (by omega) (n : Int) 0 c 0 n k [] (by omega) rfl hn
      rw [← hk] at hlp
      simp only [if_neg h8]
      generalize loopP c (l.drop n) = W at hlp ⊢
      cases W with
      | err e => exact d_lp_ret hlp
      | ok vs m =>
        refine d_lp _ hlp rfl ?_
        rfl
theorem loopP_len : ∀ (d : Nat) (l : List Int) vs n, loopP d l = .ok vs n → vs.length = d
  | 0, l, vs, n, h => by cases h; rfl
  | d + 1, l, vs, n, h => by
    simp only [loopP] at h
    unfold Rd.bind at h
    split at h
    · cases h
    · split at h
      · cases h
      · rename_i h2
        try dsimp only at h2
        split at h2
        · cases h2
        · rename_i r m h3
          cases h2
          cases h
          simp [loopP_len d _ _ _ h3]
theorem valsP_len {l : List Int} {vs n} (h : valsP l = .ok vs n) : vs.length ≤ 8 := by
  unfold valsP Rd.bind at h
  split at h
  · cases h
  · split at h
    · cases h
    · rename_i h2
      try dsimp only at h2
      split at h2
      · cases h2
      · cases h
        rw [loopP_len _ _ _ _ h2]
        omega
def funcP : Rd (List Int × List Int) := byteP.bind fun x => if x = 96 then valsP.bind fun a => valsP.bind fun b => fun _ => .ok (a, b) 0 else fun _ => .err 2
theorem funcP_stbl : Stbl funcP := byteP_stbl.bind fun x => by
  split
  · exact valsP_stbl.bind fun a => valsP_stbl.bind fun b => Stbl.pure _
  · exact Stbl.fail _ (by decide)
theorem q_func {l : List Int} (hb : Bytes l) (hl : l.length < 4611686018427387904) : F8 [] [] [dl l] = some (match funcP l with | .err e => ([0, e], [], [[], []]) | .ok (a, b) n => ([(n : Int), 0], [], [dl a, dl b])) := by
  refine of_ret ?_
  unfold t8 funcP
  rw [rd_bind]
  cases l with
  | nil => exact d_ite (fun _ => rfl) fun h => by cases h
  | cons x r =>
    have e0 : (((dl (x :: r)).getD (0 : Int).toNat (.i 0)).cell 0).int = x := rfl
    have el : (((dl (x :: r)).length : Nat) : Int) = (r.length : Int) + 1 := by simp [dl]
    have hr : r.length < 4611686018427387904 := by simp at hl; omega
    have hbr : Bytes r := hb.drop 1
    refine d_ite (fun h => ?_) fun _ => ?_
    · have : ((((dl (x :: r)).length : Nat) : Int) == 0) = true := h
      rw [el, beq_iff_eq] at this; omega
    refine d_rq (by show decide ((0 : Int) < (((dl (x :: r)).length : Nat) : Int)) = true; rw [el, decide_eq_true_eq]; omega) ?_
    simp only [show byteP (x :: r) = Res.ok x 1 from rfl, List.drop_succ_cons, List.drop_zero]
    by_cases h96 : x = 96
    case neg =>
      refine d_ite (fun _ => ?_) fun h => ?_
      · simp only [if_neg h96]; rfl
      · have : ((((dl (x :: r)).getD (0 : Int).toNat (.i 0)).cell 0).int != 96) = false := h
        rw [e0] at this
        exact absurd (bne_iff_ne.2 h96) (by rw [this]; decide)
    refine d_ite (fun h => ?_) fun _ => ?_
    · have : ((((dl (x :: r)).getD (0 : Int).toNat (.i 0)).cell 0).int != 96) = true := h
      rw [e0, h96] at this; cases this
    simp only [if_pos h96]
    rw [rd_bind]
    refine d_rq (by show (decide ((1 : Int) ≤ (((dl (x :: r)).length : Nat) : Int)) && decide ((((dl (x :: r)).length : Nat) : Int) ≤ (((dl (x :: r)).length : Nat) : Int))) = true; rw [el]; simp; omega) ?_
    have c1 : ((dl (x :: r)).take (((dl (x :: r)).length : Nat) : Int).toNat).drop (1 : Int).toNat = dl r := by
      rw [dl_len]; exact cut_dl (x :: r) 1
    show T.den _ _ _ _ ([dl (x :: r)] ++ [((dl (x :: r)).take (((dl (x :: r)).length : Nat) : Int).toNat).drop (1 : Int).toNat]) = _
    rw [c1]
    have h1 := q_vals hbr hr
    have hnz := valsP_stbl.nz r
    have hle := valsP_stbl.le r
    generalize valsP r = V at *
    cases V with
    | err e =>
      refine d_callx [] [] [dl r] _ e8_28 rfl rfl rfl h1 rfl ?_
      refine d_ite (fun _ => rfl) fun h => ?_
      have : (e != 0) = false := h
      rw [bne_iff_ne.2 (hnz e rfl)] at this; cases this
    | ok a n =>
      have hn := hle a n rfl
      refine d_callx [] [] [dl r] _ e8_28 rfl rfl rfl h1 rfl ?_
      refine d_ite (fun h => by cases h) fun _ => ?_
      have ea : arI .add .i64 1 (n : Int) = ((1 + n : Nat) : Int) := by show IntKind.i64.wrap (1 + (n : Int)) = _; rw [wi (by omega) (by omega)]; omega
      refine d_rq (by show (decide ((0 : Int) ≤ arI .add .i64 1 (n : Int)) && (decide (arI .add .i64 1 (n : Int) ≤ (((dl (x :: r)).length : Nat) : Int)) && decide ((((dl (x :: r)).length : Nat) : Int) ≤ (((dl (x :: r)).length : Nat) : Int)))) = true; rw [el, ea]; simp; omega) ?_
      have c2 : ((dl (x :: r)).take (((dl (x :: r)).length : Nat) : Int).toNat).drop (arI .add .i64 1 (n : Int)).toNat = dl (r.drop n) := by
        rw [dl_len, ea, cut_dl (x :: r) (1 + n), ← List.drop_drop]; rfl
      show T.den _ _ _ _ ([dl (x :: r)] ++ [dl r] ++ [dl a] ++ [((dl (x :: r)).take (((dl (x :: r)).length : Nat) : Int).toNat).drop (arI .add .i64 1 (n : Int)).toNat]) = _
      rw [c2]
      have h2 := q_vals (hbr.drop n) (by rw [List.length_drop]; omega)
      have hnz2 := valsP_stbl.nz (r.drop n)
      have hle2 := valsP_stbl.le (r.drop n)
      dsimp only
      rw [rd_bind]
      generalize valsP (r.drop n) = W at *
      cases W with
      | err e =>
        refine d_callx [] [] [dl (r.drop n)] _ e8_28 rfl rfl rfl h2 rfl ?_
        refine d_ite (fun _ => rfl) fun h => ?_
        have : (e != 0) = false := h
        rw [bne_iff_ne.2 (hnz2 e rfl)] at this; cases this
      | ok b m =>
        have hm := hle2 b m rfl
        rw [List.length_drop] at hm
        refine d_callx [] [] [dl (r.drop n)] _ e8_28 rfl rfl rfl h2 rfl ?_
        refine d_ite (fun h => by cases h) fun _ => ?_
        have eb : arI .add .i64 (arI .add .i64 1 (n : Int)) (m : Int) = ((1 + (n + (m + 0)) : Nat) : Int) := by rw [ea]; show IntKind.i64.wrap (((1 + n : Nat) : Int) + (m : Int)) = _; rw [wi (by omega) (by omega)]; omega
        show some (Out.ret ([arI .add .i64 (arI .add .i64 1 (n : Int)) (m : Int), 0], [], [dl a, dl b])) = _
        rw [eb]
theorem funcP_len {l : List Int} {a b n} (h : funcP l = .ok (a, b) n) : a.length ≤ 8 ∧ b.length ≤ 8 := by
  unfold funcP Rd.bind at h
  split at h
  · cases h
  · split at h
    · cases h
    · rename_i h2
      try dsimp only at h2
      split at h2
      · dsimp only at h2
        split at h2
        · cases h2
        · rename_i h3
          try dsimp only at h2
          split at h2
          · cases h2
          · rename_i h4
            try dsimp only at h4
            split at h4
            · cases h4
            · rename_i h5
              cases h4
              cases h2
              cases h
              exact ⟨valsP_len h3, valsP_len h5⟩
      · cases h2
theorem lp_same (l : List D) (hl : l.length < 4611686018427387904) : ∀ (d i k : Nat), i + d = l.length → iterT 1 1 0 (fun r => l29_1.den (Tab.fn a29) ([] ++ r.1) ([] ++ r.2.1) ([l, l] ++ r.2.2)) (k + (d + 1)) ([(i : Int)], [false], []) = some (.brk 2 ([(l.length : Int)], [false], [])) := by
  intro d
  induction d with
  | zero =>
    intro i k hi
    obtain rfl : i = l.length := by omega
    refine it_brk ?_
    simp [l29_1, T.den, E.B, E.I, cmB, vals]
  | succ d ih =>
    intro i k hi
    have h3 : (i : Int) < (l.length : Nat) := by omega
    have h4 : (0 : Int) ≤ (i : Int) := by omega
    have e2 : arI .add .i64 (i : Int) 1 = ((i + 1 : Nat) : Int) := by show IntKind.i64.wrap ((i : Int) + 1) = _; rw [wi (by omega) (by omega)]; omega
    refine it_nxt (r' := ([((i + 1 : Nat) : Int)], [false], [])) ?_ rfl (ih (i + 1) k (by omega))
    simp only [l29_1, T.den, E.B, E.I, cmB, vals, List.cons_append, List.nil_append, List.append_nil, List.getD_cons_zero, List.getD_cons_succ, List.map_cons, List.map_nil, h3, h4, ge_iff_le, decide_true, cond_true, bne_self_eq_false, cond_false, e2]
theorem q_sameints (l : List D) (hl : l.length < 4611686018427387904) : F29 [] [] [l, l] = some ([], [true], []) := by
  refine of_ret ?_
  unfold t29
  refine d_ite (fun h => ?_) fun _ => ?_
  · have : ((l.length : Int) != (l.length : Int)) = true := h
    simp at this
  obtain ⟨k, hk⟩ := fuel_eq (l.length + 1) (by omega)
  have h := lp_same l hl l.length 0 k (by omega)
  rw [← hk] at h
  exact d_lp _ h rfl rfl
theorem q_same (a b : List D) (ha : a.length < 4611686018427387904) (hb : b.length < 4611686018427387904) : F10 [] [] [a, b, a, b] = some ([], [true], []) := by
  refine of_ret ?_
  unfold t10
  refine d_callx [] [] [a, a] _ e10_29 rfl rfl rfl (q_sameints a ha) rfl ?_
  refine d_ite (fun _ => ?_) fun h => by cases h
  exact d_callx [] [] [b, b] _ e10_29 rfl rfl rfl (q_sameints b hb) rfl rfl
/-- The error of a byte as a type. -/
def valE (x : Int) : Int := if x = 127 ∨ x = 126 then 0 else if x = 125 ∨ x = 124 ∨ x = 123 ∨ x = 112 ∨ x = 111 then 3 else 2
theorem valP_cons (x : Int) (r : List Int) : valP (x :: r) = if valE x = 0 then .ok x 1 else .err (valE x) := by
  unfold valP valE Rd.bind
  simp only [byteP]
  by_cases h1 : x = 127 ∨ x = 126
  · simp only [if_pos h1]; rfl
  · by_cases h2 : x = 125 ∨ x = 124 ∨ x = 123 ∨ x = 112 ∨ x = 111
    · simp only [if_neg h1, if_pos h2]; rfl
    · simp only [if_neg h1, if_neg h2]; rfl
theorem valP_nil : valP [] = .err 1 := rfl
theorem drop_cons {l : List Int} {p : Nat} (h : p < l.length) : l.drop p = l.getD p 0 :: l.drop (p + 1) := by
  rw [List.drop_eq_getElem_cons h, List.getD_eq_getElem?_getD, List.getElem?_eq_getElem h]; rfl
def limP : Rd (Int × Bool × Int) := byteP.bind fun x => if 1 < x then fun _ => .err 2 else (uP 32).bind fun a => if x = 0 then fun _ => .ok ((a : Int), false, 0) 0 else (uP 32).bind fun b => fun _ => .ok ((a : Int), true, (b : Int)) 0
theorem uP_lt {bits : Nat} {l : List Int} {a n : Nat} (h : uP bits l = .ok a n) : a < 2 ^ bits := by
  unfold uP at h
  split at h
  · split at h
    · cases h; assumption
    · cases h
  · split at h <;> cases h
def limO (l : List Int) : Vx.R := match limP l with | .err e => ([0, 0, 0, e], [false], []) | .ok (a, c, b) n => ([a, b, (n : Int), 0], [c], [])
theorem q_limits {l : List Int} (hb : Bytes l) (hl : l.length < 4611686018427387904) : F12 [] [] [dl l] = some (limO l) := by
  refine of_ret ?_
  unfold t12 limO limP
  rw [rd_bind]
  cases l with
  | nil => exact d_itT rfl rfl
  | cons x r =>
    have e0 : (((dl (x :: r)).getD (0 : Int).toNat (.i 0)).cell 0).int = x := rfl
    have el : (((dl (x :: r)).length : Nat) : Int) = (r.length : Int) + 1 := by simp [dl]
    have hr : r.length < 4611686018427387904 := by simp at hl; omega
    have hbr : Bytes r := hb.drop 1
    have hx := hb x List.mem_cons_self
    refine d_itF (eq_f (by rw [show (((E.ln 0)).I ([] : List Int) ([] : List Bool) [dl (x :: r)]) = (((dl (x :: r)).length : Nat) : Int) from rfl, el]; show (r.length : Int) + 1 ≠ 0; omega)) ?_
    refine d_rq (by show decide ((0 : Int) < (((dl (x :: r)).length : Nat) : Int)) = true; rw [el, decide_eq_true_eq]; omega) ?_
    simp only [show byteP (x :: r) = Res.ok x 1 from rfl, List.drop_succ_cons, List.drop_zero]
    by_cases h1 : 1 < x
    · refine d_itT (decide_eq_true (show (1 : Int) < x from h1)) ?_
      simp only [if_pos h1]; rfl
    refine d_itF (decide_eq_false (show ¬ (1 : Int) < x from h1)) ?_
    simp only [if_neg h1]
    refine d_rq (by show (decide ((1 : Int) ≤ (((dl (x :: r)).length : Nat) : Int)) && decide ((((dl (x :: r)).length : Nat) : Int) ≤ (((dl (x :: r)).length : Nat) : Int))) = true; rw [el]; simp <;> omega) ?_
    refine d_lst [dl r] ?_ ?_
    · have := cut_dl (x :: r) 1
      rw [← dl_len] at this
      exact congrArg (fun y => [y]) this
    have hu := q_U hbr (bits := 32) (by decide) (by decide) (by omega)
    have hlt := fun a n => uP_lt (bits := 32) (l := r) (a := a) (n := n)
    have hnz := (uP_stbl 32).nz r
    have hle := (uP_stbl 32).le r
    rw [rd_bind]
    generalize uP 32 r = V at *
    cases V with
    | err e =>
      have hne : (e != 0) = true := bne_iff_ne.2 (hnz e rfl)
      refine d_callx [32] [] [dl r] ([0, 0, e], [], []) e12_31 rfl rfl rfl hu rfl ?_
      refine d_rq ?_ (d_itF ?_ ?_)
      · show ((e != 0) || decide ((0 : Int) < (((dl (x :: r)).length : Nat) : Int))) = true
        rw [hne]; rfl
      · show (!(e != 0)) = false
        rw [hne]; rfl
      · exact d_itT hne rfl
    | ok a n =>
      have ha := hlt a n rfl
      have hn := hle a n rfl
      refine d_callx [32] [] [dl r] ([(a : Int), (n : Int), 0], [], []) e12_31 rfl rfl rfl hu rfl ?_
      refine d_rq ?_ (d_itT rfl ?_)
      · show (false || decide ((0 : Int) < (((dl (x :: r)).length : Nat) : Int))) = true
        rw [el]; simp <;> omega
      have ew : IntKind.i64.wrap (a : Int) = (a : Int) := wi (by omega) (by omega)
      have e1 : arI .add .i64 1 (n : Int) = ((1 + n : Nat) : Int) := by rw [addI (by omega) (by omega)]; omega
      by_cases h0 : x = 0
      · refine d_itT (eq_t h0) (d_itF rfl ?_)
        show some (Out.ret ([IntKind.i64.wrap (a : Int), 0, arI .add .i64 1 (n : Int), 0], [false], [])) = _
        rw [ew, e1]
        simp only [if_pos h0]
        rfl
      · refine d_itF (eq_f h0) ?_
        refine d_rq (by show (decide ((0 : Int) ≤ arI .add .i64 1 (n : Int)) && (decide (arI .add .i64 1 (n : Int) ≤ (((dl (x :: r)).length : Nat) : Int)) && decide ((((dl (x :: r)).length : Nat) : Int) ≤ (((dl (x :: r)).length : Nat) : Int)))) = true; rw [el, e1]; simp; omega) ?_
        refine d_lst [dl (r.drop n)] ?_ ?_
        · have := cut_dl (x :: r) (1 + n)
          rw [← dl_len, show (x :: r).drop (1 + n) = r.drop n by rw [Nat.add_comm]; rfl, ← e1] at this
          exact congrArg (fun y => [y]) this
        simp only [if_neg h0]
        rw [rd_bind]
        have hu2 := q_U (hbr.drop n) (bits := 32) (by decide) (by decide) (by rw [List.length_drop]; omega)
        have hlt2 := fun a m => uP_lt (bits := 32) (l := r.drop n) (a := a) (n := m)
        have hnz2 := (uP_stbl 32).nz (r.drop n)
        have hle2 := (uP_stbl 32).le (r.drop n)
        generalize uP 32 (r.drop n) = W at *
        cases W with
        | err e =>
          refine d_callx [32] [] [dl (r.drop n)] ([0, 0, e], [], []) e12_31 rfl rfl rfl hu2 rfl ?_
          exact d_itT (bne_iff_ne.2 (hnz2 e rfl)) rfl
        | ok b m =>
          have hb2 := hlt2 b m rfl
          have hm2 := hle2 b m rfl
          rw [List.length_drop] at hm2
          refine d_callx [32] [] [dl (r.drop n)] ([(b : Int), (m : Int), 0], [], []) e12_31 rfl rfl rfl hu2 rfl ?_
          refine d_itF rfl ?_
          show some (Out.ret ([IntKind.i64.wrap (a : Int), IntKind.i64.wrap (b : Int), arI .add .i64 (arI .add .i64 1 (n : Int)) (m : Int), 0], [true], [])) = _
          rw [ew, e1, wi (n := (b : Int)) (by omega) (by omega), addI (by omega) (by omega)]
          have : ((1 + n : Nat) : Int) + (m : Int) = ((1 + (n + (m + 0)) : Nat) : Int) := by omega
          rw [this]
def blockP : Rd Int := fun l => if l.getD 0 0 = 64 then .ok (-64) 1 else match valP l with | .ok v _ => .ok (v - 128) 1 | .err e => if e ≠ 2 then .err e else match sP 33 l with | .err e => .err e | .ok n k => if n < 0 then .err 2 else .ok n k
def blockO (l : List Int) : Vx.R := match blockP l with | .err e => ([0, 0, e], [], []) | .ok a n => ([a, (n : Int), 0], [], [])
theorem q_block {l : List Int} (hb : Bytes l) (hl : l.length < 4611686018427387904) : F14 [] [] [dl l] = some (blockO l) := by
  have hv := q_val hb
  have hs := q_S hb (bits := 33) (by decide) (by decide) (by omega)
  refine of_ret ?_
  unfold t14 blockO blockP
  have key : ∀ r : Vx.R, r = ((match (match valP l with | .ok v _ => .ok (v - 128) 1 | .err e => if e ≠ 2 then .err e else match sP 33 l with | .err e => .err e | .ok n k => if n < 0 then .err 2 else .ok n k : Res Int) with | .err e => ([0, 0, e], [], []) | .ok a n => ([a, (n : Int), 0], [], [])) : Vx.R) →
      (Vx.T.call 16 [] [] [(.v 0)] 3 0 0 (.ite (.cm .neq (.iv 2) (.n 2)) (.ite (.cm .neq (.iv 2) (.n 0)) (.ret [(.n 0), (.n 0), (.iv 2)] [] []) (.ret [(.ar .sub .i64 (.iv 0) (.n 128)), (.n 1), (.n 0)] [] [])) (.call 33 [(.n 33)] [] [(.v 0)] 3 0 0 (.ite (.cm .neq (.iv 5) (.n 0)) (.ret [(.n 0), (.n 0), (.iv 5)] [] []) (.ite (.cm .lss (.iv 3) (.n 0)) (.ret [(.n 0), (.n 0), (.n 2)] [] []) (.ret [(.iv 3), (.iv 4), (.n 0)] [] [])))))).den (Tab.fn a14) [] [] [dl l] = some (.ret r) := by
    rintro r rfl
    have hnz := valP_stbl.nz l
    have hin : ∀ v n, valP l = .ok v n → 0 ≤ v ∧ v < 256 := fun v n h => by
      cases l with
      | nil => cases h
      | cons x q =>
        rw [valP_cons] at h
        split at h
        · cases h; exact hb _ List.mem_cons_self
        · cases h
    generalize valP l = V at *
    cases V with
    | err e =>
      refine d_callx [] [] [dl l] ([0, 0, e], [], []) e14_16 rfl rfl rfl hv rfl ?_
      by_cases h2 : e = 2
      · subst h2
        refine d_itF rfl ?_
        simp only [ne_eq, not_true_eq_false, if_false]
        have hsz := (sP_stbl 33).nz l
        generalize sP 33 l = W at *
        cases W with
        | err e =>
          refine d_callx [33] [] [dl l] ([0, 0, e], [], []) e14_33 rfl rfl rfl hs rfl ?_
          exact d_itT (bne_iff_ne.2 (hsz e rfl)) rfl
        | ok a n =>
          refine d_callx [33] [] [dl l] ([a, (n : Int), 0], [], []) e14_33 rfl rfl rfl hs rfl ?_
          refine d_itF rfl ?_
          by_cases h0 : a < 0
          · refine d_itT (lt_t h0) ?_
            simp only [if_pos h0]; rfl
          · refine d_itF (decide_eq_false h0) ?_
            simp only [if_neg h0]; rfl
      · refine d_itT (bne_iff_ne.2 h2) (d_itT (bne_iff_ne.2 (hnz e rfl)) ?_)
        simp only [ne_eq, h2, not_false_eq_true, if_true]
        rfl
    | ok v n =>
      have hv' := hin v n rfl
      refine d_callx [] [] [dl l] ([v, (n : Int), 0], [], []) e14_16 rfl rfl rfl hv rfl ?_
      refine d_itT rfl (d_itF rfl ?_)
      show some (Out.ret ([arI .sub .i64 v 128, 1, 0], [], [])) = _
      rw [subI (by omega) (by omega)]
      rfl
  cases l with
  | nil =>
    refine d_rq rfl (d_itF rfl ?_)
    refine key _ ?_
    rfl
  | cons x r =>
    have el : (((dl (x :: r)).length : Nat) : Int) = (r.length : Int) + 1 := by simp [dl]
    refine d_rq ?_ (d_itT ?_ (d_rq ?_ ?_))
    · show (!(decide ((((dl (x :: r)).length : Nat) : Int) > 0)) || decide ((0 : Int) < (((dl (x :: r)).length : Nat) : Int))) = true
      rw [el]; simp <;> omega
    · show decide ((((dl (x :: r)).length : Nat) : Int) > 0) = true
      rw [el]; simp <;> omega
    · show decide ((0 : Int) < (((dl (x :: r)).length : Nat) : Int)) = true
      rw [el]; simp <;> omega
    by_cases h64 : x = 64
    · refine d_itT (eq_t h64) ?_
      rw [if_pos (show (x :: r).getD 0 0 = 64 from h64)]
      rfl
    · refine d_itF (eq_f h64) ?_
      rw [if_neg (show ¬ (x :: r).getD 0 0 = 64 from h64)]
      exact key _ rfl
def right (n : Int) : Bool := decide (n ≥ 0) && decide (n < 4294967296)
theorem q_right (n : Int) : F37 [n] [] [] = some ([], [right n], []) := by
  refine of_ret ?_
  unfold t37
  rfl
theorem right_iff {n : Int} : right n = true ↔ ∃ m : Nat, n = m ∧ m < 2 ^ 32 := by
  unfold right
  simp only [Bool.and_eq_true, decide_eq_true_eq]
  constructor
  · rintro ⟨h1, h2⟩
    exact ⟨n.toNat, by omega, by omega⟩
  · rintro ⟨m, rfl, h⟩
    omega
def goodB (m : List Int) : Bool := m.all fun x => x == 127 || x == 126
theorem goodB_cons (x : Int) (m : List Int) : goodB (x :: m) = ((x == 127 || x == 126) && goodB m) := rfl
theorem lp_putVals {b y : List D} {m : List Int} (B0 : List D) (hl : B0.length + m.length ≤ 17592186044400) : ∀ (d i k : Nat), i + d = m.length →
    iterT 1 1 2 (fun r => l35_1.den (Tab.fn a35) ([] ++ r.1) ([] ++ r.2.1) ([b, dl m, y] ++ r.2.2)) (k + (d + 1)) ([(i : Int)], [false], [[], B0 ++ dl (m.take i)]) =
      some (if goodB (m.drop i) = true then .brk 2 ([(m.length : Int)], [false], [[], B0 ++ dl m]) else .ret ([], [false], [[]])) := by
  intro d
  induction d with
  | zero =>
    intro i k hi
    obtain rfl : i = m.length := by omega
    rw [List.drop_length, if_pos (show goodB [] = true from rfl), List.take_length]
    refine it_brk ?_
    unfold l35_1
    exact d_itF (show decide ((m.length : Int) < (((dl m).length : Nat) : Int)) = false by rw [dl_len]; simp) rfl
  | succ d ih =>
    intro i k hi
    have hlt : decide ((i : Int) < (((dl m).length : Nat) : Int)) = true := by rw [dl_len, decide_eq_true_eq]; omega
    have ex : (((dl m).getD (i : Int).toNat (.i 0)).cell 0).int = m.getD i 0 := by rw [Int.toNat_natCast, ix_dl]
    have hb : ((((dl m).getD (i : Int).toNat (.i 0)).cell 0).int != 127 && (((dl m).getD (i : Int).toNat (.i 0)).cell 0).int != 126) = !(m.getD i 0 == 127 || m.getD i 0 == 126) := by
      rw [ex, Bool.not_or]; rfl
    rw [drop_cons (show i < m.length by omega), goodB_cons]
    by_cases hg : (m.getD i 0 == 127 || m.getD i 0 == 126) = true
    · rw [hg] at hb ⊢
      rw [Bool.true_and]
      refine it_nxt (r' := ([((i + 1 : Nat) : Int)], [false], [[], B0 ++ dl (m.take (i + 1))])) ?_ rfl (ih (i + 1) k (by omega))
      unfold l35_1
      refine d_itT hlt (d_rq (decide_eq_true (show (0 : Int) ≤ (i : Int) by omega)) (d_lb _ hb (d_itF rfl ?_)))
      have ew : IntKind.u8.wrap (((dl m).getD (i : Int).toNat (.i 0)).cell 0).int = m.getD i 0 := by
        rw [ex, wrap_u8]
        simp only [Bool.or_eq_true, beq_iff_eq] at hg
        omega
      refine d_lst [[.i (m.getD i 0)]] (by rw [← ew]; rfl) (d_rq ?_ (d_lst [B0 ++ dl (m.take i) ++ [.i (m.getD i 0)]] rfl ?_))
      · refine an_t (decide_eq_true ?_) rfl
        show (((B0 ++ dl (m.take i)).length : Nat) : Int) ≤ 17592186044416
        rw [List.length_append, dl_len, List.length_take]; omega
      · have e3 : B0 ++ dl (m.take i) ++ [D.i (m.getD i 0)] = B0 ++ dl (m.take (i + 1)) := by
          have e4 : m.take (i + 1) = m.take i ++ [m.getD i 0] := by
            rw [List.take_succ, List.getD_eq_getElem?_getD, List.getElem?_eq_getElem (by omega)]; rfl
          rw [e4, dl_app, List.append_assoc]
          rfl
        rw [e3]
        show some (Out.nxt ([arI .add .i64 (i : Int) 1], [false], [[], B0 ++ dl (m.take (i + 1))])) = _
        rw [up1 i (by omega)]
    · have hg := Bool.eq_false_iff.2 hg
      rw [hg] at hb ⊢
      rw [Bool.false_and, if_neg (by decide)]
      refine it_ret ?_
      unfold l35_1
      exact d_itT hlt (d_rq (decide_eq_true (show (0 : Int) ≤ (i : Int) by omega)) (d_lb _ hb (d_itT rfl rfl)))
def putO (b : List D) (m : List Int) : Vx.R := if goodB m = true then ([], [decide (m.length ≤ 8)], [b ++ dl (uBytes m.length ++ m)]) else ([], [false], [[]])
theorem q_putVals (b : List D) (m : List Int) (hl : b.length + m.length ≤ 17592186044300) : F35 [] [] [b, dl m] = some (putO b m) := by
  have hp := q_putU (n := m.length) (by omega) b (by omega)
  have ht := uBytes_ten (n := m.length) (by omega)
  refine of_ret ?_
  unfold t35
  have ew : IntKind.u64.wrap (((dl m).length : Nat) : Int) = (m.length : Int) := by rw [dl_len, wu (by omega) (by omega)]
  refine d_callx [(m.length : Int)] [] [b] _ e35_38 (congrArg (fun z => [z]) ew) rfl rfl hp rfl ?_
  obtain ⟨k, hk⟩ := fuel_eq (m.length + 1) (by omega)
  have h := lp_putVals (b := b) (y := b ++ dl (uBytes m.length)) (m := m) (b ++ dl (uBytes m.length)) (by rw [List.length_append, dl_len]; omega) m.length 0 k (by omega)
  rw [← hk, List.drop_zero, List.take_zero, show dl [] = [] from rfl, List.append_nil] at h
  unfold putO
  by_cases hg : goodB m = true
  · rw [if_pos hg] at h ⊢
    refine d_lp _ h rfl (d_rq rfl ?_)
    show some (Out.ret ([], [decide ((((dl m).length : Nat) : Int) ≤ 8)], [b ++ dl (uBytes m.length) ++ dl m])) = _
    rw [dl_app, List.append_assoc, dl_len]
    have : decide ((m.length : Int) ≤ 8) = decide (m.length ≤ 8) := by rw [Bool.eq_iff_iff, decide_eq_true_eq, decide_eq_true_eq]; omega
    rw [this]
  · rw [if_neg hg] at h ⊢
    exact d_lp_ret h
def okFn (p r : List Int) : Bool := (goodB p && decide (p.length ≤ 8)) && (goodB r && decide (r.length ≤ 8))
def funcBytes (p r : List Int) : List Int := 96 :: (uBytes p.length ++ p ++ (uBytes r.length ++ r))
theorem q_putFunc (b : List D) (p r : List Int) (hb : b.length ≤ 300) (hp : p.length ≤ 17592186043904) (hr : r.length ≤ 17592186043904) : F18 [] [] [b, dl p, dl r] = some (if okFn p r = true then ([0], [], [b ++ dl (funcBytes p r)]) else ([2], [], [[]])) := by
  refine of_ret ?_
  unfold t18
  have hc := q_clone b (by omega)
  have h1 := q_putVals (b ++ [.i 96]) p (by simp; omega)
  have cap : (decide (((b.length : Nat) : Int) ≤ 17592186044416) && decide ((1 : Int) ≤ 17592186044416)) = true := by simp; omega
  have ht := uBytes_ten (n := p.length) (by omega)
  unfold putO at h1
  have key : ∀ (y3 y4 : List D), (Vx.T.call 35 [] [] [(.v 5), (.v 1)] 0 1 1 (.ite (.nt (.bv 0)) (.ret [(.n 2)] [] [.nil]) (.call 35 [] [] [(.v 6), (.v 2)] 0 1 1 (.ite (.nt (.bv 1)) (.ret [(.n 2)] [] [.nil]) (.ret [(.n 0)] [] [(.v 7)]))))).den (Tab.fn a18) [] [] [b, dl p, dl r, y3, y4, b ++ [.i 96]] = some (.ret (if okFn p r = true then ([0], [], [b ++ dl (funcBytes p r)]) else ([2], [], [[]]))) := by
    intro y3 y4
    by_cases g1 : goodB p = true
    case neg =>
      rw [if_neg g1] at h1
      have hk : okFn p r = false := by unfold okFn; rw [Bool.eq_false_iff.2 g1]; rfl
      rw [hk, if_neg (by decide)]
      exact d_callx [] [] [b ++ [.i 96], dl p] ([], [false], [[]]) e18_35 rfl rfl rfl (by exact h1) rfl (d_itT rfl rfl)
    rw [if_pos g1] at h1
    refine d_callx [] [] [b ++ [.i 96], dl p] ([], [decide (p.length ≤ 8)], [b ++ [.i 96] ++ dl (uBytes p.length ++ p)]) e18_35 rfl rfl rfl (by exact h1) rfl ?_
    by_cases l1 : p.length ≤ 8
    case neg =>
      have hk : okFn p r = false := by unfold okFn; rw [decide_eq_false l1, Bool.and_false]; rfl
      rw [hk, if_neg (by decide), decide_eq_false l1]
      exact d_itT rfl rfl
    rw [decide_eq_true l1]
    refine d_itF rfl ?_
    have h2 := q_putVals (b ++ [.i 96] ++ dl (uBytes p.length ++ p)) r (by simp [dl_len]; omega)
    unfold putO at h2
    generalize hB2 : b ++ [.i 96] ++ dl (uBytes p.length ++ p) = B2 at h2 ⊢
    by_cases g2 : goodB r = true
    case neg =>
      rw [if_neg g2] at h2
      have hk : okFn p r = false := by unfold okFn; rw [Bool.eq_false_iff.2 g2, Bool.false_and, Bool.and_false]
      rw [hk, if_neg (by decide)]
      exact d_callx [] [] [B2, dl r] ([], [false], [[]]) e18_35 rfl rfl rfl (by exact h2) rfl (d_itT rfl rfl)
    rw [if_pos g2] at h2
    refine d_callx [] [] [B2, dl r] ([], [decide (r.length ≤ 8)], [B2 ++ dl (uBytes r.length ++ r)]) e18_35 rfl rfl rfl (by exact h2) rfl ?_
    by_cases l2 : r.length ≤ 8
    case neg =>
      have hk : okFn p r = false := by unfold okFn; rw [decide_eq_false l2, Bool.and_false, Bool.and_false]
      rw [hk, if_neg (by decide), decide_eq_false l2]
      exact d_itT rfl rfl
    rw [decide_eq_true l2]
    refine d_itF rfl ?_
    have hk : okFn p r = true := by unfold okFn; rw [g1, g2, decide_eq_true l1, decide_eq_true l2]; rfl
    rw [hk, if_pos rfl]
    have e : b ++ dl (funcBytes p r) = B2 ++ dl (uBytes r.length ++ r) := by
      rw [← hB2]
      simp [funcBytes, dl]
    rw [e]
    rfl
  have cap2 : (decide ((1 : Int) ≤ 17592186044416) && decide (((b.length : Nat) : Int) ≤ 17592186044416)) = true := by simp; omega
  have key1 := key b [.i 96]
  have key2 := key [.i 96] b
  refine d_both ?_ ?_
  · refine d_callx [] [] [b] ([], [], [b]) e18_36 rfl rfl rfl hc rfl ?_
    refine d_lst [[.i 96]] rfl (d_rq cap (d_lst [b ++ [.i 96]] rfl ?_))
    exact key1
  · refine d_lst [[.i 96]] rfl ?_
    refine d_callx [] [] [b] ([], [], [b]) e18_36 rfl rfl rfl hc rfl ?_
    refine d_rq cap (d_lst [b ++ [.i 96]] rfl ?_)
    exact key2
theorem loopP_back : ∀ (p m : List Int), goodB p = true → loopP p.length (p ++ m) = .ok p p.length
  | [], m, _ => rfl
  | x :: p, m, h => by
    rw [goodB_cons, Bool.and_eq_true] at h
    have hE : valE x = 0 := by
      have := h.1
      simp only [Bool.or_eq_true, beq_iff_eq] at this
      unfold valE; rw [if_pos this]
    show (valP.bind fun v => (loopP p.length).bind fun r => fun _ => .ok (v :: r) 0) (x :: (p ++ m)) = _
    rw [rd_bind, valP_cons, if_pos hE]
    simp only [List.drop_succ_cons, List.drop_zero]
    rw [rd_bind, loopP_back p m h.2]
    simp; omega
theorem valsP_back {p m : List Int} (hg : goodB p = true) (hl : p.length ≤ 8) : valsP (uBytes p.length ++ p ++ m) = .ok p ((uBytes p.length).length + p.length) := by
  unfold valsP
  rw [rd_bind, List.append_assoc, uP_back (by omega) _ (by decide) (by omega)]
  simp only [if_neg (show ¬ 8 < p.length by omega), List.drop_append_length]
  rw [loopP_back p m hg]
theorem funcP_back {p r m : List Int} (h : okFn p r = true) : funcP (funcBytes p r ++ m) = .ok (p, r) (funcBytes p r).length := by
  unfold okFn at h
  simp only [Bool.and_eq_true, decide_eq_true_eq] at h
  obtain ⟨⟨g1, l1⟩, g2, l2⟩ := h
  unfold funcP funcBytes
  rw [rd_bind]
  simp only [List.cons_append, byteP, if_true, List.drop_succ_cons, List.drop_zero]
  have e1 : uBytes p.length ++ p ++ (uBytes r.length ++ r) ++ m = uBytes p.length ++ p ++ (uBytes r.length ++ r ++ m) := by simp
  rw [rd_bind, e1, valsP_back g1 l1]
  simp only
  have e2 : (uBytes p.length ++ p ++ (uBytes r.length ++ r ++ m)).drop ((uBytes p.length).length + p.length) = uBytes r.length ++ r ++ m := by
    rw [← List.length_append]; exact List.drop_left
  rw [rd_bind, e2, valsP_back g2 l2]
  simp; omega
def okLm (mn mx : Int) (c : Bool) : Bool := right mn && right mx && (c || mx == 0)
def limBytes (mn mx : Int) (c : Bool) : List Int := if c = true then 1 :: (uBytes mn.toNat ++ uBytes mx.toNat) else 0 :: uBytes mn.toNat
theorem q_putLimits (b : List D) (mn mx : Int) (c : Bool) (hb : b.length ≤ 400) : F22 [mn, mx] [c] [b] = some (if okLm mn mx c = true then ([0], [], [b ++ dl (limBytes mn mx c)]) else ([2], [], [[]])) := by
  refine of_ret ?_
  unfold t22 okLm
  have hc := q_clone b (by omega)
  refine d_callx [mn] [] [] ([], [right mn], []) e22_37 rfl rfl rfl (q_right mn) rfl ?_
  by_cases r1 : right mn = true
  case neg =>
    rw [Bool.eq_false_iff.2 r1, if_neg (by simp)]
    exact d_itF rfl rfl
  rw [r1]
  obtain ⟨n, rfl, hn⟩ := right_iff.1 r1
  refine d_itT rfl ?_
  refine d_callx [mx] [] [] ([], [right mx], []) e22_37 rfl rfl rfl (q_right mx) rfl ?_
  obtain ⟨qq, hqq⟩ : ∃ q, q = (!right mx || (!c && (mx != 0))) := ⟨_, rfl⟩
  refine d_lb qq (by rw [hqq]; rfl) ?_
  by_cases hok : (right mx && (c || mx == 0)) = true
  case neg =>
    have h1 : qq = true := by
      rw [hqq]
      have := Bool.eq_false_iff.2 hok
      cases hr : right mx <;> cases c <;> simp_all
    rw [show (true && right mx && (c || mx == 0)) = false by rw [Bool.true_and]; exact Bool.eq_false_iff.2 hok, if_neg (by decide)]
    exact d_itT h1 rfl
  have h1 : qq = false := by
    rw [hqq]
    cases hr : right mx <;> cases c <;> simp_all
  rw [show (true && right mx && (c || mx == 0)) = true by rw [Bool.true_and]; exact hok, if_pos rfl]
  have r2 : right mx = true := by cases hr : right mx <;> simp_all
  rw [r2]
  obtain ⟨m, rfl, hm⟩ := right_iff.1 r2
  refine d_itF h1 ?_
  have cap : (decide ((1 : Int) ≤ 17592186044416) && decide (((b.length : Nat) : Int) ≤ 17592186044416)) = true := by simp; omega
  have cap2 : (decide (((b.length : Nat) : Int) ≤ 17592186044416) && decide ((1 : Int) ≤ 17592186044416)) = true := by simp; omega
  have ew : IntKind.u64.wrap (n : Int) = (n : Int) := wu (by omega) (by omega)
  have ew2 : IntKind.u64.wrap (m : Int) = (m : Int) := wu (by omega) (by omega)
  have t1 := uBytes_ten (n := n) (by omega)
  have h2 : ∀ x : D, F38 [IntKind.u64.wrap (n : Int)] [] [b ++ [x]] = some ([], [], [b ++ [x] ++ dl (uBytes n)]) := fun x => by
    rw [ew]; exact q_putU (by omega) _ (by simp; omega)
  have h3 : ∀ x : D, F38 [IntKind.u64.wrap (m : Int)] [] [b ++ [x] ++ dl (uBytes n)] = some ([], [], [b ++ [x] ++ dl (uBytes n) ++ dl (uBytes m)]) := fun x => by
    rw [ew2]; exact q_putU (by omega) _ (by simp [dl_len]; omega)
  cases c with
  | false =>
    refine d_itT rfl ?_
    have e : b ++ dl (limBytes n m false) = b ++ [.i 0] ++ dl (uBytes n) := by simp [limBytes, dl]
    rw [e]
    refine d_both ?_ ?_
    · refine d_callx [] [] [b] ([], [], [b]) e22_36 rfl rfl rfl hc rfl ?_
      refine d_lst [[.i 0]] rfl (d_rq cap2 (d_lst [b ++ [.i 0]] rfl ?_))
      exact d_callx [IntKind.u64.wrap (n : Int)] [] [b ++ [.i 0]] _ e22_38 rfl rfl rfl (by exact (h2 _)) rfl rfl
    · refine d_lst [[.i 0]] rfl ?_
      refine d_callx [] [] [b] ([], [], [b]) e22_36 rfl rfl rfl hc rfl ?_
      refine d_rq cap2 (d_lst [b ++ [.i 0]] rfl ?_)
      exact d_callx [IntKind.u64.wrap (n : Int)] [] [b ++ [.i 0]] _ e22_38 rfl rfl rfl (by exact (h2 _)) rfl rfl
  | true =>
    refine d_itF rfl ?_
    have e : b ++ dl (limBytes n m true) = b ++ [.i 1] ++ dl (uBytes n) ++ dl (uBytes m) := by simp [limBytes, dl]
    rw [e]
    refine d_both ?_ ?_
    · refine d_callx [] [] [b] ([], [], [b]) e22_36 rfl rfl rfl hc rfl ?_
      refine d_lst [[.i 1]] rfl (d_rq cap2 (d_lst [b ++ [.i 1]] rfl ?_))
      refine d_callx [IntKind.u64.wrap (n : Int)] [] [b ++ [.i 1]] _ e22_38 rfl rfl rfl (by exact (h2 _)) rfl ?_
      exact d_callx [IntKind.u64.wrap (m : Int)] [] [b ++ [.i 1] ++ dl (uBytes n)] _ e22_38 rfl rfl rfl (by exact (h3 _)) rfl rfl
    · refine d_lst [[.i 1]] rfl ?_
      refine d_callx [] [] [b] ([], [], [b]) e22_36 rfl rfl rfl hc rfl ?_
      refine d_rq cap2 (d_lst [b ++ [.i 1]] rfl ?_)
      refine d_callx [IntKind.u64.wrap (n : Int)] [] [b ++ [.i 1]] _ e22_38 rfl rfl rfl (by exact (h2 _)) rfl ?_
      exact d_callx [IntKind.u64.wrap (m : Int)] [] [b ++ [.i 1] ++ dl (uBytes n)] _ e22_38 rfl rfl rfl (by exact (h3 _)) rfl rfl
theorem limP_back {mn mx : Int} {c : Bool} {q : List Int} (h : okLm mn mx c = true) : limP (limBytes mn mx c ++ q) = .ok (mn, c, mx) (limBytes mn mx c).length := by
  unfold okLm at h
  simp only [Bool.and_eq_true, Bool.or_eq_true, beq_iff_eq] at h
  obtain ⟨⟨r1, r2⟩, h3⟩ := h
  obtain ⟨n, rfl, hn⟩ := right_iff.1 r1
  obtain ⟨m, rfl, hm⟩ := right_iff.1 r2
  unfold limP limBytes
  rw [rd_bind]
  cases c with
  | false =>
    have h3 : (m : Int) = 0 := by simpa using h3
    simp only [Bool.false_eq_true, if_false, List.cons_append, byteP, List.drop_succ_cons, List.drop_zero, Int.toNat_natCast, show ¬ (1 : Int) < 0 by decide, if_true]
    rw [rd_bind, uP_back (by omega) _ (by decide) hn, h3]
    simp; omega
  | true =>
    simp only [if_true, List.cons_append, byteP, List.drop_succ_cons, List.drop_zero, Int.toNat_natCast, show ¬ (1 : Int) < 1 by decide, if_false, show ¬ (1 : Int) = 0 by decide]
    rw [rd_bind, List.append_assoc, uP_back (by omega) _ (by decide) hn]
    simp only
    rw [rd_bind, show (uBytes n ++ (uBytes m ++ q)).drop (uBytes n).length = uBytes m ++ q from List.drop_left, uP_back (by omega) _ (by decide) hm]
    simp; omega
def okBk (k : Int) : Bool := k == -64 || k == -1 || k == -2 || right k
theorem okB_range {k : Int} (h : okBk k = true) : -64 ≤ k ∧ k < 4294967296 := by
  unfold okBk right at h
  simp at h
  omega
theorem q_putBlock (b : List D) (k : Int) (hb : b.length ≤ 400) : F25 [k] [] [b] = some (if okBk k = true then ([0], [], [b ++ dl (sBytes k)]) else ([2], [], [[]])) := by
  refine of_ret ?_
  unfold t25
  have hp : okBk k = true → F40 [k] [] [b] = some ([], [], [b ++ dl (sBytes k)]) := fun h => by
    have := okB_range h
    exact q_putS (by omega) (by omega) b (by omega)
  refine d_lb ((k != -64) && (k != -1)) rfl ?_
  by_cases h3 : ((k != -64) && (k != -1) && (k != -2)) = true
  · refine d_itT h3 ?_
    refine d_callx [k] [] [] ([], [right k], []) e25_37 rfl rfl rfl (q_right k) rfl ?_
    have e : okBk k = right k := by
      unfold okBk
      simp only [Bool.and_eq_true, bne_iff_ne, ne_eq] at h3
      rw [eq_f h3.1.1, eq_f h3.1.2, eq_f h3.2]; rfl
    by_cases hr : right k = true
    · rw [e, if_pos hr]
      refine d_itF (by show (!right k) = false; rw [hr]; rfl) ?_
      exact d_callx [k] [] [b] _ e25_40 rfl rfl rfl (hp (by rw [e]; exact hr)) rfl rfl
    · rw [e, if_neg hr]
      exact d_itT (by show (!right k) = true; rw [Bool.eq_false_iff.2 hr]; rfl) rfl
  · have h3 := Bool.eq_false_iff.2 h3
    have e : okBk k = true := by
      unfold okBk
      cases h64 : k == -64 <;> cases h1 : k == -1 <;> cases h2 : k == -2 <;> simp_all [bne]
    rw [if_pos e]
    refine d_itF h3 ?_
    exact d_callx [k] [] [b] _ e25_40 rfl rfl rfl (hp e) rfl rfl
theorem sBytes_small {k : Int} (h0 : 0 ≤ k) (h1 : k < 64) : sBytes k = [k] := by
  unfold sBytes sB
  rw [if_pos (by omega)]
  have : k % 128 = k := by omega
  rw [this]
theorem sBytes_big {k : Int} (h : 63 < k) : sBytes k = (k % 128 + 128) :: sB 8 (k / 128) := by
  rw [sBytes, sB, if_neg (by omega)]
theorem blockP_back {k : Int} {q : List Int} (h : okBk k = true) : blockP (sBytes k ++ q) = .ok k (sBytes k).length := by
  by_cases h64 : k = -64
  · subst h64; rfl
  by_cases h1 : k = -1
  · subst h1; rfl
  by_cases h2 : k = -2
  · subst h2; rfl
  have hr : right k = true := by
    unfold okBk at h
    rw [eq_f h64, eq_f h1, eq_f h2] at h
    simpa using h
  unfold right at hr
  simp only [Bool.and_eq_true, decide_eq_true_eq] at hr
  have hs := sP_back (n := k) (by omega) (by omega) q (bits := 33) (by decide) (by constructor <;> simp <;> omega)
  obtain ⟨x, l, hx, h64', hE⟩ : ∃ x l, sBytes k = x :: l ∧ x ≠ 64 ∧ valE x = 2 := by
    by_cases hk : k < 64
    · refine ⟨k, [], sBytes_small (by omega) hk, by omega, ?_⟩
      unfold valE; rw [if_neg (by omega), if_neg (by omega)]
    · refine ⟨_, _, sBytes_big (by omega), by omega, ?_⟩
      unfold valE; rw [if_neg (by omega), if_neg (by omega)]
  unfold blockP
  rw [hs, hx]
  rw [List.cons_append, valP_cons, hE, if_neg (show ¬ (x :: (l ++ q)).getD 0 0 = 64 from h64')]
  simp only [show ¬ (2 : Int) = 0 by decide, if_false, ne_eq, not_true_eq_false, if_neg (show ¬ k < 0 by omega)]
end Go.Proofs.Ythmiladfdndciaa.STypBack
