/-
  InstrPuts: what the functions that it reaches answer.
-/
import Derived.Test.YtmfjapphmmlppaaXInstrPuts
import Derived.Test.YtmfjapphmmlppaaVb
namespace Go.Proofs.Ytmfjapphmmlppaa.SInstrPuts
set_option linter.all false
open Go.Proofs.Ytmfjapphmmlppaa.Vx Go.Proofs.Ytmfjapphmmlppaa.XInstrPuts Go.Proofs.Ytmfjapphmmlppaa.Vd Go.Proofs.Ytmfjapphmmlppaa.Vn Go.Proofs.Ytmfjapphmmlppaa.Vl Go.Proofs.Ytmfjapphmmlppaa.Vp Go.Proofs.Ytmfjapphmmlppaa.Vb
theorem q_clone (l : List D) (h : l.length ≤ 17592186044416) : F28 [] [] [l] = some ([], [], [l]) := by
  have h : ((l.length : Nat) : Int) ≤ 17592186044416 := by omega
  refine of_ret ?_
  unfold t28
  refine d_nz (fun e => ?_) ?_
  · have e : l = [] := e
    subst e; rfl
  · simp [T.den, E.B, E.I, cmB, vals, Vx.LE.L, h]
theorem q_most {bits : Nat} (h : bits ≤ 64) : F85 [(bits : Int)] [] [] = some ([((mst bits : Nat) : Int)], [], []) := by
  have e : IntKind.i64.wrap ((IntKind.i64.wrap ((bits : Int) + 6)).tdiv 7) = ((mst bits : Nat) : Int) := by
    rw [wi (n := (bits : Int) + 6) (by omega) (by omega), Int.tdiv_eq_ediv_of_nonneg (by omega), wi (by omega) (by omega)]
    unfold mst
    omega
  refine of_ret ?_
  unfold t85
  simp only [T.den, vals, List.map_cons, List.map_nil, E.I, arI, List.getD_cons_zero, e]
/-- The pieces of a number. -/
def rawO (l : List Int) (bits : Nat) : List Int :=
  if ends l < l.length ∧ ends l < mst bits then [((vl l (ends l + 1) % 2 ^ 64 : Nat) : Int), l.getD (ends l) 0, ((ends l + 1 : Nat) : Int), 0] else if mst bits ≤ ends l then [0, 0, 0, 2] else [0, 0, 0, 1]
theorem q_raw_loop {l : List Int} (hb : Bytes l) {bits : Nat} (h0 : 1 ≤ bits) (h1 : bits ≤ 64) (hl : l.length < 9223372036854775807) : ∀ (d i k : Nat), i + d = min (ends l) (mst bits - 1) → 
    (∃ r, iterT 6 0 0 (fun r => l73_1.den (Tab.fn a73) ([(bits : Int)] ++ r.1) ([false] ++ r.2.1) ([dl l] ++ r.2.2)) (k + (d + 1)) ([0, 0, 0, 0, ((vl l i % 2 ^ 64 : Nat) : Int), (i : Int)], [], []) = some r ∧
      (r = .ret (rawO l bits, [], []) ∨ (rawO l bits = [0, 0, 0, 1] ∧ ∃ x y, r = .brk 2 ([0, 0, 0, 0, x, y], [], [])))) := by
  have hm10 : mst bits ≤ 10 := by unfold mst; omega
  have hm1 : 1 ≤ mst bits := by unfold mst; omega
  have e1 : ∀ i : Nat, i ≤ 9 → arI .add .i64 (i : Int) 1 = ((i + 1 : Nat) : Int) := fun i hi => by show IntKind.i64.wrap ((i : Int) + 1) = _; rw [wi (by omega) (by omega)]; omega
  have e2 : ∀ i : Nat, i ≤ 9 → (0 : Int) ≤ IntKind.u64.wrap (arI .mul .i64 7 (i : Int)) := fun i hi => by
    have : arI .mul .i64 7 (i : Int) = ((7 * i : Nat) : Int) := by show IntKind.i64.wrap (7 * (i : Int)) = _; rw [wi (by omega) (by omega)]; omega
    rw [this, wu (by omega) (by omega)]; omega
  have hel := ends_le l
  intro d
  induction d with
  | zero =>
    intro i k hi
    by_cases hlen : i < l.length
    · have h3 : (i : Int) < (l.length : Nat) := by omega
      have h4 := e2 i (by omega)
      have h5 : (0 : Int) ≤ (i : Nat) := by omega
      by_cases hlt : l.getD i 0 < 128
      · have hei : i = ends l := by
          by_cases h : i < ends l
          · have := ends_before l i h; omega
          · omega
        refine ⟨_, it_ret (r' := (rawO l bits, [], [])) ?_, .inl rfl⟩
        have hr : rawO l bits = [((vl l (i + 1) % 2 ^ 64 : Nat) : Int), l.getD i 0, ((i + 1 : Nat) : Int), 0] := by unfold rawO; rw [← hei, if_pos (by omega)]
        rw [hr]
        simp only [l73_1, T.den, E.B, E.I, cmB, vals, List.cons_append, List.nil_append, List.getD_cons_zero, List.getD_cons_succ, List.map_cons, List.map_nil, dl_len, h3, h4, h5, decide_true, cond_true, Int.toNat_natCast, ix_dl, hlt, ge_iff_le, raw_step hb (show i ≤ 9 by omega), e1 _ (show i ≤ 9 by omega)]
      · have hne : i ≠ ends l := fun e => by have := ends_at l (by omega); rw [← e] at this; omega
        have him : i + 1 = mst bits := by omega
        have h6 : (((i + 1 : Nat) : Int) == ((mst bits : Nat) : Int)) = true := by rw [beq_iff_eq]; omega
        refine ⟨_, it_ret (r' := (rawO l bits, [], [])) ?_, .inl rfl⟩
        have hr : rawO l bits = [0, 0, 0, 2] := by
          unfold rawO
          have : mst bits ≤ ends l := by omega
          rw [if_neg (by omega), if_pos this]
        rw [hr]
        simp only [l73_1, T.den, E.B, E.I, cmB, vals, List.cons_append, List.nil_append, List.append_nil, List.getD_cons_zero, List.getD_cons_succ, List.map_cons, List.map_nil, dl_len, h3, h4, h5, decide_true, cond_true, Int.toNat_natCast, ix_dl, hlt, decide_false, cond_false, ge_iff_le, raw_step hb (show i ≤ 9 by omega), e1 _ (show i ≤ 9 by omega), e73_85, q_most h1, R.fits, List.length_cons, List.length_nil, Nat.reduceAdd, h6]
        rfl
    · have h3 : ¬ (i : Int) < (l.length : Nat) := by omega
      refine ⟨_, it_brk (t := 2) (r' := ([0, 0, 0, 0, ((vl l i % 2 ^ 64 : Nat) : Int), (i : Int)], [], [])) ?_, .inr ⟨?_, _, _, rfl⟩⟩
      · simp only [l73_1, T.den, E.B, E.I, cmB, vals, List.cons_append, List.nil_append, List.append_nil, List.getD_cons_zero, List.getD_cons_succ, List.map_cons, List.map_nil, dl_len, h3, decide_false, cond_false]
      · unfold rawO
        rw [if_neg (by omega), if_neg (by omega)]
  | succ d ih =>
    intro i k hi
    have hge := ends_before l i (by omega)
    have hlt : ¬ l.getD i 0 < 128 := by omega
    have h3 : (i : Int) < (l.length : Nat) := by omega
    have h4 := e2 i (by omega)
    have h5 : (0 : Int) ≤ (i : Nat) := by omega
    have h6 : (((i + 1 : Nat) : Int) == ((mst bits : Nat) : Int)) = false := by rw [beq_eq_false_iff_ne]; omega
    obtain ⟨r, hr, ho⟩ := ih (i + 1) k (by omega)
    refine ⟨r, it_nxt (r' := ([0, 0, 0, 0, ((vl l (i + 1) % 2 ^ 64 : Nat) : Int), ((i + 1 : Nat) : Int)], [], [])) ?_ rfl hr, ho⟩
    simp only [l73_1, T.den, E.B, E.I, cmB, vals, List.cons_append, List.nil_append, List.append_nil, List.getD_cons_zero, List.getD_cons_succ, List.map_cons, List.map_nil, dl_len, h3, h4, h5, decide_true, cond_true, Int.toNat_natCast, ix_dl, hlt, decide_false, cond_false, ge_iff_le, raw_step hb (show i ≤ 9 by omega), e1 _ (show i ≤ 9 by omega), e73_85, q_most h1, R.fits, List.length_cons, List.length_nil, Nat.reduceAdd, h6]
    rfl
theorem q_raw {l : List Int} (hb : Bytes l) {bits : Nat} (h0 : 1 ≤ bits) (h1 : bits ≤ 64) (hl : l.length < 9223372036854775807) : F73 [(bits : Int)] [] [dl l] = some (rawO l bits, [], []) := by
  refine of_ret ?_
  unfold t73
  have hm10 : mst bits ≤ 10 := by unfold mst; omega
  obtain ⟨k, hk⟩ := fuel_eq (min (ends l) (mst bits - 1) + 1) (by omega)
  have h2 : ¬ ((bits : Int) < 1) := by omega
  have h3 : ¬ ((bits : Int) > 64) := by omega
  have e : ((E.cm .lss (.iv 0) (.n 1)).oo (.cm .gtr (.iv 0) (.n 64))).B [(bits : Int)] [] [dl l] = false := by simp only [E.B, E.I, cmB, List.getD_cons_zero, h2, h3, decide_false, Bool.or_false]
  show T.den _ _ _ ([] ++ [_]) _ = _
  rw [e]
  refine d_ite (fun h => by cases h) fun _ => ?_
  obtain ⟨r, hr, ho⟩ := q_raw_loop hb h0 h1 hl (min (ends l) (mst bits - 1)) 0 k (by omega)
  rw [← hk] at hr
  rcases ho with rfl | ⟨ho, x, y, rfl⟩
  · exact d_lp_ret hr
  · refine d_lp _ hr rfl ?_
    rw [ho]
    rfl
/-- An unsigned number. -/
theorem q_U {l : List Int} (hb : Bytes l) {bits : Nat} (h0 : 1 ≤ bits) (h1 : bits ≤ 64) (hl : l.length < 9223372036854775807) : F63 [(bits : Int)] [] [dl l] = some ((match uP bits l with | .err e => [0, 0, e] | .ok a n => [(a : Int), (n : Int), 0]), [], []) := by
  have hraw := q_raw hb h0 h1 hl
  refine of_ret ?_
  unfold t63
  refine d_callx [(bits : Int)] [] [dl l] _ e63_73 rfl rfl rfl hraw ?_ ?_
  · unfold rawO; split
    · rfl
    · split <;> rfl
  have hm10 : mst bits ≤ 10 := by unfold mst; omega
  unfold rawO uP
  by_cases hc : ends l < l.length ∧ ends l < mst bits
  · rw [if_pos hc, if_pos hc]
    have hx := hb.at (ends l)
    have hlt := ends_at l hc.1
    generalize hS : ends l = s at *
    have hown0 : 1 ≤ (bits : Int) - 7 * (s : Int) := by unfold mst at hc; omega
    obtain ⟨own, ho⟩ : ∃ own : Nat, (bits : Int) - 7 * (s : Int) = own := ⟨((bits : Int) - 7 * (s : Int)).toNat, by omega⟩
    have e1 := own_eq (bits := bits) (s := s) h1 (by omega)
    rw [ho] at e1
    have e2 : IntKind.u64.wrap (own : Int) = own := wu (by omega) (by omega)
    have e3 : (0 : Int) ≤ own := by omega
    have hown : 1 ≤ own := by omega
    have hsm := vl_small l s own hlt hx.1
    rw [show 7 * s + own = bits by omega] at hsm
    have e4 : (decide ((own : Int) < 7) && (arI .shr .u8 (l.getD s 0) (own : Int) != 0)) = !decide (vl l (s + 1) < 2 ^ bits) := by
      by_cases h7 : (own : Int) < 7
      · rw [shr8 own (by omega), decide_eq_true h7, Bool.true_and]
        have := ediv_zero_iff hx.1 (pow_int_pos own) (y := 2 ^ own)
        by_cases hv : vl l (s + 1) < 2 ^ bits
        · rw [this.2 (hsm.1 hv), decide_eq_true hv]; rfl
        · rw [decide_eq_false hv]
          exact bne_iff_ne.2 fun h => hv (hsm.2 (this.1 h))
      · have hV := vl_lt l (s + 1)
        have hp : 2 ^ (7 * (s + 1)) ≤ 2 ^ bits := pow_le (by omega)
        rw [decide_eq_false h7, decide_eq_true (show vl l (s + 1) < 2 ^ bits by omega)]; rfl
    have hmod : vl l (s + 1) < 2 ^ bits → vl l (s + 1) % 2 ^ 64 = vl l (s + 1) := fun h => Nat.mod_eq_of_lt (Nat.lt_of_lt_of_le h (pow_le h1))
    simp only [T.den, E.B, E.I, cmB, vals, List.cons_append, List.nil_append, List.append_nil, List.getD_cons_zero, List.getD_cons_succ, List.map_cons, List.map_nil, e1, e2, ge_iff_le, e3, decide_true, Bool.or_true, cond_true, e4, cond_false, bne_self_eq_false]
    by_cases hv : vl l (s + 1) < 2 ^ bits
    · rw [if_pos hv, hmod hv, decide_eq_true hv]; rfl
    · rw [if_neg hv, decide_eq_false hv]; rfl
  · rw [if_neg hc, if_neg hc]
    split <;> rfl
/-- A signed number. -/
theorem q_S {l : List Int} (hb : Bytes l) {bits : Nat} (h0 : 1 ≤ bits) (h1 : bits ≤ 64) (hl : l.length < 9223372036854775807) : F64 [(bits : Int)] [] [dl l] = some ((match sP bits l with | .err e => [0, 0, e] | .ok a n => [a, (n : Int), 0]), [], []) := by
  have hraw := q_raw hb h0 h1 hl
  have hm10 : mst bits ≤ 10 := by unfold mst; omega
  refine of_ret ?_
  unfold t64
  refine d_callx [(bits : Int)] [] [dl l] _ e64_73 rfl rfl rfl hraw ?_ ?_
  · unfold rawO; split
    · rfl
    · split <;> rfl
  unfold rawO sP
  by_cases hc : ends l < l.length ∧ ends l < mst bits
  case neg =>
    rw [if_neg hc, if_neg hc]
    split <;> rfl
  rw [if_pos hc, if_pos hc]
  have hx := hb.at (ends l)
  have hlt := ends_at l hc.1
  generalize hS : ends l = s at *
  obtain ⟨own, ho⟩ : ∃ own : Nat, (bits : Int) - 7 * (s : Int) = own := ⟨((bits : Int) - 7 * (s : Int)).toNat, by unfold mst at hc; omega⟩
  have hown : 1 ≤ own := by unfold mst at hc; omega
  have e1 := own_eq (s := s) h1 (by omega)
  rw [ho] at e1
  have hbits : 7 * s + own = bits := by omega
  have hV := vl_lt l (s + 1)
  rw [show 7 * (s + 1) = 7 * s + 7 by omega] at hV
  have hpp : 2 ^ (7 * s + 7) = 2 * 2 ^ (7 * s + 6) := by rw [show 7 * s + 7 = (7 * s + 6) + 1 by omega, Nat.pow_succ]; omega
  by_cases h7 : (own : Int) < 7
  · have e2 : arI .sub .i64 (own : Int) 1 = ((own - 1 : Nat) : Int) := by show IntKind.i64.wrap ((own : Int) - 1) = _; rw [wi (by omega) (by omega)]; omega
    have e3 : IntKind.u64.wrap ((own - 1 : Nat) : Int) = ((own - 1 : Nat) : Int) := wu (by omega) (by omega)
    have e4 : (0 : Int) ≤ ((own - 1 : Nat) : Int) := by omega
    have e6 : (!(arI .shr .u8 (l.getD s 0) ((own - 1 : Nat) : Int) != 0) || true) = true := by simp
    have e5 : ((arI .shr .u8 (l.getD s 0) ((own - 1 : Nat) : Int) != 0) && (arI .shr .u8 (l.getD s 0) ((own - 1 : Nat) : Int) != arI .shr .u8 127 ((own - 1 : Nat) : Int))) = !decide (-((2 ^ (bits - 1) : Nat) : Int) ≤ sv l s ∧ sv l s < ((2 ^ (bits - 1) : Nat) : Int)) := by
      rw [shr8 _ (by omega), shr8 _ (by omega)]
      have hsm := vl_small l s (own - 1) hlt hx.1
      have hla := vl_large l s (own - 1) (by omega) hlt hx.1
      have hb1 : 7 * s + (own - 1) = bits - 1 := by omega
      rw [hb1] at hsm hla
      have hz : l.getD s 0 / 2 ^ (own - 1) = 0 ↔ l.getD s 0 < 2 ^ (own - 1) := by
        rw [ediv_zero_iff hx.1 (pow_int_pos _)]
      have ht : l.getD s 0 / 2 ^ (own - 1) = 127 / 2 ^ (own - 1) ↔ 128 - 2 ^ (own - 1) ≤ l.getD s 0 := by
        generalize l.getD s 0 = x at hx hlt ⊢
        have : own = 1 ∨ own = 2 ∨ own = 3 ∨ own = 4 ∨ own = 5 ∨ own = 6 := by omega
        rcases this with rfl | rfl | rfl | rfl | rfl | rfl <;> simp <;> omega
      have hp6 : 2 ^ (bits - 1) ≤ 2 ^ (7 * s + 6) := pow_le (by omega)
      by_cases hr : -((2 ^ (bits - 1) : Nat) : Int) ≤ sv l s ∧ sv l s < ((2 ^ (bits - 1) : Nat) : Int)
      · rw [decide_eq_true hr]
        unfold sv at hr
        split at hr
        · have : 128 - 2 ^ (own - 1) ≤ l.getD s 0 := hla.1 (by omega)
          rw [ht.2 this]
          simp
        · rw [hz.2 (hsm.1 (by omega))]
          simp
      · rw [decide_eq_false hr]
        have n1 : ¬ vl l (s + 1) < 2 ^ (bits - 1) := fun h => hr (by unfold sv; rw [if_neg (by omega)]; omega)
        have n2 : ¬ 2 ^ (7 * s + 7) - 2 ^ (bits - 1) ≤ vl l (s + 1) := fun h => hr (by unfold sv; rw [if_pos (by omega)]; omega)
        rw [bne_iff_ne.2 (fun h => n1 (hsm.2 (hz.1 h))), bne_iff_ne.2 (fun h => n2 (hla.2 (ht.1 h)))]
        rfl
    by_cases hr : -((2 ^ (bits - 1) : Nat) : Int) ≤ sv l s ∧ sv l s < ((2 ^ (bits - 1) : Nat) : Int)
    · rw [decide_eq_true hr] at e5
      have e5 : _ = false := e5
      have h9 : s = 9 → -9223372036854775808 ≤ sv l s ∧ sv l s < 9223372036854775808 := by
        rintro rfl
        have : bits = 64 := by omega
        subst this
        exact hr
      have tail := s_tail hb s hlt (by omega) h9 _ rfl
      rw [if_pos hr]
      rcases tail with ⟨t1, t2, t3⟩ | ⟨t1, t3⟩
      · simp only [T.den, E.B, E.I, cmB, vals, List.cons_append, List.nil_append, List.append_nil, List.getD_cons_zero, List.getD_cons_succ, List.map_cons, List.map_nil, e1, e2, e3, h7, ge_iff_le, e4, decide_true, cond_true, cond_false, bne_self_eq_false, Bool.or_true, e5, t1, t2, t3]
      · simp only [T.den, E.B, E.I, cmB, vals, List.cons_append, List.nil_append, List.append_nil, List.getD_cons_zero, List.getD_cons_succ, List.map_cons, List.map_nil, e1, e2, e3, h7, ge_iff_le, e4, decide_true, cond_true, cond_false, bne_self_eq_false, Bool.or_true, e5, t1, t3]
    · rw [decide_eq_false hr] at e5
      have e5 : _ = true := e5
      rw [if_neg hr]
      simp only [T.den, E.B, E.I, cmB, vals, List.cons_append, List.nil_append, List.append_nil, List.getD_cons_zero, List.getD_cons_succ, List.map_cons, List.map_nil, e1, e2, e3, h7, ge_iff_le, e4, decide_true, cond_true, cond_false, bne_self_eq_false, Bool.or_true, e5]
  · have hp7 : 2 ^ (7 * s + 6) ≤ 2 ^ (bits - 1) := pow_le (by omega)
    have hr : -((2 ^ (bits - 1) : Nat) : Int) ≤ sv l s ∧ sv l s < ((2 ^ (bits - 1) : Nat) : Int) := by
      unfold sv
      split <;> omega
    have tail := s_tail hb s hlt (by omega) (fun h => by omega) _ rfl
    rw [if_pos hr]
    rcases tail with ⟨t1, t2, t3⟩ | ⟨t1, t3⟩
    · simp only [T.den, E.B, E.I, cmB, vals, List.cons_append, List.nil_append, List.append_nil, List.getD_cons_zero, List.getD_cons_succ, List.map_cons, List.map_nil, e1, h7, ge_iff_le, decide_true, decide_false, cond_true, cond_false, bne_self_eq_false, Bool.or_true, t1, t2, t3]
    · simp only [T.den, E.B, E.I, cmB, vals, List.cons_append, List.nil_append, List.append_nil, List.getD_cons_zero, List.getD_cons_succ, List.map_cons, List.map_nil, e1, h7, ge_iff_le, decide_true, decide_false, cond_true, cond_false, bne_self_eq_false, Bool.or_true, t1, t3]
theorem loopU (f : Nat) : ∀ (n k : Nat) (v : Int) (l0 l : List D), n < 128 ^ (f + 1) → l.length + f ≤ 17592186044410 → ∃ (n' : Nat) (l' : List D), n' < 128 ∧ l' ++ dl [(n' : Int)] = l ++ dl (uB f n) ∧
    iterT 1 0 1 (fun r => l48_1.den (Tab.fn a48) ([v] ++ r.1) ([] ++ r.2.1) ([l0, l0] ++ r.2.2)) (k + (f + 1)) ([(n : Int)], [], [l]) = some (.brk 2 ([(n' : Int)], [], [l'])) := by
  have stop : ∀ (n k : Nat) (v : Int) (l0 l : List D), n < 128 → iterT 1 0 1 (fun r => l48_1.den (Tab.fn a48) ([v] ++ r.1) ([] ++ r.2.1) ([l0, l0] ++ r.2.2)) (k + 1) ([(n : Int)], [], [l]) = some (.brk 2 ([(n : Int)], [], [l])) := fun n k v l0 l h => by
    refine it_brk ?_
    have : ¬ (128 : Int) ≤ n := by omega
    simp [l48_1, T.den, E.B, E.I, cmB, LE.L, vals, this]
  induction f with
  | zero =>
    intro n k v l0 l h hl
    have hn : n < 128 := by simpa using h
    exact ⟨n, l, hn, by simp [uB, dl]; omega, stop n k v l0 l hn⟩
  | succ f ih =>
    intro n k v l0 l h hl
    by_cases hn : n < 128
    · exact ⟨n, l, hn, by simp [uB, dl, hn], stop n (k + (f + 1)) v l0 l hn⟩
    · obtain ⟨n', l', h1, h2, h3⟩ := ih (n / 128) k v l0 (l ++ dl [((n % 128 + 128 : Nat) : Int)]) (by rw [Nat.div_lt_iff_lt_mul (by decide), ← Nat.pow_succ]; exact h) (by simp [dl]; omega)
      refine ⟨n', l', h1, ?_, ?_⟩
      · rw [h2]
        conv => rhs; unfold uB
        rw [if_neg hn]
        simp [dl]
      · refine it_nxt (r' := ([((n / 128 : Nat) : Int)], [], [l ++ dl [((n % 128 + 128 : Nat) : Int)]])) ?_ rfl h3
        have h4 : (128 : Int) ≤ n := by omega
        have h5 : ((l.length : Nat) : Int) ≤ 17592186044416 := by omega
        have e1 : (n : Int).fdiv 128 = (n : Int) / 128 := by rw [Int.fdiv_eq_ediv_of_nonneg _ (by decide)]
        simp [l48_1, T.den, E.B, E.I, cmB, LE.L, vals, CE.D, mkD, h4, h5, arI, wrap_u8, bor128, e1, dl, IntKind.bits]
theorem q_putU {n : Nat} (hn : n < 2 ^ 64) (l : List D) (h : l.length ≤ 17592186044400) : F48 [(n : Int)] [] [l] = some ([], [], [l ++ dl (uBytes n)]) := by
  refine of_ret ?_
  unfold t48
  refine d_call ([], [], [l]) (tab_hd rfl) (q_clone l (by omega)) rfl ?_
  obtain ⟨k, hk⟩ := fuel_eq (9 + 1) (by decide)
  obtain ⟨n', l', h1, h2, h3⟩ := loopU 9 n k (n : Int) l l (by omega) (by omega)
  refine d_lp (t := 2) ([(n' : Int)], [], [l']) (by rw [hk]; exact h3) rfl ?_
  have hl : l'.length + 1 ≤ l.length + 10 := by
    have := congrArg List.length h2
    have h9 := uB_le 9 n
    simp [dl] at this
    omega
  have e1 : (n' : Int) % 256 = n' := by omega
  have h5 : ((l'.length : Nat) : Int) ≤ 17592186044416 := by omega
  simp [k48_2, T.den, E.B, E.I, cmB, LE.L, vals, CE.D, mkD, wrap_u8, h5, e1]
  exact h2
theorem loopS (f : Nat) : ∀ (n : Int) (k : Nat) (v : Int) (l0 l : List D), sR f n → l.length + f ≤ 17592186044410 → ∃ (n' : Int) (l' : List D), l' ++ dl [n' % 128] = l ++ dl (sB f n) ∧
    iterT 1 0 1 (fun r => l49_1.den (Tab.fn a49) ([v] ++ r.1) ([] ++ r.2.1) ([l0, l0] ++ r.2.2)) (k + (f + 1)) ([n], [], [l]) = some (.brk 2 ([n'], [], [l'])) := by
  have stop : ∀ (n : Int) (k : Nat) (v : Int) (l0 l : List D), -64 ≤ n ∧ n ≤ 63 → iterT 1 0 1 (fun r => l49_1.den (Tab.fn a49) ([v] ++ r.1) ([] ++ r.2.1) ([l0, l0] ++ r.2.2)) (k + 1) ([n], [], [l]) = some (.brk 2 ([n], [], [l])) := fun n k v l0 l h => by
    refine it_brk ?_
    have h1 : ¬ n < -64 := by omega
    have h2 : ¬ 63 < n := by omega
    simp [l49_1, T.den, E.B, E.I, cmB, LE.L, vals, h1, h2]
  induction f with
  | zero =>
    intro n k v l0 l h hl
    exact ⟨n, l, by simp [sB, dl], stop n k v l0 l (sR_zero.1 h)⟩
  | succ f ih =>
    intro n k v l0 l h hl
    by_cases hn : -64 ≤ n ∧ n ≤ 63
    · exact ⟨n, l, by simp [sB, dl, hn], stop n (k + (f + 1)) v l0 l hn⟩
    · obtain ⟨n', l', h2, h3⟩ := ih (n / 128) k v l0 (l ++ dl [n % 128 + 128]) (sR_div.1 h) (by simp [dl]; omega)
      refine ⟨n', l', ?_, ?_⟩
      · rw [h2]
        conv => rhs; unfold sB
        rw [if_neg hn]
        simp [dl]
      · refine it_nxt (r' := ([n / 128], [], [l ++ dl [n % 128 + 128]])) ?_ rfl h3
        have h4 : n < -64 ∨ 63 < n := by omega
        have h5 : ((l.length : Nat) : Int) ≤ 17592186044416 := by omega
        have e1 : n.fdiv 128 = n / 128 := by rw [Int.fdiv_eq_ediv_of_nonneg _ (by decide)]
        have h6 : (decide (n < -64) || decide (63 < n)) = true := by simpa using h4
        simp [l49_1, T.den, E.B, E.I, cmB, LE.L, vals, CE.D, mkD, h6, h5, arI, wrap_u8, bor128, e1, dl, IntKind.bits]
theorem q_putS {n : Int} (h0 : -9223372036854775808 ≤ n) (h1 : n ≤ 9223372036854775807) (l : List D) (h : l.length ≤ 17592186044400) : F49 [n] [] [l] = some ([], [], [l ++ dl (sBytes n)]) := by
  refine of_ret ?_
  unfold t49
  refine d_call ([], [], [l]) (tab_hd rfl) (q_clone l (by omega)) rfl ?_
  obtain ⟨k, hk⟩ := fuel_eq (9 + 1) (by decide)
  obtain ⟨n', l', h2, h3⟩ := loopS 9 n k n l l (sR_nine h0 h1) (by omega)
  refine d_lp (t := 2) ([n'], [], [l']) (by rw [hk]; exact h3) rfl ?_
  have hl : l'.length + 1 ≤ l.length + 10 := by
    have := congrArg List.length h2
    have h9 := sB_le 9 n
    simp [dl] at this
    omega
  have h5 : ((l'.length : Nat) : Int) ≤ 17592186044416 := by omega
  have e1 : Go.bits .and .u8 (n' % 256) 127 = n' % 128 := by rw [u8_and127 (by omega) (by omega)]; omega
  simp [k49_2, T.den, E.B, E.I, cmB, LE.L, vals, CE.D, mkD, arI, wrap_u8, h5, e1]
  exact h2

/-- A type of values. -/
def valP : Rd Int := byteP.bind fun x => if x = 127 ∨ x = 126 then fun _ => .ok x 0 else fun _ => .err (if x = 125 ∨ x = 124 ∨ x = 123 ∨ x = 112 ∨ x = 111 then 3 else 2)
theorem valP_stbl : Stbl valP := byteP_stbl.bind fun x => by
  split
  · exact Stbl.pure x
  · refine Stbl.fail _ ?_
    split <;> decide
theorem q_val {l : List Int} (hb : Bytes l) : F72 [] [] [dl l] = some ((match valP l with | .err e => [0, 0, e] | .ok v n => [v, (n : Int), 0]), [], []) := by
  refine of_ret ?_
  cases l with
  | nil => rfl
  | cons x r =>
    have hx := hb x List.mem_cons_self
    have ew : IntKind.i64.wrap x = x := wi (by omega) (by omega)
    have e0 : (((dl (x :: r)).getD (0 : Int).toNat (.i 0)).cell 0).int = x := rfl
    have el : (((dl (x :: r)).length : Nat) : Int) = (r.length : Int) + 1 := by simp [dl]
    have en : ((r.length : Int) + 1 == 0) = false := by rw [beq_eq_false_iff_ne]; omega
    have ep : decide ((0 : Int) < (r.length : Int) + 1) = true := by rw [decide_eq_true_eq]; omega
    simp only [t72, T.den, E.B, E.I, cmB, vals, List.map_cons, List.map_nil, List.getD_cons_zero, el, e0, ew, en, ep, cond_false, cond_true]
    by_cases h1 : x = 127
    · subst h1; rfl
    by_cases h2 : x = 126
    · subst h2; rfl
    by_cases h3 : x = 125
    · subst h3; rfl
    by_cases h4 : x = 124
    · subst h4; rfl
    by_cases h5 : x = 123
    · subst h5; rfl
    by_cases h6 : x = 112
    · subst h6; rfl
    by_cases h7 : x = 111
    · subst h7; rfl
    have b1 := beq_eq_false_iff_ne.2 h1
    have b2 := beq_eq_false_iff_ne.2 h2
    have b3 := beq_eq_false_iff_ne.2 h3
    have b4 := beq_eq_false_iff_ne.2 h4
    have b5 := beq_eq_false_iff_ne.2 h5
    have b6 := beq_eq_false_iff_ne.2 h6
    have b7 := beq_eq_false_iff_ne.2 h7
    simp only [b1, b2, b3, b4, b5, b6, b7, cond_false]
    simp [valP, Rd.bind, byteP, h1, h2, h3, h4, h5, h6, h7]
theorem q_rcopy (l : List D) (h : l.length ≤ 17592186044416) : F18 [] [] [l] = some ([], [], [l]) := by
  have h : ((l.length : Nat) : Int) ≤ 17592186044416 := by omega
  refine of_ret ?_
  simp [t18, T.den, E.B, E.I, cmB, vals, Vx.LE.L, h]
theorem lp_same (l : List D) (hl : l.length < 4611686018427387904) : ∀ (d i k : Nat), i + d = l.length → iterT 1 1 0 (fun r => l41_1.den (Tab.fn a41) ([] ++ r.1) ([] ++ r.2.1) ([l, l] ++ r.2.2)) (k + (d + 1)) ([(i : Int)], [false], []) = some (.brk 2 ([(l.length : Int)], [false], [])) := by
  intro d
  induction d with
  | zero =>
    intro i k hi
    obtain rfl : i = l.length := by omega
    refine it_brk ?_
    simp [l41_1, T.den, E.B, E.I, cmB, vals]
  | succ d ih =>
    intro i k hi
    have h3 : (i : Int) < (l.length : Nat) := by omega
    have h4 : (0 : Int) ≤ (i : Int) := by omega
    have e2 : arI .add .i64 (i : Int) 1 = ((i + 1 : Nat) : Int) := by show IntKind.i64.wrap ((i : Int) + 1) = _; rw [wi (by omega) (by omega)]; omega
    refine it_nxt (r' := ([((i + 1 : Nat) : Int)], [false], [])) ?_ rfl (ih (i + 1) k (by omega))
    simp only [l41_1, T.den, E.B, E.I, cmB, vals, List.cons_append, List.nil_append, List.append_nil, List.getD_cons_zero, List.getD_cons_succ, List.map_cons, List.map_nil, h3, h4, ge_iff_le, decide_true, cond_true, bne_self_eq_false, cond_false, e2]
theorem q_sameints (l : List D) (hl : l.length < 4611686018427387904) : F41 [] [] [l, l] = some ([], [true], []) := by
  refine of_ret ?_
  unfold t41
  refine d_ite (fun h => ?_) fun _ => ?_
  · have : ((l.length : Int) != (l.length : Int)) = true := h
    simp at this
  obtain ⟨k, hk⟩ := fuel_eq (l.length + 1) (by omega)
  have h := lp_same l hl l.length 0 k (by omega)
  rw [← hk] at h
  exact d_lp _ h rfl rfl
theorem q_rmost {bits : Nat} (h1 : bits ≤ 64) : F84 [(bits : Int)] [] [] = some ([((mst bits : Nat) : Int)], [], []) := by
  refine of_ret ?_
  unfold t84
  have go : ∀ (d i k : Nat), i + d = mst bits → iterT 1 0 0 (fun r => l84_1.den (Tab.fn a84) ([(bits : Int)] ++ r.1) ([] ++ r.2.1) ([] ++ r.2.2)) (k + (d + 1)) ([(i : Int)], [], []) = some (.brk 2 ([((mst bits : Nat) : Int)], [], [])) := by
    intro d
    induction d with
    | zero =>
      intro i k hi
      obtain rfl : i = mst bits := by omega
      refine it_brk ?_
      unfold l84_1
      refine d_itF (lt_f ?_) rfl
      show (bits : Int) ≤ IntKind.i64.wrap (7 * ((mst bits : Nat) : Int))
      rw [wi (by unfold mst; omega) (by unfold mst; omega)]; unfold mst; omega
    | succ d ih =>
      intro i k hi
      refine it_nxt (r' := ([((i + 1 : Nat) : Int)], [], [])) ?_ rfl (ih (i + 1) k (by omega))
      unfold l84_1
      refine d_itT (lt_t ?_) ?_
      · show IntKind.i64.wrap (7 * (i : Int)) < (bits : Int)
        unfold mst at hi
        rw [wi (by omega) (by omega)]; omega
      · show some (Out.nxt ([arI .add .i64 (i : Int) 1], [], [])) = _
        rw [up1 i (by unfold mst at hi; omega)]
  obtain ⟨k, hk⟩ := fuel_eq (mst bits + 1) (by unfold mst; omega)
  have h := go (mst bits) 0 k (by omega)
  rw [← hk] at h
  exact d_lp _ h rfl (d_rq rfl rfl)
def bl (V n : Nat) : List D := (bitsOf V n).map D.b
theorem bl_len (V n : Nat) : (bl V n).length = n := by simp [bl, bitsOf_length]
theorem bl_succ (V n : Nat) : bl V n ++ [.b (V.testBit n)] = bl V (n + 1) := by unfold bl; rw [← bitsOf_succ, List.map_append]; rfl
theorem bl_vl (l : List Int) (i : Nat) : bl (vl l (i + 1)) (7 * i) = bl (vl l i) (7 * i) := by unfold bl; rw [bitsOf_vl]
/-- The document's bits of a number. -/
def readO (l : List Int) (bits : Nat) : Vx.R :=
  if ends l < l.length ∧ ends l < mst bits then ([((ends l + 1 : Nat) : Int), 0], [], [bl (vl l (ends l + 1)) (7 * (ends l + 1))]) else if mst bits ≤ ends l then ([0, 2], [], [[]]) else ([0, 1], [], [[]])
theorem l_read {l : List Int} (hb : Bytes l) {bits i : Nat} (hi : i < l.length) (hi9 : i ≤ 9) (hl : l.length < 9223372036854775807) {x1 x2 m : Int} {y1 y2 : List D} : ∀ (d j k : Nat), j + d = 7 →
    iterT 1 0 1 (fun r => l68_1.den (Tab.fn a68) ([(bits : Int), x1, x2, (i : Int), m] ++ r.1) ([false] ++ r.2.1) ([dl l, y1, y2] ++ r.2.2)) (k + (d + 1)) ([(j : Int)], [], [bl (vl l (i + 1)) (7 * i + j)]) = some (.brk 4 ([7], [], [bl (vl l (i + 1)) (7 * i + 7)])) := by
  have hx := hb.at i
  intro d
  induction d with
  | zero =>
    intro j k hj
    obtain rfl : j = 7 := by omega
    refine it_brk ?_
    unfold l68_1
    exact d_itF (lt_f (show (7 : Int) ≤ ((7 : Nat) : Int) by omega)) rfl
  | succ d ih =>
    intro j k hj
    refine it_nxt (r' := ([((j + 1 : Nat) : Int)], [], [bl (vl l (i + 1)) (7 * i + (j + 1))])) ?_ rfl (ih (j + 1) k (by omega))
    have hbit : ((l.getD i 0).toNat % 128).testBit j = (vl l (i + 1)).testBit (7 * i + j) := by
      rw [vl_testBit, if_neg (by omega)]
      congr 1
      omega
    have eb : (arI .rem .u8 (arI .shr .u8 (((dl l).getD (i : Int).toNat (.i 0)).cell 0).int (IntKind.u64.wrap (j : Int))) 2 == 1) = (vl l (i + 1)).testBit (7 * i + j) := by
      rw [Int.toNat_natCast, ix_dl, wu (by omega) (by omega), read_bit hx.1 j (by omega), hbit]
    have hin : (decide ((i : Int) ≥ 0) && decide ((i : Int) < (((dl l).length : Nat) : Int))) = true := by rw [dl_len]; simp; omega
    unfold l68_1
    refine d_itT (lt_t (by show (j : Int) < 7; omega)) (d_rq hin (d_rq hin (d_rq (decide_eq_true (show (0 : Int) ≤ IntKind.u64.wrap (j : Int) by rw [wu (by omega) (by omega)]; omega)) ?_)))
    refine d_li _ rfl (d_lst [[.b (arI .rem .u8 (arI .shr .u8 (((dl l).getD (i : Int).toNat (.i 0)).cell 0).int (IntKind.u64.wrap (j : Int))) 2 == 1)]] rfl ?_)
    rw [eb]
    refine d_rq ?_ (d_lst [bl (vl l (i + 1)) (7 * i + j) ++ [.b ((vl l (i + 1)).testBit (7 * i + j))]] rfl ?_)
    · refine an_t (decide_eq_true ?_) rfl
      show (((bl (vl l (i + 1)) (7 * i + j)).length : Nat) : Int) ≤ 17592186044416
      rw [bl_len]; omega
    · rw [bl_succ]
      show some (Out.nxt ([arI .add .i64 (j : Int) 1], [], [bl (vl l (i + 1)) (7 * i + j + 1)])) = _
      rw [up1 j (by omega)]
      rfl
theorem q_read {l : List Int} (hb : Bytes l) {bits : Nat} (h0 : 1 ≤ bits) (h1 : bits ≤ 64) (hl : l.length < 9223372036854775807) : F68 [(bits : Int)] [] [dl l] = some (readO l bits) := by
  have hm : mst bits ≤ 10 := by unfold mst; omega
  have hM := q_rmost h1
  have outer : ∀ (d i k : Nat), i + d = mst bits → i ≤ l.length → (∀ j, j < i → 128 ≤ l.getD j 0) → ∃ r, iterT 3 0 2 (fun r => l68_3.den (Tab.fn a68) ([(bits : Int)] ++ r.1) ([false] ++ r.2.1) ([dl l] ++ r.2.2)) (k + (d + 1)) ([0, 0, (i : Int)], [], [[], bl (vl l i) (7 * i)]) = some r ∧
      (r = .ret (readO l bits) ∨ (readO l bits = ([0, 2], [], [[]]) ∧ ∃ x y, r = .brk 2 ([0, 0, x], [], [[], y]))) := by
    intro d
    induction d with
    | zero =>
      intro i k hi hil hj
      have he := ends_ge hil hj
      refine ⟨_, it_brk (t := 2) (r' := ([0, 0, (i : Int)], [], [[], bl (vl l i) (7 * i)])) ?_, .inr ⟨?_, _, _, rfl⟩⟩
      · unfold l68_3
        refine d_callx [(bits : Int)] [] [] _ e68_84 rfl rfl rfl hM rfl (d_itF (lt_f ?_) rfl)
        show ((mst bits : Nat) : Int) ≤ (i : Int)
        omega
      · unfold readO
        rw [if_neg (by omega), if_pos (by omega)]
    | succ d ih =>
      intro i k hi hil hj
      by_cases hlen : i = l.length
      · have he := ends_ge hil hj
        have he2 := ends_le l
        refine ⟨_, it_ret (r' := readO l bits) ?_, .inl rfl⟩
        unfold l68_3
        refine d_callx [(bits : Int)] [] [] _ e68_84 rfl rfl rfl hM rfl (d_itT (lt_t ?_) (d_itT (decide_eq_true ?_) ?_))
        · show (i : Int) < ((mst bits : Nat) : Int); omega
        · show (((dl l).length : Nat) : Int) ≤ (i : Int); rw [dl_len]; omega
        · unfold readO
          rw [if_neg (by omega), if_neg (by omega)]
          rfl
      · have hx := hb.at i
        obtain ⟨k2, hk2⟩ := fuel_eq (7 + 1) (by decide)
        have hin := l_read hb (bits := bits) (i := i) (by omega) (by omega) hl (x1 := 0) (x2 := 0) (m := ((mst bits : Nat) : Int)) (y1 := []) (y2 := bl (vl l i) (7 * i)) 7 0 k2 (by omega)
        rw [← hk2, show 7 * i + 0 = 7 * i from rfl, bl_vl] at hin
        have hin2 : (decide ((i : Int) ≥ 0) && decide ((i : Int) < (((dl l).length : Nat) : Int))) = true := by rw [dl_len]; simp; omega
        by_cases hlt : l.getD i 0 < 128
        · have he := ends_eq (by omega) hj hlt
          refine ⟨_, it_ret (r' := readO l bits) ?_, .inl rfl⟩
          unfold l68_3
          refine d_callx [(bits : Int)] [] [] _ e68_84 rfl rfl rfl hM rfl (d_itT (lt_t ?_) (d_itF (decide_eq_false ?_) ?_))
          · show (i : Int) < ((mst bits : Nat) : Int); omega
          · show ¬ (((dl l).length : Nat) : Int) ≤ (i : Int); rw [dl_len]; omega
          refine d_lp _ hin rfl (d_rq rfl (d_rq hin2 (d_rq hin2 (d_itT (lt_t ?_) (d_rt ?_)))))
          · show (((dl l).getD (i : Int).toNat (.i 0)).cell 0).int < 128
            rw [Int.toNat_natCast, ix_dl]; exact hlt
          · unfold readO
            rw [he, if_pos (by omega)]
            show some (Out.ret ([arI .add .i64 (i : Int) 1, 0], [], [bl (vl l (i + 1)) (7 * i + 7)])) = _
            rw [up1 i (by omega)]
            rfl
        · obtain ⟨r, hr, ho⟩ := ih (i + 1) k (by omega) (by omega) (fun j hj2 => by
            by_cases e : j = i
            · subst e; omega
            · exact hj j (by omega))
          refine ⟨r, it_nxt (r' := ([0, 0, ((i + 1 : Nat) : Int)], [], [[], bl (vl l (i + 1)) (7 * (i + 1))])) ?_ rfl hr, ho⟩
          unfold l68_3
          refine d_callx [(bits : Int)] [] [] _ e68_84 rfl rfl rfl hM rfl (d_itT (lt_t ?_) (d_itF (decide_eq_false ?_) ?_))
          · show (i : Int) < ((mst bits : Nat) : Int); omega
          · show ¬ (((dl l).length : Nat) : Int) ≤ (i : Int); rw [dl_len]; omega
          refine d_lp _ hin rfl (d_rq rfl (d_rq hin2 (d_rq hin2 (d_itF (lt_f ?_) ?_))))
          · show 128 ≤ (((dl l).getD (i : Int).toNat (.i 0)).cell 0).int
            rw [Int.toNat_natCast, ix_dl]; omega
          · show some (Out.nxt ([0, 0, arI .add .i64 (i : Int) 1], [], [[], bl (vl l (i + 1)) (7 * i + 7)])) = _
            rw [up1 i (by omega)]
            rfl
  refine of_ret ?_
  unfold t68
  refine d_lb false ?_ (d_itF rfl ?_)
  · show (decide ((bits : Int) < 1) || decide ((bits : Int) > 64)) = false
    simp; omega
  obtain ⟨k, hk⟩ := fuel_eq (mst bits + 1) (by omega)
  obtain ⟨r, hr, ho⟩ := outer (mst bits) 0 k (by omega) (by omega) (fun j hj => by omega)
  rw [← hk] at hr
  rcases ho with rfl | ⟨ho, x, y, rfl⟩
  · exact d_lp_ret hr
  · refine d_lp _ hr rfl (d_rq rfl ?_)
    rw [ho]
    rfl
theorem q_rU {l : List Int} (hb : Bytes l) {bits : Nat} (h0 : 1 ≤ bits) (h1 : bits ≤ 64) (hl : l.length < 9223372036854775807) : F52 [(bits : Int)] [] [dl l] = some ((match uP bits l with | .err e => [0, 0, e] | .ok a n => [(a : Int), (n : Int), 0]), [], []) := by
  have hm : mst bits ≤ 10 := by unfold mst; omega
  have hR := q_read hb h0 h1 hl
  have loop : ∀ (V n : Nat) (s e : Int), n ≤ 70 → V < 2 ^ n → ∀ (d i k : Nat), i + d = n → V % 2 ^ i < 2 ^ bits → iterT 5 0 0 (fun r => l52_1.den (Tab.fn a52) ([(bits : Int), s, e] ++ r.1) ([] ++ r.2.1) ([dl l, bl V n] ++ r.2.2)) (k + (d + 1)) ([0, 0, 0, ((V % 2 ^ i : Nat) : Int), (i : Int)], [], []) =
      some (if V < 2 ^ bits then .brk 2 ([0, 0, 0, (V : Int), (n : Int)], [], []) else .ret ([0, 0, 2], [], [])) := by
    intro V n s e hn hV d
    induction d with
    | zero =>
      intro i k hi hb
      obtain rfl : i = n := by omega
      rw [Nat.mod_eq_of_lt hV] at hb ⊢
      rw [if_pos hb]
      refine it_brk ?_
      unfold l52_1
      exact d_itF (lt_f (by show (((bl V i).length : Nat) : Int) ≤ (i : Int); rw [bl_len]; omega)) rfl
    | succ d ih =>
      intro i k hi hb
      have hlen : (i : Int) < (((bl V n).length : Nat) : Int) := by rw [bl_len]; omega
      have hbx : (((bl V n).getD (i : Int).toNat (.i 0)).cell 0).bool = V.testBit i := by
        rw [Int.toNat_natCast]; exact bits_at V (by omega)
      have hmod : V % 2 ^ (i + 1) = V % 2 ^ i + 2 ^ i * (V / 2 ^ i % 2) := by rw [Nat.pow_succ]; exact Nat.mod_mul
      have htb : V.testBit i = decide (V / 2 ^ i % 2 = 1) := Nat.testBit_eq_decide_div_mod_eq
      by_cases ht : V.testBit i = true
      · have hone : V / 2 ^ i % 2 = 1 := by rw [ht] at htb; exact of_decide_eq_true htb.symm
        rw [hone, Nat.mul_one] at hmod
        by_cases hib : bits ≤ i
        · have hbig : ¬ V < 2 ^ bits := fun h => by
            have := Nat.testBit_lt_two_pow (Nat.lt_of_lt_of_le h (pow_le hib))
            rw [this] at ht; cases ht
          rw [if_neg hbig]
          refine it_ret ?_
          unfold l52_1
          refine d_itT (lt_t hlen) (d_rq (decide_eq_true (show (0 : Int) ≤ (i : Int) by omega)) (d_itF ?_ (d_itT (decide_eq_true (show (bits : Int) ≤ (i : Int) by omega)) rfl)))
          show (!(((bl V n).getD (i : Int).toNat (.i 0)).cell 0).bool) = false
          rw [hbx, ht]; rfl
        · have h64 : 2 ^ i < 2 ^ 64 := Nat.pow_lt_pow_right (by decide) (by omega)
          have hlt : V % 2 ^ (i + 1) < 2 ^ bits := Nat.lt_of_lt_of_le (mod_lt_pow _ _) (pow_le (by omega))
          have hb64 : 2 ^ bits ≤ 2 ^ 64 := pow_le h1
          refine it_nxt (r' := ([0, 0, 0, ((V % 2 ^ (i + 1) : Nat) : Int), ((i + 1 : Nat) : Int)], [], [])) ?_ rfl (ih (i + 1) k (by omega) hlt)
          have es : arI .add .u64 ((V % 2 ^ i : Nat) : Int) (arI .shl .u64 1 (IntKind.u64.wrap (i : Int))) = ((V % 2 ^ (i + 1) : Nat) : Int) := by
            rw [wu (by omega) (by omega), show (1 : Int) = ((1 : Nat) : Int) from rfl, shl_nat 1 i (by omega), Nat.one_mul, Nat.mod_eq_of_lt h64, hmod]
            show IntKind.u64.wrap (((V % 2 ^ i : Nat) : Int) + ((2 ^ i : Nat) : Int)) = _
            rw [hmod] at hlt
            rw [wu (by omega) (by omega)]; omega
          unfold l52_1
          refine d_itT (lt_t hlen) (d_rq (decide_eq_true (show (0 : Int) ≤ (i : Int) by omega)) (d_itF ?_ (d_itF (decide_eq_false (show ¬ (bits : Int) ≤ (i : Int) by omega)) (d_rq (decide_eq_true (show (0 : Int) ≤ IntKind.u64.wrap (i : Int) by rw [wu (by omega) (by omega)]; omega)) ?_))))
          · show (!(((bl V n).getD (i : Int).toNat (.i 0)).cell 0).bool) = false
            rw [hbx, ht]; rfl
          · show some (Out.nxt ([0, 0, 0, arI .add .u64 ((V % 2 ^ i : Nat) : Int) (arI .shl .u64 1 (IntKind.u64.wrap (i : Int))), arI .add .i64 (i : Int) 1], [], [])) = _
            rw [es, up1 i (by omega)]
      · have hzero : V / 2 ^ i % 2 = 0 := by
          have : ¬ V / 2 ^ i % 2 = 1 := fun h => ht (by rw [htb, decide_eq_true h])
          omega
        simp only [hzero, Nat.mul_zero, Nat.add_zero] at hmod
        refine it_nxt (r' := ([0, 0, 0, ((V % 2 ^ (i + 1) : Nat) : Int), ((i + 1 : Nat) : Int)], [], [])) ?_ rfl (ih (i + 1) k (by omega) (by rw [hmod]; exact hb))
        unfold l52_1
        refine d_itT (lt_t hlen) (d_rq (decide_eq_true (show (0 : Int) ≤ (i : Int) by omega)) (d_itT ?_ ?_))
        · show (!(((bl V n).getD (i : Int).toNat (.i 0)).cell 0).bool) = true
          rw [hbx]; simpa using ht
        · show some (Out.nxt ([0, 0, 0, ((V % 2 ^ i : Nat) : Int), arI .add .i64 (i : Int) 1], [], [])) = _
          rw [up1 i (by omega), hmod]
  refine of_ret ?_
  unfold t52
  refine d_callx [(bits : Int)] [] [dl l] _ e52_68 rfl rfl rfl hR ?_ ?_
  · unfold readO; split
    · rfl
    · split <;> rfl
  unfold readO uP
  by_cases hc : ends l < l.length ∧ ends l < mst bits
  · rw [if_pos hc, if_pos hc]
    refine d_itF rfl ?_
    obtain ⟨k, hk⟩ := fuel_eq (7 * (ends l + 1) + 1) (by omega)
    have h := loop (vl l (ends l + 1)) (7 * (ends l + 1)) ((ends l + 1 : Nat) : Int) 0 (by omega) (vl_lt l _) (7 * (ends l + 1)) 0 k (by omega) (by rw [Nat.pow_zero, Nat.mod_one]; exact pow_pos _)
    rw [← hk, Nat.pow_zero, Nat.mod_one] at h
    by_cases hv : vl l (ends l + 1) < 2 ^ bits
    · rw [if_pos hv] at h ⊢
      exact d_lp _ h rfl (d_rq rfl rfl)
    · rw [if_neg hv] at h ⊢
      exact d_lp_ret h
  · rw [if_neg hc, if_neg hc]
    by_cases h2 : mst bits ≤ ends l
    · rw [if_pos h2, if_pos h2]; exact d_itT rfl rfl
    · rw [if_neg h2, if_neg h2]; exact d_itT rfl rfl
theorem wrap_mul (q : Int) : arI .mul .i64 q 2 = wrap64 (q * 2) := wrap_w64 _
theorem wrap_add (q : Int) : arI .add .i64 q 1 = wrap64 (q + 1) := wrap_w64 _
theorem rS_tail {l : List Int} (V n : Nat) (h0 : 1 ≤ n) (hn : n ≤ 70) (hV : V < 2 ^ n) {x0 x1 x2 x3 x4 x5 x6 x7 : Int} : ∀ (d k : Nat) (i : Int), i + 1 = (d : Int) → d ≤ 64 →
    iterT 2 0 0 (fun r => l54_1.den (Tab.fn a54) ([x0, x1, x2, x3, x4, x5, x6, x7] ++ r.1) ([] ++ r.2.1) ([dl l, bl V n] ++ r.2.2)) (k + (d + 1)) ([wrap64 ((full V n / 2 ^ d : Nat) : Int), i], [], []) = some (.brk 4 ([wrap64 ((full V n : Nat) : Int), -1], [], [])) := by
  have hlen : (((bl V n).length : Nat) : Int) = (n : Int) := by rw [bl_len]
  intro d
  induction d with
  | zero =>
    intro k i hi _
    obtain rfl : i = -1 := by omega
    rw [Nat.pow_zero, Nat.div_one]
    refine it_brk ?_
    unfold l54_1
    refine d_itF (by rfl) ?_
    simp only [T.den, vals, E.I, List.map_cons, List.map_nil, List.cons_append, List.nil_append, List.getD_cons_succ, List.getD_cons_zero]
  | succ d ih =>
    intro k i hi hd
    obtain rfl : i = (d : Int) := by omega
    have step := fun (b : Bool) (hb : (full V n).testBit d = b) => step_num (full V n / 2 ^ (d + 1)) (full V n / 2 ^ d) b (half_lt (full_lt hV)) ((halves (full V n) d).trans (by rw [hb]))
    have hfb := full_bit hV h0 (show d < 64 by omega)
    have e1 : arI .sub .i64 (((bl V n).length : Nat) : Int) 1 = ((n - 1 : Nat) : Int) := by rw [hlen, subI (by omega) (by omega)]; omega
    have e2 : arI .sub .i64 (d : Int) 1 = (d : Int) - 1 := subI (by omega) (by omega)
    have hin : (decide (arI .sub .i64 (((bl V n).length : Nat) : Int) 1 ≥ 0) && decide (arI .sub .i64 (((bl V n).length : Nat) : Int) 1 < (((bl V n).length : Nat) : Int))) = true := by rw [e1, hlen]; simp; omega
    refine it_nxt (r' := ([wrap64 ((full V n / 2 ^ d : Nat) : Int), (d : Int) - 1], [], [])) ?_ rfl (ih k ((d : Int) - 1) (by omega) (by omega))
    unfold l54_1
    refine d_itT (decide_eq_true (show (0 : Int) ≤ (d : Int) by omega)) (d_rq hin (d_rq hin ?_))
    have fin1 : (full V n).testBit d = true → (some (Out.nxt ([arI .add .i64 (arI .mul .i64 (wrap64 ((full V n / 2 ^ (d + 1) : Nat) : Int)) 2) 1, arI .sub .i64 (d : Int) 1], [], [])) : Option Out) = some (Out.nxt ([wrap64 ((full V n / 2 ^ d : Nat) : Int), (d : Int) - 1], [], [])) := fun hb => by
      have := step true hb
      rw [if_pos rfl] at this
      rw [e2, wrap_mul, wrap_add, this]
    have fin0 : (full V n).testBit d = false → (some (Out.nxt ([arI .mul .i64 (wrap64 ((full V n / 2 ^ (d + 1) : Nat) : Int)) 2, arI .sub .i64 (d : Int) 1], [], [])) : Option Out) = some (Out.nxt ([wrap64 ((full V n / 2 ^ d : Nat) : Int), (d : Int) - 1], [], [])) := fun hb => by
      have := step false hb
      rw [if_neg (by decide)] at this
      rw [e2, wrap_mul, this]
    generalize wrap64 ((full V n / 2 ^ (d + 1) : Nat) : Int) = Q at *
    by_cases hdn : d < n
    · rw [if_pos hdn] at hfb
      refine d_itT (lt_t (show (d : Int) < (((bl V n).length : Nat) : Int) by rw [hlen]; omega)) ?_
      have eb : (((bl V n).getD (d : Int).toNat (.i 0)).cell 0).bool = V.testBit d := by rw [Int.toNat_natCast]; exact bits_at V hdn
      cases hvb : V.testBit d
      · refine d_itF (eb.trans hvb) ?_
        simp only [T.den, vals, E.I, List.map_cons, List.map_nil, List.cons_append, List.nil_append, List.getD_cons_succ, List.getD_cons_zero]
        exact fin0 (hfb.trans hvb)
      · refine d_itT (eb.trans hvb) ?_
        simp only [T.den, vals, E.I, List.map_cons, List.map_nil, List.cons_append, List.nil_append, List.getD_cons_succ, List.getD_cons_zero]
        exact fin1 (hfb.trans hvb)
    · rw [if_neg hdn] at hfb
      refine d_itF (lt_f (show (((bl V n).length : Nat) : Int) ≤ (d : Int) by rw [hlen]; omega)) ?_
      have eb : (((bl V n).getD (arI .sub .i64 (((bl V n).length : Nat) : Int) 1).toNat (.i 0)).cell 0).bool = V.testBit (n - 1) := by rw [e1, Int.toNat_natCast]; exact bits_at V (by omega)
      cases hvb : V.testBit (n - 1)
      · refine d_itF (eb.trans hvb) ?_
        simp only [T.den, vals, E.I, List.map_cons, List.map_nil, List.cons_append, List.nil_append, List.getD_cons_succ, List.getD_cons_zero]
        exact fin0 (hfb.trans hvb)
      · refine d_itT (eb.trans hvb) ?_
        simp only [T.den, vals, E.I, List.map_cons, List.map_nil, List.cons_append, List.nil_append, List.getD_cons_succ, List.getD_cons_zero]
        exact fin1 (hfb.trans hvb)
open Classical in
theorem rS_loop {l : List Int} {bits : Nat} (hb0 : 1 ≤ bits) (hb1 : bits ≤ 64) (V n : Nat) (hn : n ≤ 70) (s e : Int) : ∀ (d i k : Nat), bits ≤ i → (n ≤ i ∨ i + d = n) → (∀ j, bits ≤ j → j < i → j < n → V.testBit j = V.testBit (bits - 1)) →
    ∃ r, iterT 4 0 0 (fun r => l54_3.den (Tab.fn a54) ([(bits : Int), s, e] ++ r.1) ([] ++ r.2.1) ([dl l, bl V n] ++ r.2.2)) (k + (d + 1)) ([0, 0, 0, (i : Int)], [], []) = some r ∧
      if ∀ j, bits ≤ j → j < n → V.testBit j = V.testBit (bits - 1) then ∃ x, r = .brk 2 ([0, 0, 0, x], [], []) else r = .ret ([0, 0, 2], [], []) := by
  have hlen : (((bl V n).length : Nat) : Int) = (n : Int) := by rw [bl_len]
  have last : ∀ i k : Nat, n ≤ i → (∀ j, bits ≤ j → j < n → V.testBit j = V.testBit (bits - 1)) → ∃ r, iterT 4 0 0 (fun r => l54_3.den (Tab.fn a54) ([(bits : Int), s, e] ++ r.1) ([] ++ r.2.1) ([dl l, bl V n] ++ r.2.2)) (k + 1) ([0, 0, 0, (i : Int)], [], []) = some r ∧
      if ∀ j, bits ≤ j → j < n → V.testBit j = V.testBit (bits - 1) then ∃ x, r = .brk 2 ([0, 0, 0, x], [], []) else r = .ret ([0, 0, 2], [], []) := fun i k hi hall => by
    refine ⟨_, it_brk (t := 2) (r' := ([0, 0, 0, (i : Int)], [], [])) ?_, by rw [if_pos hall]; exact ⟨_, rfl⟩⟩
    unfold l54_3
    exact d_itF (lt_f (show (((bl V n).length : Nat) : Int) ≤ (i : Int) by rw [hlen]; omega)) rfl
  intro d
  induction d with
  | zero =>
    intro i k hi hin hj
    exact last i k (by omega) (fun j h1 h2 => hj j h1 (by omega) h2)
  | succ d ih =>
    intro i k hi hin hj
    by_cases hni : n ≤ i
    · exact last i (k + (d + 1)) hni (fun j h1 h2 => hj j h1 (by omega) h2)
    · have e1 : arI .sub .i64 (bits : Int) 1 = ((bits - 1 : Nat) : Int) := by rw [subI (by omega) (by omega)]; omega
      have hin' : (decide (arI .sub .i64 (bits : Int) 1 ≥ 0) && decide (arI .sub .i64 (bits : Int) 1 < (((bl V n).length : Nat) : Int))) = true := by rw [e1, hlen]; simp; omega
      have eb : (!((((bl V n).getD (i : Int).toNat (.i 0)).cell 0).bool == (((bl V n).getD (arI .sub .i64 (bits : Int) 1).toNat (.i 0)).cell 0).bool)) = !(V.testBit i == V.testBit (bits - 1)) := by
        rw [e1, Int.toNat_natCast, Int.toNat_natCast, show (((bl V n).getD i (.i 0)).cell 0).bool = V.testBit i from bits_at V (by omega), show (((bl V n).getD (bits - 1) (.i 0)).cell 0).bool = V.testBit (bits - 1) from bits_at V (by omega)]
      by_cases hb : V.testBit i = V.testBit (bits - 1)
      · obtain ⟨r, hr, ho⟩ := ih (i + 1) k (by omega) (by omega) (fun j h1 h2 h3 => by
          by_cases e : j = i
          · subst e; exact hb
          · exact hj j h1 (by omega) h3)
        refine ⟨r, it_nxt (r' := ([0, 0, 0, ((i + 1 : Nat) : Int)], [], [])) ?_ rfl hr, ho⟩
        unfold l54_3
        refine d_itT (lt_t (show (i : Int) < (((bl V n).length : Nat) : Int) by rw [hlen]; omega)) (d_rq (decide_eq_true (show (0 : Int) ≤ (i : Int) by omega)) (d_rq hin' (d_rq hin' (d_lb false ?_ (d_itF rfl ?_)))))
        · refine Eq.trans eb ?_
          rw [hb]; simp
        · show some (Out.nxt ([0, 0, 0, arI .add .i64 (i : Int) 1], [], [])) = _
          rw [up1 i (by omega)]
      · refine ⟨_, it_ret (r' := ([0, 0, 2], [], [])) ?_, by rw [if_neg (fun h => hb (h i hi (by omega)))]⟩
        unfold l54_3
        refine d_itT (lt_t (show (i : Int) < (((bl V n).length : Nat) : Int) by rw [hlen]; omega)) (d_rq (decide_eq_true (show (0 : Int) ≤ (i : Int) by omega)) (d_rq hin' (d_rq hin' (d_lb true ?_ (d_itT rfl rfl)))))
        refine Eq.trans eb ?_
        simpa using hb
theorem q_rS {l : List Int} (hb : Bytes l) {bits : Nat} (h0 : 1 ≤ bits) (h1 : bits ≤ 64) (hl : l.length < 9223372036854775807) : F54 [(bits : Int)] [] [dl l] = some ((match sP bits l with | .err e => [0, 0, e] | .ok a n => [a, (n : Int), 0]), [], []) := by
  have hm : mst bits ≤ 10 := by unfold mst; omega
  have hR := q_read hb h0 h1 hl
  refine of_ret ?_
  unfold t54
  refine d_callx [(bits : Int)] [] [dl l] _ e54_68 rfl rfl rfl hR ?_ ?_
  · unfold readO; split
    · rfl
    · split <;> rfl
  unfold readO sP
  by_cases hc : ends l < l.length ∧ ends l < mst bits
  · rw [if_pos hc, if_pos hc]
    refine d_itF rfl ?_
    generalize hs : ends l = s at *
    have hV := vl_lt l (s + 1)
    have hbm : 7 * s < bits := by unfold mst at hc; omega
    have hpp : 2 ^ (7 * s + 7) = 2 * 2 ^ (7 * s + 6) := by rw [show 7 * s + 7 = (7 * s + 6) + 1 by omega, Nat.pow_succ]; omega
    obtain ⟨k, hk⟩ := fuel_eq (7 * (s + 1) - bits + 1) (by omega)
    obtain ⟨r, hr, ho⟩ := rS_loop (l := l) h0 h1 (vl l (s + 1)) (7 * (s + 1)) (by omega) ((s + 1 : Nat) : Int) 0 (7 * (s + 1) - bits) bits k (by omega) (by omega) (fun j h2 h3 => by omega)
    rw [← hk] at hr
    have hiff : (∀ j, bits ≤ j → j < 7 * (s + 1) → (vl l (s + 1)).testBit j = (vl l (s + 1)).testBit (bits - 1)) ↔ (-((2 ^ (bits - 1) : Nat) : Int) ≤ sv l s ∧ sv l s < ((2 ^ (bits - 1) : Nat) : Int)) := by
      rw [show 7 * (s + 1) = 7 * s + 7 by omega] at hV ⊢
      by_cases hsm : bits - 1 < 7 * s + 7
      · have hp6 : 2 ^ (bits - 1) ≤ 2 ^ (7 * s + 6) := pow_le (by omega)
        have := same_bits hV hsm
        rw [show bits - 1 + 1 = bits by omega] at this
        rw [this]
        unfold sv
        split <;> omega
      · have hp7 : 2 ^ (7 * s + 6) ≤ 2 ^ (bits - 1) := pow_le (by omega)
        constructor
        · intro _
          unfold sv
          split <;> omega
        · intro _ j h2 h3; omega
    by_cases hr2 : -((2 ^ (bits - 1) : Nat) : Int) ≤ sv l s ∧ sv l s < ((2 ^ (bits - 1) : Nat) : Int)
    · rw [if_pos (hiff.2 hr2)] at ho
      obtain ⟨x, rfl⟩ := ho
      rw [if_pos hr2]
      refine d_lp _ hr rfl (d_rq rfl ?_)
      obtain ⟨k2, hk2⟩ := fuel_eq (64 + 1) (by omega)
      have ht := rS_tail (l := l) (vl l (s + 1)) (7 * (s + 1)) (by omega) (by omega) hV (x0 := (bits : Int)) (x1 := ((s + 1 : Nat) : Int)) (x2 := 0) (x3 := 2) (x4 := 0) (x5 := 0) (x6 := 0) (x7 := x) 64 k2 63 (by omega) (by omega)
      rw [← hk2, Nat.div_eq_of_lt (full_lt hV), wrap64_id ((0 : Nat) : Int) (by decide) (by decide)] at ht
      refine d_lp _ ht rfl (d_rq rfl ?_)
      rw [show 7 * (s + 1) = 7 * s + 7 by omega]
      rw [sv_full l s (by omega) (fun h => by
        subst h
        have : bits = 64 := by omega
        subst this
        exact hr2)]
      rfl
    · rw [if_neg (fun h => hr2 (hiff.1 h))] at ho
      subst ho
      rw [if_neg hr2]
      exact d_lp_ret hr
  · rw [if_neg hc, if_neg hc]
    by_cases h2 : mst bits ≤ ends l
    · rw [if_pos h2, if_pos h2]; exact d_itT rfl rfl
    · rw [if_neg h2, if_neg h2]; exact d_itT rfl rfl
/-- The error of a byte as a type. -/
def valE (x : Int) : Int := if x = 127 ∨ x = 126 then 0 else if x = 125 ∨ x = 124 ∨ x = 123 ∨ x = 112 ∨ x = 111 then 3 else 2
theorem valP_cons (x : Int) (r : List Int) : valP (x :: r) = if valE x = 0 then .ok x 1 else .err (valE x) := by
  unfold valP valE Rd.bind
  simp only [byteP]
  by_cases h1 : x = 127 ∨ x = 126
  · simp only [if_pos h1]; rfl
  · by_cases h2 : x = 125 ∨ x = 124 ∨ x = 123 ∨ x = 112 ∨ x = 111
    · simp only [if_neg h1, if_pos h2]; rfl
    · simp only [if_neg h1, if_neg h2]; rfl
theorem valP_nil : valP [] = .err 1 := rfl
theorem drop_cons {l : List Int} {p : Nat} (h : p < l.length) : l.drop p = l.getD p 0 :: l.drop (p + 1) := by
  rw [List.drop_eq_getElem_cons h, List.getD_eq_getElem?_getD, List.getElem?_eq_getElem h]; rfl
def blockP : Rd Int := fun l => if l.getD 0 0 = 64 then .ok (-64) 1 else match valP l with | .ok v _ => .ok (v - 128) 1 | .err e => if e ≠ 2 then .err e else match sP 33 l with | .err e => .err e | .ok n k => if n < 0 then .err 2 else .ok n k
def blockO (l : List Int) : Vx.R := match blockP l with | .err e => ([0, 0, e], [], []) | .ok a n => ([a, (n : Int), 0], [], [])
theorem q_block {l : List Int} (hb : Bytes l) (hl : l.length < 4611686018427387904) : F62 [] [] [dl l] = some (blockO l) := by
  have hv := q_val hb
  have hs := q_S hb (bits := 33) (by decide) (by decide) (by omega)
  refine of_ret ?_
  unfold t62 blockO blockP
  have key : ∀ r : Vx.R, r = ((match (match valP l with | .ok v _ => .ok (v - 128) 1 | .err e => if e ≠ 2 then .err e else match sP 33 l with | .err e => .err e | .ok n k => if n < 0 then .err 2 else .ok n k : Res Int) with | .err e => ([0, 0, e], [], []) | .ok a n => ([a, (n : Int), 0], [], [])) : Vx.R) →
      (Vx.T.call 72 [] [] [(.v 0)] 3 0 0 (.ite (.cm .neq (.iv 2) (.n 2)) (.ite (.cm .neq (.iv 2) (.n 0)) (.ret [(.n 0), (.n 0), (.iv 2)] [] []) (.ret [(.ar .sub .i64 (.iv 0) (.n 128)), (.n 1), (.n 0)] [] [])) (.call 64 [(.n 33)] [] [(.v 0)] 3 0 0 (.ite (.cm .neq (.iv 5) (.n 0)) (.ret [(.n 0), (.n 0), (.iv 5)] [] []) (.ite (.cm .lss (.iv 3) (.n 0)) (.ret [(.n 0), (.n 0), (.n 2)] [] []) (.ret [(.iv 3), (.iv 4), (.n 0)] [] [])))))).den (Tab.fn a62) [] [] [dl l] = some (.ret r) := by
    rintro r rfl
    have hnz := valP_stbl.nz l
    have hin : ∀ v n, valP l = .ok v n → 0 ≤ v ∧ v < 256 := fun v n h => by
      cases l with
      | nil => cases h
      | cons x q =>
        rw [valP_cons] at h
        split at h
        · cases h; exact hb _ List.mem_cons_self
        · cases h
    generalize valP l = V at *
    cases V with
    | err e =>
      refine d_callx [] [] [dl l] ([0, 0, e], [], []) e62_72 rfl rfl rfl hv rfl ?_
      by_cases h2 : e = 2
      · subst h2
        refine d_itF rfl ?_
        simp only [ne_eq, not_true_eq_false, if_false]
        have hsz := (sP_stbl 33).nz l
        generalize sP 33 l = W at *
        cases W with
        | err e =>
          refine d_callx [33] [] [dl l] ([0, 0, e], [], []) e62_64 rfl rfl rfl hs rfl ?_
          exact d_itT (bne_iff_ne.2 (hsz e rfl)) rfl
        | ok a n =>
          refine d_callx [33] [] [dl l] ([a, (n : Int), 0], [], []) e62_64 rfl rfl rfl hs rfl ?_
          refine d_itF rfl ?_
          by_cases h0 : a < 0
          · refine d_itT (lt_t h0) ?_
            simp only [if_pos h0]; rfl
          · refine d_itF (decide_eq_false h0) ?_
            simp only [if_neg h0]; rfl
      · refine d_itT (bne_iff_ne.2 h2) (d_itT (bne_iff_ne.2 (hnz e rfl)) ?_)
        simp only [ne_eq, h2, not_false_eq_true, if_true]
        rfl
    | ok v n =>
      have hv' := hin v n rfl
      refine d_callx [] [] [dl l] ([v, (n : Int), 0], [], []) e62_72 rfl rfl rfl hv rfl ?_
      refine d_itT rfl (d_itF rfl ?_)
      show some (Out.ret ([arI .sub .i64 v 128, 1, 0], [], [])) = _
      rw [subI (by omega) (by omega)]
      rfl
  cases l with
  | nil =>
    refine d_rq rfl (d_itF rfl ?_)
    refine key _ ?_
    rfl
  | cons x r =>
    have el : (((dl (x :: r)).length : Nat) : Int) = (r.length : Int) + 1 := by simp [dl]
    refine d_rq ?_ (d_itT ?_ (d_rq ?_ ?_))
    · show (!(decide ((((dl (x :: r)).length : Nat) : Int) > 0)) || decide ((0 : Int) < (((dl (x :: r)).length : Nat) : Int))) = true
      rw [el]; simp <;> omega
    · show decide ((((dl (x :: r)).length : Nat) : Int) > 0) = true
      rw [el]; simp <;> omega
    · show decide ((0 : Int) < (((dl (x :: r)).length : Nat) : Int)) = true
      rw [el]; simp <;> omega
    by_cases h64 : x = 64
    · refine d_itT (eq_t h64) ?_
      rw [if_pos (show (x :: r).getD 0 0 = 64 from h64)]
      rfl
    · refine d_itF (eq_f h64) ?_
      rw [if_neg (show ¬ (x :: r).getD 0 0 = 64 from h64)]
      exact key _ rfl
theorem q_rval {x : Int} (h0 : 0 ≤ x) (h1 : x < 256) : F69 [x] [] [] = some ([if valE x = 0 then x else 0, valE x], [], []) := by
  refine of_ret ?_
  unfold t69
  by_cases h7 : x = 127
  · subst h7; rfl
  by_cases h6 : x = 126
  · subst h6; rfl
  have b1 := beq_eq_false_iff_ne.2 h7
  have b2 := beq_eq_false_iff_ne.2 h6
  refine d_lb false ?_ (d_itF rfl ?_)
  · show ((x == 127) || (x == 126)) = false
    rw [b1, b2]; rfl
  refine d_lb (x == 125 || x == 124) rfl (d_lb ((x == 125 || x == 124 || x == 123) || x == 112) rfl ?_)
  refine d_ite (fun h => ?_) fun h => ?_
  · have h : (((x == 125 || x == 124 || x == 123) || x == 112) || x == 111) = true := h
    simp only [Bool.or_eq_true, beq_iff_eq] at h
    have hE : valE x = 3 := by unfold valE; rw [if_neg (by omega), if_pos (by omega)]
    rw [hE]; rfl
  · have h : (((x == 125 || x == 124 || x == 123) || x == 112) || x == 111) = false := h
    simp only [Bool.or_eq_false_iff, beq_eq_false_iff_ne, ne_eq] at h
    have hE : valE x = 2 := by unfold valE; rw [if_neg (by omega), if_neg (by omega)]
    rw [hE]; rfl
theorem q_rblock {l : List Int} (hb : Bytes l) (hl : l.length < 4611686018427387904) : F53 [] [] [dl l] = some (blockO l) := by
  have hs := q_rS hb (bits := 33) (by decide) (by decide) (by omega)
  refine of_ret ?_
  unfold t53 blockO blockP
  cases l with
  | nil => exact d_itT rfl rfl
  | cons x r =>
    have hx := hb x List.mem_cons_self
    have hv := q_rval hx.1 hx.2
    have el : (((dl (x :: r)).length : Nat) : Int) = (r.length : Int) + 1 := by simp [dl]
    refine d_itF (show decide ((((dl (x :: r)).length : Nat) : Int) < 1) = false from lt_f (by rw [el]; omega)) ?_
    refine d_rq (by show decide ((0 : Int) < (((dl (x :: r)).length : Nat) : Int)) = true; rw [el, decide_eq_true_eq]; omega) ?_
    by_cases h64 : x = 64
    · refine d_itT (eq_t h64) ?_
      rw [if_pos (show (x :: r).getD 0 0 = 64 from h64)]
      rfl
    refine d_itF (eq_f h64) ?_
    rw [if_neg (show ¬ (x :: r).getD 0 0 = 64 from h64), valP_cons]
    refine d_callx [x] [] [] _ e53_69 rfl rfl rfl hv rfl ?_
    have hcase : valE x = 0 ∨ valE x = 3 ∨ valE x = 2 := by unfold valE; split <;> (try split) <;> simp
    rcases hcase with h | h | h
    · rw [h]
      refine d_itF rfl (d_itT rfl ?_)
      simp only [if_true]
      show some (Out.ret ([arI .sub .i64 x 128, 1, 0], [], [])) = _
      rw [subI (by omega) (by omega)]
      rfl
    · rw [h]
      exact d_itT rfl rfl
    · rw [h]
      refine d_itF rfl (d_itF rfl ?_)
      simp only [show ¬ (2 : Int) = 0 from by decide, if_false, ne_eq, not_true_eq_false]
      have hsz := (sP_stbl 33).nz (x :: r)
      generalize sP 33 (x :: r) = W at *
      cases W with
      | err e =>
        exact d_callx [33] [] [dl (x :: r)] ([0, 0, e], [], []) e53_54 rfl rfl rfl hs rfl (d_itT (bne_iff_ne.2 (hsz e rfl)) rfl)
      | ok a n =>
        refine d_callx [33] [] [dl (x :: r)] ([a, (n : Int), 0], [], []) e53_54 rfl rfl rfl hs rfl (d_itF rfl ?_)
        by_cases h0 : a < 0
        · refine d_itT (lt_t h0) ?_
          simp only [if_pos h0]; rfl
        · refine d_itF (decide_eq_false h0) ?_
          simp only [if_neg h0]; rfl
def right (n : Int) : Bool := decide (n ≥ 0) && decide (n < 4294967296)
theorem q_right (n : Int) : F58 [n] [] [] = some ([], [right n], []) := by
  refine of_ret ?_
  unfold t58
  rfl
theorem right_iff {n : Int} : right n = true ↔ ∃ m : Nat, n = m ∧ m < 2 ^ 32 := by
  unfold right
  simp only [Bool.and_eq_true, decide_eq_true_eq]
  constructor
  · rintro ⟨h1, h2⟩
    exact ⟨n.toNat, by omega, by omega⟩
  · rintro ⟨m, rfl, h⟩
    omega
def okBk (k : Int) : Bool := k == -64 || k == -1 || k == -2 || right k
theorem okB_range {k : Int} (h : okBk k = true) : -64 ≤ k ∧ k < 4294967296 := by
  unfold okBk right at h
  simp at h
  omega
theorem q_putBlock (b : List D) (k : Int) (hb : b.length ≤ 1000000000) : F35 [k] [] [b] = some (if okBk k = true then ([0], [], [b ++ dl (sBytes k)]) else ([2], [], [[]])) := by
  refine of_ret ?_
  unfold t35
  have hp : okBk k = true → F49 [k] [] [b] = some ([], [], [b ++ dl (sBytes k)]) := fun h => by
    have := okB_range h
    exact q_putS (by omega) (by omega) b (by omega)
  refine d_lb ((k != -64) && (k != -1)) rfl ?_
  by_cases h3 : ((k != -64) && (k != -1) && (k != -2)) = true
  · refine d_itT h3 ?_
    refine d_callx [k] [] [] ([], [right k], []) e35_58 rfl rfl rfl (q_right k) rfl ?_
    have e : okBk k = right k := by
      unfold okBk
      simp only [Bool.and_eq_true, bne_iff_ne, ne_eq] at h3
      rw [eq_f h3.1.1, eq_f h3.1.2, eq_f h3.2]; rfl
    by_cases hr : right k = true
    · rw [e, if_pos hr]
      refine d_itF (by show (!right k) = false; rw [hr]; rfl) ?_
      exact d_callx [k] [] [b] _ e35_49 rfl rfl rfl (hp (by rw [e]; exact hr)) rfl rfl
    · rw [e, if_neg hr]
      exact d_itT (by show (!right k) = true; rw [Bool.eq_false_iff.2 hr]; rfl) rfl
  · have h3 := Bool.eq_false_iff.2 h3
    have e : okBk k = true := by
      unfold okBk
      cases h64 : k == -64 <;> cases h1 : k == -1 <;> cases h2 : k == -2 <;> simp_all [bne]
    rw [if_pos e]
    refine d_itF h3 ?_
    exact d_callx [k] [] [b] _ e35_49 rfl rfl rfl (hp e) rfl rfl
theorem sBytes_small {k : Int} (h0 : 0 ≤ k) (h1 : k < 64) : sBytes k = [k] := by
  unfold sBytes sB
  rw [if_pos (by omega)]
  have : k % 128 = k := by omega
  rw [this]
theorem sBytes_big {k : Int} (h : 63 < k) : sBytes k = (k % 128 + 128) :: sB 8 (k / 128) := by
  rw [sBytes, sB, if_neg (by omega)]
theorem blockP_back {k : Int} {q : List Int} (h : okBk k = true) : blockP (sBytes k ++ q) = .ok k (sBytes k).length := by
  by_cases h64 : k = -64
  · subst h64; rfl
  by_cases h1 : k = -1
  · subst h1; rfl
  by_cases h2 : k = -2
  · subst h2; rfl
  have hr : right k = true := by
    unfold okBk at h
    rw [eq_f h64, eq_f h1, eq_f h2] at h
    simpa using h
  unfold right at hr
  simp only [Bool.and_eq_true, decide_eq_true_eq] at hr
  have hs := sP_back (n := k) (by omega) (by omega) q (bits := 33) (by decide) (by constructor <;> simp <;> omega)
  obtain ⟨x, l, hx, h64', hE⟩ : ∃ x l, sBytes k = x :: l ∧ x ≠ 64 ∧ valE x = 2 := by
    by_cases hk : k < 64
    · refine ⟨k, [], sBytes_small (by omega) hk, by omega, ?_⟩
      unfold valE; rw [if_neg (by omega), if_neg (by omega)]
    · refine ⟨_, _, sBytes_big (by omega), by omega, ?_⟩
      unfold valE; rw [if_neg (by omega), if_neg (by omega)]
  unfold blockP
  rw [hs, hx]
  rw [List.cons_append, valP_cons, hE, if_neg (show ¬ (x :: (l ++ q)).getD 0 0 = 64 from h64')]
  simp only [show ¬ (2 : Int) = 0 by decide, if_false, ne_eq, not_true_eq_false, if_neg (show ¬ k < 0 by omega)]
theorem lp_rsame (l : List D) (hl : l.length < 4611686018427387904) : ∀ (d i k : Nat), i + d = l.length → iterT 1 1 0 (fun r => l17_1.den (Tab.fn a17) ([] ++ r.1) ([] ++ r.2.1) ([l, l] ++ r.2.2)) (k + (d + 1)) ([(i : Int)], [false], []) = some (.brk 2 ([(l.length : Int)], [false], [])) := by
  intro d
  induction d with
  | zero =>
    intro i k hi
    obtain rfl : i = l.length := by omega
    refine it_brk ?_
    simp [l17_1, T.den, E.B, E.I, cmB, vals]
  | succ d ih =>
    intro i k hi
    have h3 : (i : Int) < (l.length : Nat) := by omega
    have h4 : (0 : Int) ≤ (i : Int) := by omega
    have e2 : arI .add .i64 (i : Int) 1 = ((i + 1 : Nat) : Int) := by show IntKind.i64.wrap ((i : Int) + 1) = _; rw [wi (by omega) (by omega)]; omega
    refine it_nxt (r' := ([((i + 1 : Nat) : Int)], [false], [])) ?_ rfl (ih (i + 1) k (by omega))
    simp only [l17_1, T.den, E.B, E.I, cmB, vals, List.cons_append, List.nil_append, List.append_nil, List.getD_cons_zero, List.getD_cons_succ, List.map_cons, List.map_nil, h3, h4, ge_iff_le, decide_true, cond_true, bne_self_eq_false, cond_false, e2]
theorem q_rsame (l : List D) (hl : l.length < 4611686018427387904) : F17 [] [] [l, l] = some ([], [true], []) := by
  refine of_ret ?_
  unfold t17
  refine d_ite (fun h => ?_) fun _ => ?_
  · have : ((l.length : Int) != (l.length : Int)) = true := h
    simp at this
  obtain ⟨k, hk⟩ := fuel_eq (l.length + 1) (by omega)
  have h := lp_rsame l hl l.length 0 k (by omega)
  rw [← hk] at h
  exact d_lp _ h rfl rfl
theorem lp_rPutU (f : Nat) : ∀ (n k : Nat) (v : Int) (acc : List D), n < 128 ^ (f + 1) → n < 2 ^ 64 → acc.length + f ≤ 1000000 →
    iterT 1 0 2 (fun r => l37_1.den (Tab.fn a37) ([v] ++ r.1) ([] ++ r.2.1) ([] ++ r.2.2)) (k + (f + 1)) ([(n : Int)], [], [[], acc]) = some (.ret ([], [], [acc ++ dl (uB f n)])) := by
  have low : ∀ n : Nat, n < 2 ^ 64 → IntKind.u8.wrap (arI .rem .u64 (n : Int) 128) = ((n % 128 : Nat) : Int) := fun n h => by
    show IntKind.u8.wrap (Int.tmod (n : Int) 128) = _
    rw [Int.tmod_eq_emod_of_nonneg (by omega), wrap_u8]; omega
  have low2 : ∀ n : Nat, n < 2 ^ 64 → arI .add .u8 (IntKind.u8.wrap (arI .rem .u64 (n : Int) 128)) 128 = ((n % 128 + 128 : Nat) : Int) := fun n h => by
    rw [low n h]
    show IntKind.u8.wrap (((n % 128 : Nat) : Int) + 128) = _
    rw [wrap_u8]; omega
  have up_ : ∀ n : Nat, n < 2 ^ 64 → arI .quo .u64 (n : Int) 128 = ((n / 128 : Nat) : Int) := fun n h => by
    show IntKind.u64.wrap (Int.tdiv (n : Int) 128) = _
    rw [Int.tdiv_eq_ediv_of_nonneg (by omega), wu (by omega) (by omega)]; omega
  have stop : ∀ (n k : Nat) (v : Int) (acc : List D), n < 128 → acc.length ≤ 1000000 →
      iterT 1 0 2 (fun r => l37_1.den (Tab.fn a37) ([v] ++ r.1) ([] ++ r.2.1) ([] ++ r.2.2)) (k + 1) ([(n : Int)], [], [[], acc]) = some (.ret ([], [], [acc ++ dl [(n : Int)]])) := fun n k v acc hn hl => by
    refine it_ret ?_
    unfold l37_1
    have e1 := low n (by omega)
    rw [show n % 128 = n by omega] at e1
    refine d_itT (eq_t ?_) (d_lst [[.i (n : Int)]] (congrArg (fun z => [[D.i z]]) e1) (d_rq ?_ (d_lst [acc ++ [.i (n : Int)]] rfl ?_)))
    · show arI .quo .u64 (n : Int) 128 = 0
      rw [up_ n (by omega)]; omega
    · refine an_t (decide_eq_true ?_) rfl
      show ((acc.length : Nat) : Int) ≤ 17592186044416
      omega
    · exact d_rt rfl
  induction f with
  | zero =>
    intro n k v acc h h64 hl
    have hn : n < 128 := by simpa using h
    have := stop n k v acc hn (by omega)
    rw [show uB 0 n = [(n : Int)] by simp [uB]; omega]
    exact this
  | succ f ih =>
    intro n k v acc h h64 hl
    by_cases hn : n < 128
    · have := stop n (k + (f + 1)) v acc hn (by omega)
      rw [show uB (f + 1) n = [(n : Int)] by simp [uB, hn]]
      exact this
    · have h2 := ih (n / 128) k v (acc ++ [.i ((n % 128 + 128 : Nat) : Int)]) (by rw [Nat.div_lt_iff_lt_mul (by decide), ← Nat.pow_succ]; exact h) (by omega) (by simp; omega)
      have e : acc ++ dl (uB (f + 1) n) = acc ++ [.i ((n % 128 + 128 : Nat) : Int)] ++ dl (uB f (n / 128)) := by
        conv => lhs; unfold uB
        rw [if_neg hn, List.append_assoc]
        rfl
      rw [e]
      refine it_nxt (r' := ([((n / 128 : Nat) : Int)], [], [[], acc ++ [.i ((n % 128 + 128 : Nat) : Int)]])) ?_ rfl (by exact h2)
      unfold l37_1
      have e2 := low2 n h64
      have e3 := congrArg (fun z => [[D.i z]]) e2
      refine d_itF (eq_f ?_) (d_lst [[.i ((n % 128 + 128 : Nat) : Int)]] (by exact e3) (d_rq ?_ (d_lst [acc ++ [.i ((n % 128 + 128 : Nat) : Int)]] (by rfl) ?_)))
      · show arI .quo .u64 (n : Int) 128 ≠ 0
        rw [up_ n h64]; omega
      · refine an_t (decide_eq_true ?_) rfl
        show ((acc.length : Nat) : Int) ≤ 17592186044416
        omega
      · show some (Out.nxt ([arI .quo .u64 (n : Int) 128], [], [[], acc ++ [.i ((n % 128 + 128 : Nat) : Int)]])) = _
        rw [up_ n h64]
theorem q_rPutU {n : Nat} (hn : n < 2 ^ 64) : F37 [(n : Int)] [] [] = some ([], [], [dl (uBytes n)]) := by
  refine of_ret ?_
  unfold t37
  obtain ⟨k, hk⟩ := fuel_eq (9 + 1) (by decide)
  have h := lp_rPutU 9 n k (n : Int) [] (by omega) hn (by simp)
  rw [← hk, List.nil_append] at h
  exact d_lp_ret h
theorem lp_rPutS (n : Int) (s : Nat) (hs : s ≤ 9) {y : List D} : ∀ (d i k : Nat), i + d = s →
    iterT 1 0 1 (fun r => l39_1.den (Tab.fn a39) ([n, ((s + 1 : Nat) : Int)] ++ r.1) ([] ++ r.2.1) ([y] ++ r.2.2)) (k + 1 + (d + 1)) ([(i : Int)], [], [dl (pre n i)]) = some (.brk 4 ([((s + 1 : Nat) : Int)], [], [dl (form n s)])) := by
  have hz : ∀ z : Int, IntKind.u8.wrap (z % 128) = z % 128 := fun z => by rw [wrap_u8]; omega
  have hz2 : ∀ z : Int, arI .add .u8 (IntKind.u8.wrap (z % 128)) 128 = z % 128 + 128 := fun z => by
    rw [hz]
    show IntKind.u8.wrap (z % 128 + 128) = _
    rw [wrap_u8]; omega
  have h7 : ∀ i : Nat, i ≤ 9 → (0 : Int) ≤ IntKind.u64.wrap (arI .mul .i64 7 (i : Int)) := fun i hi => by
    have : arI .mul .i64 7 (i : Int) = ((7 * i : Nat) : Int) := by show IntKind.i64.wrap (7 * (i : Int)) = _; rw [wi (by omega) (by omega)]; omega
    rw [this, wu (by omega) (by omega)]; omega
  have hd1 : arI .sub .i64 ((s + 1 : Nat) : Int) 1 = (s : Int) := by rw [subI (by omega) (by omega)]; omega
  have hcap : ∀ i : Nat, i ≤ 9 → (decide ((((dl (pre n i)).length : Nat) : Int) ≤ 17592186044416) && decide ((1 : Int) ≤ 17592186044416)) = true := fun i hi => by
    rw [dl_len, pre_len]; simp; omega
  intro d
  induction d with
  | zero =>
    intro i k hi
    obtain rfl : i = s := by omega
    refine it_nxt (r' := ([((i + 1 : Nat) : Int)], [], [dl (form n i)])) ?_ rfl (it_brk ?_)
    · unfold l39_1
      have e1 : IntKind.u8.wrap (arI .rem .u64 (IntKind.u64.wrap (arI .shr .i64 n (IntKind.u64.wrap (arI .mul .i64 7 (i : Int))))) 128) = n / 2 ^ (7 * i) % 128 := by rw [piece n i hs, hz]
      refine d_itT (lt_t (show (i : Int) < ((i + 1 : Nat) : Int) by omega)) (d_rq (decide_eq_true (h7 i hs)) (d_li _ rfl (d_itF (lt_f (show arI .sub .i64 ((i + 1 : Nat) : Int) 1 ≤ (i : Int) by rw [hd1]; omega)) ?_)))
      refine d_lst [[.i (n / 2 ^ (7 * i) % 128)]] (congrArg (fun z => [[D.i z]]) e1) (d_rq (hcap i hs) (d_lst [dl (pre n i) ++ [.i (n / 2 ^ (7 * i) % 128)]] rfl ?_))
      have e2 : dl (form n i) = dl (pre n i) ++ [.i (n / 2 ^ (7 * i) % 128)] := by unfold form; rw [dl_app]; rfl
      rw [e2]
      show some (Out.nxt ([arI .add .i64 (i : Int) 1], [], [dl (pre n i) ++ [.i (n / 2 ^ (7 * i) % 128)]])) = _
      rw [up1 i (by omega)]
    · unfold l39_1
      exact d_itF (lt_f (show ((i + 1 : Nat) : Int) ≤ ((i + 1 : Nat) : Int) by omega)) rfl
  | succ d ih =>
    intro i k hi
    refine it_nxt (r' := ([((i + 1 : Nat) : Int)], [], [dl (pre n (i + 1))])) ?_ rfl (ih (i + 1) k (by omega))
    unfold l39_1
    have hi9 : i ≤ 9 := by omega
    have e1 : arI .add .u8 (IntKind.u8.wrap (arI .rem .u64 (IntKind.u64.wrap (arI .shr .i64 n (IntKind.u64.wrap (arI .mul .i64 7 (i : Int))))) 128)) 128 = n / 2 ^ (7 * i) % 128 + 128 := by rw [piece n i hi9, hz2]
    refine d_itT (lt_t (show (i : Int) < ((s + 1 : Nat) : Int) by omega)) (d_rq (decide_eq_true (h7 i hi9)) (d_li _ rfl (d_itT (lt_t (show (i : Int) < arI .sub .i64 ((s + 1 : Nat) : Int) 1 by rw [hd1]; omega)) ?_)))
    refine d_lst [[.i (n / 2 ^ (7 * i) % 128 + 128)]] (congrArg (fun z => [[D.i z]]) e1) (d_rq (hcap i hi9) (d_lst [dl (pre n i) ++ [.i (n / 2 ^ (7 * i) % 128 + 128)]] rfl ?_))
    have e2 : dl (pre n (i + 1)) = dl (pre n i) ++ [.i (n / 2 ^ (7 * i) % 128 + 128)] := by rw [pre_succ, dl_app]; rfl
    rw [e2]
    show some (Out.nxt ([arI .add .i64 (i : Int) 1], [], [dl (pre n i) ++ [.i (n / 2 ^ (7 * i) % 128 + 128)]])) = _
    rw [up1 i (by omega)]
theorem q_rPutS {n : Int} (h0 : -9223372036854775808 ≤ n) (h1 : n ≤ 9223372036854775807) : F39 [n] [] [] = some ([], [], [dl (sBytes n)]) := by
  have hlen : (sBytes n).length ≤ 10 := (sBytes_len h0 h1 9).2 (by omega)
  have hp := sBytes_pos n
  have outer : ∀ (d s k : Nat), s + 1 + d = (sBytes n).length →
      iterT 1 0 1 (fun r => l39_3.den (Tab.fn a39) ([n] ++ r.1) ([] ++ r.2.1) ([] ++ r.2.2)) (k + (d + 1)) ([((s + 1 : Nat) : Int)], [], [[]]) = some (.ret ([], [], [dl (sBytes n)])) := by
    intro d
    induction d with
    | zero =>
      intro s k hs
      obtain ⟨k2, hk2⟩ := fuel_eq (1 + (s + 1)) (by omega)
      have hl := lp_rPutS n s (by omega) (y := []) s 0 k2 (by omega)
      rw [Nat.add_assoc, ← hk2] at hl
      have hf : form n s = sBytes n := by rw [← form_all (n := n)]; congr 1; omega
      have hS := q_rS (form_bytes n s) (bits := 64) (by decide) (by decide) (by rw [form_len]; omega)
      rw [hf, form_read h0 h1] at hS
      refine it_ret ?_
      unfold l39_3
      refine d_lp _ hl rfl (d_rq rfl ?_)
      rw [hf]
      refine d_callx [64] [] [dl (sBytes n)] ([n, (((sBytes n).length : Nat) : Int), 0], [], []) e39_54 rfl rfl rfl (by exact hS) rfl ?_
      refine d_lb true ?_ (d_itT rfl (d_rt rfl))
      show (((0 : Int) == 0) && (n == n)) = true
      simp
    | succ d ih =>
      intro s k hs
      obtain ⟨k2, hk2⟩ := fuel_eq (1 + (s + 1)) (by omega)
      have hl := lp_rPutS n s (by omega) (y := []) s 0 k2 (by omega)
      rw [Nat.add_assoc, ← hk2] at hl
      have hS := q_rS (form_bytes n s) (bits := 64) (by decide) (by decide) (by rw [form_len]; omega)
      have hne := (form_ne h0 h1 (s := s) (by omega)).2
      have hnz := (sP_stbl 64).nz (form n s)
      refine it_nxt (r' := ([((s + 1 + 1 : Nat) : Int)], [], [[]])) ?_ rfl (ih (s + 1) k (by omega))
      unfold l39_3
      refine d_lp _ hl rfl (d_rq rfl ?_)
      generalize sP 64 (form n s) = W at *
      cases W with
      | err e =>
        refine d_callx [64] [] [dl (form n s)] ([0, 0, e], [], []) e39_54 rfl rfl rfl (by exact hS) rfl ?_
        refine d_lb false ?_ (d_itF rfl ?_)
        · show ((e == 0) && ((0 : Int) == n)) = false
          rw [eq_f (hnz e rfl)]; rfl
        · show some (Out.nxt ([arI .add .i64 ((s + 1 : Nat) : Int) 1], [], [[]])) = _
          rw [up1 (s + 1) (by omega)]
      | ok a q =>
        refine d_callx [64] [] [dl (form n s)] ([a, (q : Int), 0], [], []) e39_54 rfl rfl rfl (by exact hS) rfl ?_
        refine d_lb false ?_ (d_itF rfl ?_)
        · show (((0 : Int) == 0) && (a == n)) = false
          rw [eq_f (hne a q rfl)]; rfl
        · show some (Out.nxt ([arI .add .i64 ((s + 1 : Nat) : Int) 1], [], [[]])) = _
          rw [up1 (s + 1) (by omega)]
  refine of_ret ?_
  unfold t39
  obtain ⟨k, hk⟩ := fuel_eq ((sBytes n).length - 1 + 1) (by omega)
  have h := outer ((sBytes n).length - 1) 0 k (by omega)
  rw [← hk] at h
  exact d_lp_ret h
theorem q_blockBytes (k : Int) (h : okBk k = true) : F38 [k] [] [] = some ([], [], [dl (sBytes k)]) := by
  have hr := okB_range h
  refine of_ret ?_
  unfold t38
  exact d_callx [k] [] [] _ e38_39 rfl rfl rfl (q_rPutS (by omega) (by omega)) rfl rfl
theorem q_short6 {L : List D} : ∃ b, F10 [] [] [L] = some ([], [b], []) := by
  have loop : ∀ (d i k : Nat) (n : Int), i + d = L.length → L.length ≤ 2100 →
      ∃ r, iterT 2 1 0 (fun r => l10_1.den (Tab.fn a10) ([] ++ r.1) ([] ++ r.2.1) ([L] ++ r.2.2)) (k + (d + 1)) ([n, (i : Int)], [false], []) = some r ∧ ((∃ m, r = .brk 2 ([m, (L.length : Int)], [false], [])) ∨ r = .ret ([], [false], [])) := by
    intro d
    induction d with
    | zero =>
      intro i k n hi hT
      obtain rfl : i = L.length := by omega
      refine ⟨_, it_brk (t := 2) (r' := ([n, (L.length : Int)], [false], [])) ?_, .inl ⟨n, rfl⟩⟩
      unfold l10_1
      exact d_itF (lt_f (Int.le_refl _)) rfl
    | succ d ih =>
      intro i k n hi hT
      have hlt : decide ((i : Int) < ((L.length : Nat) : Int)) = true := by rw [decide_eq_true_eq]; omega
      have h0 : decide ((i : Int) ≥ 0) = true := decide_eq_true (show (0 : Int) ≤ (i : Int) by omega)
      by_cases c0 : decide ((((((L.getD (i : Int).toNat (.i 0)).cell 4).list).length : Nat) : Int) > 100) = true
      · refine ⟨_, it_ret (r' := ([], [false], [])) ?_, .inr rfl⟩
        unfold l10_1
        exact d_itT hlt (d_rq h0 (d_lst [((L.getD (i : Int).toNat (.i 0)).cell 4).list] rfl (d_itT c0 (d_rt rfl))))
      · obtain ⟨r, hr, ho⟩ := ih (i + 1) k (arI .add .i64 n ((((L.getD (i : Int).toNat (.i 0)).cell 4).list.length : Nat) : Int)) (by omega) hT
        refine ⟨r, it_nxt (r' := ([arI .add .i64 n ((((L.getD (i : Int).toNat (.i 0)).cell 4).list.length : Nat) : Int), ((i + 1 : Nat) : Int)], [false], [])) ?_ rfl hr, ho⟩
        unfold l10_1
        refine d_itT hlt (d_rq h0 (d_lst [((L.getD (i : Int).toNat (.i 0)).cell 4).list] rfl (d_itF (Bool.eq_false_iff.2 c0) (d_lst [((L.getD (i : Int).toNat (.i 0)).cell 4).list] rfl ?_))))
        have e := up1 i (by omega)
        rw [← e]
        rfl
  by_cases hc : decide ((L.length : Int) > 2100) = true
  · refine ⟨false, of_ret ?_⟩
    unfold t10
    exact d_itT hc rfl
  · have hl : L.length ≤ 2100 := by simp at hc; omega
    obtain ⟨k, hk⟩ := fuel_eq (L.length + 1) (by omega)
    obtain ⟨r, hr, ho⟩ := loop L.length 0 k 0 (by omega) hl
    rw [← hk] at hr
    rcases ho with ⟨m, rfl⟩ | rfl
    · refine ⟨decide (m ≤ 2000), of_ret ?_⟩
      unfold t10
      exact d_itF (Bool.eq_false_iff.2 hc) (d_lp _ hr rfl (d_rq rfl rfl))
    · refine ⟨false, of_ret ?_⟩
      unfold t10
      exact d_itF (Bool.eq_false_iff.2 hc) (d_lp_ret hr)
end Go.Proofs.Ytmfjapphmmlppaa.SInstrPuts
