/-
  TypCut: what the readers of layers 1 and 5 answer.
-/
import Derived.Test.YthmiladfdndciaaXTypCut
import Derived.Test.YthmiladfdndciaaVp
namespace Go.Proofs.Ythmiladfdndciaa.STypCut
set_option linter.all false
open Go.Proofs.Ythmiladfdndciaa.Vx Go.Proofs.Ythmiladfdndciaa.XTypCut Go.Proofs.Ythmiladfdndciaa.Vd Go.Proofs.Ythmiladfdndciaa.Vn Go.Proofs.Ythmiladfdndciaa.Vl Go.Proofs.Ythmiladfdndciaa.Vp
theorem wi {n : Int} (h0 : -9223372036854775808 ≤ n) (h1 : n < 9223372036854775808) : IntKind.i64.wrap n = n := by
  simp only [IntKind.wrap, IntKind.bits, IntKind.signed, Nat.reducePow, Nat.reduceSub, Int.reducePow, Bool.true_and, decide_eq_true_eq, ge_iff_le]
  split <;> omega
theorem wu {n : Int} (h0 : 0 ≤ n) (h1 : n < 18446744073709551616) : IntKind.u64.wrap n = n := wraps_u64 n h0 h1
theorem pow_pos (i : Nat) : 0 < 2 ^ i := Nat.pow_pos (by decide)
/-- The piece of seven bits that comes next. -/
theorem vl_or {l : List Int} {i : Nat} (hi : 7 * i ≤ 63) : (vl l i % 2 ^ 64 ||| ((l.getD i 0).toNat % 128) * 2 ^ (7 * i) % 2 ^ 64) = vl l (i + 1) % 2 ^ 64 := by
  have h1 := vl_lt l i
  rw [← Nat.or_mod_two_pow]
  congr 1
  show _ = vl l i + ((l.getD i 0).toNat % 128) * 2 ^ (7 * i)
  rw [Nat.or_comm, Nat.mul_comm, ← Nat.two_pow_add_eq_or_of_lt h1, Nat.add_comm]
theorem mod128 {x : Int} (h0 : 0 ≤ x) : x % 128 = ((x.toNat % 128 : Nat) : Int) := by omega
theorem vl_small (l : List Int) (s own : Nat) (hlt : l.getD s 0 < 128) (h0 : 0 ≤ l.getD s 0) : vl l (s + 1) < 2 ^ (7 * s + own) ↔ l.getD s 0 < 2 ^ own := by
  have h1 := vl_lt l s
  have h2 : (l.getD s 0).toNat % 128 = (l.getD s 0).toNat := Nat.mod_eq_of_lt (by omega)
  unfold vl
  rw [h2, Nat.pow_add]
  have hc : l.getD s 0 < 2 ^ own ↔ (l.getD s 0).toNat < 2 ^ own := by
    have e : ((2 ^ own : Nat) : Int) = (2 : Int) ^ own := by simp
    omega
  rw [hc]
  generalize (l.getD s 0).toNat = x
  generalize 2 ^ own = Q
  generalize hP : 2 ^ (7 * s) = P at h1 ⊢
  constructor
  · intro h
    rcases Nat.lt_or_ge x Q with h' | h'
    · exact h'
    · have := Nat.mul_le_mul_right P h'
      rw [Nat.mul_comm P Q] at h
      omega
  · intro h
    have := Nat.mul_le_mul_right P (Nat.succ_le_of_lt h)
    rw [Nat.mul_comm P Q]
    rw [Nat.succ_mul] at this
    omega
/-- The same, signed: the highest bit of the last piece counts down. -/
theorem ix_dl (l : List Int) (i : Nat) : (((dl l).getD i (.i 0)).cell 0).int = l.getD i 0 := by
  unfold dl
  rw [List.getD_eq_getElem?_getD, List.getElem?_map, List.getD_eq_getElem?_getD]
  cases l[i]? <;> rfl
theorem q44 {bits : Nat} (h : bits ≤ 64) : F44 [(bits : Int)] [] [] = some ([((mst bits : Nat) : Int)], [], []) := by
  have e : IntKind.i64.wrap ((IntKind.i64.wrap ((bits : Int) + 6)).tdiv 7) = ((mst bits : Nat) : Int) := by
    rw [wi (n := (bits : Int) + 6) (by omega) (by omega), Int.tdiv_eq_ediv_of_nonneg (by omega), wi (by omega) (by omega)]
    unfold mst
    omega
  refine of_ret ?_
  unfold t44
  simp only [T.den, vals, List.map_cons, List.map_nil, E.I, arI, List.getD_cons_zero, e]
theorem shl_nat (a i : Nat) (h : i ≤ 64) : arI .shl .u64 (a : Int) (i : Int) = ((a * 2 ^ i % 2 ^ 64 : Nat) : Int) := by
  rw [arShl _ _ (by omega) (by omega), Int.toNat_natCast]
  simp
theorem raw_step {l : List Int} (hb : Bytes l) {i : Nat} (hi : i ≤ 9) :
    arI .or .u64 ((vl l i % 2 ^ 64 : Nat) : Int) (arI .shl .u64 (IntKind.u64.wrap (arI .and .u8 (l.getD i 0) 127)) (IntKind.u64.wrap (arI .mul .i64 7 (i : Int)))) = ((vl l (i + 1) % 2 ^ 64 : Nat) : Int) := by
  have hx := hb.at i
  have e1 : arI .mul .i64 7 (i : Int) = ((7 * i : Nat) : Int) := by show IntKind.i64.wrap (7 * (i : Int)) = _; rw [wi (by omega) (by omega)]; omega
  have e2 : arI .and .u8 (l.getD i 0) 127 = ((((l.getD i 0).toNat % 128 : Nat)) : Int) := by show Go.bits .and .u8 _ 127 = _; rw [u8_and127 hx.1 hx.2, mod128 hx.1]
  rw [e1, e2, wu (by omega) (by omega), wu (by omega) (by omega), shl_nat _ _ (by omega), bor _ _ (Nat.mod_lt _ (by decide)) (Nat.mod_lt _ (by decide)), vl_or (by omega)]
theorem own_eq {bits s : Nat} (h1 : bits ≤ 64) (hs : s ≤ 9) : arI .sub .i64 (bits : Int) (arI .mul .i64 7 (arI .sub .i64 ((s + 1 : Nat) : Int) 1)) = (bits : Int) - 7 * (s : Int) := by
  have a : arI .sub .i64 ((s + 1 : Nat) : Int) 1 = (s : Int) := by show IntKind.i64.wrap (((s + 1 : Nat) : Int) - 1) = _; rw [wi (by omega) (by omega)]; omega
  have b : arI .mul .i64 7 (s : Int) = 7 * (s : Int) := by show IntKind.i64.wrap (7 * (s : Int)) = _; rw [wi (by omega) (by omega)]
  rw [a, b]
  show IntKind.i64.wrap ((bits : Int) - 7 * (s : Int)) = _
  rw [wi (by omega) (by omega)]
theorem shr8 {x : Int} (o : Nat) (ho : o ≤ 8) : arI .shr .u8 x (o : Int) = x / 2 ^ o := by
  show x.fdiv (2 ^ (min (Int.toNat (o : Int)) 8)) = _
  rw [show min (Int.toNat (o : Int)) 8 = o by omega]
  exact Int.fdiv_eq_ediv_of_nonneg _ (Int.pow_nonneg (by decide))
theorem pow_int_pos (o : Nat) : (0 : Int) < 2 ^ o := Int.pow_pos (by decide)
theorem ediv_zero_iff {x y : Int} (h0 : 0 ≤ x) (hy : 0 < y) : x / y = 0 ↔ x < y := by
  constructor
  · intro h
    have := Int.emod_add_mul_ediv x y
    have := Int.emod_lt_of_pos x hy
    rw [h] at *
    omega
  · intro h
    exact Int.ediv_eq_zero_of_lt h0 h
/-- The pieces of a number. -/
def rawO (l : List Int) (bits : Nat) : List Int :=
  if ends l < l.length ∧ ends l < mst bits then [((vl l (ends l + 1) % 2 ^ 64 : Nat) : Int), l.getD (ends l) 0, ((ends l + 1 : Nat) : Int), 0] else if mst bits ≤ ends l then [0, 0, 0, 2] else [0, 0, 0, 1]
theorem q42_loop {l : List Int} (hb : Bytes l) {bits : Nat} (h0 : 1 ≤ bits) (h1 : bits ≤ 64) (hl : l.length < 9223372036854775807) : ∀ (d i k : Nat), i + d = min (ends l) (mst bits - 1) → 
    (∃ r, iterT 6 0 0 (fun r => l42_1.den (Tab.fn a42) ([(bits : Int)] ++ r.1) ([false] ++ r.2.1) ([dl l] ++ r.2.2)) (k + (d + 1)) ([0, 0, 0, 0, ((vl l i % 2 ^ 64 : Nat) : Int), (i : Int)], [], []) = some r ∧
      (r = .ret (rawO l bits, [], []) ∨ (rawO l bits = [0, 0, 0, 1] ∧ ∃ x y, r = .brk 2 ([0, 0, 0, 0, x, y], [], [])))) := by
  have hm10 : mst bits ≤ 10 := by unfold mst; omega
  have hm1 : 1 ≤ mst bits := by unfold mst; omega
  have e1 : ∀ i : Nat, i ≤ 9 → arI .add .i64 (i : Int) 1 = ((i + 1 : Nat) : Int) := fun i hi => by show IntKind.i64.wrap ((i : Int) + 1) = _; rw [wi (by omega) (by omega)]; omega
  have e2 : ∀ i : Nat, i ≤ 9 → (0 : Int) ≤ IntKind.u64.wrap (arI .mul .i64 7 (i : Int)) := fun i hi => by
    have : arI .mul .i64 7 (i : Int) = ((7 * i : Nat) : Int) := by show IntKind.i64.wrap (7 * (i : Int)) = _; rw [wi (by omega) (by omega)]; omega
    rw [this, wu (by omega) (by omega)]; omega
  have hel := ends_le l
  intro d
  induction d with
  | zero =>
    intro i k hi
    by_cases hlen : i < l.length
    · have h3 : (i : Int) < (l.length : Nat) := by omega
      have h4 := e2 i (by omega)
      have h5 : (0 : Int) ≤ (i : Nat) := by omega
      by_cases hlt : l.getD i 0 < 128
      · have hei : i = ends l := by
          by_cases h : i < ends l
          · have := ends_before l i h; omega
          · omega
        refine ⟨_, it_ret (r' := (rawO l bits, [], [])) ?_, .inl rfl⟩
        have hr : rawO l bits = [((vl l (i + 1) % 2 ^ 64 : Nat) : Int), l.getD i 0, ((i + 1 : Nat) : Int), 0] := by unfold rawO; rw [← hei, if_pos (by omega)]
        rw [hr]
        simp only [l42_1, T.den, E.B, E.I, cmB, vals, List.cons_append, List.nil_append, List.getD_cons_zero, List.getD_cons_succ, List.map_cons, List.map_nil, dl_len, h3, h4, h5, decide_true, cond_true, Int.toNat_natCast, ix_dl, hlt, ge_iff_le, raw_step hb (show i ≤ 9 by omega), e1 _ (show i ≤ 9 by omega)]
      · have hne : i ≠ ends l := fun e => by have := ends_at l (by omega); rw [← e] at this; omega
        have him : i + 1 = mst bits := by omega
        have h6 : (((i + 1 : Nat) : Int) == ((mst bits : Nat) : Int)) = true := by rw [beq_iff_eq]; omega
        refine ⟨_, it_ret (r' := (rawO l bits, [], [])) ?_, .inl rfl⟩
        have hr : rawO l bits = [0, 0, 0, 2] := by
          unfold rawO
          have : mst bits ≤ ends l := by omega
          rw [if_neg (by omega), if_pos this]
        rw [hr]
        simp only [l42_1, T.den, E.B, E.I, cmB, vals, List.cons_append, List.nil_append, List.append_nil, List.getD_cons_zero, List.getD_cons_succ, List.map_cons, List.map_nil, dl_len, h3, h4, h5, decide_true, cond_true, Int.toNat_natCast, ix_dl, hlt, decide_false, cond_false, ge_iff_le, raw_step hb (show i ≤ 9 by omega), e1 _ (show i ≤ 9 by omega), e42_44, q44 h1, R.fits, List.length_cons, List.length_nil, Nat.reduceAdd, h6]
        rfl
    · have h3 : ¬ (i : Int) < (l.length : Nat) := by omega
      refine ⟨_, it_brk (t := 2) (r' := ([0, 0, 0, 0, ((vl l i % 2 ^ 64 : Nat) : Int), (i : Int)], [], [])) ?_, .inr ⟨?_, _, _, rfl⟩⟩
      · simp only [l42_1, T.den, E.B, E.I, cmB, vals, List.cons_append, List.nil_append, List.append_nil, List.getD_cons_zero, List.getD_cons_succ, List.map_cons, List.map_nil, dl_len, h3, decide_false, cond_false]
      · unfold rawO
        rw [if_neg (by omega), if_neg (by omega)]
  | succ d ih =>
    intro i k hi
    have hge := ends_before l i (by omega)
    have hlt : ¬ l.getD i 0 < 128 := by omega
    have h3 : (i : Int) < (l.length : Nat) := by omega
    have h4 := e2 i (by omega)
    have h5 : (0 : Int) ≤ (i : Nat) := by omega
    have h6 : (((i + 1 : Nat) : Int) == ((mst bits : Nat) : Int)) = false := by rw [beq_eq_false_iff_ne]; omega
    obtain ⟨r, hr, ho⟩ := ih (i + 1) k (by omega)
    refine ⟨r, it_nxt (r' := ([0, 0, 0, 0, ((vl l (i + 1) % 2 ^ 64 : Nat) : Int), ((i + 1 : Nat) : Int)], [], [])) ?_ rfl hr, ho⟩
    simp only [l42_1, T.den, E.B, E.I, cmB, vals, List.cons_append, List.nil_append, List.append_nil, List.getD_cons_zero, List.getD_cons_succ, List.map_cons, List.map_nil, dl_len, h3, h4, h5, decide_true, cond_true, Int.toNat_natCast, ix_dl, hlt, decide_false, cond_false, ge_iff_le, raw_step hb (show i ≤ 9 by omega), e1 _ (show i ≤ 9 by omega), e42_44, q44 h1, R.fits, List.length_cons, List.length_nil, Nat.reduceAdd, h6]
    rfl
theorem q42 {l : List Int} (hb : Bytes l) {bits : Nat} (h0 : 1 ≤ bits) (h1 : bits ≤ 64) (hl : l.length < 9223372036854775807) : F42 [(bits : Int)] [] [dl l] = some (rawO l bits, [], []) := by
  refine of_ret ?_
  unfold t42
  have hm10 : mst bits ≤ 10 := by unfold mst; omega
  obtain ⟨k, hk⟩ := fuel_eq (min (ends l) (mst bits - 1) + 1) (by omega)
  have h2 : ¬ ((bits : Int) < 1) := by omega
  have h3 : ¬ ((bits : Int) > 64) := by omega
  have e : ((E.cm .lss (.iv 0) (.n 1)).oo (.cm .gtr (.iv 0) (.n 64))).B [(bits : Int)] [] [dl l] = false := by simp only [E.B, E.I, cmB, List.getD_cons_zero, h2, h3, decide_false, Bool.or_false]
  show T.den _ _ _ ([] ++ [_]) _ = _
  rw [e]
  refine d_ite (fun h => by cases h) fun _ => ?_
  obtain ⟨r, hr, ho⟩ := q42_loop hb h0 h1 hl (min (ends l) (mst bits - 1)) 0 k (by omega)
  rw [← hk] at hr
  rcases ho with rfl | ⟨ho, x, y, rfl⟩
  · exact d_lp_ret hr
  · refine d_lp _ hr rfl ?_
    rw [ho]
    rfl
/-- An unsigned number of 32 bits. -/
theorem q31 {l : List Int} (hb : Bytes l) (hl : l.length < 9223372036854775807) : F31 [32] [] [dl l] = some ((match uP 32 l with | .err e => [0, 0, e] | .ok a n => [(a : Int), (n : Int), 0]), [], []) := by
  have h42 := q42 hb (bits := 32) (by decide) (by decide) hl
  refine of_ret ?_
  unfold t31
  refine d_callx [32] [] [dl l] _ e31_42 rfl rfl rfl h42 ?_ ?_
  · unfold rawO; split
    · rfl
    · split <;> rfl
  have hm5 : mst 32 = 5 := rfl
  unfold rawO uP
  by_cases hc : ends l < l.length ∧ ends l < mst 32
  · rw [if_pos hc, if_pos hc]
    have hx := hb.at (ends l)
    have hlt := ends_at l hc.1
    generalize hS : ends l = s at *
    obtain ⟨own, ho⟩ : ∃ own : Nat, ((32 : Nat) : Int) - 7 * (s : Int) = own := ⟨(((32 : Nat) : Int) - 7 * (s : Int)).toNat, by omega⟩
    have e1 := own_eq (bits := 32) (s := s) (by decide) (by omega)
    rw [ho] at e1
    have e1 : arI .sub .i64 32 (arI .mul .i64 7 (arI .sub .i64 ((s + 1 : Nat) : Int) 1)) = own := e1
    have e2 : IntKind.u64.wrap (own : Int) = own := wu (by omega) (by omega)
    have e3 : (0 : Int) ≤ own := by omega
    have hown : 1 ≤ own := by omega
    have hsm := vl_small l s own hlt hx.1
    rw [show 7 * s + own = 32 by omega] at hsm
    have e4 : (decide ((own : Int) < 7) && (arI .shr .u8 (l.getD s 0) (own : Int) != 0)) = !decide (vl l (s + 1) < 2 ^ 32) := by
      by_cases h7 : (own : Int) < 7
      · rw [shr8 own (by omega), decide_eq_true h7, Bool.true_and]
        have := ediv_zero_iff hx.1 (pow_int_pos own) (y := 2 ^ own)
        by_cases hv : vl l (s + 1) < 2 ^ 32
        · rw [this.2 (hsm.1 hv), decide_eq_true hv]; rfl
        · rw [decide_eq_false hv]
          exact bne_iff_ne.2 fun h => hv (hsm.2 (this.1 h))
      · have hV := vl_lt l (s + 1)
        have hp : 2 ^ (7 * (s + 1)) ≤ 2 ^ 32 := pow_le (by omega)
        rw [decide_eq_false h7, decide_eq_true (show vl l (s + 1) < 2 ^ 32 by omega)]; rfl
    have hmod : vl l (s + 1) < 2 ^ 32 → vl l (s + 1) % 2 ^ 64 = vl l (s + 1) := fun h => Nat.mod_eq_of_lt (by omega)
    simp only [T.den, E.B, E.I, cmB, vals, List.cons_append, List.nil_append, List.append_nil, List.getD_cons_zero, List.getD_cons_succ, List.map_cons, List.map_nil, e1, e2, ge_iff_le, e3, decide_true, Bool.or_true, cond_true, e4, cond_false, bne_self_eq_false]
    by_cases hv : vl l (s + 1) < 2 ^ 32
    · rw [if_pos hv, hmod hv, decide_eq_true hv]; rfl
    · rw [if_neg hv, decide_eq_false hv]; rfl
  · rw [if_neg hc, if_neg hc]
    split <;> rfl
/-- A type of values. -/
def valP : Rd Int := byteP.bind fun x => if x = 127 ∨ x = 126 then fun _ => .ok x 0 else fun _ => .err (if x = 125 ∨ x = 124 ∨ x = 123 ∨ x = 112 ∨ x = 111 then 3 else 2)
theorem valP_stbl : Stbl valP := byteP_stbl.bind fun x => by
  split
  · exact Stbl.pure x
  · refine Stbl.fail _ ?_
    split <;> decide
theorem q16 {l : List Int} (hb : Bytes l) : F16 [] [] [dl l] = some ((match valP l with | .err e => [0, 0, e] | .ok v n => [v, (n : Int), 0]), [], []) := by
  refine of_ret ?_
  cases l with
  | nil => rfl
  | cons x r =>
    have hx := hb x List.mem_cons_self
    have ew : IntKind.i64.wrap x = x := wi (by omega) (by omega)
    have e0 : (((dl (x :: r)).getD (0 : Int).toNat (.i 0)).cell 0).int = x := rfl
    have el : (((dl (x :: r)).length : Nat) : Int) = (r.length : Int) + 1 := by simp [dl]
    have en : ((r.length : Int) + 1 == 0) = false := by rw [beq_eq_false_iff_ne]; omega
    have ep : decide ((0 : Int) < (r.length : Int) + 1) = true := by rw [decide_eq_true_eq]; omega
    simp only [t16, T.den, E.B, E.I, cmB, vals, List.map_cons, List.map_nil, List.getD_cons_zero, el, e0, ew, en, ep, cond_false, cond_true]
    by_cases h1 : x = 127
    · subst h1; rfl
    by_cases h2 : x = 126
    · subst h2; rfl
    by_cases h3 : x = 125
    · subst h3; rfl
    by_cases h4 : x = 124
    · subst h4; rfl
    by_cases h5 : x = 123
    · subst h5; rfl
    by_cases h6 : x = 112
    · subst h6; rfl
    by_cases h7 : x = 111
    · subst h7; rfl
    have b1 := beq_eq_false_iff_ne.2 h1
    have b2 := beq_eq_false_iff_ne.2 h2
    have b3 := beq_eq_false_iff_ne.2 h3
    have b4 := beq_eq_false_iff_ne.2 h4
    have b5 := beq_eq_false_iff_ne.2 h5
    have b6 := beq_eq_false_iff_ne.2 h6
    have b7 := beq_eq_false_iff_ne.2 h7
    simp only [b1, b2, b3, b4, b5, b6, b7, cond_false]
    simp [valP, Rd.bind, byteP, h1, h2, h3, h4, h5, h6, h7]
def loopP : Nat → Rd (List Int)
  | 0 => fun _ => .ok [] 0
  | d + 1 => valP.bind fun v => (loopP d).bind fun r => fun _ => .ok (v :: r) 0
theorem loopP_stbl : ∀ d, Stbl (loopP d)
  | 0 => Stbl.pure []
  | d + 1 => valP_stbl.bind fun v => (loopP_stbl d).bind fun r => Stbl.pure _
def valsP : Rd (List Int) := (uP 32).bind fun c => if 8 < c then fun _ => .err 4 else loopP c
theorem valsP_stbl : Stbl valsP := (uP_stbl 32).bind fun c => by
  split
  · exact Stbl.fail _ (by decide)
  · exact loopP_stbl c
def funcP : Rd (List Int × List Int) := byteP.bind fun x => if x = 96 then valsP.bind fun a => valsP.bind fun b => fun _ => .ok (a, b) 0 else fun _ => .err 2
theorem funcP_stbl : Stbl funcP := byteP_stbl.bind fun x => by
  split
  · exact valsP_stbl.bind fun a => valsP_stbl.bind fun b => Stbl.pure _
  · exact Stbl.fail _ (by decide)
theorem cut_dl (l : List Int) (p : Nat) : ((dl l).take ((l.length : Nat) : Int).toNat).drop ((p : Nat) : Int).toNat = dl (l.drop p) := by
  rw [Int.toNat_natCast, Int.toNat_natCast, List.take_of_length_le (by rw [dl_len]; exact Nat.le_refl _)]
  unfold dl
  rw [List.map_drop]
theorem l28 {l : List Int} (hb : Bytes l) (hl : l.length < 4611686018427387904) {cnt : Nat} (hc : cnt ≤ 8) (n e : Int) : ∀ (d i pos k : Nat) (acc : List Int), i + d = cnt → acc.length = i → pos ≤ l.length →
    iterT 4 0 2 (fun r => l28_1.den (Tab.fn a28) ([(cnt : Int), n, e] ++ r.1) ([] ++ r.2.1) ([dl l] ++ r.2.2)) (k + (d + 1)) ([0, 0, (pos : Int), (i : Int)], [], [[], dl acc]) =
      some (match loopP d (l.drop pos) with | .err e => .ret ([0, e], [], [[]]) | .ok vs m => .brk 2 ([0, 0, ((pos + m : Nat) : Int), (cnt : Int)], [], [[], dl (acc ++ vs)])) := by
  intro d
  induction d with
  | zero =>
    intro i pos k acc hi ha hp
    obtain rfl : i = cnt := by omega
    refine it_brk ?_
    simp [l28_1, T.den, E.B, E.I, cmB, vals, Vx.LE.L]
  | succ d ih =>
    intro i pos k acc hi ha hp
    have h16 := q16 (hb.drop pos)
    have h3 : (i : Int) < (cnt : Int) := by omega
    have h4 : (0 : Int) ≤ (pos : Int) := by omega
    have h5 : (pos : Int) ≤ (l.length : Nat) := by omega
    have ecut := cut_dl l pos
    have hlo : loopP (d + 1) (l.drop pos) = match valP (l.drop pos) with | .err e => .err e | .ok v n => (match (match loopP d ((l.drop pos).drop n) with | .err e => .err e | .ok r k => .ok (v :: r) (k + 0) : Res (List Int)) with | .err e => .err e | .ok b k => .ok b (n + k)) := by
      simp only [loopP]
      unfold Rd.bind
      cases valP (l.drop pos) with
      | err e => rfl
      | ok v n =>
        dsimp only
        cases loopP d ((l.drop pos).drop n) <;> rfl
    rw [hlo]
    have hnz := valP_stbl.nz (l.drop pos)
    have hle := valP_stbl.le (l.drop pos)
    generalize hv : valP (l.drop pos) = V at *
    cases V with
    | err er =>
      have hne : (er != 0) = true := bne_iff_ne.2 (hnz er rfl)
      refine it_ret ?_
      simp only [l28_1, T.den, E.B, E.I, cmB, vals, Vx.LE.L, List.cons_append, List.nil_append, List.append_nil, List.getD_cons_zero, List.getD_cons_succ, List.map_cons, List.map_nil, dl_len, h3, h4, h5, Int.le_refl, decide_true, Bool.and_true, cond_true, ecut, e28_16, h16, R.fits, List.length_cons, List.length_nil, Nat.reduceAdd, hne]
      rfl
    | ok v n' =>
      have hn := hle v n' rfl
      rw [List.length_drop] at hn
      have e1 : arI .add .i64 (pos : Int) (n' : Int) = ((pos + n' : Nat) : Int) := by show IntKind.i64.wrap ((pos : Int) + (n' : Int)) = _; rw [wi (by omega) (by omega)]; omega
      have e2 : arI .add .u64 (i : Int) 1 = ((i + 1 : Nat) : Int) := by show IntKind.u64.wrap ((i : Int) + 1) = _; rw [wu (by omega) (by omega)]; omega
      have h6 : ((acc.length : Nat) : Int) ≤ 3909374676536 := by omega
      have h16 : F16 [] [] [dl (l.drop pos)] = some ([v, (n' : Int), 0], [], []) := h16
      have h := ih (i + 1) (pos + n') k (acc ++ [v]) (by omega) (by simp [ha]) (by omega)
      rw [← List.drop_drop] at h
      refine it_nxt (r' := ([0, 0, ((pos + n' : Nat) : Int), ((i + 1 : Nat) : Int)], [], [[], dl (acc ++ [v])])) ?_ rfl (h.trans ?_)
      · have e3 : dl acc ++ [D.i v] = dl (acc ++ [v]) := by simp [dl]
        have h7 : ((([D.i v] : List D).length : Nat) : Int) ≤ 3909374676536 := by simp
        simp only [l28_1, T.den, E.B, E.I, cmB, vals, Vx.LE.L, CE.D, mkD, List.cons_append, List.nil_append, List.append_nil, List.getD_cons_zero, List.getD_cons_succ, List.map_cons, List.map_nil, dl_len, h3, h4, h5, Int.le_refl, decide_true, Bool.and_true, cond_true, ecut, e28_16, h16, h6, e1, e2]
        have hf : R.fits ([v, (n' : Int), 0], [], []) 3 0 0 = true := rfl
        simp only [hf, List.cons_append, List.nil_append, List.append_nil, List.getD_cons_zero, List.getD_cons_succ, bne_self_eq_false, cond_false, h6, h7, decide_true, Bool.and_true, cond_true, e1, e3]
      · dsimp only
        generalize loopP d ((l.drop pos).drop n') = W
        cases W with
        | err e => rfl
        | ok r m =>
          show some _ = some _
          congr 4
          simp [Nat.add_assoc]
theorem rd_bind {α β : Type} {R : Rd α} {f : α → Rd β} {l : List Int} : (R.bind f) l = match R l with | .err e => .err e | .ok a n => match f a (l.drop n) with | .err e => .err e | .ok b k => .ok b (n + k) := rfl
theorem q28 {l : List Int} (hb : Bytes l) (hl : l.length < 4611686018427387904) : F28 [] [] [dl l] = some (match valsP l with | .err e => ([0, e], [], [[]]) | .ok vs n => ([(n : Int), 0], [], [dl vs])) := by
  have h31 := q31 hb (by omega)
  have hnz := (uP_stbl 32).nz l
  have hle := (uP_stbl 32).le l
  refine of_ret ?_
  unfold t28 valsP
  rw [rd_bind]
  generalize hu : uP 32 l = V at *
  cases V with
  | err e =>
    refine d_callx [32] [] [dl l] _ e28_31 rfl rfl rfl h31 rfl ?_
    have hne : (e != 0) = true := bne_iff_ne.2 (hnz e rfl)
    refine d_ite (fun _ => rfl) fun h => ?_
    have : (e != 0) = false := h
    rw [hne] at this; cases this
  | ok c n =>
    have hn := hle c n rfl
    refine d_callx [32] [] [dl l] _ e28_31 rfl rfl rfl h31 rfl ?_
    refine d_ite (fun h => by cases h) fun _ => ?_
    by_cases h8 : 8 < c
    · refine d_ite (fun _ => ?_) fun h => ?_
      · simp only [if_pos h8]; rfl
      · have : decide ((c : Int) > 8) = false := h
        rw [decide_eq_false_iff_not] at this; omega
    · refine d_ite (fun h => ?_) fun _ => ?_
      · have : decide ((c : Int) > 8) = true := h
        rw [decide_eq_true_eq] at this; omega
      obtain ⟨k, hk⟩ := fuel_eq (c + 1) (by omega)
      have hlp := l28 hb hl (cnt := c) (by omega) (n : Int) 0 c 0 n k [] (by omega) rfl hn
      rw [← hk] at hlp
      simp only [if_neg h8]
      generalize loopP c (l.drop n) = W at hlp ⊢
      cases W with
      | err e => exact d_lp_ret hlp
      | ok vs m =>
        refine d_lp _ hlp rfl ?_
        rfl
theorem q8 {l : List Int} (hb : Bytes l) (hl : l.length < 4611686018427387904) : F8 [] [] [dl l] = some (match funcP l with | .err e => ([0, e], [], [[], []]) | .ok (a, b) n => ([(n : Int), 0], [], [dl a, dl b])) := by
  refine of_ret ?_
  unfold t8 funcP
  rw [rd_bind]
  cases l with
  | nil => exact d_ite (fun _ => rfl) fun h => by cases h
  | cons x r =>
    have e0 : (((dl (x :: r)).getD (0 : Int).toNat (.i 0)).cell 0).int = x := rfl
    have el : (((dl (x :: r)).length : Nat) : Int) = (r.length : Int) + 1 := by simp [dl]
    have hr : r.length < 4611686018427387904 := by simp at hl; omega
    have hbr : Bytes r := hb.drop 1
    refine d_ite (fun h => ?_) fun _ => ?_
    · have : ((((dl (x :: r)).length : Nat) : Int) == 0) = true := h
      rw [el, beq_iff_eq] at this; omega
    refine d_rq (by show decide ((0 : Int) < (((dl (x :: r)).length : Nat) : Int)) = true; rw [el, decide_eq_true_eq]; omega) ?_
    simp only [show byteP (x :: r) = Res.ok x 1 from rfl, List.drop_succ_cons, List.drop_zero]
    by_cases h96 : x = 96
    case neg =>
      refine d_ite (fun _ => ?_) fun h => ?_
      · simp only [if_neg h96]; rfl
      · have : ((((dl (x :: r)).getD (0 : Int).toNat (.i 0)).cell 0).int != 96) = false := h
        rw [e0] at this
        exact absurd (bne_iff_ne.2 h96) (by rw [this]; decide)
    refine d_ite (fun h => ?_) fun _ => ?_
    · have : ((((dl (x :: r)).getD (0 : Int).toNat (.i 0)).cell 0).int != 96) = true := h
      rw [e0, h96] at this; cases this
    simp only [if_pos h96]
    rw [rd_bind]
    refine d_rq (by show (decide ((1 : Int) ≤ (((dl (x :: r)).length : Nat) : Int)) && decide ((((dl (x :: r)).length : Nat) : Int) ≤ (((dl (x :: r)).length : Nat) : Int))) = true; rw [el]; simp; omega) ?_
    have c1 : ((dl (x :: r)).take (((dl (x :: r)).length : Nat) : Int).toNat).drop (1 : Int).toNat = dl r := by
      rw [dl_len]; exact cut_dl (x :: r) 1
    show T.den _ _ _ _ ([dl (x :: r)] ++ [((dl (x :: r)).take (((dl (x :: r)).length : Nat) : Int).toNat).drop (1 : Int).toNat]) = _
    rw [c1]
    have h1 := q28 hbr hr
    have hnz := valsP_stbl.nz r
    have hle := valsP_stbl.le r
    generalize valsP r = V at *
    cases V with
    | err e =>
      refine d_callx [] [] [dl r] _ e8_28 rfl rfl rfl h1 rfl ?_
      refine d_ite (fun _ => rfl) fun h => ?_
      have : (e != 0) = false := h
      rw [bne_iff_ne.2 (hnz e rfl)] at this; cases this
    | ok a n =>
      have hn := hle a n rfl
      refine d_callx [] [] [dl r] _ e8_28 rfl rfl rfl h1 rfl ?_
      refine d_ite (fun h => by cases h) fun _ => ?_
      have ea : arI .add .i64 1 (n : Int) = ((1 + n : Nat) : Int) := by show IntKind.i64.wrap (1 + (n : Int)) = _; rw [wi (by omega) (by omega)]; omega
      refine d_rq (by show (decide ((0 : Int) ≤ arI .add .i64 1 (n : Int)) && (decide (arI .add .i64 1 (n : Int) ≤ (((dl (x :: r)).length : Nat) : Int)) && decide ((((dl (x :: r)).length : Nat) : Int) ≤ (((dl (x :: r)).length : Nat) : Int)))) = true; rw [el, ea]; simp; omega) ?_
      have c2 : ((dl (x :: r)).take (((dl (x :: r)).length : Nat) : Int).toNat).drop (arI .add .i64 1 (n : Int)).toNat = dl (r.drop n) := by
        rw [dl_len, ea, cut_dl (x :: r) (1 + n), ← List.drop_drop]; rfl
      show T.den _ _ _ _ ([dl (x :: r)] ++ [dl r] ++ [dl a] ++ [((dl (x :: r)).take (((dl (x :: r)).length : Nat) : Int).toNat).drop (arI .add .i64 1 (n : Int)).toNat]) = _
      rw [c2]
      have h2 := q28 (hbr.drop n) (by rw [List.length_drop]; omega)
      have hnz2 := valsP_stbl.nz (r.drop n)
      have hle2 := valsP_stbl.le (r.drop n)
      dsimp only
      rw [rd_bind]
      generalize valsP (r.drop n) = W at *
      cases W with
      | err e =>
        refine d_callx [] [] [dl (r.drop n)] _ e8_28 rfl rfl rfl h2 rfl ?_
        refine d_ite (fun _ => rfl) fun h => ?_
        have : (e != 0) = false := h
        rw [bne_iff_ne.2 (hnz2 e rfl)] at this; cases this
      | ok b m =>
        have hm := hle2 b m rfl
        rw [List.length_drop] at hm
        refine d_callx [] [] [dl (r.drop n)] _ e8_28 rfl rfl rfl h2 rfl ?_
        refine d_ite (fun h => by cases h) fun _ => ?_
        have eb : arI .add .i64 (arI .add .i64 1 (n : Int)) (m : Int) = ((1 + (n + (m + 0)) : Nat) : Int) := by rw [ea]; show IntKind.i64.wrap (((1 + n : Nat) : Int) + (m : Int)) = _; rw [wi (by omega) (by omega)]; omega
        show some (Out.ret ([arI .add .i64 (arI .add .i64 1 (n : Int)) (m : Int), 0], [], [dl a, dl b])) = _
        rw [eb]
theorem q9 (l : List D) (h : l.length ≤ 17592186044416) : F9 [] [] [l] = some ([], [], [l]) := by
  have h : ((l.length : Nat) : Int) ≤ 17592186044416 := by omega
  refine of_ret ?_
  simp [t9, T.den, E.B, E.I, cmB, vals, Vx.LE.L, h]
theorem l29 (l : List D) (hl : l.length < 4611686018427387904) : ∀ (d i k : Nat), i + d = l.length → iterT 1 1 0 (fun r => l29_1.den (Tab.fn a29) ([] ++ r.1) ([] ++ r.2.1) ([l, l] ++ r.2.2)) (k + (d + 1)) ([(i : Int)], [false], []) = some (.brk 2 ([(l.length : Int)], [false], [])) := by
  intro d
  induction d with
  | zero =>
    intro i k hi
    obtain rfl : i = l.length := by omega
    refine it_brk ?_
    simp [l29_1, T.den, E.B, E.I, cmB, vals]
  | succ d ih =>
    intro i k hi
    have h3 : (i : Int) < (l.length : Nat) := by omega
    have h4 : (0 : Int) ≤ (i : Int) := by omega
    have e2 : arI .add .i64 (i : Int) 1 = ((i + 1 : Nat) : Int) := by show IntKind.i64.wrap ((i : Int) + 1) = _; rw [wi (by omega) (by omega)]; omega
    refine it_nxt (r' := ([((i + 1 : Nat) : Int)], [false], [])) ?_ rfl (ih (i + 1) k (by omega))
    simp only [l29_1, T.den, E.B, E.I, cmB, vals, List.cons_append, List.nil_append, List.append_nil, List.getD_cons_zero, List.getD_cons_succ, List.map_cons, List.map_nil, h3, h4, ge_iff_le, decide_true, cond_true, bne_self_eq_false, cond_false, e2]
theorem q29 (l : List D) (hl : l.length < 4611686018427387904) : F29 [] [] [l, l] = some ([], [true], []) := by
  refine of_ret ?_
  unfold t29
  refine d_ite (fun h => ?_) fun _ => ?_
  · have : ((l.length : Int) != (l.length : Int)) = true := h
    simp at this
  obtain ⟨k, hk⟩ := fuel_eq (l.length + 1) (by omega)
  have h := l29 l hl l.length 0 k (by omega)
  rw [← hk] at h
  exact d_lp _ h rfl rfl
theorem q10 (a b : List D) (ha : a.length < 4611686018427387904) (hb : b.length < 4611686018427387904) : F10 [] [] [a, b, a, b] = some ([], [true], []) := by
  refine of_ret ?_
  unfold t10
  refine d_callx [] [] [a, a] _ e10_29 rfl rfl rfl (q29 a ha) rfl ?_
  refine d_ite (fun _ => ?_) fun h => by cases h
  exact d_callx [] [] [b, b] _ e10_29 rfl rfl rfl (q29 b hb) rfl rfl
theorem q7 : F7 [] [] [] = some ([], [true], []) := by kernel_rfl
/-- At most eight of each. -/
theorem loopP_len : ∀ (d : Nat) (l : List Int) vs n, loopP d l = .ok vs n → vs.length = d
  | 0, l, vs, n, h => by cases h; rfl
  | d + 1, l, vs, n, h => by
    simp only [loopP] at h
    unfold Rd.bind at h
    split at h
    · cases h
    · split at h
      · cases h
      · rename_i h2
        try dsimp only at h2
        split at h2
        · cases h2
        · rename_i r m h3
          cases h2
          cases h
          simp [loopP_len d _ _ _ h3]
theorem valsP_len {l : List Int} {vs n} (h : valsP l = .ok vs n) : vs.length ≤ 8 := by
  unfold valsP Rd.bind at h
  split at h
  · cases h
  · split at h
    · cases h
    · rename_i h2
      try dsimp only at h2
      split at h2
      · cases h2
      · cases h
        rw [loopP_len _ _ _ _ h2]
        omega
theorem funcP_len {l : List Int} {a b n} (h : funcP l = .ok (a, b) n) : a.length ≤ 8 ∧ b.length ≤ 8 := by
  unfold funcP Rd.bind at h
  split at h
  · cases h
  · split at h
    · cases h
    · rename_i h2
      try dsimp only at h2
      split at h2
      · dsimp only at h2
        split at h2
        · cases h2
        · rename_i h3
          try dsimp only at h2
          split at h2
          · cases h2
          · rename_i h4
            try dsimp only at h4
            split at h4
            · cases h4
            · rename_i h5
              cases h4
              cases h2
              cases h
              exact ⟨valsP_len h3, valsP_len h5⟩
      · cases h2
end Go.Proofs.Ythmiladfdndciaa.STypCut
