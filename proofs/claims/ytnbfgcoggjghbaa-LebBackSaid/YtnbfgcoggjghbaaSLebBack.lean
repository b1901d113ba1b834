/-
  LebBack: what the functions of layer 1 answer where a number is read back.
-/
import Derived.Test.YtnbfgcoggjghbaaXLebBack
import Derived.Test.YtnbfgcoggjghbaaVl
namespace Go.Proofs.Ytnbfgcoggjghbaa.SLebBack
set_option linter.all false
open Go.Proofs.Ytnbfgcoggjghbaa.Vx Go.Proofs.Ytnbfgcoggjghbaa.XLebBack Go.Proofs.Ytnbfgcoggjghbaa.Vd Go.Proofs.Ytnbfgcoggjghbaa.Vn Go.Proofs.Ytnbfgcoggjghbaa.Vl
theorem q9 : F9 [] [] [] = some ([], [true], []) := by kernel_rfl
theorem q22 (l : List D) (h : l.length ≤ 17592186044416) : F22 [] [] [l] = some ([], [], [l]) := by
  refine of_ret ?_
  unfold t22
  refine d_nz (fun e => ?_) ?_
  · have e : l = [] := e
    rw [e]
    rfl
  · have h : ((l.length : Nat) : Int) ≤ 17592186044416 := by omega
    simp [T.den, E.B, E.I, cmB, LE.L, vals, h]
theorem loopU (f : Nat) : ∀ (n k : Nat) (v : Int) (l0 l : List D), n < 128 ^ (f + 1) → l.length + f ≤ 17592186044410 → ∃ (n' : Nat) (l' : List D), n' < 128 ∧ l' ++ dl [(n' : Int)] = l ++ dl (uB f n) ∧
    iterT 1 0 1 (fun r => l15_1.den (Tab.fn a15) ([v] ++ r.1) ([] ++ r.2.1) ([l0, l0] ++ r.2.2)) (k + (f + 1)) ([(n : Int)], [], [l]) = some (.brk 2 ([(n' : Int)], [], [l'])) := by
  have stop : ∀ (n k : Nat) (v : Int) (l0 l : List D), n < 128 → iterT 1 0 1 (fun r => l15_1.den (Tab.fn a15) ([v] ++ r.1) ([] ++ r.2.1) ([l0, l0] ++ r.2.2)) (k + 1) ([(n : Int)], [], [l]) = some (.brk 2 ([(n : Int)], [], [l])) := fun n k v l0 l h => by
    refine it_brk ?_
    have : ¬ (128 : Int) ≤ n := by omega
    simp [l15_1, T.den, E.B, E.I, cmB, LE.L, vals, this]
  induction f with
  | zero =>
    intro n k v l0 l h hl
    have hn : n < 128 := by simpa using h
    exact ⟨n, l, hn, by simp [uB, dl]; omega, stop n k v l0 l hn⟩
  | succ f ih =>
    intro n k v l0 l h hl
    by_cases hn : n < 128
    · exact ⟨n, l, hn, by simp [uB, dl, hn], stop n (k + (f + 1)) v l0 l hn⟩
    · obtain ⟨n', l', h1, h2, h3⟩ := ih (n / 128) k v l0 (l ++ dl [((n % 128 + 128 : Nat) : Int)]) (by rw [Nat.div_lt_iff_lt_mul (by decide), ← Nat.pow_succ]; exact h) (by simp [dl]; omega)
      refine ⟨n', l', h1, ?_, ?_⟩
      · rw [h2]
        conv => rhs; unfold uB
        rw [if_neg hn]
        simp [dl]
      · refine it_nxt (r' := ([((n / 128 : Nat) : Int)], [], [l ++ dl [((n % 128 + 128 : Nat) : Int)]])) ?_ rfl h3
        have h4 : (128 : Int) ≤ n := by omega
        have h5 : ((l.length : Nat) : Int) ≤ 17592186044416 := by omega
        have e1 : (n : Int).fdiv 128 = (n : Int) / 128 := by rw [Int.fdiv_eq_ediv_of_nonneg _ (by decide)]
        simp [l15_1, T.den, E.B, E.I, cmB, LE.L, vals, CE.D, mkD, h4, h5, arI, wrap_u8, bor128, e1, dl, IntKind.bits]
theorem q15 {n : Nat} (hn : n < 2 ^ 64) (l : List D) (h : l.length ≤ 17592186044400) : F15 [(n : Int)] [] [l] = some ([], [], [l ++ dl (uBytes n)]) := by
  refine of_ret ?_
  unfold t15
  refine d_call ([], [], [l]) (tab_hd rfl) (q22 l (by omega)) rfl ?_
  obtain ⟨k, hk⟩ := fuel_eq (9 + 1) (by decide)
  obtain ⟨n', l', h1, h2, h3⟩ := loopU 9 n k (n : Int) l l (by omega) (by omega)
  refine d_lp (t := 2) ([(n' : Int)], [], [l']) (by rw [hk]; exact h3) rfl ?_
  have hl : l'.length + 1 ≤ l.length + 10 := by
    have := congrArg List.length h2
    have h9 := uB_le 9 n
    simp [dl] at this
    omega
  have e1 : (n' : Int) % 256 = n' := by omega
  have h5 : ((l'.length : Nat) : Int) ≤ 17592186044416 := by omega
  simp [k15_2, T.den, E.B, E.I, cmB, LE.L, vals, CE.D, mkD, wrap_u8, h5, e1]
  exact h2
theorem loopS (f : Nat) : ∀ (n : Int) (k : Nat) (v : Int) (l0 l : List D), sR f n → l.length + f ≤ 17592186044410 → ∃ (n' : Int) (l' : List D), l' ++ dl [n' % 128] = l ++ dl (sB f n) ∧
    iterT 1 0 1 (fun r => l16_1.den (Tab.fn a16) ([v] ++ r.1) ([] ++ r.2.1) ([l0, l0] ++ r.2.2)) (k + (f + 1)) ([n], [], [l]) = some (.brk 2 ([n'], [], [l'])) := by
  have stop : ∀ (n : Int) (k : Nat) (v : Int) (l0 l : List D), -64 ≤ n ∧ n ≤ 63 → iterT 1 0 1 (fun r => l16_1.den (Tab.fn a16) ([v] ++ r.1) ([] ++ r.2.1) ([l0, l0] ++ r.2.2)) (k + 1) ([n], [], [l]) = some (.brk 2 ([n], [], [l])) := fun n k v l0 l h => by
    refine it_brk ?_
    have h1 : ¬ n < -64 := by omega
    have h2 : ¬ 63 < n := by omega
    simp [l16_1, T.den, E.B, E.I, cmB, LE.L, vals, h1, h2]
  induction f with
  | zero =>
    intro n k v l0 l h hl
    exact ⟨n, l, by simp [sB, dl], stop n k v l0 l (sR_zero.1 h)⟩
  | succ f ih =>
    intro n k v l0 l h hl
    by_cases hn : -64 ≤ n ∧ n ≤ 63
    · exact ⟨n, l, by simp [sB, dl, hn], stop n (k + (f + 1)) v l0 l hn⟩
    · obtain ⟨n', l', h2, h3⟩ := ih (n / 128) k v l0 (l ++ dl [n % 128 + 128]) (sR_div.1 h) (by simp [dl]; omega)
      refine ⟨n', l', ?_, ?_⟩
      · rw [h2]
        conv => rhs; unfold sB
        rw [if_neg hn]
        simp [dl]
      · refine it_nxt (r' := ([n / 128], [], [l ++ dl [n % 128 + 128]])) ?_ rfl h3
        have h4 : n < -64 ∨ 63 < n := by omega
        have h5 : ((l.length : Nat) : Int) ≤ 17592186044416 := by omega
        have e1 : n.fdiv 128 = n / 128 := by rw [Int.fdiv_eq_ediv_of_nonneg _ (by decide)]
        have h6 : (decide (n < -64) || decide (63 < n)) = true := by simpa using h4
        simp [l16_1, T.den, E.B, E.I, cmB, LE.L, vals, CE.D, mkD, h6, h5, arI, wrap_u8, bor128, e1, dl, IntKind.bits]
theorem q16 {n : Int} (h0 : -9223372036854775808 ≤ n) (h1 : n ≤ 9223372036854775807) (l : List D) (h : l.length ≤ 17592186044400) : F16 [n] [] [l] = some ([], [], [l ++ dl (sBytes n)]) := by
  refine of_ret ?_
  unfold t16
  refine d_call ([], [], [l]) (tab_hd rfl) (q22 l (by omega)) rfl ?_
  obtain ⟨k, hk⟩ := fuel_eq (9 + 1) (by decide)
  obtain ⟨n', l', h2, h3⟩ := loopS 9 n k n l l (sR_nine h0 h1) (by omega)
  refine d_lp (t := 2) ([n'], [], [l']) (by rw [hk]; exact h3) rfl ?_
  have hl : l'.length + 1 ≤ l.length + 10 := by
    have := congrArg List.length h2
    have h9 := sB_le 9 n
    simp [dl] at this
    omega
  have h5 : ((l'.length : Nat) : Int) ≤ 17592186044416 := by omega
  have e1 : Go.bits .and .u8 (n' % 256) 127 = n' % 128 := by rw [u8_and127 (by omega) (by omega)]; omega
  simp [k16_2, T.den, E.B, E.I, cmB, LE.L, vals, CE.D, mkD, arI, wrap_u8, h5, e1]
  exact h2

theorem wi {n : Int} (h0 : -9223372036854775808 ≤ n) (h1 : n < 9223372036854775808) : IntKind.i64.wrap n = n := by
  simp only [IntKind.wrap, IntKind.bits, IntKind.signed, Nat.reducePow, Nat.reduceSub, Int.reducePow, Bool.true_and, decide_eq_true_eq, ge_iff_le]
  split <;> omega
theorem wu {n : Int} (h0 : 0 ≤ n) (h1 : n < 18446744073709551616) : IntKind.u64.wrap n = n := wraps_u64 n h0 h1
theorem pow_pos (i : Nat) : 0 < 2 ^ i := Nat.pow_pos (by decide)
/-- The piece of seven bits that comes next. -/
theorem vl_or {l : List Int} {i : Nat} (hi : 7 * i ≤ 63) : (vl l i % 2 ^ 64 ||| ((l.getD i 0).toNat % 128) * 2 ^ (7 * i) % 2 ^ 64) = vl l (i + 1) % 2 ^ 64 := by
  have h1 := vl_lt l i
  rw [← Nat.or_mod_two_pow]
  congr 1
  show _ = vl l i + ((l.getD i 0).toNat % 128) * 2 ^ (7 * i)
  rw [Nat.or_comm, Nat.mul_comm, ← Nat.two_pow_add_eq_or_of_lt h1, Nat.add_comm]
theorem mod128 {x : Int} (h0 : 0 ≤ x) : x % 128 = ((x.toNat % 128 : Nat) : Int) := by omega
theorem vl_small (l : List Int) (s own : Nat) (hlt : l.getD s 0 < 128) (h0 : 0 ≤ l.getD s 0) : vl l (s + 1) < 2 ^ (7 * s + own) ↔ l.getD s 0 < 2 ^ own := by
  have h1 := vl_lt l s
  have h2 : (l.getD s 0).toNat % 128 = (l.getD s 0).toNat := Nat.mod_eq_of_lt (by omega)
  unfold vl
  rw [h2, Nat.pow_add]
  have hc : l.getD s 0 < 2 ^ own ↔ (l.getD s 0).toNat < 2 ^ own := by
    have e : ((2 ^ own : Nat) : Int) = (2 : Int) ^ own := by simp
    omega
  rw [hc]
  generalize (l.getD s 0).toNat = x
  generalize 2 ^ own = Q
  generalize hP : 2 ^ (7 * s) = P at h1 ⊢
  constructor
  · intro h
    rcases Nat.lt_or_ge x Q with h' | h'
    · exact h'
    · have := Nat.mul_le_mul_right P h'
      rw [Nat.mul_comm P Q] at h
      omega
  · intro h
    have := Nat.mul_le_mul_right P (Nat.succ_le_of_lt h)
    rw [Nat.mul_comm P Q]
    rw [Nat.succ_mul] at this
    omega
/-- The same, signed: the highest bit of the last piece counts down. -/
def sv (l : List Int) (s : Nat) : Int := if 2 ^ (7 * s + 6) ≤ vl l (s + 1) then ((vl l (s + 1) : Nat) : Int) - ((2 ^ (7 * s + 7) : Nat) : Int) else ((vl l (s + 1) : Nat) : Int)
theorem vl_large (l : List Int) (s o : Nat) (ho : o ≤ 7) (hlt : l.getD s 0 < 128) (h0 : 0 ≤ l.getD s 0) : 2 ^ (7 * s + 7) - 2 ^ (7 * s + o) ≤ vl l (s + 1) ↔ 128 - 2 ^ o ≤ l.getD s 0 := by
  have h1 := vl_lt l s
  have h2 : (l.getD s 0).toNat % 128 = (l.getD s 0).toNat := Nat.mod_eq_of_lt (by omega)
  unfold vl
  rw [h2, Nat.pow_add, Nat.pow_add]
  have hq : 2 ^ o ≤ 2 ^ 7 := pow_le ho
  have hc : 128 - 2 ^ o ≤ l.getD s 0 ↔ 128 - 2 ^ o ≤ (l.getD s 0).toNat := by
    have e : ((2 ^ o : Nat) : Int) = (2 : Int) ^ o := by simp
    omega
  rw [hc]
  have hx : (l.getD s 0).toNat < 128 := by omega
  generalize (l.getD s 0).toNat = x at hx ⊢
  generalize 2 ^ o = Q at hq ⊢
  generalize hP : 2 ^ (7 * s) = P at h1 ⊢
  rw [← Nat.mul_sub]
  have e7 : (2 : Nat) ^ 7 = 128 := rfl
  rw [e7] at hq ⊢
  rw [Nat.mul_comm P]
  constructor
  · intro h
    rcases Nat.lt_or_ge x (128 - Q) with h' | h'
    · have := Nat.mul_le_mul_right P (Nat.succ_le_of_lt h')
      rw [Nat.succ_mul] at this
      omega
    · exact h'
  · intro h
    have := Nat.mul_le_mul_right P h
    omega
theorem or_high {v t : Nat} (hv : v < 2 ^ t) (ht : t ≤ 64) : v ||| (2 ^ 64 - 2 ^ t) = v + (2 ^ 64 - 2 ^ t) := by
  have e : 2 ^ 64 - 2 ^ t = 2 ^ t * (2 ^ (64 - t) - 1) := by
    rw [Nat.mul_sub, ← Nat.pow_add, Nat.mul_one]
    congr 2
    omega
  rw [e, Nat.or_comm, ← Nat.two_pow_add_eq_or_of_lt hv]
  omega
theorem ix_dl (l : List Int) (i : Nat) : (((dl l).getD i (.i 0)).cell 0).int = l.getD i 0 := by
  unfold dl
  rw [List.getD_eq_getElem?_getD, List.getElem?_map, List.getD_eq_getElem?_getD]
  cases l[i]? <;> rfl
theorem q23 {bits : Nat} (h : bits ≤ 64) : F23 [(bits : Int)] [] [] = some ([((mst bits : Nat) : Int)], [], []) := by
  have e : IntKind.i64.wrap ((IntKind.i64.wrap ((bits : Int) + 6)).tdiv 7) = ((mst bits : Nat) : Int) := by
    rw [wi (n := (bits : Int) + 6) (by omega) (by omega), Int.tdiv_eq_ediv_of_nonneg (by omega), wi (by omega) (by omega)]
    unfold mst
    omega
  refine of_ret ?_
  unfold t23
  simp only [T.den, vals, List.map_cons, List.map_nil, E.I, arI, List.getD_cons_zero, e]
theorem shl_nat (a i : Nat) (h : i ≤ 64) : arI .shl .u64 (a : Int) (i : Int) = ((a * 2 ^ i % 2 ^ 64 : Nat) : Int) := by
  rw [arShl _ _ (by omega) (by omega), Int.toNat_natCast]
  simp
theorem raw_step {l : List Int} (hb : Bytes l) {i : Nat} (hi : i ≤ 9) :
    arI .or .u64 ((vl l i % 2 ^ 64 : Nat) : Int) (arI .shl .u64 (IntKind.u64.wrap (arI .and .u8 (l.getD i 0) 127)) (IntKind.u64.wrap (arI .mul .i64 7 (i : Int)))) = ((vl l (i + 1) % 2 ^ 64 : Nat) : Int) := by
  have hx := hb.at i
  have e1 : arI .mul .i64 7 (i : Int) = ((7 * i : Nat) : Int) := by show IntKind.i64.wrap (7 * (i : Int)) = _; rw [wi (by omega) (by omega)]; omega
  have e2 : arI .and .u8 (l.getD i 0) 127 = ((((l.getD i 0).toNat % 128 : Nat)) : Int) := by show Go.bits .and .u8 _ 127 = _; rw [u8_and127 hx.1 hx.2, mod128 hx.1]
  rw [e1, e2, wu (by omega) (by omega), wu (by omega) (by omega), shl_nat _ _ (by omega), bor _ _ (Nat.mod_lt _ (by decide)) (Nat.mod_lt _ (by decide)), vl_or (by omega)]
theorem q20_loop {l : List Int} (hb : Bytes l) {bits : Nat} (h0 : 1 ≤ bits) (h1 : bits ≤ 64) (hs : ends l < l.length) (hm : ends l < mst bits) (hl : l.length < 9223372036854775807) : ∀ (d i k : Nat), i + d = ends l →
    iterT 6 0 0 (fun r => l20_1.den (Tab.fn a20) ([(bits : Int)] ++ r.1) ([false] ++ r.2.1) ([dl l] ++ r.2.2)) (k + (d + 1)) ([0, 0, 0, 0, ((vl l i % 2 ^ 64 : Nat) : Int), (i : Int)], [], []) =
      some (.ret ([((vl l (ends l + 1) % 2 ^ 64 : Nat) : Int), l.getD (ends l) 0, ((ends l + 1 : Nat) : Int), 0], [], [])) := by
  have hm10 : mst bits ≤ 10 := by unfold mst; omega
  have e1 : ∀ i : Nat, i ≤ 9 → arI .add .i64 (i : Int) 1 = ((i + 1 : Nat) : Int) := fun i hi => by show IntKind.i64.wrap ((i : Int) + 1) = _; rw [wi (by omega) (by omega)]; omega
  have e2 : ∀ i : Nat, i ≤ 9 → (0 : Int) ≤ IntKind.u64.wrap (arI .mul .i64 7 (i : Int)) := fun i hi => by
    have : arI .mul .i64 7 (i : Int) = ((7 * i : Nat) : Int) := by show IntKind.i64.wrap (7 * (i : Int)) = _; rw [wi (by omega) (by omega)]; omega
    rw [this, wu (by omega) (by omega)]; omega
  intro d
  induction d with
  | zero =>
    intro i k hi
    obtain rfl : i = ends l := by omega
    have hlt := ends_at l hs
    have h3 : ((ends l : Nat) : Int) < (l.length : Nat) := by omega
    have h4 := e2 (ends l) (by omega)
    have h5 : (0 : Int) ≤ (ends l : Nat) := by omega
    refine it_ret ?_
    simp only [l20_1, T.den, E.B, E.I, cmB, vals, List.cons_append, List.nil_append, List.getD_cons_zero, List.getD_cons_succ, List.map_cons, List.map_nil, dl_len, h3, h4, h5, decide_true, cond_true, Int.toNat_natCast, ix_dl, hlt, ge_iff_le, raw_step hb (show ends l ≤ 9 by omega), e1 _ (show ends l ≤ 9 by omega)]
  | succ d ih =>
    intro i k hi
    have hge := ends_before l i (by omega)
    have hlt : ¬ l.getD i 0 < 128 := by omega
    have h3 : (i : Int) < (l.length : Nat) := by omega
    have h4 := e2 i (by omega)
    have h5 : (0 : Int) ≤ (i : Nat) := by omega
    have h6 : (((i + 1 : Nat) : Int) == ((mst bits : Nat) : Int)) = false := by rw [beq_eq_false_iff_ne]; omega
    refine it_nxt (r' := ([0, 0, 0, 0, ((vl l (i + 1) % 2 ^ 64 : Nat) : Int), ((i + 1 : Nat) : Int)], [], [])) ?_ rfl (ih (i + 1) k (by omega))
    simp only [l20_1, T.den, E.B, E.I, cmB, vals, List.cons_append, List.nil_append, List.append_nil, List.getD_cons_zero, List.getD_cons_succ, List.map_cons, List.map_nil, dl_len, h3, h4, h5, decide_true, cond_true, Int.toNat_natCast, ix_dl, hlt, decide_false, cond_false, ge_iff_le, raw_step hb (show i ≤ 9 by omega), e1 _ (show i ≤ 9 by omega), e20_23, q23 h1, R.fits, List.length_cons, List.length_nil, Nat.reduceAdd, h6]
    rfl
theorem q20 {l : List Int} (hb : Bytes l) {bits : Nat} (h0 : 1 ≤ bits) (h1 : bits ≤ 64) (hs : ends l < l.length) (hm : ends l < mst bits) (hl : l.length < 9223372036854775807) :
    F20 [(bits : Int)] [] [dl l] = some ([((vl l (ends l + 1) % 2 ^ 64 : Nat) : Int), l.getD (ends l) 0, ((ends l + 1 : Nat) : Int), 0], [], []) := by
  refine of_ret ?_
  unfold t20
  have hm10 : mst bits ≤ 10 := by unfold mst; omega
  obtain ⟨k, hk⟩ := fuel_eq (ends l + 1) (by omega)
  have h2 : ¬ ((bits : Int) < 1) := by omega
  have h3 : ¬ ((bits : Int) > 64) := by omega
  have e : ((E.cm .lss (.iv 0) (.n 1)).oo (.cm .gtr (.iv 0) (.n 64))).B [(bits : Int)] [] [dl l] = false := by simp only [E.B, E.I, cmB, List.getD_cons_zero, h2, h3, decide_false, Bool.or_false]
  show T.den _ _ _ ([] ++ [_]) _ = _
  rw [e]
  refine d_ite (fun h => by cases h) fun _ => ?_
  refine d_lp_ret ?_
  rw [hk]
  exact q20_loop hb h0 h1 hs hm hl (ends l) 0 k (by omega)
theorem own_eq {bits s : Nat} (h1 : bits ≤ 64) (hs : s ≤ 9) : arI .sub .i64 (bits : Int) (arI .mul .i64 7 (arI .sub .i64 ((s + 1 : Nat) : Int) 1)) = (bits : Int) - 7 * (s : Int) := by
  have a : arI .sub .i64 ((s + 1 : Nat) : Int) 1 = (s : Int) := by show IntKind.i64.wrap (((s + 1 : Nat) : Int) - 1) = _; rw [wi (by omega) (by omega)]; omega
  have b : arI .mul .i64 7 (s : Int) = 7 * (s : Int) := by show IntKind.i64.wrap (7 * (s : Int)) = _; rw [wi (by omega) (by omega)]
  rw [a, b]
  show IntKind.i64.wrap ((bits : Int) - 7 * (s : Int)) = _
  rw [wi (by omega) (by omega)]
theorem shr8 {x : Int} (o : Nat) (ho : o ≤ 8) : arI .shr .u8 x (o : Int) = x / 2 ^ o := by
  show x.fdiv (2 ^ (min (Int.toNat (o : Int)) 8)) = _
  rw [show min (Int.toNat (o : Int)) 8 = o by omega]
  exact Int.fdiv_eq_ediv_of_nonneg _ (Int.pow_nonneg (by decide))
theorem pow_int_pos (o : Nat) : (0 : Int) < 2 ^ o := Int.pow_pos (by decide)
theorem ediv_zero_iff {x y : Int} (h0 : 0 ≤ x) (hy : 0 < y) : x / y = 0 ↔ x < y := by
  constructor
  · intro h
    have := Int.emod_add_mul_ediv x y
    have := Int.emod_lt_of_pos x hy
    rw [h] at *
    omega
  · intro h
    exact Int.ediv_eq_zero_of_lt h0 h
theorem u8_and64 {x : Int} (h0 : 0 ≤ x) (h1 : x < 128) : arI .and .u8 x 64 = 0 ↔ x < 64 := by
  obtain ⟨n, rfl⟩ := Int.eq_ofNat_of_zero_le h0
  have h : ∀ m : Nat, m < 128 → (arI .and .u8 (m : Int) 64 = 0 ↔ m < 64) := by decide +kernel
  rw [h n (by omega)]
  omega
/-- An unsigned number is read. -/
theorem q10 {l : List Int} (hb : Bytes l) {bits : Nat} (h0 : 1 ≤ bits) (h1 : bits ≤ 64) (hs : ends l < l.length) (hm : ends l < mst bits) (hl : l.length < 9223372036854775807) (hv : vl l (ends l + 1) < 2 ^ bits) :
    F10 [(bits : Int)] [] [dl l] = some ([((vl l (ends l + 1) : Nat) : Int), ((ends l + 1 : Nat) : Int), 0], [], []) := by
  have hm10 : mst bits ≤ 10 := by unfold mst; omega
  have hx := hb.at (ends l)
  have hlt := ends_at l hs
  have hv64 : vl l (ends l + 1) % 2 ^ 64 = vl l (ends l + 1) := Nat.mod_eq_of_lt (Nat.lt_of_lt_of_le hv (pow_le h1))
  have h20 := q20 hb h0 h1 hs hm hl
  rw [hv64] at h20
  refine of_ret ?_
  unfold t10
  refine d_callx [(bits : Int)] [] [dl l] _ e10_20 rfl rfl rfl h20 rfl ?_
  generalize hS : ends l = s at *
  have hown : 1 ≤ (bits : Int) - 7 * (s : Int) := by unfold mst at hm; omega
  obtain ⟨own, ho⟩ : ∃ own : Nat, (bits : Int) - 7 * (s : Int) = own := ⟨((bits : Int) - 7 * (s : Int)).toNat, by omega⟩
  have e1 := own_eq (s := s) h1 (by omega)
  rw [ho] at e1
  have e2 : IntKind.u64.wrap (own : Int) = own := wu (by omega) (by omega)
  have e3 : (0 : Int) ≤ own := by omega
  have e4 : (decide ((own : Int) < 7) && (arI .shr .u8 (l.getD s 0) (own : Int) != 0)) = false := by
    by_cases h7 : (own : Int) < 7
    · have hq := (vl_small l s own hlt hx.1).1 (by rw [show 7 * s + own = bits by omega]; exact hv)
      rw [shr8 own (by omega), (ediv_zero_iff hx.1 (pow_int_pos _)).2 hq]
      simp
    · simp [h7]
  simp only [T.den, E.B, E.I, cmB, vals, List.cons_append, List.nil_append, List.append_nil, List.getD_cons_zero, List.getD_cons_succ, List.map_cons, List.map_nil, e1, e2, ge_iff_le, e3, decide_true, Bool.or_true, cond_true, e4, cond_false, bne_self_eq_false]
theorem s_tail {l : List Int} (hb : Bytes l) (s : Nat) (hlt : l.getD s 0 < 128) (hs : s ≤ 9) (h9 : s = 9 → -9223372036854775808 ≤ sv l s ∧ sv l s < 9223372036854775808) (z : Int) (hz : z = arI .mul .i64 7 ((s + 1 : Nat) : Int)) :
    ((decide (z < 64) && (arI .and .u8 (l.getD s 0) 64 != 0)) = true ∧ 0 ≤ IntKind.u64.wrap z ∧ IntKind.i64.wrap (arI .or .u64 ((vl l (s + 1) % 2 ^ 64 : Nat) : Int) (arI .shl .u64 18446744073709551615 (IntKind.u64.wrap z))) = sv l s) ∨
    ((decide (z < 64) && (arI .and .u8 (l.getD s 0) 64 != 0)) = false ∧ IntKind.i64.wrap ((vl l (s + 1) % 2 ^ 64 : Nat) : Int) = sv l s) := by
  have hx := hb.at s
  have hV := vl_lt l (s + 1)
  have h6 := vl_small l s 6 hlt hx.1
  have e1 : z = ((7 * s + 7 : Nat) : Int) := by rw [hz]; show IntKind.i64.wrap (7 * ((s + 1 : Nat) : Int)) = _; rw [wi (by omega) (by omega)]; omega
  rw [e1]
  have e2 : (2 : Int) ^ 6 = 64 := rfl
  rw [e2] at h6
  have hmul : 7 * (s + 1) = 7 * s + 7 := by omega
  rw [hmul] at hV
  have hpp : 2 ^ (7 * s + 7) = 2 * 2 ^ (7 * s + 6) := by rw [show 7 * s + 7 = (7 * s + 6) + 1 by omega, Nat.pow_succ]; omega
  by_cases h64 : ((7 * s + 7 : Nat) : Int) < 64
  · have hle : 2 ^ (7 * s + 7) ≤ 2 ^ 63 := pow_le (by omega)
    have hVs : vl l (s + 1) % 2 ^ 64 = vl l (s + 1) := Nat.mod_eq_of_lt (by omega)
    rw [hVs]
    by_cases hn : arI .and .u8 (l.getD s 0) 64 = 0
    · have hsm := h6.2 ((u8_and64 hx.1 hlt).1 hn)
      right
      rw [hn]
      refine ⟨by simp, ?_⟩
      unfold sv
      rw [if_neg (by omega), wi (by omega) (by omega)]
    · have hsm : ¬ vl l (s + 1) < 2 ^ (7 * s + 6) := fun h => hn ((u8_and64 hx.1 hlt).2 (h6.1 h))
      left
      have ew : IntKind.u64.wrap ((7 * s + 7 : Nat) : Int) = ((7 * s + 7 : Nat) : Int) := wu (by omega) (by omega)
      rw [ew]
      refine ⟨by rw [bne_iff_ne.2 hn, decide_eq_true h64]; rfl, by omega, ?_⟩
      have hsh : arI .shl .u64 18446744073709551615 ((7 * s + 7 : Nat) : Int) = ((2 ^ 64 - 2 ^ (7 * s + 7) : Nat) : Int) := by
        have := shl_nat 18446744073709551615 (7 * s + 7) (by omega)
        rw [show ((18446744073709551615 : Nat) : Int) = 18446744073709551615 from rfl] at this
        rw [this]
        congr 1
        have h2 : 18446744073709551615 * 2 ^ (7 * s + 7) = (2 ^ 64 - 2 ^ (7 * s + 7)) + 2 ^ 64 * (2 ^ (7 * s + 7) - 1) := by
          have h3 := pow_pos (7 * s + 7)
          generalize 2 ^ (7 * s + 7) = Q at hle h3 ⊢
          omega
        rw [h2, Nat.add_mul_mod_self_left, Nat.mod_eq_of_lt]
        have h3 := pow_pos (7 * s + 7)
        omega
      have hh : 2 ^ 64 - 2 ^ (7 * s + 7) < 2 ^ 64 := by have h3 := pow_pos (7 * s + 7); omega
      rw [hsh, bor _ _ (by omega) hh, or_high hV (by omega)]
      unfold sv
      rw [if_pos (by omega)]
      have h3 := pow_pos (7 * s + 6)
      simp only [IntKind.wrap, IntKind.bits, IntKind.signed, Nat.reducePow, Nat.reduceSub, Int.reducePow, Bool.true_and, decide_eq_true_eq, ge_iff_le]
      generalize 2 ^ (7 * s + 7) = Q at hle hV hpp ⊢
      split <;> omega
  · obtain rfl : s = 9 := by omega
    right
    have h9' := h9 rfl
    refine ⟨by rw [decide_eq_false h64]; rfl, ?_⟩
    unfold sv at h9' ⊢
    simp only [IntKind.wrap, IntKind.bits, IntKind.signed, Nat.reducePow, Nat.reduceSub, Int.reducePow, Bool.true_and, decide_eq_true_eq, ge_iff_le]
    simp only [Nat.reducePow, Nat.reduceMul, Nat.reduceAdd] at hV hpp h9' ⊢
    split at h9' <;> rename_i hh <;> simp only [hh, if_true, if_false] <;> split <;> omega
/-- A signed number is read. -/
theorem q12 {l : List Int} (hb : Bytes l) {bits : Nat} (h0 : 1 ≤ bits) (h1 : bits ≤ 64) (hs : ends l < l.length) (hm : ends l < mst bits) (hl : l.length < 9223372036854775807)
    (hr : -((2 ^ (bits - 1) : Nat) : Int) ≤ sv l (ends l) ∧ sv l (ends l) < ((2 ^ (bits - 1) : Nat) : Int)) :
    F12 [(bits : Int)] [] [dl l] = some ([sv l (ends l), ((ends l + 1 : Nat) : Int), 0], [], []) := by
  have hm10 : mst bits ≤ 10 := by unfold mst; omega
  have hx := hb.at (ends l)
  have hlt := ends_at l hs
  have h20 := q20 hb h0 h1 hs hm hl
  refine of_ret ?_
  unfold t12
  refine d_callx [(bits : Int)] [] [dl l] _ e12_20 rfl rfl rfl h20 rfl ?_
  generalize hS : ends l = s at *
  obtain ⟨own, ho⟩ : ∃ own : Nat, (bits : Int) - 7 * (s : Int) = own := ⟨((bits : Int) - 7 * (s : Int)).toNat, by unfold mst at hm; omega⟩
  have hown : 1 ≤ own := by unfold mst at hm; omega
  have e1 := own_eq (s := s) h1 (by omega)
  rw [ho] at e1
  have h9 : s = 9 → -9223372036854775808 ≤ sv l s ∧ sv l s < 9223372036854775808 := by
    rintro rfl
    have : bits = 64 := by omega
    subst this
    exact hr
  have tail := s_tail hb s hlt (by omega) h9 _ rfl
  have hbits : 7 * s + own = bits := by omega
  have hV := vl_lt l (s + 1)
  rw [show 7 * (s + 1) = 7 * s + 7 by omega] at hV
  have hpp : 2 ^ (7 * s + 7) = 2 * 2 ^ (7 * s + 6) := by rw [show 7 * s + 7 = (7 * s + 6) + 1 by omega, Nat.pow_succ]; omega
  by_cases h7 : (own : Int) < 7
  · have e2 : arI .sub .i64 (own : Int) 1 = ((own - 1 : Nat) : Int) := by show IntKind.i64.wrap ((own : Int) - 1) = _; rw [wi (by omega) (by omega)]; omega
    have e3 : IntKind.u64.wrap ((own - 1 : Nat) : Int) = ((own - 1 : Nat) : Int) := wu (by omega) (by omega)
    have e4 : (0 : Int) ≤ ((own - 1 : Nat) : Int) := by omega
    have e5 : ((arI .shr .u8 (l.getD s 0) ((own - 1 : Nat) : Int) != 0) && (arI .shr .u8 (l.getD s 0) ((own - 1 : Nat) : Int) != arI .shr .u8 127 ((own - 1 : Nat) : Int))) = false := by
      rw [shr8 _ (by omega), shr8 _ (by omega)]
      have hsm := vl_small l s (own - 1) hlt hx.1
      have hla := vl_large l s (own - 1) (by omega) hlt hx.1
      have hb1 : 7 * s + (own - 1) = bits - 1 := by omega
      rw [hb1] at hsm hla
      have hz : l.getD s 0 / 2 ^ (own - 1) = 0 ↔ l.getD s 0 < 2 ^ (own - 1) := by
        rw [ediv_zero_iff hx.1 (pow_int_pos _)]
      have ht : l.getD s 0 / 2 ^ (own - 1) = 127 / 2 ^ (own - 1) ↔ 128 - 2 ^ (own - 1) ≤ l.getD s 0 := by
        generalize l.getD s 0 = x at hx hlt ⊢
        have : own = 1 ∨ own = 2 ∨ own = 3 ∨ own = 4 ∨ own = 5 ∨ own = 6 := by omega
        rcases this with rfl | rfl | rfl | rfl | rfl | rfl <;> simp <;> omega
      have hp6 : 2 ^ (bits - 1) ≤ 2 ^ (7 * s + 6) := pow_le (by omega)
      unfold sv at hr
      split at hr
      · have : 128 - 2 ^ (own - 1) ≤ l.getD s 0 := hla.1 (by omega)
        rw [ht.2 this]
        simp
      · rw [hz.2 (hsm.1 (by omega))]
        simp
    have e6 : (!(arI .shr .u8 (l.getD s 0) ((own - 1 : Nat) : Int) != 0) || true) = true := by simp
    rcases tail with ⟨t1, t2, t3⟩ | ⟨t1, t3⟩
    · simp only [T.den, E.B, E.I, cmB, vals, List.cons_append, List.nil_append, List.append_nil, List.getD_cons_zero, List.getD_cons_succ, List.map_cons, List.map_nil, e1, e2, e3, h7, ge_iff_le, e4, decide_true, cond_true, cond_false, bne_self_eq_false, Bool.or_true, e5, t1, t2, t3]
    · simp only [T.den, E.B, E.I, cmB, vals, List.cons_append, List.nil_append, List.append_nil, List.getD_cons_zero, List.getD_cons_succ, List.map_cons, List.map_nil, e1, e2, e3, h7, ge_iff_le, e4, decide_true, cond_true, cond_false, bne_self_eq_false, Bool.or_true, e5, t1, t3]
  · rcases tail with ⟨t1, t2, t3⟩ | ⟨t1, t3⟩
    · simp only [T.den, E.B, E.I, cmB, vals, List.cons_append, List.nil_append, List.append_nil, List.getD_cons_zero, List.getD_cons_succ, List.map_cons, List.map_nil, e1, h7, ge_iff_le, decide_true, decide_false, cond_true, cond_false, bne_self_eq_false, Bool.or_true, t1, t2, t3]
    · simp only [T.den, E.B, E.I, cmB, vals, List.cons_append, List.nil_append, List.append_nil, List.getD_cons_zero, List.getD_cons_succ, List.map_cons, List.map_nil, e1, h7, ge_iff_le, decide_true, decide_false, cond_true, cond_false, bne_self_eq_false, Bool.or_true, t1, t3]
end Go.Proofs.Ytnbfgcoggjghbaa.SLebBack
