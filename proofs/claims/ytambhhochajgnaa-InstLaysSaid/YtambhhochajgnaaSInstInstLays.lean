/-
  InstLays: what the functions of layer 13 (inst) answer.
-/
import Derived.Test.YtambhhochajgnaaSInstLays
import Derived.Test.YtambhhochajgnaaVo
namespace Go.Proofs.Ytambhhochajgnaa.IInstLays
set_option linter.all false
open Go.Proofs.Ytambhhochajgnaa.Vx Go.Proofs.Ytambhhochajgnaa.XInstLays Go.Proofs.Ytambhhochajgnaa.Vd Go.Proofs.Ytambhhochajgnaa.Vn Go.Proofs.Ytambhhochajgnaa.Vl Go.Proofs.Ytambhhochajgnaa.Vp Go.Proofs.Ytambhhochajgnaa.Vb Go.Proofs.Ytambhhochajgnaa.SInstLays Go.Proofs.Ytambhhochajgnaa.Vo
theorem q_cloneB (l : List D) (h : l.length ≤ 1000000) : F28 [] [] [l] = some ([], [], [l]) := q_clone l (by omega)
theorem q_cloneu (l : List D) (h : l.length ≤ 1000000) : F30 [] [] [l] = some ([], [], [l]) := by
  have h : ((l.length : Nat) : Int) ≤ 3909374676536 := by omega
  refine of_ret ?_
  unfold t30
  refine d_nz (fun e => ?_) ?_
  · have e : l = [] := e
    subst e; rfl
  · simp [T.den, E.B, E.I, cmB, vals, Vx.LE.L, h]
theorem q_cloneb (l : List D) (h : l.length ≤ 1000000) : F31 [] [] [l] = some ([], [], [l]) := by
  have h : ((l.length : Nat) : Int) ≤ 17592186044416 := by omega
  refine of_ret ?_
  unfold t31
  refine d_nz (fun e => ?_) ?_
  · have e : l = [] := e
    subst e; rfl
  · simp [T.den, E.B, E.I, cmB, vals, Vx.LE.L, h]
/-- A store that isn't too great. -/
structure Sm (M T G E' D' : List D) : Prop where
  m : M.length ≤ 196608
  t : T.length ≤ 100
  g : G.length ≤ 100
  e : E'.length ≤ 100
  d : D'.length ≤ 100
theorem q_icopied {cap : Int} {M T G E' D' : List D} (h : Sm M T G E' D') : F18 [cap] [] [M, T, G, E', D'] = some ([cap], [], [M, T, G, E', D']) := by
  obtain ⟨h1, h2, h3, h4, h5⟩ := h
  refine of_ret ?_
  unfold t18
  refine d_callx [] [] [M] ([], [], [M]) e18_28 rfl rfl rfl (q_cloneB M (by omega)) rfl ?_
  refine d_callx [] [] [T] ([], [], [T]) e18_29 rfl rfl rfl (q_clonei T (by omega)) rfl ?_
  refine d_callx [] [] [G] ([], [], [G]) e18_30 rfl rfl rfl (q_cloneu G (by omega)) rfl ?_
  refine d_callx [] [] [E'] ([], [], [E']) e18_31 rfl rfl rfl (q_cloneb E' (by omega)) rfl ?_
  refine d_callx [] [] [D'] ([], [], [D']) e18_31 rfl rfl rfl (q_cloneb D' (by omega)) rfl ?_
  rfl
theorem q_within {a n : Int} {m : Nat} (ha : 0 ≤ a) (ha' : a < 18446744073709551616) (hn : 0 ≤ n) (hm : m ≤ 1000000) : F17 [a, n, (m : Int)] [] [] = some ([], [decide (a + n ≤ m)], []) := by
  refine of_ret ?_
  unfold t17
  refine d_lb (decide (a + n ≤ m)) ?_ rfl
  show (decide (a ≤ IntKind.u64.wrap (m : Int)) && decide (n ≤ IntKind.u64.wrap (IntKind.u64.wrap (m : Int) - a))) = decide (a + n ≤ m)
  rw [wu (n := (m : Int)) (by omega) (by omega)]
  by_cases h : a ≤ m
  · rw [wu (by omega) (by omega), decide_eq_true h, Bool.true_and]
    exact decide_eq_decide.2 (by omega)
  · rw [decide_eq_false h, Bool.false_and]
    exact (decide_eq_false (by omega)).symm
/-- V laid into M at place a. -/
def ins (a : Nat) (V M : List D) : List D := M.take a ++ V ++ M.drop (a + V.length)
theorem ins_len {a : Nat} {V M : List D} (h : a + V.length ≤ M.length) : (ins a V M).length = M.length := by
  simp [ins]; omega
theorem cp_ins {a : Nat} {V M : List D} (h : a + V.length ≤ M.length) : M.take a ++ V.take (M.length - a) ++ M.drop (a + min V.length (M.length - a)) = ins a V M := by
  unfold ins
  rw [List.take_of_length_le (by omega : V.length ≤ M.length - a), Nat.min_eq_left (by omega)]
theorem cut_len {f n : Nat} {b : List D} (h : f + n ≤ b.length) : ((b.take (f + n)).drop f).length = n := by
  simp; omega
def okB (a f n : Nat) (M b : List D) : Bool := decide (f + n ≤ b.length) && decide (a + n ≤ M.length)
theorem nn (a n : Nat) (m : Nat) : decide ((a : Int) + (n : Int) ≤ (m : Int)) = decide (a + n ≤ m) := decide_eq_decide.2 (by omega)
theorem q_Put {cap : Int} {a f n : Nat} {M T G E' D' b : List D} (h : Sm M T G E' D') (hb : b.length ≤ 1000) (ha : a < 18446744073709551616) (hf : f < 18446744073709551616) :
    F11 [cap, (a : Int), (f : Int), (n : Int)] [] [M, T, G, E', D', b] = some (if okB a f n M b = true then ([cap], [true], [ins a ((b.take (f + n)).drop f) M, T, G, E', D']) else ([0], [false], [[], [], [], [], []])) := by
  refine of_ret ?_
  unfold t11
  have hM := h.m
  refine d_callx [(f : Int), (n : Int), (b.length : Int)] [] [] ([], [decide (f + n ≤ b.length)], []) e11_17 rfl rfl rfl ((q_within (by omega) (by omega) (by omega) (by omega)).trans (by rw [nn])) rfl ?_
  unfold okB
  by_cases h1 : f + n ≤ b.length
  · rw [decide_eq_true h1]
    refine d_itT rfl ?_
    refine d_callx [(a : Int), (n : Int), (M.length : Int)] [] [] ([], [decide (a + n ≤ M.length)], []) e11_17 rfl rfl rfl ((q_within (by omega) (by omega) (by omega) (by omega)).trans (by rw [nn])) rfl ?_
    by_cases h2 : a + n ≤ M.length
    · rw [decide_eq_true h2]
      refine d_itF rfl ?_
      refine d_callx [cap] [] [M, T, G, E', D'] ([cap], [], [M, T, G, E', D']) e11_18 rfl rfl rfl (q_icopied h) rfl ?_
      rw [if_pos (show (true && true) = true from rfl)]
      have e1 : arI .add .u64 (f : Int) (n : Int) = ((f + n : Nat) : Int) := by show IntKind.u64.wrap _ = _; rw [wu (by omega) (by omega)]; omega
      have r1 : (decide ((0 : Int) ≤ (a : Int)) && (decide ((a : Int) ≤ (M.length : Int)) && decide ((M.length : Int) ≤ (M.length : Int)))) = true := by simp; omega
      have r2 : (decide ((0 : Int) ≤ (f : Int)) && (decide ((f : Int) ≤ arI .add .u64 (f : Int) (n : Int)) && decide (arI .add .u64 (f : Int) (n : Int) ≤ (b.length : Int)))) = true := by rw [e1]; simp; omega
      have r3 : (decide ((0 : Int) ≤ (a : Int)) && decide ((a : Int) ≤ (M.length : Int))) = true := by simp; omega
      have l1 : [(b.take (arI .add .u64 (f : Int) (n : Int)).toNat).drop ((f : Int)).toNat] = [(b.take (f + n)).drop f] := by rw [e1]; rfl
      have l2 : [M.take ((a : Int)).toNat ++ ((b.take (f + n)).drop f).take (M.length - ((a : Int)).toNat) ++ M.drop (((a : Int)).toNat + min ((b.take (f + n)).drop f).length (M.length - ((a : Int)).toNat))] = [ins a ((b.take (f + n)).drop f) M] := by
        rw [Int.toNat_natCast, cp_ins (by rw [cut_len h1]; omega)]
      refine d_both ?_ ?_
      · exact d_rq r1 (d_rq r2 (d_lst _ l1 (d_rq r3 (d_lst _ l2 rfl))))
      · exact d_rq r2 (d_lst _ l1 (d_rq r1 (d_rq r3 (d_lst _ l2 rfl))))
    · rw [decide_eq_false h2]
      exact d_itT rfl rfl
  · rw [decide_eq_false h1]
    exact d_itF rfl rfl
theorem q_Lay {cap : Int} {a f n : Nat} {M T G E' D' b : List D} (h : Sm M T G E' D') (hb : b.length ≤ 1000) (ha : a < 18446744073709551616) (hf : f < 18446744073709551616) :
    F8 [cap, (a : Int), (f : Int), (n : Int)] [] [M, T, G, E', D', b] = some (if okB a f n T b = true then ([cap], [true], [M, ins a ((b.take (f + n)).drop f) T, G, E', D']) else ([0], [false], [[], [], [], [], []])) := by
  refine of_ret ?_
  unfold t8
  have hT := h.t
  refine d_callx [(f : Int), (n : Int), (b.length : Int)] [] [] ([], [decide (f + n ≤ b.length)], []) e8_17 rfl rfl rfl ((q_within (by omega) (by omega) (by omega) (by omega)).trans (by rw [nn])) rfl ?_
  unfold okB
  by_cases h1 : f + n ≤ b.length
  · rw [decide_eq_true h1]
    refine d_itT rfl ?_
    refine d_callx [(a : Int), (n : Int), (T.length : Int)] [] [] ([], [decide (a + n ≤ T.length)], []) e8_17 rfl rfl rfl ((q_within (by omega) (by omega) (by omega) (by omega)).trans (by rw [nn])) rfl ?_
    by_cases h2 : a + n ≤ T.length
    · rw [decide_eq_true h2]
      refine d_itF rfl ?_
      refine d_callx [cap] [] [M, T, G, E', D'] ([cap], [], [M, T, G, E', D']) e8_18 rfl rfl rfl (q_icopied h) rfl ?_
      rw [if_pos (show (true && true) = true from rfl)]
      have e1 : arI .add .u64 (f : Int) (n : Int) = ((f + n : Nat) : Int) := by show IntKind.u64.wrap _ = _; rw [wu (by omega) (by omega)]; omega
      have r1 : (decide ((0 : Int) ≤ (a : Int)) && (decide ((a : Int) ≤ (T.length : Int)) && decide ((T.length : Int) ≤ (T.length : Int)))) = true := by simp; omega
      have r2 : (decide ((0 : Int) ≤ (f : Int)) && (decide ((f : Int) ≤ arI .add .u64 (f : Int) (n : Int)) && decide (arI .add .u64 (f : Int) (n : Int) ≤ (b.length : Int)))) = true := by rw [e1]; simp; omega
      have r3 : (decide ((0 : Int) ≤ (a : Int)) && decide ((a : Int) ≤ (T.length : Int))) = true := by simp; omega
      have l1 : [(b.take (arI .add .u64 (f : Int) (n : Int)).toNat).drop ((f : Int)).toNat] = [(b.take (f + n)).drop f] := by rw [e1]; rfl
      have l2 : [T.take ((a : Int)).toNat ++ ((b.take (f + n)).drop f).take (T.length - ((a : Int)).toNat) ++ T.drop (((a : Int)).toNat + min ((b.take (f + n)).drop f).length (T.length - ((a : Int)).toNat))] = [ins a ((b.take (f + n)).drop f) T] := by
        rw [Int.toNat_natCast, cp_ins (by rw [cut_len h1]; omega)]
      refine d_both ?_ ?_
      · exact d_rq r1 (d_rq r2 (d_lst _ l1 (d_rq r3 (d_lst _ l2 rfl))))
      · exact d_rq r2 (d_lst _ l1 (d_rq r1 (d_rq r3 (d_lst _ l2 rfl))))
    · rw [decide_eq_false h2]
      exact d_itT rfl rfl
  · rw [decide_eq_false h1]
    exact d_itF rfl rfl
/-- Does the memory grow? -/
def growB (cap : Int) (n : Nat) (ok : Bool) (M : List D) : Bool := ok && decide ((M.length / 65536 + n : Nat) ≤ min cap 4)
theorem q_Grow {cap : Int} {n : Nat} {ok : Bool} {M T G E' D' : List D} (h : Sm M T G E' D') (hc : -9223372036854775808 ≤ cap) (hn : n < 18446744073709551616) :
    F13 [cap, (n : Int)] [ok] [M, T, G, E', D'] = some (if growB cap n ok M = true then ([cap, ((M.length / 65536 : Nat) : Int)], [], [M ++ List.replicate (65536 * n) (.i 0), T, G, E', D']) else ([cap, 4294967295], [], [M, T, G, E', D'])) := by
  refine of_ret ?_
  unfold t13
  have hM := h.m
  refine d_callx [cap] [] [M, T, G, E', D'] ([cap], [], [M, T, G, E', D']) e13_18 rfl rfl rfl (q_icopied h) rfl ?_
  have e1 : arI .quo .i64 (M.length : Int) 65536 = ((M.length / 65536 : Nat) : Int) := by
    show IntKind.i64.wrap ((M.length : Int).tdiv 65536) = _
    rw [Int.tdiv_eq_ediv_of_nonneg (by omega), wi (by omega) (by omega)]; omega
  obtain ⟨o, ho⟩ : ∃ o, o = M.length / 65536 := ⟨_, rfl⟩
  have ho3 : o ≤ 3 := by omega
  obtain ⟨c4, hc4⟩ : ∃ c4 : Int, c4 = if (4 : Int) < cap then 4 else cap := ⟨_, rfl⟩
  have hc4' : c4 = min cap 4 := by rw [hc4]; split <;> omega
  rw [← ho] at e1 ⊢
  refine d_lb (decide ((o : Int) > c4)) (by show decide (arI .quo .i64 (M.length : Int) 65536 > if (4 : Int) < cap then 4 else cap) = _; rw [e1, hc4]) ?_
  refine d_li (IntKind.i64.wrap (c4 - o)) (by show IntKind.i64.wrap ((if (4 : Int) < cap then 4 else cap) - arI .quo .i64 (M.length : Int) 65536) = _; rw [e1, hc4]) ?_
  have key : (!ok || decide ((o : Int) > c4) || decide ((n : Int) > IntKind.u64.wrap (IntKind.i64.wrap (c4 - o)))) = !(growB cap n ok M) := by
    unfold growB
    rw [← hc4', ← ho]
    cases ok
    · rfl
    · by_cases h1 : (o : Int) > c4
      · rw [decide_eq_true h1]
        simp
        omega
      · rw [decide_eq_false h1, wi (by omega) (by omega), wu (by omega) (by omega)]
        simp only [Bool.not_true, Bool.false_or, Bool.true_and]
        rw [← decide_not]
        exact decide_eq_decide.2 (by omega)
  refine d_lb (!(growB cap n ok M)) key ?_
  cases hg : growB cap n ok M with
  | false => exact d_itT rfl rfl
  | true =>
    refine d_itF rfl ?_
    unfold growB at hg
    simp only [Bool.and_eq_true, decide_eq_true_eq] at hg
    have hn4 : n ≤ 4 := by omega
    have e2 : arI .mul .i64 (IntKind.i64.wrap (n : Int)) 65536 = ((65536 * n : Nat) : Int) := by
      show IntKind.i64.wrap (IntKind.i64.wrap (n : Int) * 65536) = _
      rw [wi (n := (n : Int)) (by omega) (by omega), wi (by omega) (by omega)]; omega
    refine d_rq (c := E.an _ _) ?_ (d_lst [M ++ List.replicate (65536 * n) (.i 0)] ?_ ?_)
    · show (decide ((M.length : Int) ≤ 17592186044416) && (decide ((0 : Int) ≤ arI .mul .i64 (IntKind.i64.wrap (n : Int)) 65536) && decide (arI .mul .i64 (IntKind.i64.wrap (n : Int)) 65536 ≤ 17592186044416))) = true
      rw [e2]; simp; omega
    · show [M ++ List.replicate (arI .mul .i64 (IntKind.i64.wrap (n : Int)) 65536).toNat (mkD [.i 0])] = _
      rw [e2]; rfl
    · rw [if_pos (show true = true from rfl)]
      have e3 : IntKind.u64.wrap (arI .quo .i64 (M.length : Int) 65536) = ((o : Nat) : Int) := by rw [e1, wu (by omega) (by omega)]
      rw [← e3]; rfl
theorem same_loop (body : Vx.T) (C : Nat → Vx.Fn) (l : List D) (hl : l.length ≤ 3000) (hb : ∀ i, i < l.length → body.den C [(i : Int)] [false] [l, l] = some (.nxt ([((i + 1 : Nat) : Int)], [false], []))) (he : body.den C [(l.length : Int)] [false] [l, l] = some (.brk 2 ([(l.length : Int)], [false], []))) :
    ∀ (d i k : Nat), i + d = l.length → iterT 1 1 0 (fun r => body.den C ([] ++ r.1) ([] ++ r.2.1) ([l, l] ++ r.2.2)) (k + (d + 1)) ([(i : Int)], [false], []) = some (.brk 2 ([(l.length : Int)], [false], [])) := by
  intro d
  induction d with
  | zero =>
    intro i k hi
    obtain rfl : i = l.length := by omega
    exact it_brk he
  | succ d ih =>
    intro i k hi
    exact it_nxt (r' := ([((i + 1 : Nat) : Int)], [false], [])) (hb i (by omega)) rfl (ih (i + 1) k (by omega))
theorem q_samenum (l : List D) (hl : l.length ≤ 3000) : F21 [] [] [l, l] = some ([], [true], []) := by
  refine of_ret ?_
  unfold t21
  refine d_itF (ne_f rfl) ?_
  obtain ⟨k, hk⟩ := fuel_eq (l.length + 1) (by omega)
  have h := same_loop l21_1 (Tab.fn a21) l hl (fun i hi => by
    unfold l21_1
    refine d_itT (lt_t (by show (i : Int) < (l.length : Nat); omega)) (d_rq (decide_eq_true (show (0 : Int) ≤ (i : Int) by omega)) (d_rq (lt_t (by show (i : Int) < (l.length : Nat); omega)) (d_itF (ne_f rfl) ?_)))
    show some (Out.nxt ([arI .add .i64 (i : Int) 1], [false], [])) = _
    rw [addI (by omega) (by omega)]; rfl) (by unfold l21_1; exact d_itF (lt_f (Int.le_refl _)) rfl) l.length 0 k (by omega)
  rw [← hk] at h
  exact d_lp _ h rfl rfl
theorem q_samebool (l : List D) (hl : l.length ≤ 3000) : F22 [] [] [l, l] = some ([], [true], []) := by
  refine of_ret ?_
  unfold t22
  refine d_itF (ne_f rfl) ?_
  obtain ⟨k, hk⟩ := fuel_eq (l.length + 1) (by omega)
  have h := same_loop l22_1 (Tab.fn a22) l hl (fun i hi => by
    unfold l22_1
    refine d_itT (lt_t (by show (i : Int) < (l.length : Nat); omega)) (d_rq (decide_eq_true (show (0 : Int) ≤ (i : Int) by omega)) (d_rq (lt_t (by show (i : Int) < (l.length : Nat); omega)) (d_itF (by
      show (!(((l.getD (i : Int).toNat (.i 0)).cell 0).bool == ((l.getD (i : Int).toNat (.i 0)).cell 0).bool)) = false
      simp) ?_)))
    show some (Out.nxt ([arI .add .i64 (i : Int) 1], [false], [])) = _
    rw [addI (by omega) (by omega)]; rfl) (by unfold l22_1; exact d_itF (lt_f (Int.le_refl _)) rfl) l.length 0 k (by omega)
  rw [← hk] at h
  exact d_lp _ h rfl rfl
theorem q_same13 {c : Int} {M T G E' D' : List D} (hb : D.bytesB M = true) (hT : T.length ≤ 3000) (hG : G.length ≤ 3000) (hE : E'.length ≤ 3000) (hD : D'.length ≤ 3000) : F10 [c, c] [] [M, T, G, E', D', M, T, G, E', D'] = some ([], [true], []) := by
  refine of_ret ?_
  unfold t10
  refine d_rq hb (d_lst [M] rfl (d_rq hb (d_lst [M] rfl ?_)))
  refine d_itT (an_t (D.sameL_refl M) (eq_t rfl)) ?_
  refine d_callx [] [] [T, T] ([], [true], []) e10_20 rfl rfl rfl (q_sameints T (by omega)) rfl (d_itT rfl ?_)
  refine d_callx [] [] [G, G] ([], [true], []) e10_21 rfl rfl rfl (q_samenum G hG) rfl (d_itT rfl ?_)
  refine d_callx [] [] [E', E'] ([], [true], []) e10_22 rfl rfl rfl (q_samebool E' hE) rfl (d_itT rfl ?_)
  exact d_callx [] [] [D', D'] ([], [true], []) e10_22 rfl rfl rfl (q_samebool D' hD) rfl rfl
def smB (M T G E' D' : List D) : Bool := decide (M.length ≤ 196608) && decide (T.length ≤ 100) && decide (G.length ≤ 100) && decide (E'.length ≤ 100) && decide (D'.length ≤ 100)
theorem lenD (l : List D) (n : Nat) : decide ((l.length : Int) ≤ (n : Int)) = decide (l.length ≤ n) := decide_eq_decide.2 (by omega)
theorem q_small {c : Int} {M T G E' D' : List D} : F6 [c] [] [M, T, G, E', D'] = some ([], [smB M T G E' D'], []) := by
  refine of_ret ?_
  unfold t6
  refine d_lb (decide (M.length ≤ 196608) && decide (T.length ≤ 100)) ?_ (d_lb (decide (M.length ≤ 196608) && decide (T.length ≤ 100) && decide (G.length ≤ 100) && decide (E'.length ≤ 100)) ?_ ?_)
  · exact congr (congrArg and (lenD M 196608)) (lenD T 100)
  · exact congr (congrArg and (congr (congrArg and rfl) (lenD G 100))) (lenD E' 100)
  · show some (Out.ret ([], [decide (M.length ≤ 196608) && decide (T.length ≤ 100) && decide (G.length ≤ 100) && decide (E'.length ≤ 100) && decide ((D'.length : Int) ≤ ((100 : Nat) : Int))], [])) = _
    rw [lenD]; rfl
theorem smB_sm {M T G E' D' : List D} (h : smB M T G E' D' = true) : Sm M T G E' D' := by
  simp only [smB, Bool.and_eq_true, decide_eq_true_eq] at h
  exact ⟨h.1.1.1.1, h.1.1.1.2, h.1.1.2, h.1.2, h.2⟩
theorem bytesB_get : ∀ {l : List D}, D.bytesB l = true ↔ ∀ j, j < l.length → ∃ n, l.getD j (.i 0) = .i n ∧ 0 ≤ n ∧ n < 256
  | [] => by simp [D.bytesB]
  | x :: l => by
    constructor
    · intro h j hj
      cases x <;> simp only [D.bytesB, Bool.and_eq_true, Bool.false_eq_true] at h
      cases j with
      | zero => exact ⟨_, rfl, by simpa using h.1⟩
      | succ j => exact bytesB_get.1 h.2 j (by simpa using hj)
    · intro h
      obtain ⟨n, h1, h2⟩ := h 0 (by simp)
      have h1 : x = .i n := h1
      subst h1
      simp only [D.bytesB, Bool.and_eq_true, decide_eq_true_eq]
      exact ⟨h2, bytesB_get.2 fun j hj => h (j + 1) (by simpa using hj)⟩
theorem bytesB_take {l : List D} (h : D.bytesB l = true) (n : Nat) : D.bytesB (l.take n) = true := by
  rw [bytesB_get] at *
  intro j hj
  rw [List.length_take] at hj
  obtain ⟨m, h1, h2⟩ := h j (by omega)
  refine ⟨m, ?_, h2⟩
  rw [← h1, List.getD_eq_getElem?_getD, List.getD_eq_getElem?_getD, List.getElem?_take_of_lt (by omega)]
theorem bytesB_drop {l : List D} (h : D.bytesB l = true) (n : Nat) : D.bytesB (l.drop n) = true := by
  rw [bytesB_get] at *
  intro j hj
  rw [List.length_drop] at hj
  obtain ⟨m, h1, h2⟩ := h (n + j) (by omega)
  refine ⟨m, ?_, h2⟩
  rw [← h1, List.getD_eq_getElem?_getD, List.getD_eq_getElem?_getD, List.getElem?_drop]
theorem bytesB_app {l m : List D} (h : D.bytesB l = true) (h' : D.bytesB m = true) : D.bytesB (l ++ m) = true := by
  rw [bytesB_get] at *
  intro j hj
  rw [List.length_append] at hj
  by_cases hl : j < l.length
  · obtain ⟨q, h1, h2⟩ := h j hl
    exact ⟨q, by rw [← h1, List.getD_eq_getElem?_getD, List.getD_eq_getElem?_getD, List.getElem?_append_left hl], h2⟩
  · obtain ⟨q, h1, h2⟩ := h' (j - l.length) (by omega)
    exact ⟨q, by rw [← h1, List.getD_eq_getElem?_getD, List.getD_eq_getElem?_getD, List.getElem?_append_right (by omega)], h2⟩
theorem bytesB_ins {a : Nat} {V M : List D} (hV : D.bytesB V = true) (hM : D.bytesB M = true) : D.bytesB (ins a V M) = true := bytesB_app (bytesB_app (bytesB_take hM _) hV) (bytesB_drop hM _)
theorem ins_at {a i : Nat} {V M : List D} (h : a + V.length ≤ M.length) (hi : i < M.length) : (ins a V M).getD i (.i 0) = if a ≤ i ∧ i < a + V.length then V.getD (i - a) (.i 0) else M.getD i (.i 0) := by
  unfold ins
  simp only [List.getD_eq_getElem?_getD]
  by_cases h1 : i < a
  · rw [if_neg (by omega), List.append_assoc, List.getElem?_append_left (by simp; omega), List.getElem?_take_of_lt h1]
  · by_cases h2 : i < a + V.length
    · rw [if_pos (by omega), List.getElem?_append_left (by simp; omega), List.getElem?_append_right (by simp; omega)]
      congr 2
      simp; omega
    · rw [if_neg (by omega), List.getElem?_append_right (by simp; omega), List.getElem?_drop]
      congr 2
      simp; omega
theorem ins_mid {a : Nat} {V M : List D} (h : a + V.length ≤ M.length) : ((ins a V M).take (a + V.length)).drop a = V := by
  unfold ins
  have hl : (M.take a).length = a := by simp; omega
  rw [List.take_append_of_le_length (by simp; omega), List.take_of_length_le (by simp; omega), List.drop_append_of_le_length (by omega), List.drop_of_length_le (by omega), List.nil_append]
theorem ins_head {a : Nat} {V M : List D} (h : a + V.length ≤ M.length) : (ins a V M).take a = M.take a := by
  unfold ins
  have hl : (M.take a).length = a := by simp; omega
  rw [List.append_assoc, List.take_append_of_le_length (by omega), List.take_of_length_le (by omega)]
theorem ins_tail {a : Nat} {V M : List D} (h : a + V.length ≤ M.length) : (ins a V M).drop (a + V.length) = M.drop (a + V.length) := by
  unfold ins
  have hl : (M.take a ++ V).length = a + V.length := by simp; omega
  rw [List.drop_append_of_le_length (by omega), List.drop_of_length_le (by omega), List.nil_append]
end Go.Proofs.Ytambhhochajgnaa.IInstLays
