/-
  CtxAsked: what the functions that it reaches answer.
-/
import Derived.Test.YtkpbcfkmkgddhaaXCtxAsked
import Derived.Test.YtkpbcfkmkgddhaaVb
namespace Go.Proofs.Ytkpbcfkmkgddhaa.SCtxAsked
set_option linter.all false
open Go.Proofs.Ytkpbcfkmkgddhaa.Vx Go.Proofs.Ytkpbcfkmkgddhaa.XCtxAsked Go.Proofs.Ytkpbcfkmkgddhaa.Vd Go.Proofs.Ytkpbcfkmkgddhaa.Vn Go.Proofs.Ytkpbcfkmkgddhaa.Vl Go.Proofs.Ytkpbcfkmkgddhaa.Vp Go.Proofs.Ytkpbcfkmkgddhaa.Vb
theorem lp_same (l : List D) (hl : l.length < 4611686018427387904) : ∀ (d i k : Nat), i + d = l.length → iterT 1 1 0 (fun r => l36_1.den (Tab.fn a36) ([] ++ r.1) ([] ++ r.2.1) ([l, l] ++ r.2.2)) (k + (d + 1)) ([(i : Int)], [false], []) = some (.brk 2 ([(l.length : Int)], [false], [])) := by
  intro d
  induction d with
  | zero =>
    intro i k hi
    obtain rfl : i = l.length := by omega
    refine it_brk ?_
    simp [l36_1, T.den, E.B, E.I, cmB, vals]
  | succ d ih =>
    intro i k hi
    have h3 : (i : Int) < (l.length : Nat) := by omega
    have h4 : (0 : Int) ≤ (i : Int) := by omega
    have e2 : arI .add .i64 (i : Int) 1 = ((i + 1 : Nat) : Int) := by show IntKind.i64.wrap ((i : Int) + 1) = _; rw [wi (by omega) (by omega)]; omega
    refine it_nxt (r' := ([((i + 1 : Nat) : Int)], [false], [])) ?_ rfl (ih (i + 1) k (by omega))
    simp only [l36_1, T.den, E.B, E.I, cmB, vals, List.cons_append, List.nil_append, List.append_nil, List.getD_cons_zero, List.getD_cons_succ, List.map_cons, List.map_nil, h3, h4, ge_iff_le, decide_true, cond_true, bne_self_eq_false, cond_false, e2]
theorem q_sameints (l : List D) (hl : l.length < 4611686018427387904) : F36 [] [] [l, l] = some ([], [true], []) := by
  refine of_ret ?_
  unfold t36
  refine d_ite (fun h => ?_) fun _ => ?_
  · have : ((l.length : Int) != (l.length : Int)) = true := h
    simp at this
  obtain ⟨k, hk⟩ := fuel_eq (l.length + 1) (by omega)
  have h := lp_same l hl l.length 0 k (by omega)
  rw [← hk] at h
  exact d_lp _ h rfl rfl
theorem q_same (a b : List D) (ha : a.length < 4611686018427387904) (hb : b.length < 4611686018427387904) : F19 [] [] [a, b, a, b] = some ([], [true], []) := by
  refine of_ret ?_
  unfold t19
  refine d_callx [] [] [a, a] _ e19_36 rfl rfl rfl (q_sameints a ha) rfl ?_
  refine d_ite (fun _ => ?_) fun h => by cases h
  exact d_callx [] [] [b, b] _ e19_36 rfl rfl rfl (q_sameints b hb) rfl rfl
theorem q_clonei (l : List D) (h : l.length ≤ 1000000) : F37 [] [] [l] = some ([], [], [l]) := by
  have h : ((l.length : Nat) : Int) ≤ 3909374676536 := by omega
  refine of_ret ?_
  unfold t37
  refine d_nz (fun e => ?_) ?_
  · have e : l = [] := e
    subst e; rfl
  · simp [T.den, E.B, E.I, cmB, vals, Vx.LE.L, h]
theorem q_copied (p r : List D) (hp : p.length ≤ 1000000) (hr : r.length ≤ 1000000) : F24 [] [] [p, r] = some ([], [], [p, r]) := by
  refine of_ret ?_
  unfold t24
  refine d_callx [] [] [p] ([], [], [p]) e24_37 rfl rfl rfl (q_clonei p hp) rfl ?_
  exact d_callx [] [] [r] ([], [], [r]) e24_37 rfl rfl rfl (q_clonei r hr) rfl rfl
def hasB (k n : Int) : Bool := decide (k ≥ 0) && decide (k < n)
theorem q_has (k n : Int) : F30 [k, n] [] [] = some ([], [hasB k n], []) := by
  refine of_ret ?_
  unfold t30
  exact d_lb (hasB k n) rfl rfl
theorem q_in (k n : Int) : F31 [k, n] [] [] = some ([], [hasB k n], []) := by
  refine of_ret ?_
  unfold t31
  exact d_lb (hasB k n) rfl rfl
/-- The types of a list are short. -/
def tyOK (T : List D) : Prop := ∀ i, i < T.length → ((T.getD i (.i 0)).cell 0).list.length ≤ 20 ∧ ((T.getD i (.i 0)).cell 1).list.length ≤ 20
theorem q_short9 {i0 i1 i2 i3 : Int} {b0 : Bool} {T Fs G Tb Me : List D} : ∃ b, F15 [i0, i1, i2, i3] [b0] [T, Fs, G, Tb, Me] = some ([], [b], []) ∧ (b = true → T.length ≤ 70 ∧ Fs.length ≤ 140 ∧ G.length ≤ 140 ∧ tyOK T) := by
  have loop : ∀ (b1 b2 : Bool) (d i k : Nat), i + d = T.length → T.length ≤ 70 → (∀ j, j < i → ((T.getD j (.i 0)).cell 0).list.length ≤ 20 ∧ ((T.getD j (.i 0)).cell 1).list.length ≤ 20) →
      ∃ r, iterT 1 1 0 (fun r => l15_1.den (Tab.fn a15) ([i0, i1, i2, i3] ++ r.1) ([b0, b1, b2] ++ r.2.1) ([T, Fs, G, Tb, Me] ++ r.2.2)) (k + (d + 1)) ([(i : Int)], [false], []) = some r ∧ ((r = .brk 2 ([(T.length : Int)], [false], []) ∧ tyOK T) ∨ r = .ret ([], [false], [])) := by
    intro b1 b2 d
    induction d with
    | zero =>
      intro i k hi hT hj
      obtain rfl : i = T.length := by omega
      refine ⟨_, it_brk (t := 2) (r' := ([(T.length : Int)], [false], [])) ?_, .inl ⟨rfl, hj⟩⟩
      unfold l15_1
      exact d_itF (lt_f (Int.le_refl _)) rfl
    | succ d ih =>
      intro i k hi hT hj
      have hlt : decide ((i : Int) < ((T.length : Nat) : Int)) = true := by rw [decide_eq_true_eq]; omega
      have h0 : decide ((i : Int) ≥ 0) = true := decide_eq_true (show (0 : Int) ≤ (i : Int) by omega)
      have hin : (decide ((((((T.getD (i : Int).toNat (.i 0)).cell 0).list).length : Nat) : Int) > 20) || (decide ((i : Int) ≥ 0) && decide ((i : Int) < ((T.length : Nat) : Int)))) = true := by rw [hlt, h0]; simp
      by_cases c0 : ((T.getD i (.i 0)).cell 0).list.length ≤ 20
      · have hc0 : (!decide ((((((T.getD (i : Int).toNat (.i 0)).cell 0).list).length : Nat) : Int) > 20)) = true := by rw [Int.toNat_natCast, decide_eq_false (by omega)]; rfl
        by_cases c1 : ((T.getD i (.i 0)).cell 1).list.length ≤ 20
        · have hc1 : decide ((((((T.getD (i : Int).toNat (.i 0)).cell 1).list).length : Nat) : Int) > 20) = false := by rw [Int.toNat_natCast]; exact decide_eq_false (by omega)
          obtain ⟨r, hr, ho⟩ := ih (i + 1) k (by omega) hT (fun j hj2 => by
            by_cases e : j = i
            · subst e; exact ⟨c0, c1⟩
            · exact hj j (by omega))
          refine ⟨r, it_nxt (r' := ([((i + 1 : Nat) : Int)], [false], [])) ?_ rfl hr, ho⟩
          unfold l15_1
          refine d_itT hlt (d_rq h0 (d_lst [((T.getD (i : Int).toNat (.i 0)).cell 0).list] rfl (d_rq hin (d_itT hc0 (d_lst [((T.getD (i : Int).toNat (.i 0)).cell 1).list] rfl (d_itF hc1 ?_))))))
          show some (Out.nxt ([arI .add .i64 (i : Int) 1], [false], [])) = _
          rw [up1 i (by omega)]
        · have hc1 : decide ((((((T.getD (i : Int).toNat (.i 0)).cell 1).list).length : Nat) : Int) > 20) = true := by rw [Int.toNat_natCast]; exact decide_eq_true (by omega)
          refine ⟨_, it_ret (r' := ([], [false], [])) ?_, .inr rfl⟩
          unfold l15_1
          exact d_itT hlt (d_rq h0 (d_lst [((T.getD (i : Int).toNat (.i 0)).cell 0).list] rfl (d_rq hin (d_itT hc0 (d_lst [((T.getD (i : Int).toNat (.i 0)).cell 1).list] rfl (d_itT hc1 (d_rt rfl)))))))
      · have hc0 : (!decide ((((((T.getD (i : Int).toNat (.i 0)).cell 0).list).length : Nat) : Int) > 20)) = false := by rw [Int.toNat_natCast, decide_eq_true (by omega)]; rfl
        refine ⟨_, it_ret (r' := ([], [false], [])) ?_, .inr rfl⟩
        unfold l15_1
        exact d_itT hlt (d_rq h0 (d_lst [((T.getD (i : Int).toNat (.i 0)).cell 0).list] rfl (d_rq hin (d_itF hc0 (d_rt rfl)))))
  obtain ⟨b1, hb1⟩ : ∃ q, q = (decide ((T.length : Int) > 70) || decide ((Fs.length : Int) > 140)) := ⟨_, rfl⟩
  obtain ⟨b2, hb2⟩ : ∃ q, q = (b1 || decide ((G.length : Int) > 140) || decide ((Tb.length : Int) > 10)) := ⟨_, rfl⟩
  by_cases hc : (b2 || decide ((Me.length : Int) > 10)) = true
  · refine ⟨false, of_ret ?_, fun h => by cases h⟩
    unfold t15
    exact d_lb b1 hb1.symm (d_lb b2 hb2.symm (d_itT hc rfl))
  · have hc := Bool.eq_false_iff.2 hc
    have hsm : T.length ≤ 70 ∧ Fs.length ≤ 140 ∧ G.length ≤ 140 := by
      rw [hb2, hb1] at hc
      simp only [Bool.or_eq_false_iff, decide_eq_false_iff_not] at hc
      omega
    obtain ⟨k, hk⟩ := fuel_eq (T.length + 1) (by omega)
    obtain ⟨r, hr, ho⟩ := loop b1 b2 T.length 0 k (by omega) hsm.1 (fun j hj => by omega)
    rw [← hk] at hr
    rcases ho with ⟨rfl, hty⟩ | rfl
    · refine ⟨true, of_ret ?_, fun _ => ⟨hsm.1, hsm.2.1, hsm.2.2, hty⟩⟩
      unfold t15
      exact d_lb b1 hb1.symm (d_lb b2 hb2.symm (d_itF hc (d_lp _ hr rfl (d_rq rfl rfl))))
    · refine ⟨false, of_ret ?_, fun h => by cases h⟩
      unfold t15
      exact d_lb b1 hb1.symm (d_lb b2 hb2.symm (d_itF hc (d_lp_ret hr)))
theorem q_short6 {L : List D} : ∃ b, F16 [] [] [L] = some ([], [b], []) := by
  have loop : ∀ (d i k : Nat) (n : Int), i + d = L.length → L.length ≤ 2100 →
      ∃ r, iterT 2 1 0 (fun r => l16_1.den (Tab.fn a16) ([] ++ r.1) ([] ++ r.2.1) ([L] ++ r.2.2)) (k + (d + 1)) ([n, (i : Int)], [false], []) = some r ∧ ((∃ m, r = .brk 2 ([m, (L.length : Int)], [false], [])) ∨ r = .ret ([], [false], [])) := by
    intro d
    induction d with
    | zero =>
      intro i k n hi hT
      obtain rfl : i = L.length := by omega
      refine ⟨_, it_brk (t := 2) (r' := ([n, (L.length : Int)], [false], [])) ?_, .inl ⟨n, rfl⟩⟩
      unfold l16_1
      exact d_itF (lt_f (Int.le_refl _)) rfl
    | succ d ih =>
      intro i k n hi hT
      have hlt : decide ((i : Int) < ((L.length : Nat) : Int)) = true := by rw [decide_eq_true_eq]; omega
      have h0 : decide ((i : Int) ≥ 0) = true := decide_eq_true (show (0 : Int) ≤ (i : Int) by omega)
      by_cases c0 : decide ((((((L.getD (i : Int).toNat (.i 0)).cell 4).list).length : Nat) : Int) > 100) = true
      · refine ⟨_, it_ret (r' := ([], [false], [])) ?_, .inr rfl⟩
        unfold l16_1
        exact d_itT hlt (d_rq h0 (d_lst [((L.getD (i : Int).toNat (.i 0)).cell 4).list] rfl (d_itT c0 (d_rt rfl))))
      · obtain ⟨r, hr, ho⟩ := ih (i + 1) k (arI .add .i64 n ((((L.getD (i : Int).toNat (.i 0)).cell 4).list.length : Nat) : Int)) (by omega) hT
        refine ⟨r, it_nxt (r' := ([arI .add .i64 n ((((L.getD (i : Int).toNat (.i 0)).cell 4).list.length : Nat) : Int), ((i + 1 : Nat) : Int)], [false], [])) ?_ rfl hr, ho⟩
        unfold l16_1
        refine d_itT hlt (d_rq h0 (d_lst [((L.getD (i : Int).toNat (.i 0)).cell 4).list] rfl (d_itF (Bool.eq_false_iff.2 c0) (d_lst [((L.getD (i : Int).toNat (.i 0)).cell 4).list] rfl ?_))))
        have e := up1 i (by omega)
        rw [← e]
        rfl
  by_cases hc : decide ((L.length : Int) > 2100) = true
  · refine ⟨false, of_ret ?_⟩
    unfold t16
    exact d_itT hc rfl
  · have hl : L.length ≤ 2100 := by simp at hc; omega
    obtain ⟨k, hk⟩ := fuel_eq (L.length + 1) (by omega)
    obtain ⟨r, hr, ho⟩ := loop L.length 0 k 0 (by omega) hl
    rw [← hk] at hr
    rcases ho with ⟨m, rfl⟩ | rfl
    · refine ⟨decide (m ≤ 2000), of_ret ?_⟩
      unfold t16
      exact d_itF (Bool.eq_false_iff.2 hc) (d_lp _ hr rfl (d_rq rfl rfl))
    · refine ⟨false, of_ret ?_⟩
      unfold t16
      exact d_itF (Bool.eq_false_iff.2 hc) (d_lp_ret hr)
theorem q_blocks {i0 i1 i2 i3 t : Int} {b0 : Bool} {T Fs G Tb Me : List D} (hT : T.length ≤ 70) (hty : tyOK T) : ∃ (ok : Bool) (P R : List D), P.length ≤ 20 ∧ R.length ≤ 20 ∧ F17 [i0, i1, i2, i3, t] [b0] [T, Fs, G, Tb, Me] = some ([], [ok], [P, R]) ∧ F18 [i0, i1, i2, i3, t] [b0] [T, Fs, G, Tb, Me] = some ([], [ok], [P, R]) := by
  by_cases h64 : t = -64
  · refine ⟨true, [], [], by simp, by simp, of_ret ?_, of_ret ?_⟩
    · unfold t17; exact d_itT (eq_t h64) rfl
    · unfold t18; exact d_itT (eq_t h64) rfl
  by_cases h1 : t = -1
  · subst h1
    refine ⟨true, [], [.i 127], by simp, by simp, of_ret ?_, of_ret ?_⟩
    · unfold t17; exact d_itF rfl (d_itT rfl (d_lst [[.i 127]] rfl rfl))
    · unfold t18; exact d_itF rfl (d_lb true rfl (d_itT rfl (d_lst [[.i 127]] rfl rfl)))
  by_cases h2 : t = -2
  · subst h2
    refine ⟨true, [], [.i 126], by simp, by simp, of_ret ?_, of_ret ?_⟩
    · unfold t17; exact d_itF rfl (d_itF rfl (d_itT rfl (d_lst [[.i 126]] rfl rfl)))
    · unfold t18; exact d_itF rfl (d_lb true rfl (d_itT rfl (d_lst [[.i 126]] rfl rfl)))
  have hlb : ((t == -1) || (t == -2)) = false := by rw [eq_f h1, eq_f h2]; rfl
  by_cases hh : hasB t (T.length : Int) = true
  · have hr : 0 ≤ t ∧ t < T.length := by unfold hasB at hh; simpa using hh
    have hin : (decide (t ≥ 0) && decide (t < ((T.length : Nat) : Int))) = true := hh
    obtain ⟨h20, h21⟩ := hty t.toNat (by omega)
    refine ⟨true, ((T.getD t.toNat (.i 0)).cell 0).list, ((T.getD t.toNat (.i 0)).cell 1).list, h20, h21, of_ret ?_, of_ret ?_⟩
    · unfold t17
      refine d_itF (eq_f h64) (d_itF (eq_f h1) (d_itF (eq_f h2) ?_))
      refine d_callx [t, (T.length : Int)] [] [] ([], [hasB t (T.length : Int)], []) e17_30 rfl rfl rfl (q_has _ _) rfl ?_
      refine d_itT hh (d_rq hin (d_rq hin (d_lst [((T.getD t.toNat (.i 0)).cell 0).list, ((T.getD t.toNat (.i 0)).cell 1).list] rfl ?_)))
      exact d_callx [] [] [((T.getD t.toNat (.i 0)).cell 0).list, ((T.getD t.toNat (.i 0)).cell 1).list] _ e17_24 rfl rfl rfl (q_copied _ _ (by omega) (by omega)) rfl rfl
    · unfold t18
      refine d_itF (eq_f h64) (d_lb false hlb (d_itF rfl ?_))
      refine d_callx [t, (T.length : Int)] [] [] ([], [hasB t (T.length : Int)], []) e18_31 rfl rfl rfl (q_in _ _) rfl ?_
      refine d_itF (by show (!hasB t (T.length : Int)) = false; rw [hh]; rfl) (d_rq hin (d_rq hin (d_lst [((T.getD t.toNat (.i 0)).cell 0).list, ((T.getD t.toNat (.i 0)).cell 1).list] rfl rfl)))
  · refine ⟨false, [], [], by simp, by simp, of_ret ?_, of_ret ?_⟩
    · unfold t17
      refine d_itF (eq_f h64) (d_itF (eq_f h1) (d_itF (eq_f h2) ?_))
      refine d_callx [t, (T.length : Int)] [] [] ([], [hasB t (T.length : Int)], []) e17_30 rfl rfl rfl (q_has _ _) rfl ?_
      exact d_itF (Bool.eq_false_iff.2 hh) rfl
    · unfold t18
      refine d_itF (eq_f h64) (d_lb false hlb (d_itF rfl ?_))
      refine d_callx [t, (T.length : Int)] [] [] ([], [hasB t (T.length : Int)], []) e18_31 rfl rfl rfl (q_in _ _) rfl ?_
      exact d_itT (by show (!hasB t (T.length : Int)) = true; rw [Bool.eq_false_iff.2 hh]; rfl) rfl
def fnT (Fs : List D) (f : Int) : Int := ((Fs.getD f.toNat (.i 0)).cell 0).int
theorem q_type {i0 i1 i2 i3 f : Int} {b0 : Bool} {T Fs G Tb Me : List D} (hty : tyOK T) : F14 [i0, i1, i2, i3, f] [b0] [T, Fs, G, Tb, Me] = some (if (hasB f (Fs.length : Int) && hasB (fnT Fs f) (T.length : Int)) = true then ([], [true], [((T.getD (fnT Fs f).toNat (.i 0)).cell 0).list, ((T.getD (fnT Fs f).toNat (.i 0)).cell 1).list]) else ([], [false], [[], []])) := by
  refine of_ret ?_
  unfold t14
  refine d_callx [f, (Fs.length : Int)] [] [] ([], [hasB f (Fs.length : Int)], []) e14_30 rfl rfl rfl (q_has _ _) rfl ?_
  have hq : (!hasB f (Fs.length : Int) || (decide (f ≥ 0) && decide (f < ((Fs.length : Nat) : Int)))) = true := by
    show (!hasB f (Fs.length : Int) || hasB f (Fs.length : Int)) = true
    cases hasB f (Fs.length : Int) <;> rfl
  refine d_both (d_rq hq (d_both ?_ ?_)) (d_rq hq ?_)
  all_goals
    by_cases h1 : hasB f (Fs.length : Int) = true
    case neg =>
      rw [Bool.eq_false_iff.2 h1, if_neg (by simp)]
      exact d_itF rfl rfl
    rw [h1]
    have hin : (decide (f ≥ 0) && decide (f < ((Fs.length : Nat) : Int))) = true := h1
    refine d_itT rfl (d_rq hin ?_)
    refine d_callx [fnT Fs f, (T.length : Int)] [] [] ([], [hasB (fnT Fs f) (T.length : Int)], []) e14_30 rfl rfl rfl (q_has _ _) rfl ?_
    by_cases h2 : hasB (fnT Fs f) (T.length : Int) = true
    case neg =>
      rw [Bool.eq_false_iff.2 h2, if_neg (by simp)]
      exact d_itT rfl rfl
    rw [h2, if_pos (by rfl)]
    have hin2 : (decide (fnT Fs f ≥ 0) && decide (fnT Fs f < ((T.length : Nat) : Int))) = true := h2
    have hr : 0 ≤ fnT Fs f ∧ fnT Fs f < T.length := by simpa using hin2
    obtain ⟨h20, h21⟩ := hty (fnT Fs f).toNat (by omega)
    refine d_itF rfl (d_rq hin (d_rq hin (d_rq hin2 (d_rq hin2 (d_lst [((T.getD (fnT Fs f).toNat (.i 0)).cell 0).list, ((T.getD (fnT Fs f).toNat (.i 0)).cell 1).list] rfl ?_)))))
    exact d_callx [] [] [((T.getD (fnT Fs f).toNat (.i 0)).cell 0).list, ((T.getD (fnT Fs f).toNat (.i 0)).cell 1).list] _ e14_24 rfl rfl rfl (q_copied _ _ (by omega) (by omega)) rfl rfl
theorem q_const {i0 V i2 i3 t : Int} {b0 : Bool} {T Fs G Tb Me L : List D} : ∃ b, F20 [i0, V, i2, i3, t] [b0] [T, Fs, G, Tb, Me, L] = some ([], [b], []) ∧ F21 [i0, V, i2, i3, t] [b0] [T, Fs, G, Tb, Me, L] = some ([], [b], []) := by
  by_cases hL : L.length = 2
  case neg =>
    have hne : (((L.length : Nat) : Int) != 2) = true := ne_t (by omega)
    refine ⟨false, of_ret ?_, of_ret ?_⟩
    · unfold t20
      exact d_rq (by show (((((L.length : Nat) : Int) != 2)) || _) = true; rw [hne]; rfl) (d_itF (by show (!(((L.length : Nat) : Int) != 2)) = false; rw [hne]; rfl) rfl)
    · unfold t21
      exact d_rq (by show (((((L.length : Nat) : Int) != 2)) || _) = true; rw [hne]; rfl) (d_itF (by show (!(((L.length : Nat) : Int) != 2)) = false; rw [hne]; rfl) rfl)
  obtain ⟨x0, x1, rfl⟩ : ∃ a b, L = [a, b] := by
    match L, hL with
    | [a, b], _ => exact ⟨a, b, rfl⟩
  by_cases h11 : (x1.cell 0).int = 11
  case neg =>
    refine ⟨false, of_ret ?_, of_ret ?_⟩
    · unfold t20; exact d_rq rfl (d_itT rfl (d_rq rfl (d_itT (ne_t h11) rfl)))
    · unfold t21; exact d_rq rfl (d_itT rfl (d_rq rfl (d_itT (ne_t h11) rfl)))
  by_cases h65 : (x0.cell 0).int = 65
  · refine ⟨t == 127, of_ret ?_, of_ret ?_⟩
    · unfold t20
      exact d_rq rfl (d_itT rfl (d_rq rfl (d_itF (ne_f h11) (d_rq rfl (d_lst [(x0.cell 4).list] rfl (d_itT (eq_t h65) rfl))))))
    · unfold t21
      refine d_rq rfl (d_itT rfl (d_rq rfl (d_itF (ne_f h11) (d_rq rfl (d_itF (show ((x0.cell 0).int == 35) = false by rw [h65]; rfl) ?_)))))
      refine d_lb (t == 127) (by show ((x0.cell 0).int == 65 && t == 127) = _; rw [h65]; rfl) (d_rq (by show ((t == 127) || true) = true; simp) ?_)
      by_cases ht : (t == 127) = true
      · rw [ht]; exact d_itF rfl rfl
      · rw [Bool.eq_false_iff.2 ht]
        refine d_itT rfl (d_lb false (by show ((x0.cell 0).int == 66 && t == 126) = false; rw [h65]; rfl) rfl)
  by_cases h66 : (x0.cell 0).int = 66
  · refine ⟨t == 126, of_ret ?_, of_ret ?_⟩
    · unfold t20
      exact d_rq rfl (d_itT rfl (d_rq rfl (d_itF (ne_f h11) (d_rq rfl (d_lst [(x0.cell 4).list] rfl (d_itF (eq_f h65) (d_itT (eq_t h66) rfl)))))))
    · unfold t21
      refine d_rq rfl (d_itT rfl (d_rq rfl (d_itF (ne_f h11) (d_rq rfl (d_itF (show ((x0.cell 0).int == 35) = false by rw [h66]; rfl) ?_)))))
      refine d_lb false (by show ((x0.cell 0).int == 65 && t == 127) = _; rw [h66]; rfl) (d_rq rfl (d_itT rfl ?_))
      exact d_lb (t == 126) (by show ((x0.cell 0).int == 66 && t == 126) = _; rw [h66]; rfl) rfl
  by_cases h35 : (x0.cell 0).int = 35
  case neg =>
    refine ⟨false, of_ret ?_, of_ret ?_⟩
    · unfold t20
      exact d_rq rfl (d_itT rfl (d_rq rfl (d_itF (ne_f h11) (d_rq rfl (d_lst [(x0.cell 4).list] rfl (d_itF (eq_f h65) (d_itF (eq_f h66) (d_itF (eq_f h35) rfl))))))))
    · unfold t21
      refine d_rq rfl (d_itT rfl (d_rq rfl (d_itF (ne_f h11) (d_rq rfl (d_itF (eq_f h35) ?_)))))
      refine d_lb false (by show ((x0.cell 0).int == 65 && t == 127) = _; rw [eq_f h65]; rfl) (d_rq rfl (d_itT rfl ?_))
      exact d_lb false (by show ((x0.cell 0).int == 66 && t == 126) = _; rw [eq_f h66]; rfl) rfl
  obtain ⟨a, ha⟩ : ∃ a, a = (x0.cell 1).int := ⟨_, rfl⟩
  obtain ⟨g, hg⟩ : ∃ g, g = G.getD a.toNat (.i 0) := ⟨_, rfl⟩
  have emin : (if (G.length : Int) < V then (G.length : Int) else V) = min V (G.length : Int) := by split <;> omega
  by_cases hh : hasB a (min V (G.length : Int)) = true
  · have hr : 0 ≤ a ∧ a < V ∧ a < G.length := by unfold hasB at hh; simp at hh; omega
    have hV : hasB a V = true := by unfold hasB; simp; omega
    have hG : hasB a (G.length : Int) = true := by unfold hasB; simp; omega
    have hin : (decide (a ≥ 0) && decide (a < ((G.length : Nat) : Int))) = true := hG
    refine ⟨(g.cell 0).int == t && ((g.cell 1).bool == false), of_ret ?_, of_ret ?_⟩
    · unfold t20
      refine d_rq rfl (d_itT rfl (d_rq rfl (d_itF (ne_f h11) (d_rq rfl (d_lst [(x0.cell 4).list] rfl (d_itF (eq_f h65) (d_itF (eq_f h66) (d_itT (eq_t h35) ?_))))))))
      refine d_callx [a, min V (G.length : Int)] [] [] ([], [true], []) e20_30 (by rw [← emin, ha]; rfl) rfl rfl (by rw [q_has, hh]) rfl ?_
      refine d_rq (by show (!true || (decide ((x0.cell 1).int ≥ 0) && decide ((x0.cell 1).int < ((G.length : Nat) : Int)))) = true; rw [← ha, hin]; rfl) (d_itT rfl (d_rq (by show (decide ((x0.cell 1).int ≥ 0) && decide ((x0.cell 1).int < ((G.length : Nat) : Int))) = true; rw [← ha, hin]) ?_))
      refine d_lb ((g.cell 0).int == t && ((g.cell 1).bool == false)) ?_ rfl
      rw [hg, ha]; rfl
    · unfold t21
      refine d_rq rfl (d_itT rfl (d_rq rfl (d_itF (ne_f h11) (d_rq rfl (d_itT (eq_t h35) ?_)))))
      refine d_callx [a, V] [] [] ([], [true], []) e21_31 (by rw [ha]; rfl) rfl rfl (by rw [q_in, hV]) rfl (d_itT rfl ?_)
      refine d_callx [a, (G.length : Int)] [] [] ([], [true], []) e21_31 (by rw [ha]; rfl) rfl rfl (by rw [q_in, hG]) rfl ?_
      have hin' : (decide ((x0.cell 1).int ≥ 0) && decide ((x0.cell 1).int < ((G.length : Nat) : Int))) = true := by rw [← ha, hin]
      refine d_rq (by show (!true || (decide ((x0.cell 1).int ≥ 0) && decide ((x0.cell 1).int < ((G.length : Nat) : Int)))) = true; rw [hin']; rfl) (d_itT rfl (d_rq hin' ?_))
      have eg : ((G.getD (x0.cell 1).int.toNat (.i 0)).cell 1).bool = (g.cell 1).bool := by rw [hg, ha]
      have eg0 : ((G.getD (x0.cell 1).int.toNat (.i 0)).cell 0).int = (g.cell 0).int := by rw [hg, ha]
      refine d_rq (by show (((G.getD (x0.cell 1).int.toNat (.i 0)).cell 1).bool || (decide ((x0.cell 1).int ≥ 0) && decide ((x0.cell 1).int < ((G.length : Nat) : Int)))) = true; rw [hin', Bool.or_true]) ?_
      by_cases hm : (g.cell 1).bool = true
      · rw [hm]
        refine d_itF (by show (!((G.getD (x0.cell 1).int.toNat (.i 0)).cell 1).bool) = false; rw [eg, hm]; rfl) ?_
        rw [show ((g.cell 0).int == t && (true == false)) = false by simp]
        rfl
      · have hm := Bool.eq_false_iff.2 hm
        refine d_itT (by show (!((G.getD (x0.cell 1).int.toNat (.i 0)).cell 1).bool) = true; rw [eg, hm]; rfl) (d_rq hin' ?_)
        rw [hm]
        show some (Out.ret ([], [((G.getD (x0.cell 1).int.toNat (.i 0)).cell 0).int == t], [])) = _
        rw [eg0]
        simp
  · have hh := Bool.eq_false_iff.2 hh
    refine ⟨false, of_ret ?_, of_ret ?_⟩
    · unfold t20
      refine d_rq rfl (d_itT rfl (d_rq rfl (d_itF (ne_f h11) (d_rq rfl (d_lst [(x0.cell 4).list] rfl (d_itF (eq_f h65) (d_itF (eq_f h66) (d_itT (eq_t h35) ?_))))))))
      refine d_callx [a, min V (G.length : Int)] [] [] ([], [false], []) e20_30 (by rw [← emin, ha]; rfl) rfl rfl (by rw [q_has, hh]) rfl ?_
      exact d_rq rfl (d_itF rfl rfl)
    · unfold t21
      refine d_rq rfl (d_itT rfl (d_rq rfl (d_itF (ne_f h11) (d_rq rfl (d_itT (eq_t h35) ?_)))))
      refine d_callx [a, V] [] [] ([], [hasB a V], []) e21_31 (by rw [ha]; rfl) rfl rfl (q_in _ _) rfl ?_
      by_cases hV : hasB a V = true
      · have hG : hasB a (G.length : Int) = false := by
          unfold hasB at hh hV ⊢
          simp at hh hV ⊢
          omega
        rw [hV]
        refine d_itT rfl ?_
        refine d_callx [a, (G.length : Int)] [] [] ([], [false], []) e21_31 (by rw [ha]; rfl) rfl rfl (by rw [q_in, hG]) rfl ?_
        exact d_rq rfl (d_itF rfl rfl)
      · rw [Bool.eq_false_iff.2 hV]
        exact d_itF rfl rfl
end Go.Proofs.Ytkpbcfkmkgddhaa.SCtxAsked
