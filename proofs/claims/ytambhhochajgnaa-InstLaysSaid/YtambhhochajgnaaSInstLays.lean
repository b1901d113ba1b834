/-
  InstLays: what the functions that it reaches answer.
-/
import Derived.Test.YtambhhochajgnaaXInstLays
import Derived.Test.YtambhhochajgnaaVb
namespace Go.Proofs.Ytambhhochajgnaa.SInstLays
set_option linter.all false
open Go.Proofs.Ytambhhochajgnaa.Vx Go.Proofs.Ytambhhochajgnaa.XInstLays Go.Proofs.Ytambhhochajgnaa.Vd Go.Proofs.Ytambhhochajgnaa.Vn Go.Proofs.Ytambhhochajgnaa.Vl Go.Proofs.Ytambhhochajgnaa.Vp Go.Proofs.Ytambhhochajgnaa.Vb
theorem q_clone (l : List D) (h : l.length ≤ 17592186044416) : F28 [] [] [l] = some ([], [], [l]) := by
  have h : ((l.length : Nat) : Int) ≤ 17592186044416 := by omega
  refine of_ret ?_
  unfold t28
  refine d_nz (fun e => ?_) ?_
  · have e : l = [] := e
    subst e; rfl
  · simp [T.den, E.B, E.I, cmB, vals, Vx.LE.L, h]
theorem q_rcopy (l : List D) (h : l.length ≤ 17592186044416) : F16 [] [] [l] = some ([], [], [l]) := by
  have h : ((l.length : Nat) : Int) ≤ 17592186044416 := by omega
  refine of_ret ?_
  simp [t16, T.den, E.B, E.I, cmB, vals, Vx.LE.L, h]
theorem lp_same (l : List D) (hl : l.length < 4611686018427387904) : ∀ (d i k : Nat), i + d = l.length → iterT 1 1 0 (fun r => l20_1.den (Tab.fn a20) ([] ++ r.1) ([] ++ r.2.1) ([l, l] ++ r.2.2)) (k + (d + 1)) ([(i : Int)], [false], []) = some (.brk 2 ([(l.length : Int)], [false], [])) := by
  intro d
  induction d with
  | zero =>
    intro i k hi
    obtain rfl : i = l.length := by omega
    refine it_brk ?_
    simp [l20_1, T.den, E.B, E.I, cmB, vals]
  | succ d ih =>
    intro i k hi
    have h3 : (i : Int) < (l.length : Nat) := by omega
    have h4 : (0 : Int) ≤ (i : Int) := by omega
    have e2 : arI .add .i64 (i : Int) 1 = ((i + 1 : Nat) : Int) := by show IntKind.i64.wrap ((i : Int) + 1) = _; rw [wi (by omega) (by omega)]; omega
    refine it_nxt (r' := ([((i + 1 : Nat) : Int)], [false], [])) ?_ rfl (ih (i + 1) k (by omega))
    simp only [l20_1, T.den, E.B, E.I, cmB, vals, List.cons_append, List.nil_append, List.append_nil, List.getD_cons_zero, List.getD_cons_succ, List.map_cons, List.map_nil, h3, h4, ge_iff_le, decide_true, cond_true, bne_self_eq_false, cond_false, e2]
theorem q_sameints (l : List D) (hl : l.length < 4611686018427387904) : F20 [] [] [l, l] = some ([], [true], []) := by
  refine of_ret ?_
  unfold t20
  refine d_ite (fun h => ?_) fun _ => ?_
  · have : ((l.length : Int) != (l.length : Int)) = true := h
    simp at this
  obtain ⟨k, hk⟩ := fuel_eq (l.length + 1) (by omega)
  have h := lp_same l hl l.length 0 k (by omega)
  rw [← hk] at h
  exact d_lp _ h rfl rfl
theorem q_clonei (l : List D) (h : l.length ≤ 1000000) : F29 [] [] [l] = some ([], [], [l]) := by
  have h : ((l.length : Nat) : Int) ≤ 3909374676536 := by omega
  refine of_ret ?_
  unfold t29
  refine d_nz (fun e => ?_) ?_
  · have e : l = [] := e
    subst e; rfl
  · simp [T.den, E.B, E.I, cmB, vals, Vx.LE.L, h]
theorem q_copied (p r : List D) (hp : p.length ≤ 1000000) (hr : r.length ≤ 1000000) : F32 [] [] [p, r] = some ([], [], [p, r]) := by
  refine of_ret ?_
  unfold t32
  refine d_callx [] [] [p] ([], [], [p]) e32_29 rfl rfl rfl (q_clonei p hp) rfl ?_
  exact d_callx [] [] [r] ([], [], [r]) e32_29 rfl rfl rfl (q_clonei r hr) rfl rfl
/-- The types of a list are short. -/
def tyOK (T : List D) : Prop := ∀ i, i < T.length → ((T.getD i (.i 0)).cell 0).list.length ≤ 20 ∧ ((T.getD i (.i 0)).cell 1).list.length ≤ 20
def hasB (k n : Int) : Bool := decide (k ≥ 0) && decide (k < n)
theorem q_has (k n : Int) : F39 [k, n] [] [] = some ([], [hasB k n], []) := by
  refine of_ret ?_
  unfold t39
  exact d_lb (hasB k n) rfl rfl
def fnT (Fs : List D) (f : Int) : Int := ((Fs.getD f.toNat (.i 0)).cell 0).int
def tyB (T : List D) : Prop := ∀ i, i < T.length → ((T.getD i (.i 0)).cell 0).list.length ≤ 1000000 ∧ ((T.getD i (.i 0)).cell 1).list.length ≤ 1000000
theorem q_typeB {i0 i1 i2 i3 f : Int} {b0 : Bool} {T Fs G Tb Me : List D} (hty : tyB T) : F36 [i0, i1, i2, i3, f] [b0] [T, Fs, G, Tb, Me] = some (if (hasB f (Fs.length : Int) && hasB (fnT Fs f) (T.length : Int)) = true then ([], [true], [((T.getD (fnT Fs f).toNat (.i 0)).cell 0).list, ((T.getD (fnT Fs f).toNat (.i 0)).cell 1).list]) else ([], [false], [[], []])) := by
  refine of_ret ?_
  unfold t36
  refine d_callx [f, (Fs.length : Int)] [] [] ([], [hasB f (Fs.length : Int)], []) e36_39 rfl rfl rfl (q_has _ _) rfl ?_
  have hq : (!hasB f (Fs.length : Int) || (decide (f ≥ 0) && decide (f < ((Fs.length : Nat) : Int)))) = true := by
    show (!hasB f (Fs.length : Int) || hasB f (Fs.length : Int)) = true
    cases hasB f (Fs.length : Int) <;> rfl
  refine d_both (d_rq hq (d_both ?_ ?_)) (d_rq hq ?_)
  all_goals
    by_cases h1 : hasB f (Fs.length : Int) = true
    case neg =>
      rw [Bool.eq_false_iff.2 h1, if_neg (by simp)]
      exact d_itF rfl rfl
    rw [h1]
    have hin : (decide (f ≥ 0) && decide (f < ((Fs.length : Nat) : Int))) = true := h1
    refine d_itT rfl (d_rq hin ?_)
    refine d_callx [fnT Fs f, (T.length : Int)] [] [] ([], [hasB (fnT Fs f) (T.length : Int)], []) e36_39 rfl rfl rfl (q_has _ _) rfl ?_
    by_cases h2 : hasB (fnT Fs f) (T.length : Int) = true
    case neg =>
      rw [Bool.eq_false_iff.2 h2, if_neg (by simp)]
      exact d_itT rfl rfl
    rw [h2, if_pos (by rfl)]
    have hin2 : (decide (fnT Fs f ≥ 0) && decide (fnT Fs f < ((T.length : Nat) : Int))) = true := h2
    have hr : 0 ≤ fnT Fs f ∧ fnT Fs f < T.length := by simpa using hin2
    obtain ⟨h20, h21⟩ := hty (fnT Fs f).toNat (by omega)
    refine d_itF rfl (d_rq hin (d_rq hin (d_rq hin2 (d_rq hin2 (d_lst [((T.getD (fnT Fs f).toNat (.i 0)).cell 0).list, ((T.getD (fnT Fs f).toNat (.i 0)).cell 1).list] rfl ?_)))))
    exact d_callx [] [] [((T.getD (fnT Fs f).toNat (.i 0)).cell 0).list, ((T.getD (fnT Fs f).toNat (.i 0)).cell 1).list] _ e36_32 rfl rfl rfl (q_copied _ _ (by omega) (by omega)) rfl rfl
theorem q_type {i0 i1 i2 i3 f : Int} {b0 : Bool} {T Fs G Tb Me : List D} (hty : tyOK T) : F36 [i0, i1, i2, i3, f] [b0] [T, Fs, G, Tb, Me] = some (if (hasB f (Fs.length : Int) && hasB (fnT Fs f) (T.length : Int)) = true then ([], [true], [((T.getD (fnT Fs f).toNat (.i 0)).cell 0).list, ((T.getD (fnT Fs f).toNat (.i 0)).cell 1).list]) else ([], [false], [[], []])) :=
  q_typeB fun i hi => ⟨by have := (hty i hi).1; omega, by have := (hty i hi).2; omega⟩
def constB (V : Int) (G L : List D) (t : Int) : Bool :=
  if L.length = 2 ∧ ((L.getD 1 (.i 0)).cell 0).int = 11 then
    (if ((L.getD 0 (.i 0)).cell 0).int = 65 then t == 127 else if ((L.getD 0 (.i 0)).cell 0).int = 66 then t == 126
      else if ((L.getD 0 (.i 0)).cell 0).int = 35 ∧ hasB ((L.getD 0 (.i 0)).cell 1).int (min V (G.length : Int)) = true then ((G.getD ((L.getD 0 (.i 0)).cell 1).int.toNat (.i 0)).cell 0).int == t && (((G.getD ((L.getD 0 (.i 0)).cell 1).int.toNat (.i 0)).cell 1).bool == false) else false)
  else false
theorem q_constE {i0 V i2 i3 t : Int} {b0 : Bool} {T Fs G Tb Me L : List D} : ∃ b, b = constB V G L t ∧ F43 [i0, V, i2, i3, t] [b0] [T, Fs, G, Tb, Me, L] = some ([], [b], []) := by
  by_cases hL : L.length = 2
  case neg =>
    have hne : (((L.length : Nat) : Int) != 2) = true := ne_t (by omega)
    refine ⟨false, by unfold constB; rw [if_neg (fun h => hL h.1)], of_ret ?_⟩
    · unfold t43
      exact d_rq (by show (((((L.length : Nat) : Int) != 2)) || _) = true; rw [hne]; rfl) (d_itF (by show (!(((L.length : Nat) : Int) != 2)) = false; rw [hne]; rfl) rfl)
  obtain ⟨x0, x1, rfl⟩ : ∃ a b, L = [a, b] := by
    match L, hL with
    | [a, b], _ => exact ⟨a, b, rfl⟩
  by_cases h11 : (x1.cell 0).int = 11
  case neg =>
    refine ⟨false, by unfold constB; rw [if_neg (fun h => h11 h.2)], of_ret ?_⟩
    · unfold t43; exact d_rq rfl (d_itT rfl (d_rq rfl (d_itT (ne_t h11) rfl)))
  by_cases h65 : (x0.cell 0).int = 65
  · refine ⟨t == 127, by unfold constB; rw [if_pos ⟨rfl, h11⟩]; exact (if_pos h65).symm, of_ret ?_⟩
    · unfold t43
      exact d_rq rfl (d_itT rfl (d_rq rfl (d_itF (ne_f h11) (d_rq rfl (d_lst [(x0.cell 4).list] rfl (d_itT (eq_t h65) rfl))))))
  by_cases h66 : (x0.cell 0).int = 66
  · refine ⟨t == 126, by unfold constB; rw [if_pos ⟨rfl, h11⟩]; exact ((if_neg h65).trans (if_pos h66)).symm, of_ret ?_⟩
    · unfold t43
      exact d_rq rfl (d_itT rfl (d_rq rfl (d_itF (ne_f h11) (d_rq rfl (d_lst [(x0.cell 4).list] rfl (d_itF (eq_f h65) (d_itT (eq_t h66) rfl)))))))
  by_cases h35 : (x0.cell 0).int = 35
  case neg =>
    refine ⟨false, by unfold constB; rw [if_pos ⟨rfl, h11⟩]; exact ((if_neg h65).trans ((if_neg h66).trans (if_neg fun h => h35 h.1))).symm, of_ret ?_⟩
    · unfold t43
      exact d_rq rfl (d_itT rfl (d_rq rfl (d_itF (ne_f h11) (d_rq rfl (d_lst [(x0.cell 4).list] rfl (d_itF (eq_f h65) (d_itF (eq_f h66) (d_itF (eq_f h35) rfl))))))))
  obtain ⟨a, ha⟩ : ∃ a, a = (x0.cell 1).int := ⟨_, rfl⟩
  obtain ⟨g, hg⟩ : ∃ g, g = G.getD a.toNat (.i 0) := ⟨_, rfl⟩
  have emin : (if (G.length : Int) < V then (G.length : Int) else V) = min V (G.length : Int) := by split <;> omega
  by_cases hh : hasB a (min V (G.length : Int)) = true
  · have hr : 0 ≤ a ∧ a < V ∧ a < G.length := by unfold hasB at hh; simp at hh; omega
    have hV : hasB a V = true := by unfold hasB; simp; omega
    have hG : hasB a (G.length : Int) = true := by unfold hasB; simp; omega
    have hin : (decide (a ≥ 0) && decide (a < ((G.length : Nat) : Int))) = true := hG
    refine ⟨(g.cell 0).int == t && ((g.cell 1).bool == false), by unfold constB; rw [if_pos ⟨rfl, h11⟩, hg, ha]; exact ((if_neg h65).trans ((if_neg h66).trans (if_pos ⟨h35, by rw [ha] at hh; exact hh⟩))).symm, of_ret ?_⟩
    · unfold t43
      refine d_rq rfl (d_itT rfl (d_rq rfl (d_itF (ne_f h11) (d_rq rfl (d_lst [(x0.cell 4).list] rfl (d_itF (eq_f h65) (d_itF (eq_f h66) (d_itT (eq_t h35) ?_))))))))
      refine d_callx [a, min V (G.length : Int)] [] [] ([], [true], []) e43_39 (by rw [← emin, ha]; rfl) rfl rfl (by rw [q_has, hh]) rfl ?_
      refine d_rq (by show (!true || (decide ((x0.cell 1).int ≥ 0) && decide ((x0.cell 1).int < ((G.length : Nat) : Int)))) = true; rw [← ha, hin]; rfl) (d_itT rfl (d_rq (by show (decide ((x0.cell 1).int ≥ 0) && decide ((x0.cell 1).int < ((G.length : Nat) : Int))) = true; rw [← ha, hin]) ?_))
      refine d_lb ((g.cell 0).int == t && ((g.cell 1).bool == false)) ?_ rfl
      rw [hg, ha]; rfl
  · have hh := Bool.eq_false_iff.2 hh
    refine ⟨false, by unfold constB; rw [if_pos ⟨rfl, h11⟩]; exact ((if_neg h65).trans ((if_neg h66).trans (if_neg fun h => by rw [ha] at hh; exact Bool.false_ne_true (hh.symm.trans h.2)))).symm, of_ret ?_⟩
    · unfold t43
      refine d_rq rfl (d_itT rfl (d_rq rfl (d_itF (ne_f h11) (d_rq rfl (d_lst [(x0.cell 4).list] rfl (d_itF (eq_f h65) (d_itF (eq_f h66) (d_itT (eq_t h35) ?_))))))))
      refine d_callx [a, min V (G.length : Int)] [] [] ([], [false], []) e43_39 (by rw [← emin, ha]; rfl) rfl rfl (by rw [q_has, hh]) rfl ?_
      exact d_rq rfl (d_itF rfl rfl)
theorem q_const1 {i0 V i2 i3 t : Int} {b0 : Bool} {T Fs G Tb Me L : List D} : F43 [i0, V, i2, i3, t] [b0] [T, Fs, G, Tb, Me, L] = some ([], [constB V G L t], []) := by
  obtain ⟨b, rfl, h⟩ := q_constE (i0 := i0) (V := V) (i2 := i2) (i3 := i3) (t := t) (b0 := b0) (T := T) (Fs := Fs) (G := G) (Tb := Tb) (Me := Me) (L := L)
  exact h
def tableE (mn mx : Int) (c : Bool) : Int := if mn < 0 ∨ (c = true ∧ mx < mn) then 5 else if mn > 64 then 4 else 0
theorem q_table (mn mx : Int) (c : Bool) : F41 [mn, mx] [c] [] = some ([tableE mn mx c], [], []) := by
  refine of_ret ?_
  unfold t41 tableE
  by_cases h0 : mn < 0
  · rw [if_pos (.inl h0)]
    exact d_itT (lt_t h0) (d_itT (lt_t h0) rfl)
  refine d_itF (decide_eq_false h0) ?_
  by_cases h1 : c = true ∧ mx < mn
  · rw [if_pos (.inr h1)]
    exact d_itT (by show (c && decide (mx < mn)) = true; rw [h1.1, decide_eq_true h1.2]; rfl) rfl
  · rw [if_neg (by rintro (h | h); exact h0 h; exact h1 h)]
    refine d_itF (by show (c && decide (mx < mn)) = false; rw [Bool.and_eq_false_iff]; by_cases hc : c = true; exact .inr (decide_eq_false fun h => h1 ⟨hc, h⟩); exact .inl (Bool.eq_false_iff.2 hc)) ?_
    by_cases h2 : mn > 64
    · rw [if_pos h2]; exact d_itT (decide_eq_true h2) rfl
    · rw [if_neg h2]; exact d_itF (decide_eq_false h2) rfl
def memoryE (mn mx : Int) (c : Bool) : Int := if mn < 0 ∨ mn > 65536 ∨ (c = true ∧ (mx > 65536 ∨ mx < mn)) then 5 else if mn > 4 then 4 else 0
theorem q_memory (mn mx : Int) (c : Bool) : F42 [mn, mx] [c] [] = some ([memoryE mn mx c], [], []) := by
  refine of_ret ?_
  unfold t42 memoryE
  by_cases h0 : mn < 0
  · rw [if_pos (.inl h0)]
    exact d_itT (lt_t h0) (d_itT (lt_t h0) rfl)
  refine d_itF (decide_eq_false h0) ?_
  by_cases h1 : mn > 65536
  · rw [if_pos (.inr (.inl h1))]
    exact d_itT (decide_eq_true h1) (d_itT (decide_eq_true h1) rfl)
  refine d_itF (decide_eq_false h1) ?_
  obtain ⟨q, hq⟩ : ∃ q, q = (decide (mx > 65536) || decide (mx < mn)) := ⟨_, rfl⟩
  refine d_lb q hq.symm ?_
  have hq2 : q = true ↔ (mx > 65536 ∨ mx < mn) := by rw [hq]; simp
  by_cases h2 : c = true ∧ q = true
  · rw [if_pos (.inr (.inr ⟨h2.1, hq2.1 h2.2⟩))]
    exact d_itT (by show (c && q) = true; rw [h2.1, h2.2]; rfl) rfl
  · rw [if_neg (by rintro (h | h | h); exact h0 h; exact h1 h; exact h2 ⟨h.1, hq2.2 h.2⟩)]
    refine d_itF (by show (c && q) = false; cases c <;> cases q <;> simp_all) ?_
    by_cases h3 : mn > 4
    · rw [if_pos h3]; exact d_itT (decide_eq_true h3) rfl
    · rw [if_neg h3]; exact d_itF (decide_eq_false h3) rfl
end Go.Proofs.Ytambhhochajgnaa.SInstLays
