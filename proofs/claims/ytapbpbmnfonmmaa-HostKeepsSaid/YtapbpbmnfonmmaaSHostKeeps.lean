/-
  HostKeeps: what the functions of layer 14 (host) answer.
-/
import Derived.Test.YtapbpbmnfonmmaaXHostKeeps
import Derived.Test.YtapbpbmnfonmmaaVl
namespace Go.Proofs.Ytapbpbmnfonmmaa.SHostKeeps
set_option linter.all false
open Go.Proofs.Ytapbpbmnfonmmaa.Vx Go.Proofs.Ytapbpbmnfonmmaa.XHostKeeps Go.Proofs.Ytapbpbmnfonmmaa.Vd Go.Proofs.Ytapbpbmnfonmmaa.Vn Go.Proofs.Ytapbpbmnfonmmaa.Vl
theorem wi {n : Int} (h0 : -9223372036854775808 ≤ n) (h1 : n < 9223372036854775808) : IntKind.i64.wrap n = n := by
  simp only [IntKind.wrap, IntKind.bits, IntKind.signed, Nat.reducePow, Nat.reduceSub, Int.reducePow, Bool.true_and, decide_eq_true_eq, ge_iff_le]
  split <;> omega
theorem addI {a b : Int} (h0 : -9223372036854775808 ≤ a + b) (h1 : a + b < 9223372036854775808) : arI .add .i64 a b = a + b := wi h0 h1
theorem subI {a b : Int} (h0 : -9223372036854775808 ≤ a - b) (h1 : a - b < 9223372036854775808) : arI .sub .i64 a b = a - b := wi h0 h1
/-- Written from place at on: what lies within. -/
def putD (a : Int) (W M : List D) : List D := (List.range M.length).map fun (j : Nat) => if a ≤ (j : Int) ∧ (j : Int) < a + W.length then W.getD ((j : Int) - a).toNat (.i 0) else M.getD j (.i 0)
theorem putD_len (a : Int) (W M : List D) : (putD a W M).length = M.length := by simp [putD]
theorem putD_at {a : Int} {W M : List D} {j : Nat} (hj : j < M.length) : (putD a W M).getD j (.i 0) = if a ≤ (j : Int) ∧ (j : Int) < a + W.length then W.getD ((j : Int) - a).toNat (.i 0) else M.getD j (.i 0) := by
  unfold putD
  rw [List.getD_eq_getElem?_getD, List.getElem?_map, List.getElem?_eq_getElem (by simpa using hj)]
  simp
theorem ext_at {X Y : List D} (hl : X.length = Y.length) (h : ∀ j, j < X.length → X.getD j (.i 0) = Y.getD j (.i 0)) : X = Y := by
  apply List.ext_getElem hl
  intro j h1 h2
  have := h j h1
  rw [List.getD_eq_getElem?_getD, List.getD_eq_getElem?_getD, List.getElem?_eq_getElem h1, List.getElem?_eq_getElem h2] at this
  simpa using this
theorem cp_put {M V : List D} {lo : Nat} (h : lo ≤ M.length) : M.take lo ++ V.take (M.length - lo) ++ M.drop (lo + min V.length (M.length - lo)) = putD (lo : Int) V M := by
  apply ext_at
  · simp [putD]; omega
  · intro j hj
    have hj' : j < M.length := by simp at hj; omega
    rw [putD_at hj']
    simp only [List.getD_eq_getElem?_getD]
    by_cases h1 : j < lo
    · rw [if_neg (by omega), List.append_assoc, List.getElem?_append_left (by simp; omega), List.getElem?_take_of_lt h1]
    · by_cases h2 : j < lo + V.length
      · rw [if_pos (by omega), List.getElem?_append_left (by simp; omega), List.getElem?_append_right (by simp; omega), List.getElem?_take_of_lt (by simp; omega)]
        congr 2
        simp; omega
      · rw [if_neg (by omega), List.getElem?_append_right (by simp; omega), List.getElem?_drop]
        congr 2
        simp; omega
theorem put_cut {M W : List D} {a : Int} {from_ lo : Nat} (hf : from_ = min (-a).toNat W.length) (hl : (lo : Int) = max 0 a) : putD (lo : Int) (W.drop from_) M = putD a W M := by
  apply ext_at
  · simp [putD]
  · intro j hj
    have hj' : j < M.length := by simpa [putD_len] using hj
    rw [putD_at hj', putD_at hj']
    simp only [List.length_drop, List.getD_eq_getElem?_getD, List.getElem?_drop]
    by_cases h1 : a ≤ (j : Int) ∧ (j : Int) < a + W.length
    · rw [if_pos h1, if_pos (by omega)]
      congr 2
      omega
    · rw [if_neg h1, if_neg (by omega)]
theorem put_none {M W : List D} {a : Int} (h : (M.length : Int) ≤ max 0 a) : putD a W M = M := by
  apply ext_at (putD_len _ _ _)
  intro j hj
  have hj' : j < M.length := by simpa [putD_len] using hj
  rw [putD_at hj', if_neg (by omega)]
theorem q10 (l : List D) (h : l.length ≤ 3000) : F10 [] [] [l] = some ([], [], [l]) := by
  have h : ((l.length : Nat) : Int) ≤ 17592186044416 := by omega
  refine of_ret ?_
  unfold t10
  refine d_nz (fun e => ?_) ?_
  · have e : l = [] := e
    subst e; rfl
  · simp [T.den, E.B, E.I, cmB, vals, Vx.LE.L, h]
theorem q11 (l : List D) (h : l.length ≤ 3000) : F11 [] [] [l] = some ([], [], [l]) := by
  have h : ((l.length : Nat) : Int) ≤ 3909374676536 := by omega
  refine of_ret ?_
  unfold t11
  refine d_nz (fun e => ?_) ?_
  · have e : l = [] := e
    subst e; rfl
  · simp [T.den, E.B, E.I, cmB, vals, Vx.LE.L, h]
theorem q12 (l : List D) (h : l.length ≤ 3000) : F12 [] [] [l] = some ([], [], [l]) := by
  have h : ((l.length : Nat) : Int) ≤ 3909374676536 := by omega
  refine of_ret ?_
  unfold t12
  refine d_nz (fun e => ?_) ?_
  · have e : l = [] := e
    subst e; rfl
  · simp [T.den, E.B, E.I, cmB, vals, Vx.LE.L, h]
theorem q13 (l : List D) (h : l.length ≤ 3000) : F13 [] [] [l] = some ([], [], [l]) := by
  have h : ((l.length : Nat) : Int) ≤ 17592186044416 := by omega
  refine of_ret ?_
  unfold t13
  refine d_nz (fun e => ?_) ?_
  · have e : l = [] := e
    subst e; rfl
  · simp [T.den, E.B, E.I, cmB, vals, Vx.LE.L, h]
/-- The numbers that are given. -/
def out1 (gs rs : List D) (i : Nat) : Int :=
  let n := if i < gs.length then ((gs.getD i (.i 0)).cell 0).int else 0
  if ((rs.getD i (.i 0)).cell 0).int = 127 then IntKind.u64.wrap (IntKind.u32.wrap n) else n
def outs (gs rs : List D) (n : Nat) : List D := (List.range n).map fun i => .i (out1 gs rs i)
theorem outs_len (gs rs : List D) (n : Nat) : (outs gs rs n).length = n := by simp [outs]
theorem outs_succ (gs rs : List D) (n : Nat) : outs gs rs n ++ [.i (out1 gs rs n)] = outs gs rs (n + 1) := by simp [outs, List.range_succ]
theorem l8 {is : List Int} {bs : List Bool} {ls : LL} {ps rs gs : List D} (his : is.length = 6) (hls : ls.length = 15) (h1 : ls.getD 1 [] = rs) (h2 : ls.getD 2 [] = gs) (hr : rs.length ≤ 100) (hg : gs.length ≤ 20) : ∀ (d i k : Nat), i + d = rs.length →
    iterT 1 0 1 (fun r => l8_1.den (Tab.fn a8) (is ++ r.1) (bs ++ r.2.1) (ls ++ r.2.2)) (k + (d + 1)) ([(i : Int)], [], [outs gs rs i]) = some (.brk 2 ([(rs.length : Int)], [], [outs gs rs rs.length])) := by
  obtain ⟨i0, i1, i2, i3, i4, i5, rfl⟩ : ∃ a b c d e f, is = [a, b, c, d, e, f] := by
    match is, his with
    | [a, b, c, d, e, f], _ => exact ⟨a, b, c, d, e, f, rfl⟩
  obtain ⟨m0, m1, m2, m3, m4, m5, m6, m7, m8, m9, n0, n1, n2, n3, n4, rfl⟩ : ∃ a b c d e f g h i j a' b' c' d' e', ls = [a, b, c, d, e, f, g, h, i, j, a', b', c', d', e'] := by
    match ls, hls with
    | [a, b, c, d, e, f, g, h, i, j, a', b', c', d', e'], _ => exact ⟨a, b, c, d, e, f, g, h, i, j, a', b', c', d', e', rfl⟩
  have h1 : m1 = rs := h1
  have h2 : m2 = gs := h2
  subst h1 h2
  intro d
  induction d with
  | zero =>
    intro i k hi
    obtain rfl : i = m1.length := by omega
    refine it_brk ?_
    simp [l8_1, T.den, E.B, E.I, cmB, vals, Vx.LE.L]
  | succ d ih =>
    intro i k hi
    have h3 : (i : Int) < (m1.length : Nat) := by omega
    have h4 : (0 : Int) ≤ (i : Int) := by omega
    have e2 : arI .add .i64 (i : Int) 1 = ((i + 1 : Nat) : Int) := by rw [addI (by omega) (by omega)]; omega
    refine it_nxt (r' := ([((i + 1 : Nat) : Int)], [], [outs m2 m1 (i + 1)])) ?_ rfl (ih (i + 1) k (by omega))
    rw [← outs_succ]
    unfold l8_1
    refine d_itT (lt_t h3) (d_rq (decide_eq_true h4) ?_)
    refine d_jn 0 ([if i < m2.length then ((m2.getD i (.i 0)).cell 0).int else 0], [], []) ?_ rfl (d_rq rfl ?_)
    · by_cases hg1 : i < m2.length
      · rw [if_pos hg1]; exact d_itT (lt_t (by show (i : Int) < (m2.length : Nat); omega)) rfl
      · rw [if_neg hg1]; exact d_itF (lt_f (by show ((m2.length : Nat) : Int) ≤ (i : Int); omega)) rfl
    refine d_jn 0 ([out1 m2 m1 i], [], []) ?_ rfl (d_rq rfl ?_)
    · unfold out1
      by_cases hv : ((m1.getD i (.i 0)).cell 0).int = 127
      · rw [if_pos hv]; exact d_itT (eq_t hv) rfl
      · rw [if_neg hv]; exact d_itF (eq_f hv) rfl
    refine d_lst [[.i (out1 m2 m1 i)]] rfl (d_rq ?_ ?_)
    · refine an_t (decide_eq_true ?_) rfl
      show (((outs m2 m1 i).length : Nat) : Int) ≤ 3909374676536
      rw [outs_len]; omega
    refine d_lst [outs m2 m1 i ++ [.i (out1 m2 m1 i)]] rfl ?_
    show some (Out.nxt ([arI .add .i64 (i : Int) 1], [], [outs m2 m1 i ++ [.i (out1 m2 m1 i)]])) = _
    rw [e2]
theorem q8t {a cap : Int} {gr : Bool} {ps rs gs ws M T G Es Ds : List D} (hM : M.length ≤ 3000) (hT : T.length ≤ 100) (hG : G.length ≤ 100) (hE : Es.length ≤ 100) (hD : Ds.length ≤ 100) :
    F8 [a, cap] [gr, true] [ps, rs, gs, ws, M, T, G, Es, Ds] = some ([cap, 9], [], [M, T, G, Es, Ds, []]) := by
  refine of_ret ?_
  unfold t8
  refine d_callx [] [] [M] ([], [], [M]) e8_10 rfl rfl rfl (q10 M hM) rfl ?_
  refine d_callx [] [] [T] ([], [], [T]) e8_11 rfl rfl rfl (q11 T (by omega)) rfl ?_
  refine d_callx [] [] [G] ([], [], [G]) e8_12 rfl rfl rfl (q12 G (by omega)) rfl ?_
  refine d_callx [] [] [Es] ([], [], [Es]) e8_13 rfl rfl rfl (q13 Es (by omega)) rfl ?_
  refine d_callx [] [] [Ds] ([], [], [Ds]) e8_13 rfl rfl rfl (q13 Ds (by omega)) rfl ?_
  exact d_itT rfl rfl
theorem q8f {a cap : Int} {gr : Bool} {ps rs gs ws M T G Es Ds : List D} (ha : -9223372036854775808 ≤ a) (ha' : a < 9223372036854775808) (hM : M.length ≤ 3000) (hT : T.length ≤ 100) (hG : G.length ≤ 100) (hE : Es.length ≤ 100) (hD : Ds.length ≤ 100)
    (hr : rs.length ≤ 100) (hg : gs.length ≤ 20) (hw : ws.length ≤ 200) :
    F8 [a, cap] [gr, false] [ps, rs, gs, ws, M, T, G, Es, Ds] = some ([cap, 0], [], [putD a ws M, T, G, Es, Ds, outs gs rs rs.length]) := by
  refine of_ret ?_
  unfold t8
  refine d_callx [] [] [M] ([], [], [M]) e8_10 rfl rfl rfl (q10 M hM) rfl ?_
  refine d_callx [] [] [T] ([], [], [T]) e8_11 rfl rfl rfl (q11 T (by omega)) rfl ?_
  refine d_callx [] [] [G] ([], [], [G]) e8_12 rfl rfl rfl (q12 G (by omega)) rfl ?_
  refine d_callx [] [] [Es] ([], [], [Es]) e8_13 rfl rfl rfl (q13 Es (by omega)) rfl ?_
  refine d_callx [] [] [Ds] ([], [], [Ds]) e8_13 rfl rfl rfl (q13 Ds (by omega)) rfl ?_
  refine d_itF rfl ?_
  obtain ⟨fr, hfr⟩ : ∃ n : Nat, n = min (-a).toNat ws.length := ⟨_, rfl⟩
  obtain ⟨lo, hlo⟩ : ∃ n : Nat, n = (max 0 a).toNat := ⟨_, rfl⟩
  refine d_jn 0 ([(fr : Int), (lo : Int)], [], []) ?_ rfl (d_rq rfl ?_)
  · have e0 : arI .sub .i64 0 (ws.length : Int) = -(ws.length : Int) := by rw [subI (by omega) (by omega)]; omega
    by_cases h0 : a < 0
    · refine d_itT (lt_t h0) ?_
      refine d_jn 0 ([-(fr : Int)], [], []) ?_ rfl (d_rq rfl ?_)
      · by_cases h1 : a < -(ws.length : Int)
        · refine d_itT (lt_t (by show a < arI .sub .i64 0 (ws.length : Int); rw [e0]; exact h1)) ?_
          show some (Out.brk 0 ([arI .sub .i64 0 (ws.length : Int)], [], [])) = _
          rw [e0, show (fr : Int) = ws.length by omega]
        · refine d_itF (lt_f (by show arI .sub .i64 0 (ws.length : Int) ≤ a; rw [e0]; omega)) ?_
          show some (Out.brk 0 ([a], [], [])) = _
          rw [show a = -(fr : Int) by omega]
      · show some (Out.brk 0 ([arI .sub .i64 0 (-(fr : Int)), 0], [], [])) = _
        rw [subI (by omega) (by omega), show (0 : Int) - -(fr : Int) = fr by omega, show (lo : Int) = 0 by omega]
    · refine d_itF (lt_f (by show (0 : Int) ≤ a; omega)) ?_
      show some (Out.brk 0 ([0, a], [], [])) = _
      rw [show (fr : Int) = 0 by omega, show (lo : Int) = a by omega]
  refine d_jn 0 ([], [], [putD a ws M]) ?_ rfl (d_rq rfl ?_)
  · by_cases hl : (lo : Int) < (M.length : Nat)
    · refine d_itT (lt_t hl) ?_
      have q1 : (decide ((0 : Int) ≤ (lo : Int)) && (decide ((lo : Int) ≤ ((M.length : Nat) : Int)) && decide (((M.length : Nat) : Int) ≤ ((M.length : Nat) : Int)))) = true := by simp; omega
      have q2 : (decide ((0 : Int) ≤ (fr : Int)) && (decide ((fr : Int) ≤ ((ws.length : Nat) : Int)) && decide (((ws.length : Nat) : Int) ≤ ((ws.length : Nat) : Int)))) = true := by simp; omega
      have q3 : (decide ((0 : Int) ≤ (lo : Int)) && decide ((lo : Int) ≤ ((M.length : Nat) : Int))) = true := by simp; omega
      have ec : (ws.take ((ws.length : Nat) : Int).toNat).drop ((fr : Nat) : Int).toNat = ws.drop fr := by
        rw [Int.toNat_natCast, Int.toNat_natCast, List.take_of_length_le (Nat.le_refl _)]
      have ep : M.take ((lo : Nat) : Int).toNat ++ (ws.drop fr).take (M.length - ((lo : Nat) : Int).toNat) ++ M.drop (((lo : Nat) : Int).toNat + min (ws.drop fr).length (M.length - ((lo : Nat) : Int).toNat)) = putD a ws M := by
        rw [Int.toNat_natCast, cp_put (by omega)]
        exact put_cut hfr (by omega)
      refine d_both ?_ ?_
      · refine d_rq q1 (d_rq q2 (d_lst [ws.drop fr] ?_ (d_rq q3 (d_lst [putD a ws M] ?_ rfl))))
        · rw [← ec]; rfl
        · rw [← ep]; rfl
      · refine d_rq q2 (d_lst [ws.drop fr] ?_ (d_rq q1 (d_rq q3 (d_lst [putD a ws M] ?_ rfl))))
        · rw [← ec]; rfl
        · rw [← ep]; rfl
    · refine d_itF (lt_f (by show ((M.length : Nat) : Int) ≤ (lo : Int); omega)) ?_
      rw [put_none (by omega)]
      rfl
  obtain ⟨k, hk⟩ := fuel_eq (rs.length + 1) (by omega)
  have h := l8 (is := [a, cap, 0, fr, lo, 0]) (bs := [gr, false]) (ls := [ps, rs, gs, ws, M, T, G, Es, Ds, M, T, G, Es, Ds, putD a ws M]) (ps := ps) (rs := rs) (gs := gs) rfl rfl rfl rfl hr hg rs.length 0 k (by omega)
  rw [← hk] at h
  exact d_lp _ h rfl (d_rq rfl rfl)
theorem q6 {cap : Int} {M T G Es Ds : List D} : F6 [cap] [] [M, T, G, Es, Ds] = some ([], [((((decide ((M.length : Int) ≤ 3000) && decide ((T.length : Int) ≤ 100)) && decide ((G.length : Int) ≤ 100)) && decide ((Es.length : Int) ≤ 100)) && decide ((Ds.length : Int) ≤ 100))], []) := by
  refine of_ret ?_
  unfold t6
  rfl
theorem q7 {gr trap : Bool} {a : Int} {gs ws : List D} : F7 [] [] [[.st [.b gr, .b trap, .l gs, .i a, .l ws]]] = some ([], [decide (gs.length ≤ 20 ∧ ws.length ≤ 200)], []) := by
  refine of_ret ?_
  unfold t7
  refine d_itF rfl ?_
  obtain ⟨k, hk⟩ := fuel_eq 2 (by omega)
  by_cases hg : gs.length ≤ 20
  · by_cases hw : ws.length ≤ 200
    · rw [decide_eq_true ⟨hg, hw⟩]
      refine d_lp (t := 2) ([1], [false], []) ?_ rfl rfl
      rw [hk]
      refine it_nxt (r' := ([1], [false], [])) ?_ rfl (it_brk ?_)
      · unfold l7_1
        refine d_itT rfl (d_rq rfl (d_lst [gs] rfl (d_rq ?_ (d_itT ?_ (d_lst [ws] rfl (d_itF ?_ ?_))))))
        · show (decide ((gs.length : Int) > 20) || true) = true
          simp
        · show (!decide ((gs.length : Int) > 20)) = true
          simp; omega
        · show decide ((ws.length : Int) > 200) = false
          simp; omega
        · rfl
      · unfold l7_1
        exact d_itF rfl rfl
    · rw [decide_eq_false (by omega)]
      refine d_lp_ret ?_
      rw [hk]
      refine it_ret ?_
      unfold l7_1
      refine d_itT rfl (d_rq rfl (d_lst [gs] rfl (d_rq ?_ (d_itT ?_ (d_lst [ws] rfl (d_itT ?_ rfl))))))
      · show (decide ((gs.length : Int) > 20) || true) = true
        simp
      · show (!decide ((gs.length : Int) > 20)) = true
        simp; omega
      · show decide ((ws.length : Int) > 200) = true
        simp; omega
  · rw [decide_eq_false (by omega)]
    refine d_lp_ret ?_
    rw [hk]
    refine it_ret ?_
    unfold l7_1
    refine d_itT rfl (d_rq rfl (d_lst [gs] rfl (d_rq ?_ (d_itF ?_ rfl))))
    · show (decide ((gs.length : Int) > 20) || true) = true
      simp
    · show (!decide ((gs.length : Int) > 20)) = false
      simp; omega
theorem same_loop (body : Vx.T) (C : Nat → Vx.Fn) (l : List D) (hl : l.length ≤ 3000) (hb : ∀ i, i < l.length → body.den C [(i : Int)] [false] [l, l] = some (.nxt ([((i + 1 : Nat) : Int)], [false], []))) (he : body.den C [(l.length : Int)] [false] [l, l] = some (.brk 2 ([(l.length : Int)], [false], []))) :
    ∀ (d i k : Nat), i + d = l.length → iterT 1 1 0 (fun r => body.den C ([] ++ r.1) ([] ++ r.2.1) ([l, l] ++ r.2.2)) (k + (d + 1)) ([(i : Int)], [false], []) = some (.brk 2 ([(l.length : Int)], [false], [])) := by
  intro d
  induction d with
  | zero =>
    intro i k hi
    obtain rfl : i = l.length := by omega
    exact it_brk he
  | succ d ih =>
    intro i k hi
    exact it_nxt (r' := ([((i + 1 : Nat) : Int)], [false], [])) (hb i (by omega)) rfl (ih (i + 1) k (by omega))
theorem q14 (l : List D) (hl : l.length ≤ 3000) : F14 [] [] [l, l] = some ([], [true], []) := by
  refine of_ret ?_
  unfold t14
  refine d_itF (ne_f rfl) ?_
  obtain ⟨k, hk⟩ := fuel_eq (l.length + 1) (by omega)
  have h := same_loop l14_1 (Tab.fn a14) l hl (fun i hi => by
    unfold l14_1
    refine d_itT (lt_t (by show (i : Int) < (l.length : Nat); omega)) (d_rq (decide_eq_true (show (0 : Int) ≤ (i : Int) by omega)) (d_rq (lt_t (by show (i : Int) < (l.length : Nat); omega)) (d_itF (ne_f rfl) ?_)))
    show some (Out.nxt ([arI .add .i64 (i : Int) 1], [false], [])) = _
    rw [addI (by omega) (by omega)]; rfl) (by unfold l14_1; exact d_itF (lt_f (Int.le_refl _)) rfl) l.length 0 k (by omega)
  rw [← hk] at h
  exact d_lp _ h rfl rfl
theorem q15 (l : List D) (hl : l.length ≤ 3000) : F15 [] [] [l, l] = some ([], [true], []) := by
  refine of_ret ?_
  unfold t15
  refine d_itF (ne_f rfl) ?_
  obtain ⟨k, hk⟩ := fuel_eq (l.length + 1) (by omega)
  have h := same_loop l15_1 (Tab.fn a15) l hl (fun i hi => by
    unfold l15_1
    refine d_itT (lt_t (by show (i : Int) < (l.length : Nat); omega)) (d_rq (decide_eq_true (show (0 : Int) ≤ (i : Int) by omega)) (d_rq (lt_t (by show (i : Int) < (l.length : Nat); omega)) (d_itF (ne_f rfl) ?_)))
    show some (Out.nxt ([arI .add .i64 (i : Int) 1], [false], [])) = _
    rw [addI (by omega) (by omega)]; rfl) (by unfold l15_1; exact d_itF (lt_f (Int.le_refl _)) rfl) l.length 0 k (by omega)
  rw [← hk] at h
  exact d_lp _ h rfl rfl
theorem q16 (l : List D) (hl : l.length ≤ 3000) : F16 [] [] [l, l] = some ([], [true], []) := by
  refine of_ret ?_
  unfold t16
  refine d_itF (ne_f rfl) ?_
  obtain ⟨k, hk⟩ := fuel_eq (l.length + 1) (by omega)
  have h := same_loop l16_1 (Tab.fn a16) l hl (fun i hi => by
    unfold l16_1
    refine d_itT (lt_t (by show (i : Int) < (l.length : Nat); omega)) (d_rq (decide_eq_true (show (0 : Int) ≤ (i : Int) by omega)) (d_rq (lt_t (by show (i : Int) < (l.length : Nat); omega)) (d_itF (by
      show (!(((l.getD (i : Int).toNat (.i 0)).cell 0).bool == ((l.getD (i : Int).toNat (.i 0)).cell 0).bool)) = false
      simp) ?_)))
    show some (Out.nxt ([arI .add .i64 (i : Int) 1], [false], [])) = _
    rw [addI (by omega) (by omega)]; rfl) (by unfold l16_1; exact d_itF (lt_f (Int.le_refl _)) rfl) l.length 0 k (by omega)
  rw [← hk] at h
  exact d_lp _ h rfl rfl
theorem q9 {c : Int} {M T G Es Ds : List D} (hb : D.bytesB M = true) (hT : T.length ≤ 100) (hG : G.length ≤ 100) (hE : Es.length ≤ 100) (hD : Ds.length ≤ 100) : F9 [c, c] [] [M, T, G, Es, Ds, M, T, G, Es, Ds] = some ([], [true], []) := by
  refine of_ret ?_
  unfold t9
  refine d_rq hb (d_lst [M] rfl (d_rq hb (d_lst [M] rfl ?_)))
  refine d_itT (an_t (D.sameL_refl M) (eq_t rfl)) ?_
  refine d_callx [] [] [T, T] _ e9_14 rfl rfl rfl (q14 T (by omega)) rfl ?_
  refine d_itT rfl ?_
  refine d_callx [] [] [G, G] _ e9_15 rfl rfl rfl (q15 G (by omega)) rfl ?_
  refine d_itT rfl ?_
  refine d_callx [] [] [Es, Es] _ e9_16 rfl rfl rfl (q16 Es (by omega)) rfl ?_
  refine d_itT rfl ?_
  refine d_callx [] [] [Ds, Ds] _ e9_16 rfl rfl rfl (q16 Ds (by omega)) rfl ?_
  rfl
theorem q5 : F5 [] [] [] = some ([], [true], []) := by kernel_rfl
end Go.Proofs.Ytapbpbmnfonmmaa.SHostKeeps
