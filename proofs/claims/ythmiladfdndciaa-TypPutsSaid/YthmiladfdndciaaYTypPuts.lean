/-
  TypPuts, of numbers and bytes alone: the law answers true.
-/
import Derived.Test.YthmiladfdndciaaSTypPuts
import Derived.Test.YthmiladfdndciaaVr
namespace Go.Proofs.Ythmiladfdndciaa.YTypPuts
set_option linter.all false
open Go.Proofs.Ythmiladfdndciaa.Vx Go.Proofs.Ythmiladfdndciaa.XTypPuts Go.Proofs.Ythmiladfdndciaa.Vd Go.Proofs.Ythmiladfdndciaa.Vn Go.Proofs.Ythmiladfdndciaa.Vl Go.Proofs.Ythmiladfdndciaa.Vp Go.Proofs.Ythmiladfdndciaa.Vb Go.Proofs.Ythmiladfdndciaa.STypPuts Go.Proofs.Ythmiladfdndciaa.Vr
theorem bytes_of : ∀ {l : List D}, (∀ x ∈ l, ∃ ds, x = mkD ds ∧ CT.wfL [.i .u8] ds) → ∃ m, l = dl m ∧ Bytes m
  | [], _ => ⟨[], rfl, fun x hx => by cases hx⟩
  | x :: l, h => by
    obtain ⟨m, rfl, hm⟩ := bytes_of fun y hy => h y (List.mem_cons_of_mem _ hy)
    obtain ⟨ds, rfl, hd⟩ := h x List.mem_cons_self
    simp only [CT.wfL, CT.wf] at hd
    obtain ⟨d, r, rfl, ⟨n, rfl, hn⟩, rfl⟩ := hd
    refine ⟨n :: m, rfl, fun y hy => ?_⟩
    rcases List.mem_cons.1 hy with rfl | hy
    · simp [Lit.wf, IntKind.bits, IntKind.signed, IntKind.min, IntKind.max] at hn; omega
    · exact hm y hy
theorem ints_of {k : IntKind} : ∀ {l : List D}, (∀ x ∈ l, ∃ ds, x = mkD ds ∧ CT.wfL [.i k] ds) → ∃ m, l = dl m
  | [], _ => ⟨[], rfl⟩
  | x :: l, h => by
    obtain ⟨m, rfl⟩ := ints_of fun y hy => h y (List.mem_cons_of_mem _ hy)
    obtain ⟨ds, rfl, hd⟩ := h x List.mem_cons_self
    simp only [CT.wfL, CT.wf] at hd
    obtain ⟨d, r, rfl, ⟨n, rfl, hn⟩, rfl⟩ := hd
    exact ⟨n :: m, rfl⟩
theorem funcBytes_len {p r : List Int} (h : okFn p r = true) : (funcBytes p r).length ≤ 40 ∧ Bytes (funcBytes p r) := by
  unfold okFn at h
  simp only [Bool.and_eq_true, decide_eq_true_eq] at h
  obtain ⟨⟨g1, l1⟩, g2, l2⟩ := h
  have u1 := uBytes_ten (n := p.length) (by omega)
  have u2 := uBytes_ten (n := r.length) (by omega)
  have gb : ∀ q : List Int, goodB q = true → Bytes q := fun q hq x hx => by
    have := List.all_eq_true.1 hq x hx
    simp only [Bool.or_eq_true, beq_iff_eq] at this
    omega
  refine ⟨by simp [funcBytes]; omega, ?_⟩
  have hu1 := uBytes_bytes (n := p.length) (by omega)
  have hu2 := uBytes_bytes (n := r.length) (by omega)
  unfold funcBytes
  exact fun x hx => by
    rcases List.mem_cons.1 hx with rfl | hx
    · omega
    · exact ((hu1.append (gb p g1)).append (hu2.append (gb r g2))) x hx
theorem limBytes_len {mn mx : Int} {c : Bool} (h : okLm mn mx c = true) : (limBytes mn mx c).length ≤ 40 ∧ Bytes (limBytes mn mx c) := by
  unfold okLm at h
  simp only [Bool.and_eq_true] at h
  obtain ⟨n, rfl, hn⟩ := right_iff.1 h.1.1
  obtain ⟨m, rfl, hm⟩ := right_iff.1 h.1.2
  have u1 := uBytes_ten (n := n) (by omega)
  have u2 := uBytes_ten (n := m) (by omega)
  have b1 := uBytes_bytes (n := n) (by omega)
  have b2 := uBytes_bytes (n := m) (by omega)
  unfold limBytes
  cases c
  · refine ⟨by simp; omega, fun x hx => ?_⟩
    simp only [Bool.false_eq_true, if_false, Int.toNat_natCast] at hx
    rcases List.mem_cons.1 hx with rfl | hx
    · omega
    · exact b1 x hx
  · refine ⟨by simp; omega, fun x hx => ?_⟩
    simp only [if_true, Int.toNat_natCast] at hx
    rcases List.mem_cons.1 hx with rfl | hx
    · omega
    · exact (b1.append b2) x hx
theorem d_bothS {C : Nat → Vx.Fn} {a : Vx.T} {is bs ls} {o : Out} (h : a.den C is bs ls = some o) : (Vx.T.both a a).den C is bs ls = some o := d_both h h
theorem q_awake : F7 [] [] [] = some ([], [true], []) := by kernel_rfl
set_option maxHeartbeats 4000000 in
theorem law (mn mx k : Int) (c : Bool) (l0 l1 l2 : List D) (h0 : CT.wf (.sl [.i .u8]) (.l l0)) (h1 : CT.wf (.sl [.i .i64]) (.l l1)) (h2 : CT.wf (.sl [.i .i64]) (.l l2)) (hmn : (Lit.int .i64 mn).wf = true) (hmx : (Lit.int .i64 mx).wf = true) (hk : (Lit.int .i64 k).wf = true) :
    F5 [mn, mx, k] [c] [l0, l1, l2] = some ([], [true], []) := by
  simp only [CT.wf] at h0 h1 h2
  obtain ⟨_, hxs, _, hds⟩ := h0
  cases hxs
  obtain ⟨m0, rfl, hm0⟩ := bytes_of hds
  obtain ⟨_, hxs, ⟨_, z0⟩, hds⟩ := h1
  cases hxs
  obtain ⟨p, rfl⟩ := ints_of hds
  obtain ⟨_, hxs, ⟨_, z1⟩, hds⟩ := h2
  cases hxs
  obtain ⟨r, rfl⟩ := ints_of hds
  refine of_ret ?_
  unfold t5
  refine d_callx [] [] [] ([], [true], []) e5_7 rfl rfl rfl q_awake rfl (d_itF rfl ?_)
  have emin : ∀ q : List Int, (if (300 : Int) < (((dl q).length : Nat) : Int) then (300 : Int) else (((dl q).length : Nat) : Int)) = ((min q.length 300 : Nat) : Int) := fun q => by rw [dl_len]; split <;> omega
  have ecut : ∀ q : List Int, ((dl q).take ((min q.length 300 : Nat) : Int).toNat).drop (0 : Int).toNat = dl (q.take 300) := fun q => by
    simp [dl, List.map_take]
    omega
  refine d_rq (by simp only [E.B, E.I, cmB, List.append_nil, List.cons_append, List.nil_append, List.getD_cons_zero, List.getD_cons_succ, emin, dl_len, Bool.and_eq_true, decide_eq_true_eq]; omega) ?_
  refine d_lst [dl (m0.take 300)] (congrArg (fun y => [y]) (by rw [← ecut, ← emin]; rfl)) ?_
  generalize hp : m0.take 300 = m
  have hml : m.length ≤ 300 := by rw [← hp, List.length_take]; omega
  clear hp
  refine d_lb (decide ((((dl p).length : Nat) : Int) > 60) || decide ((((dl r).length : Nat) : Int) > 60)) rfl ?_
  by_cases hbig : (decide ((((dl p).length : Nat) : Int) > 60) || decide ((((dl r).length : Nat) : Int) > 60)) = true
  · rw [hbig]; exact d_itT rfl rfl
  have hbig := Bool.eq_false_iff.2 hbig
  rw [hbig]
  rw [dl_len, dl_len] at hbig
  simp only [Bool.or_eq_false_iff, decide_eq_false_iff_not] at hbig
  refine d_itF rfl ?_
  have hcopy := q_rcopy (dl m) (by rw [dl_len]; omega)
  have sF : (∃ Q : List D, F18 [] [] [dl m, dl p, dl r] = some ([0], [], [dl m ++ Q]) ∧ F19 [] [] [dl p, dl r] = some ([], [true], []) ∧ F21 [] [] [dl p, dl r] = some ([], [], [Q]) ∧ Q.length ≤ 40) ∨ (F18 [] [] [dl m, dl p, dl r] = some ([2], [], [[]]) ∧ F19 [] [] [dl p, dl r] = some ([], [false], [])) := by
    have hF := q_putFunc (dl m) p r (by rw [dl_len]; exact hml) (by omega) (by omega)
    have hr := q_rright p r (by omega) (by omega)
    by_cases hok : okFn p r = true
    · rw [if_pos hok] at hF; rw [hok] at hr
      exact .inl ⟨_, hF, hr, q_funcBytes p r hok, by rw [dl_len]; exact (funcBytes_len hok).1⟩
    · rw [if_neg hok] at hF; rw [Bool.eq_false_iff.2 hok] at hr
      exact .inr ⟨hF, hr⟩
  have sL : (∃ Q : List D, F22 [mn, mx] [c] [dl m] = some ([0], [], [dl m ++ Q]) ∧ F23 [mn, mx] [c] [] = some ([], [true], []) ∧ F24 [mn, mx] [c] [] = some ([], [], [Q]) ∧ Q.length ≤ 40) ∨ (F22 [mn, mx] [c] [dl m] = some ([2], [], [[]]) ∧ F23 [mn, mx] [c] [] = some ([], [false], [])) := by
    have hF := q_putLimits (dl m) mn mx c (by rw [dl_len]; omega)
    have hr := q_rrightL mn mx c
    by_cases hok : okLm mn mx c = true
    · rw [if_pos hok] at hF; rw [hok] at hr
      exact .inl ⟨_, hF, hr, q_limBytes mn mx c hok, by rw [dl_len]; exact (limBytes_len hok).1⟩
    · rw [if_neg hok] at hF; rw [Bool.eq_false_iff.2 hok] at hr
      exact .inr ⟨hF, hr⟩
  have sB : (∃ Q : List D, F25 [k] [] [dl m] = some ([0], [], [dl m ++ Q]) ∧ F26 [k] [] [] = some ([], [true], []) ∧ F27 [k] [] [] = some ([], [], [Q]) ∧ Q.length ≤ 40) ∨ (F25 [k] [] [dl m] = some ([2], [], [[]]) ∧ F26 [k] [] [] = some ([], [false], [])) := by
    have hF := q_putBlock (dl m) k (by rw [dl_len]; omega)
    have hr := q_rrightB k
    by_cases hok : okBk k = true
    · rw [if_pos hok] at hF; rw [hok] at hr
      exact .inl ⟨_, hF, hr, q_blockBytes k hok, by rw [dl_len]; exact Nat.le_trans (sB_le 9 k) (by decide)⟩
    · rw [if_neg hok] at hF; rw [Bool.eq_false_iff.2 hok] at hr
      exact .inr ⟨hF, hr⟩
  have hM : (dl m).length ≤ 300 := by rw [dl_len]; exact hml
  show Vx.T.den _ _ [mn, mx, k] [c, true, false] [dl m0, dl p, dl r, dl m] = _
  generalize dl m = M at *
  generalize dl p = P at *
  generalize dl r = R at *
  generalize dl m0 = M0 at *
  have cap : ∀ Q : List D, Q.length ≤ 40 → (decide (((M.length : Nat) : Int) ≤ 17592186044416) && decide (((Q.length : Nat) : Int) ≤ 17592186044416)) = true := fun b hb => by simp; omega
  have hsame : ∀ Q : List D, Q.length ≤ 40 → F20 [] [] [M ++ Q, M ++ Q] = some ([], [true], []) := fun b hb => q_rsame _ (by rw [List.length_append]; omega)
  clear hml hmn hmx hk hm0 hbig hds z0 z1
  rcases sF with ⟨Q0, f0, r0, g0, n0⟩ | ⟨f0, r0⟩
  · refine d_callx [] [] [M, P, R] ([0], [], [M ++ Q0]) e5_18 rfl rfl rfl (by exact f0) rfl ?_
    refine d_callx [] [] [P, R] ([], [true], []) e5_19 rfl rfl rfl r0 rfl ?_
    show Vx.T.den _ _ [mn, mx, k, 0] [c, true, false, true] [M0, P, R, M, M ++ Q0] = _
    refine d_bothS ?_
    unfold b5_4
    refine d_itT rfl ?_
    refine d_callx [] [] [M] ([], [], [M]) e5_9 rfl rfl rfl hcopy rfl ?_
    refine d_callx [] [] [P, R] ([], [], [Q0]) e5_21 rfl rfl rfl g0 rfl ?_
    refine d_rq (cap Q0 n0) (d_lst [M ++ Q0] rfl ?_)
    refine d_callx [] [] [M ++ Q0, M ++ Q0] ([], [true], []) e5_20 rfl rfl rfl (by exact hsame Q0 n0) rfl ?_
    show Vx.T.den _ _ [mn, mx, k, 0] [c, true, false, true, true] [M0, P, R, M, M ++ Q0, M, Q0, M ++ Q0] = _
    refine d_itF rfl ?_
    rcases sL with ⟨Q1, f1, r1, g1, n1⟩ | ⟨f1, r1⟩
    · refine d_callx [mn, mx] [c] [M] ([0], [], [M ++ Q1]) e5_22 rfl rfl rfl (by exact f1) rfl ?_
      refine d_callx [mn, mx] [c] [] ([], [true], []) e5_23 rfl rfl rfl r1 rfl ?_
      show Vx.T.den _ _ [mn, mx, k, 0, 0] [c, true, false, true, true, true] [M0, P, R, M, M ++ Q0, M, Q0, M ++ Q0, M ++ Q1] = _
      refine d_bothS ?_
      unfold b5_2
      refine d_itT rfl ?_
      refine d_callx [] [] [M] ([], [], [M]) e5_9 rfl rfl rfl hcopy rfl ?_
      refine d_callx [mn, mx] [c] [] ([], [], [Q1]) e5_24 rfl rfl rfl g1 rfl ?_
      refine d_rq (cap Q1 n1) (d_lst [M ++ Q1] rfl ?_)
      refine d_callx [] [] [M ++ Q1, M ++ Q1] ([], [true], []) e5_20 rfl rfl rfl (by exact hsame Q1 n1) rfl ?_
      show Vx.T.den _ _ [mn, mx, k, 0, 0] [c, true, false, true, true, true, true] [M0, P, R, M, M ++ Q0, M, Q0, M ++ Q0, M ++ Q1, M, Q1, M ++ Q1] = _
      refine d_itF rfl ?_
      rcases sB with ⟨Q2, f2, r2, g2, n2⟩ | ⟨f2, r2⟩
      · refine d_callx [k] [] [M] ([0], [], [M ++ Q2]) e5_25 rfl rfl rfl (by exact f2) rfl ?_
        refine d_callx [k] [] [] ([], [true], []) e5_26 rfl rfl rfl r2 rfl ?_
        show Vx.T.den _ _ [mn, mx, k, 0, 0, 0] [c, true, false, true, true, true, true, true] [M0, P, R, M, M ++ Q0, M, Q0, M ++ Q0, M ++ Q1, M, Q1, M ++ Q1, M ++ Q2] = _
        refine d_itT rfl ?_
        refine d_callx [] [] [M] ([], [], [M]) e5_9 rfl rfl rfl hcopy rfl ?_
        refine d_callx [k] [] [] ([], [], [Q2]) e5_27 rfl rfl rfl g2 rfl ?_
        refine d_rq (cap Q2 n2) (d_lst [M ++ Q2] rfl ?_)
        refine d_callx [] [] [M ++ Q2, M ++ Q2] ([], [true], []) e5_20 rfl rfl rfl (by exact hsame Q2 n2) rfl ?_
        show Vx.T.den _ _ [mn, mx, k, 0, 0, 0] [c, true, false, true, true, true, true, true, true] [M0, P, R, M, M ++ Q0, M, Q0, M ++ Q0, M ++ Q1, M, Q1, M ++ Q1, M ++ Q2, M, Q2, M ++ Q2] = _
        rfl
      · refine d_callx [k] [] [M] ([2], [], [[]]) e5_25 rfl rfl rfl (by exact f2) rfl ?_
        refine d_callx [k] [] [] ([], [false], []) e5_26 rfl rfl rfl r2 rfl ?_
        show Vx.T.den _ _ [mn, mx, k, 0, 0, 2] [c, true, false, true, true, true, true, false] [M0, P, R, M, M ++ Q0, M, Q0, M ++ Q0, M ++ Q1, M, Q1, M ++ Q1, []] = _
        refine d_itF rfl ?_
        exact d_lb true rfl (d_lb true rfl rfl)
    · refine d_callx [mn, mx] [c] [M] ([2], [], [[]]) e5_22 rfl rfl rfl (by exact f1) rfl ?_
      refine d_callx [mn, mx] [c] [] ([], [false], []) e5_23 rfl rfl rfl r1 rfl ?_
      show Vx.T.den _ _ [mn, mx, k, 0, 2] [c, true, false, true, true, false] [M0, P, R, M, M ++ Q0, M, Q0, M ++ Q0, []] = _
      refine d_bothS ?_
      unfold b5_2
      refine d_itF rfl ?_
      refine d_lb false rfl (d_lb false rfl (d_itF rfl ?_))
      show Vx.T.den _ _ [mn, mx, k, 0, 2] [c, true, false, true, true, false, false, false] [M0, P, R, M, M ++ Q0, M, Q0, M ++ Q0, []] = _
      rcases sB with ⟨Q2, f2, r2, g2, n2⟩ | ⟨f2, r2⟩
      · refine d_callx [k] [] [M] ([0], [], [M ++ Q2]) e5_25 rfl rfl rfl (by exact f2) rfl ?_
        refine d_callx [k] [] [] ([], [true], []) e5_26 rfl rfl rfl r2 rfl ?_
        show Vx.T.den _ _ [mn, mx, k, 0, 2, 0] [c, true, false, true, true, false, false, false, true] [M0, P, R, M, M ++ Q0, M, Q0, M ++ Q0, [], M ++ Q2] = _
        refine d_itT rfl ?_
        refine d_callx [] [] [M] ([], [], [M]) e5_9 rfl rfl rfl hcopy rfl ?_
        refine d_callx [k] [] [] ([], [], [Q2]) e5_27 rfl rfl rfl g2 rfl ?_
        refine d_rq (cap Q2 n2) (d_lst [M ++ Q2] rfl ?_)
        refine d_callx [] [] [M ++ Q2, M ++ Q2] ([], [true], []) e5_20 rfl rfl rfl (by exact hsame Q2 n2) rfl ?_
        show Vx.T.den _ _ [mn, mx, k, 0, 2, 0] [c, true, false, true, true, false, false, false, true, true] [M0, P, R, M, M ++ Q0, M, Q0, M ++ Q0, [], M ++ Q2, M, Q2, M ++ Q2] = _
        rfl
      · refine d_callx [k] [] [M] ([2], [], [[]]) e5_25 rfl rfl rfl (by exact f2) rfl ?_
        refine d_callx [k] [] [] ([], [false], []) e5_26 rfl rfl rfl r2 rfl ?_
        show Vx.T.den _ _ [mn, mx, k, 0, 2, 2] [c, true, false, true, true, false, false, false, false] [M0, P, R, M, M ++ Q0, M, Q0, M ++ Q0, [], []] = _
        refine d_itF rfl ?_
        exact d_lb true rfl (d_lb true rfl rfl)
  · refine d_callx [] [] [M, P, R] ([2], [], [[]]) e5_18 rfl rfl rfl (by exact f0) rfl ?_
    refine d_callx [] [] [P, R] ([], [false], []) e5_19 rfl rfl rfl r0 rfl ?_
    show Vx.T.den _ _ [mn, mx, k, 2] [c, true, false, false] [M0, P, R, M, []] = _
    refine d_bothS ?_
    unfold b5_4
    refine d_itF rfl ?_
    refine d_lb false rfl (d_lb false rfl (d_itF rfl ?_))
    show Vx.T.den _ _ [mn, mx, k, 2] [c, true, false, false, false, false] [M0, P, R, M, []] = _
    rcases sL with ⟨Q1, f1, r1, g1, n1⟩ | ⟨f1, r1⟩
    · refine d_callx [mn, mx] [c] [M] ([0], [], [M ++ Q1]) e5_22 rfl rfl rfl (by exact f1) rfl ?_
      refine d_callx [mn, mx] [c] [] ([], [true], []) e5_23 rfl rfl rfl r1 rfl ?_
      show Vx.T.den _ _ [mn, mx, k, 2, 0] [c, true, false, false, false, false, true] [M0, P, R, M, [], M ++ Q1] = _
      refine d_bothS ?_
      unfold b5_3
      refine d_itT rfl ?_
      refine d_callx [] [] [M] ([], [], [M]) e5_9 rfl rfl rfl hcopy rfl ?_
      refine d_callx [mn, mx] [c] [] ([], [], [Q1]) e5_24 rfl rfl rfl g1 rfl ?_
      refine d_rq (cap Q1 n1) (d_lst [M ++ Q1] rfl ?_)
      refine d_callx [] [] [M ++ Q1, M ++ Q1] ([], [true], []) e5_20 rfl rfl rfl (by exact hsame Q1 n1) rfl ?_
      show Vx.T.den _ _ [mn, mx, k, 2, 0] [c, true, false, false, false, false, true, true] [M0, P, R, M, [], M ++ Q1, M, Q1, M ++ Q1] = _
      refine d_itF rfl ?_
      rcases sB with ⟨Q2, f2, r2, g2, n2⟩ | ⟨f2, r2⟩
      · refine d_callx [k] [] [M] ([0], [], [M ++ Q2]) e5_25 rfl rfl rfl (by exact f2) rfl ?_
        refine d_callx [k] [] [] ([], [true], []) e5_26 rfl rfl rfl r2 rfl ?_
        show Vx.T.den _ _ [mn, mx, k, 2, 0, 0] [c, true, false, false, false, false, true, true, true] [M0, P, R, M, [], M ++ Q1, M, Q1, M ++ Q1, M ++ Q2] = _
        refine d_itT rfl ?_
        refine d_callx [] [] [M] ([], [], [M]) e5_9 rfl rfl rfl hcopy rfl ?_
        refine d_callx [k] [] [] ([], [], [Q2]) e5_27 rfl rfl rfl g2 rfl ?_
        refine d_rq (cap Q2 n2) (d_lst [M ++ Q2] rfl ?_)
        refine d_callx [] [] [M ++ Q2, M ++ Q2] ([], [true], []) e5_20 rfl rfl rfl (by exact hsame Q2 n2) rfl ?_
        show Vx.T.den _ _ [mn, mx, k, 2, 0, 0] [c, true, false, false, false, false, true, true, true, true] [M0, P, R, M, [], M ++ Q1, M, Q1, M ++ Q1, M ++ Q2, M, Q2, M ++ Q2] = _
        rfl
      · refine d_callx [k] [] [M] ([2], [], [[]]) e5_25 rfl rfl rfl (by exact f2) rfl ?_
        refine d_callx [k] [] [] ([], [false], []) e5_26 rfl rfl rfl r2 rfl ?_
        show Vx.T.den _ _ [mn, mx, k, 2, 0, 2] [c, true, false, false, false, false, true, true, false] [M0, P, R, M, [], M ++ Q1, M, Q1, M ++ Q1, []] = _
        refine d_itF rfl ?_
        exact d_lb true rfl (d_lb true rfl rfl)
    · refine d_callx [mn, mx] [c] [M] ([2], [], [[]]) e5_22 rfl rfl rfl (by exact f1) rfl ?_
      refine d_callx [mn, mx] [c] [] ([], [false], []) e5_23 rfl rfl rfl r1 rfl ?_
      show Vx.T.den _ _ [mn, mx, k, 2, 2] [c, true, false, false, false, false, false] [M0, P, R, M, [], []] = _
      refine d_bothS ?_
      unfold b5_3
      refine d_itF rfl ?_
      refine d_lb false rfl (d_lb false rfl (d_itF rfl ?_))
      show Vx.T.den _ _ [mn, mx, k, 2, 2] [c, true, false, false, false, false, false, false, false] [M0, P, R, M, [], []] = _
      rcases sB with ⟨Q2, f2, r2, g2, n2⟩ | ⟨f2, r2⟩
      · refine d_callx [k] [] [M] ([0], [], [M ++ Q2]) e5_25 rfl rfl rfl (by exact f2) rfl ?_
        refine d_callx [k] [] [] ([], [true], []) e5_26 rfl rfl rfl r2 rfl ?_
        show Vx.T.den _ _ [mn, mx, k, 2, 2, 0] [c, true, false, false, false, false, false, false, false, true] [M0, P, R, M, [], [], M ++ Q2] = _
        refine d_itT rfl ?_
        refine d_callx [] [] [M] ([], [], [M]) e5_9 rfl rfl rfl hcopy rfl ?_
        refine d_callx [k] [] [] ([], [], [Q2]) e5_27 rfl rfl rfl g2 rfl ?_
        refine d_rq (cap Q2 n2) (d_lst [M ++ Q2] rfl ?_)
        refine d_callx [] [] [M ++ Q2, M ++ Q2] ([], [true], []) e5_20 rfl rfl rfl (by exact hsame Q2 n2) rfl ?_
        show Vx.T.den _ _ [mn, mx, k, 2, 2, 0] [c, true, false, false, false, false, false, false, false, true, true] [M0, P, R, M, [], [], M ++ Q2, M, Q2, M ++ Q2] = _
        rfl
      · refine d_callx [k] [] [M] ([2], [], [[]]) e5_25 rfl rfl rfl (by exact f2) rfl ?_
        refine d_callx [k] [] [] ([], [false], []) e5_26 rfl rfl rfl r2 rfl ?_
        show Vx.T.den _ _ [mn, mx, k, 2, 2, 2] [c, true, false, false, false, false, false, false, false, false] [M0, P, R, M, [], [], []] = _
        refine d_itF rfl ?_
        exact d_lb true rfl (d_lb true rfl rfl)
end Go.Proofs.Ythmiladfdndciaa.YTypPuts
