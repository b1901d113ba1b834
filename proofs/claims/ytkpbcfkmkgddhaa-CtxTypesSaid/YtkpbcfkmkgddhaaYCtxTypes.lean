/-
  CtxTypes, of numbers and lists alone: the law answers true.
-/
import Derived.Test.YtkpbcfkmkgddhaaSame9CtxTypes
import Derived.Test.YtkpbcfkmkgddhaaVr
namespace Go.Proofs.Ytkpbcfkmkgddhaa.YCtxTypes
set_option linter.all false
open Go.Proofs.Ytkpbcfkmkgddhaa.Vx Go.Proofs.Ytkpbcfkmkgddhaa.XCtxTypes Go.Proofs.Ytkpbcfkmkgddhaa.Vd Go.Proofs.Ytkpbcfkmkgddhaa.Vn Go.Proofs.Ytkpbcfkmkgddhaa.Vl Go.Proofs.Ytkpbcfkmkgddhaa.Vp Go.Proofs.Ytkpbcfkmkgddhaa.Vb Go.Proofs.Ytkpbcfkmkgddhaa.SCtxTypes Go.Proofs.Ytkpbcfkmkgddhaa.Vo Go.Proofs.Ytkpbcfkmkgddhaa.OCtxTypes Go.Proofs.Ytkpbcfkmkgddhaa.ZCtxTypes Go.Proofs.Ytkpbcfkmkgddhaa.Vr
theorem q_awake : F8 [] [] [] = some ([], [true], []) := by kernel_rfl
theorem hasB_more {k n : Int} (h : hasB k n = true) : hasB k (n + 1) = true := by
  simp only [hasB, Bool.and_eq_true, decide_eq_true_eq] at h ⊢; omega
theorem ofT_app (T : List D) (t : D) : ofT (T ++ [t]) = ofT T ++ [.st [.l (t.cell 0).list, .l (t.cell 1).list]] := by
  unfold ofT
  rw [List.length_append, show T.length + [t].length = T.length + 1 from rfl]
  have h := mapN_succ [] (tyD (T ++ [t])) T.length
  rw [List.nil_append, List.nil_append] at h
  rw [← h]
  congr 1
  · exact mapN_congr fun i hi => by unfold tyD; rw [get_l hi]
  · unfold tyD
    rw [show T.length = T.length + 0 from rfl, get_r]; rfl
/-- A right module is right with a type more and a passive segment more of each kind. -/
theorem right_more {T Im mF mTb mM mG mE mS mEl mD : List D} (t p : D) (hp : (p.cell 0).int = 1) (hp2 : (p.cell 2).list = []) (R : Right T Im mF mTb mM mG mE mS mEl mD) : Right (T ++ [t]) Im mF mTb mM mG mE mS (mEl ++ [p]) (mD ++ [p]) := by
  have hT : (ofT (T ++ [t])).length = (ofT T).length + 1 := by rw [ofT_app, List.length_append]; rfl
  have hTi : ((ofT (T ++ [t])).length : Int) = ((ofT T).length : Int) + 1 := by omega
  have hP : ∀ k : Int, hasB k (ofT T).length = true → tyP (ofT (T ++ [t])) k = tyP (ofT T) k ∧ tyR (ofT (T ++ [t])) k = tyR (ofT T) k := fun k hk => by
    simp only [hasB, Bool.and_eq_true, decide_eq_true_eq] at hk
    unfold tyP tyR
    rw [ofT_app, get_l (by omega)]
    exact ⟨rfl, rfl⟩
  have ac : ∀ (V nT : Int) (G : List D), acE V nT G p = 0 := fun V nT G => by unfold acE; rw [if_neg (by omega)]
  refine ⟨fun i hi => ?_, fun i hi => ?_, R.tb, R.me, R.tb1, R.me1, R.gl, R.ex, fun i hi => ?_, fun i hi => ?_, fun i hi => ?_, fun i hi => ?_⟩
  · have h := R.im i hi
    unfold impE at h ⊢
    rw [hTi]
    split at h
    · rename_i hk
      rw [if_pos hk, ite_eq0 (by decide)]
      rw [ite_eq0 (by decide)] at h
      exact hasB_more h
    · rename_i hk
      rw [if_neg hk]; exact h
  · have h := R.fn i hi
    unfold fnE at h ⊢
    rw [hTi, ite_eq0 (by decide)]
    rw [ite_eq0 (by decide)] at h
    exact hasB_more h
  · have h := R.st i hi
    unfold stE at h ⊢
    generalize ((mS.getD i (.i 0)).cell 0).int = f at *
    split at h
    · rename_i hk
      have hk2 : hasB f (ofF Im mF).length = true ∧ hasB (fnT (ofF Im mF) f) (ofT T).length = true := by unfold stOk at hk; rw [Bool.and_eq_true] at hk; exact hk
      obtain ⟨p1, p2⟩ := hP _ hk2.2
      rw [if_pos (by unfold stOk; rw [hTi, hk2.1, hasB_more hk2.2]; rfl), p1, p2]
      exact h
    · exact absurd h (by decide)
  · rw [List.length_append, List.length_singleton] at hi
    unfold elE
    by_cases e : i < mEl.length
    · rw [get_l e]; exact R.el i e
    · obtain rfl : i = mEl.length := by omega
      have hg : (mEl ++ [p]).getD mEl.length (.i 0) = p := (get_r (A := mEl) (B := [p]) (i := 0))
      rw [hg, hp2, ac]
      rfl
  · rw [List.length_append, List.length_singleton] at hi
    unfold daE
    by_cases e : i < mD.length
    · rw [get_l e]; exact R.da i e
    · obtain rfl : i = mD.length := by omega
      have hg : (mD ++ [p]).getD mD.length (.i 0) = p := (get_r (A := mD) (B := [p]) (i := 0))
      rw [hg, ac]
  · have h := R.lo i hi
    have h2 := R.fn i hi
    unfold fnE at h2
    rw [ite_eq0 (by decide)] at h2
    obtain ⟨p1, p2⟩ := hP _ h2
    unfold loE at h ⊢
    rw [if_pos h2] at h
    rw [if_pos (by rw [hTi]; exact hasB_more h2), p1]
    exact h
theorem law {c0 c1 c2 c3 c4 c5 c6 c7 c8 c9 c10 c11 c12 c13 : List CT} (T Im mF mTb mM mG mE mS mEl mC mD mN P R : List D) (h0 : CT.wf (.sl c0) (.l T)) (h1 : CT.wf (.sl c1) (.l Im)) (h2 : CT.wf (.sl c2) (.l mF)) (h3 : CT.wf (.sl c3) (.l mTb)) (h4 : CT.wf (.sl c4) (.l mM)) (h5 : CT.wf (.sl c5) (.l mG))
    (h6 : CT.wf (.sl c6) (.l mE)) (h7 : CT.wf (.sl c7) (.l mS)) (h8 : CT.wf (.sl c8) (.l mEl)) (h9 : CT.wf (.sl c9) (.l mC)) (h10 : CT.wf (.sl c10) (.l mD)) (h11 : CT.wf (.sl c11) (.l mN)) (h12 : CT.wf (.sl c12) (.l P)) (h13 : CT.wf (.sl c13) (.l R)) :
    F6 [] [] [T, Im, mF, mTb, mM, mG, mE, mS, mEl, mC, mD, mN, P, R] = some ([], [true], []) := by
  clear h0 h1 h2 h3 h4 h5 h6 h7 h8 h9 h10 h11 h12 h13
  refine of_ret ?_
  unfold t6
  refine d_callx [] [] [] ([], [true], []) e6_8 rfl rfl rfl q_awake rfl (d_itF rfl ?_)
  obtain ⟨b, hs, hb⟩ := q_short8 (T := T) (Im := Im) (mF := mF) (mTb := mTb) (mM := mM) (mG := mG) (mE := mE) (mS := mS) (mEl := mEl) (mC := mC) (mD := mD) (mN := mN)
  refine d_callx [] [] [T, Im, mF, mTb, mM, mG, mE, mS, mEl, mC, mD, mN] ([], [b], []) e6_9 rfl rfl rfl hs rfl ?_
  by_cases hg : (!b || decide ((P.length : Int) > 20) || decide ((R.length : Int) > 20)) = true
  · exact d_lb true hg (d_itT rfl rfl)
  have hg := Bool.eq_false_iff.2 hg
  refine d_lb false hg (d_itF rfl ?_)
  rw [Bool.or_eq_false_iff, Bool.or_eq_false_iff, decide_eq_false_iff_not, decide_eq_false_iff_not] at hg
  obtain ⟨⟨hb1, hP⟩, hR⟩ := hg
  obtain rfl : b = true := by simpa using hb1
  obtain ⟨⟨s0, s1, s2, s3, s4, s5, s6, s7, s8, s9, s10, s11⟩, z1, z2, z3⟩ := hb rfl
  have ty : tyB T := fun i hi => ⟨by have := (z1 i hi).1; omega, by have := (z1 i hi).2; omega⟩
  have hm : Mok T Im mF mTb mM mG mE mS mEl mC mD := ⟨by omega, by omega, by omega, by omega, by omega, by omega, by omega, by omega, by omega, by omega, ty, fun i hi => by have := z2 i hi; omega, fun i hi => by have := z3 i hi; omega⟩
  obtain ⟨t, ht⟩ : ∃ t : D, t = .st [.l P, .l R] := ⟨_, rfl⟩
  obtain ⟨p, hp⟩ : ∃ p : D, p = .st [.i 1, .l [], .l []] := ⟨_, rfl⟩
  have hn : Mok (T ++ [t]) Im mF mTb mM mG mE mS (mEl ++ [p]) mC (mD ++ [p]) := by
    refine ⟨by rw [List.length_append, List.length_singleton]; omega, by omega, by omega, by omega, by omega, by omega, by omega, by omega, by rw [List.length_append, List.length_singleton]; omega, by rw [List.length_append, List.length_singleton]; omega, fun i hi => ?_, hm.lo, fun i hi => ?_⟩
    · rw [List.length_append, List.length_singleton] at hi
      by_cases e : i < T.length
      · rw [get_l e]; exact ty i e
      · obtain rfl : i = T.length := by omega
        have hg : (T ++ [t]).getD T.length (.i 0) = t := (get_r (A := T) (B := [t]) (i := 0))
        rw [hg, ht]
        exact ⟨show P.length ≤ 1000000 by omega, show R.length ≤ 1000000 by omega⟩
    · rw [List.length_append, List.length_singleton] at hi
      by_cases e : i < mEl.length
      · rw [get_l e]; exact hm.el i e
      · obtain rfl : i = mEl.length := by omega
        have hg : (mEl ++ [p]).getD mEl.length (.i 0) = p := (get_r (A := mEl) (B := [p]) (i := 0))
        rw [hg, hp]
        exact Nat.zero_le _
  have q1 := q_of (mN := mN) hm
  have q2 := q_of (mN := mN) hn
  unfold ofRes at q1 q2
  by_cases hE : ofErr T Im mF mTb mM mG mE mS mEl mD = 0
  case neg =>
    rw [if_neg hE] at q1
    refine d_callx [] [] [T, Im, mF, mTb, mM, mG, mE, mS, mEl, mC, mD, mN] _ e6_10 rfl rfl rfl q1 rfl ?_
    exact d_itT (ne_t hE) rfl
  have RR := right_iff.1 hE
  have hE2 := right_iff.2 (right_more t p (by rw [hp]; rfl) (by rw [hp]; rfl) RR)
  rw [if_pos hE] at q1
  rw [if_pos hE2] at q2
  have n1 : (ofF Im mF).length = (inF Im).length + mF.length := by unfold ofF; rw [List.length_append, mapN_len]
  have n2 : (ofG Im mG).length = (inG Im).length + mG.length := by unfold ofG; rw [List.length_append, mapN_len]
  have l1 := inF_le Im; have l2 := inG_le Im
  have hT := ofT_len T
  have hTc : ∀ i, i < (ofT T).length → ((ofT T).getD i (.i 0)).cell 0 = .l ((T.getD i (.i 0)).cell 0).list ∧ ((ofT T).getD i (.i 0)).cell 1 = .l ((T.getD i (.i 0)).cell 1).list := fun i hi => ⟨ofT_cell0 T (by omega), ofT_cell1 T (by omega)⟩
  have ht1 := RR.tb1
  have ht2 := RR.me1
  rw [ofT_app] at q2
  have htt : (D.st [.l (t.cell 0).list, .l (t.cell 1).list]) = t := by rw [ht]; rfl
  rw [htt] at q2
  rw [List.length_append, List.length_append, List.length_singleton] at q2
  generalize (ofG Im mG) = G at *
  generalize (ofF Im mF) = Fs at *
  generalize (ofTb Im mTb) = Tb at *
  generalize (ofMe Im mM) = Me at *
  generalize (ofT T) = T' at *
  generalize (inF Im).length = nF at *
  generalize (inG Im).length = nG at *
  generalize hcc : decide ((mC.length : Int) > 0) = cc at *
  have hsame := q_same9 (i0 := (nF : Int)) (i1 := (nG : Int)) (i2 := (mEl.length : Int)) (i3 := (mD.length : Int)) (b0 := cc) (T := T') (Fs := Fs) (G := G) (Tb := Tb) (Me := Me) (T2 := T') (G2 := G) (Tb2 := Tb) (Me2 := Me) rfl rfl rfl rfl (by omega) (by omega) (by omega) (by omega) (by omega)
    (fun i hi => by
      rw [(hTc i hi).1, (hTc i hi).2]
      have := z1 i (by omega)
      exact ⟨rfl, rfl, Nat.le_trans this.1 (by decide), Nat.le_trans this.2 (by decide)⟩) (fun i hi => ⟨rfl, rfl⟩) (fun i hi => ⟨rfl, rfl, rfl⟩) (fun i hi => ⟨rfl, rfl, rfl⟩)
  clear RR hE hE2 hm hn hb hs
  refine d_callx [] [] [T, Im, mF, mTb, mM, mG, mE, mS, mEl, mC, mD, mN] _ e6_10 rfl rfl rfl q1 rfl ?_
  refine d_itF rfl ?_
  show Vx.T.den _ _ [(nF : Int), (nG : Int), (mEl.length : Int), (mD.length : Int), 0] [true, true, false, cc] [T, Im, mF, mTb, mM, mG, mE, mS, mEl, mC, mD, mN, P, R, T', Fs, G, Tb, Me] = _
  have key : ∀ x y z : List D, b6_1.den (Tab.fn a6) [(nF : Int), (nG : Int), (mEl.length : Int), (mD.length : Int), 0] [true, true, false, cc] [T, Im, mF, mTb, mM, mG, mE, mS, mEl, mC, mD, mN, P, R, T', Fs, G, Tb, Me, x, y, z, T ++ [t]] = some (.ret ([], [true], [])) := by
    intro x y z
    unfold b6_1
    refine d_lst [[]] rfl (d_rq (an_t rfl (le_t (show (mEl.length : Int) ≤ 617269685768 by omega))) (d_lst [mEl] rfl (d_lst [[p]] (by rw [hp]; rfl) (d_rq (an_t (le_t (show (mEl.length : Int) ≤ 617269685768 by omega)) rfl) (d_lst [mEl ++ [p]] rfl ?_)))))
    refine d_lst [[]] rfl (d_rq (an_t rfl (le_t (show (mD.length : Int) ≤ 617269685768 by omega))) (d_lst [mD] rfl (d_lst [[p]] (by rw [hp]; rfl) (d_rq (an_t (le_t (show (mD.length : Int) ≤ 617269685768 by omega)) rfl) (d_lst [mD ++ [p]] rfl ?_)))))
    refine d_callx [] [] [T ++ [t], Im, mF, mTb, mM, mG, mE, mS, mEl ++ [p], mC, mD ++ [p], mN] _ e6_10 rfl rfl rfl q2 rfl ?_
    show Vx.T.den _ _ [(nF : Int), (nG : Int), (mEl.length : Int), (mD.length : Int), 0, (nF : Int), (nG : Int), ((mEl.length + 1 : Nat) : Int), ((mD.length + 1 : Nat) : Int), 0] [true, true, false, cc, cc] [T, Im, mF, mTb, mM, mG, mE, mS, mEl, mC, mD, mN, P, R, T', Fs, G, Tb, Me, x, y, z, T ++ [t], [], mEl, [p], mEl ++ [p], [], mD, [p], mD ++ [p], T' ++ [t], Fs, G, Tb, Me] = _
    have hlen : (T' ++ [t]).length = T'.length + 1 := by rw [List.length_append]; rfl
    refine d_lb false (by show ((0 : Int) != 0 || (((T' ++ [t]).length : Int) != arI .add .i64 (T'.length : Int) 1)) = false; rw [up1 _ (by omega), hlen]; simp) ?_
    refine d_lb false (by show (false || (((mEl.length + 1 : Nat) : Int) != arI .add .i64 (mEl.length : Int) 1)) = false; rw [up1 _ (by omega)]; simp) ?_
    refine d_lb false (by show (false || (((mD.length + 1 : Nat) : Int) != arI .add .i64 (mD.length : Int) 1)) = false; rw [up1 _ (by omega)]; simp) ?_
    refine d_itF rfl ?_
    refine d_rq (an_t (le_t (show (0 : Int) ≤ (T'.length : Int) by omega)) (le_t (show (T'.length : Int) ≤ ((T' ++ [t]).length : Int) by rw [hlen]; omega))) (d_lst [T'] (by show [(T' ++ [t]).take T'.length] = _; rw [List.take_left]) ?_)
    exact d_callx [(nF : Int), (nG : Int), (mEl.length : Int), (mD.length : Int), (nF : Int), (nG : Int), (mEl.length : Int), (mD.length : Int)] [cc, cc] [T', Fs, G, Tb, Me, T', Fs, G, Tb, Me] ([], [true], []) e6_12 rfl rfl rfl hsame rfl rfl
  have h18 : (T.length : Int) ≤ 718048409976 := by omega
  refine d_both (d_lst [[]] rfl (d_both ?_ ?_)) ?_
  · exact d_rq (an_t rfl (le_t h18)) (d_lst [T] rfl (d_lst [[t]] (by rw [ht]; rfl) (d_rq (an_t (le_t h18) rfl) (d_lst [T ++ [t]] rfl (key _ _ _)))))
  · exact d_lst [[t]] (by rw [ht]; rfl) (d_rq (an_t rfl (le_t h18)) (d_lst [T] rfl (d_rq (an_t (le_t h18) rfl) (d_lst [T ++ [t]] rfl (key _ _ _)))))
  · exact d_lst [[t]] (by rw [ht]; rfl) (d_lst [[]] rfl (d_rq (an_t rfl (le_t h18)) (d_lst [T] rfl (d_rq (an_t (le_t h18) rfl) (d_lst [T ++ [t]] rfl (key _ _ _))))))
end Go.Proofs.Ytkpbcfkmkgddhaa.YCtxTypes
