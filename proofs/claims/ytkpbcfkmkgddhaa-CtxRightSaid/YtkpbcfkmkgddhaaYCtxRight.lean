/-
  CtxRight, of numbers and lists alone: the law answers true.
-/
import Derived.Test.YtkpbcfkmkgddhaaRef9CtxRight
import Derived.Test.YtkpbcfkmkgddhaaVr
namespace Go.Proofs.Ytkpbcfkmkgddhaa.YCtxRight
set_option linter.all false
open Go.Proofs.Ytkpbcfkmkgddhaa.Vx Go.Proofs.Ytkpbcfkmkgddhaa.XCtxRight Go.Proofs.Ytkpbcfkmkgddhaa.Vd Go.Proofs.Ytkpbcfkmkgddhaa.Vn Go.Proofs.Ytkpbcfkmkgddhaa.Vl Go.Proofs.Ytkpbcfkmkgddhaa.Vp Go.Proofs.Ytkpbcfkmkgddhaa.Vb Go.Proofs.Ytkpbcfkmkgddhaa.SCtxRight Go.Proofs.Ytkpbcfkmkgddhaa.Vo Go.Proofs.Ytkpbcfkmkgddhaa.OCtxRight Go.Proofs.Ytkpbcfkmkgddhaa.ZCtxRight Go.Proofs.Ytkpbcfkmkgddhaa.WCtxRight Go.Proofs.Ytkpbcfkmkgddhaa.Vr
theorem q_awake : F8 [] [] [] = some ([], [true], []) := by kernel_rfl
theorem lim_cells (A L : List D) {i : Nat} (hi : i < (A ++ mapN (lmD L) L.length).length) :
    (((A ++ mapN (lmD L) L.length).getD i (.i 0)).cell 0).int = (((A ++ L).getD i (.i 0)).cell 0).int ∧ (((A ++ mapN (lmD L) L.length).getD i (.i 0)).cell 1).bool = (((A ++ L).getD i (.i 0)).cell 1).bool ∧ (((A ++ mapN (lmD L) L.length).getD i (.i 0)).cell 2).int = (((A ++ L).getD i (.i 0)).cell 2).int := by
  rw [List.length_append, mapN_len] at hi
  by_cases e : i < A.length
  · rw [get_l e, get_l e]; exact ⟨rfl, rfl, rfl⟩
  · obtain ⟨j, rfl⟩ : ∃ j, i = A.length + j := ⟨i - A.length, by omega⟩
    rw [get_r, get_r, mapN_get _ (by omega)]
    exact ⟨rfl, rfl, rfl⟩
theorem law {c0 c1 c2 c3 c4 c5 c6 c7 c8 c9 c10 c11 : List CT} (T Im mF mTb mM mG mE mS mEl mC mD mN : List D) (h0 : CT.wf (.sl c0) (.l T)) (h1 : CT.wf (.sl c1) (.l Im)) (h2 : CT.wf (.sl c2) (.l mF)) (h3 : CT.wf (.sl c3) (.l mTb)) (h4 : CT.wf (.sl c4) (.l mM)) (h5 : CT.wf (.sl c5) (.l mG))
    (h6 : CT.wf (.sl c6) (.l mE)) (h7 : CT.wf (.sl c7) (.l mS)) (h8 : CT.wf (.sl c8) (.l mEl)) (h9 : CT.wf (.sl c9) (.l mC)) (h10 : CT.wf (.sl c10) (.l mD)) (h11 : CT.wf (.sl c11) (.l mN)) :
    F3 [] [] [T, Im, mF, mTb, mM, mG, mE, mS, mEl, mC, mD, mN] = some ([], [true], []) := by
  clear h0 h1 h2 h3 h4 h5 h6 h7 h8 h9 h10 h11
  refine of_ret ?_
  unfold t3
  refine d_callx [] [] [] ([], [true], []) e3_8 rfl rfl rfl q_awake rfl (d_itF rfl ?_)
  obtain ⟨b, hs, hb⟩ := q_short8 (T := T) (Im := Im) (mF := mF) (mTb := mTb) (mM := mM) (mG := mG) (mE := mE) (mS := mS) (mEl := mEl) (mC := mC) (mD := mD) (mN := mN)
  refine d_callx [] [] [T, Im, mF, mTb, mM, mG, mE, mS, mEl, mC, mD, mN] ([], [b], []) e3_9 rfl rfl rfl hs rfl ?_
  cases b with
  | false => exact d_itT rfl rfl
  | true =>
  obtain ⟨⟨s0, s1, s2, s3, s4, s5, s6, s7, s8, s9, s10, s11⟩, z1, z2, z3⟩ := hb rfl
  refine d_itF rfl ?_
  have ty : tyB T := fun i hi => ⟨by have := (z1 i hi).1; omega, by have := (z1 i hi).2; omega⟩
  have hm : Mok T Im mF mTb mM mG mE mS mEl mC mD := ⟨by omega, by omega, by omega, by omega, by omega, by omega, by omega, by omega, by omega, by omega, ty, fun i hi => by have := z2 i hi; omega, fun i hi => by have := z3 i hi; omega⟩
  have q1 := q_of (mN := mN) hm
  have q2 := q_error (mN := mN) hm
  have q3 := q_gather (T := T) (Im := Im) (mF := mF) (mTb := mTb) (mM := mM) (mG := mG) (mE := mE) (mS := mS) (mEl := mEl) (mC := mC) (mD := mD) (mN := mN) false (by omega) (by omega) (by omega) (by omega) (by omega)
  rw [if_neg (by decide)] at q3
  unfold ofRes at q1
  by_cases hE : ofErr T Im mF mTb mM mG mE mS mEl mD = 0
  case neg =>
    rw [if_neg hE] at q1
    generalize ofErr T Im mF mTb mM mG mE mS mEl mD = E at *
    have hsame := q_same9 (i0 := 0) (i1 := 0) (i2 := 0) (i3 := 0) (b0 := false) (T := []) (Fs := []) (G := []) (Tb := []) (Me := []) (T2 := []) (G2 := []) (Tb2 := []) (Me2 := []) rfl rfl rfl rfl (by simp) (by simp) (by simp) (by simp) (by simp) (fun i hi => by simp at hi) (fun i hi => by simp at hi) (fun i hi => by simp at hi) (fun i hi => by simp at hi)
    refine d_callx [] [] [T, Im, mF, mTb, mM, mG, mE, mS, mEl, mC, mD, mN] _ e3_10 rfl rfl rfl q1 rfl ?_
    refine d_callx [] [] [T, Im, mF, mTb, mM, mG, mE, mS, mEl, mC, mD, mN] _ e3_11 rfl rfl rfl q2 rfl ?_
    refine d_itT (ne_t hE) (d_itT (eq_t rfl) ?_)
    exact d_callx [0, 0, 0, 0, 0, 0, 0, 0] [false, false] [[], [], [], [], [], [], [], [], [], []] ([], [true], []) e3_12 rfl rfl rfl hsame rfl rfl
  rw [if_pos hE] at q1
  rw [hE] at q2
  have n1 : (ofF Im mF).length = (inF Im).length + mF.length := by unfold ofF; rw [List.length_append, mapN_len]
  have n2 : (ofG Im mG).length = (inG Im).length + mG.length := by unfold ofG; rw [List.length_append, mapN_len]
  have n3 : (ofTb Im mTb).length = (inT Im).length + mTb.length := by unfold ofTb; rw [List.length_append, mapN_len]
  have n4 : (ofMe Im mM).length = (inM Im).length + mM.length := by unfold ofMe; rw [List.length_append, mapN_len]
  have l1 := inF_le Im; have l2 := inG_le Im; have l3 := inT_le Im; have l4 := inM_le Im
  have hT := ofT_len T
  have hsame := q_same9 (i0 := ((inF Im).length : Int)) (i1 := ((inG Im).length : Int)) (i2 := (mEl.length : Int)) (i3 := (mD.length : Int)) (b0 := decide ((mC.length : Int) > 0)) (T := ofT T) (Fs := ofF Im mF) (G := ofG Im mG) (Tb := ofTb Im mTb) (Me := ofMe Im mM) (T2 := T) (G2 := ofG Im mG) (Tb2 := inT Im ++ mTb) (Me2 := inM Im ++ mM)
    hT rfl (by rw [List.length_append]; exact n3) (by rw [List.length_append]; exact n4) (by omega) (by omega) (by omega) (by omega) (by omega)
    (fun i hi => by
      rw [ofT_cell0 T (by omega), ofT_cell1 T (by omega)]
      have := ty i (by omega)
      exact ⟨rfl, rfl, this.1, this.2⟩) (fun i hi => ⟨rfl, rfl⟩) (fun i hi => lim_cells _ _ hi) (fun i hi => lim_cells _ _ hi)
  generalize inT Im ++ mTb = Tb2 at *
  generalize inM Im ++ mM = Me2 at *
  generalize (ofG Im mG) = G at *
  generalize (ofF Im mF) = Fs at *
  generalize (ofTb Im mTb) = Tb at *
  generalize (ofMe Im mM) = Me at *
  generalize (ofT T) = T' at *
  generalize (inF Im).length = nF at *
  generalize (inG Im).length = nG at *
  generalize hcc : decide ((mC.length : Int) > 0) = cc at *
  refine d_callx [] [] [T, Im, mF, mTb, mM, mG, mE, mS, mEl, mC, mD, mN] _ e3_10 rfl rfl rfl q1 rfl ?_
  refine d_callx [] [] [T, Im, mF, mTb, mM, mG, mE, mS, mEl, mC, mD, mN] _ e3_11 rfl rfl rfl q2 rfl ?_
  refine d_itF rfl ?_
  show Vx.T.den _ _ [(nF : Int), (nG : Int), (mEl.length : Int), (mD.length : Int), 0, 0] [true, true, cc] [T, Im, mF, mTb, mM, mG, mE, mS, mEl, mC, mD, mN, T', Fs, G, Tb, Me] = _
  have key : ∀ {a b : Vx.T}, a = .call 13 [] [.t false] [.v 0, .v 1, .v 2, .v 3, .v 4, .v 5, .v 6, .v 7, .v 8, .v 9, .v 10, .v 11] 4 1 5 (.call 12 [.iv 0, .iv 1, .iv 2, .iv 3, .iv 6, .iv 7, .iv 8, .iv 9] [.bv 2, .bv 3] [.v 12, .v 13, .v 14, .v 15, .v 16, .v 17, .v 18, .v 19, .v 20, .v 21] 0 1 0 (.ret [] [.bv 4] [])) →
      (Vx.T.ite (.cm .eql (.iv 4) (.n 0)) a b).den (Tab.fn a3) [(nF : Int), (nG : Int), (mEl.length : Int), (mD.length : Int), 0, 0] [true, true, cc] [T, Im, mF, mTb, mM, mG, mE, mS, mEl, mC, mD, mN, T', Fs, G, Tb, Me] = some (.ret ([], [true], [])) := by
    rintro a b rfl
    refine d_itT rfl ?_
    refine d_callx [] [false] [T, Im, mF, mTb, mM, mG, mE, mS, mEl, mC, mD, mN] _ e3_13 rfl rfl rfl q3 rfl ?_
    exact d_callx [(nF : Int), (nG : Int), (mEl.length : Int), (mD.length : Int), (nF : Int), (nG : Int), (mEl.length : Int), (mD.length : Int)] [cc, cc] [T', Fs, G, Tb, Me, T, Fs, G, Tb2, Me2] ([], [true], []) e3_12 rfl rfl rfl hsame rfl rfl
  exact d_both (key rfl) (d_both (key rfl) (key rfl))
end Go.Proofs.Ytkpbcfkmkgddhaa.YCtxRight
