/-
  CtxParts, of numbers and lists alone: the law answers true.
-/
import Derived.Test.YtkpbcfkmkgddhaaOfCtxCtxParts
import Derived.Test.YtkpbcfkmkgddhaaVr
namespace Go.Proofs.Ytkpbcfkmkgddhaa.YCtxParts
set_option linter.all false
open Go.Proofs.Ytkpbcfkmkgddhaa.Vx Go.Proofs.Ytkpbcfkmkgddhaa.XCtxParts Go.Proofs.Ytkpbcfkmkgddhaa.Vd Go.Proofs.Ytkpbcfkmkgddhaa.Vn Go.Proofs.Ytkpbcfkmkgddhaa.Vl Go.Proofs.Ytkpbcfkmkgddhaa.Vp Go.Proofs.Ytkpbcfkmkgddhaa.Vb Go.Proofs.Ytkpbcfkmkgddhaa.SCtxParts Go.Proofs.Ytkpbcfkmkgddhaa.Vo Go.Proofs.Ytkpbcfkmkgddhaa.OCtxParts Go.Proofs.Ytkpbcfkmkgddhaa.Vr
theorem q_awake : F8 [] [] [] = some ([], [true], []) := by kernel_rfl
theorem law {c0 c1 c2 c3 c4 c5 c6 c7 c8 c9 c10 c11 : List CT} (T Im mF mTb mM mG mE mS mEl mC mD mN : List D) (h0 : CT.wf (.sl c0) (.l T)) (h1 : CT.wf (.sl c1) (.l Im)) (h2 : CT.wf (.sl c2) (.l mF)) (h3 : CT.wf (.sl c3) (.l mTb)) (h4 : CT.wf (.sl c4) (.l mM)) (h5 : CT.wf (.sl c5) (.l mG))
    (h6 : CT.wf (.sl c6) (.l mE)) (h7 : CT.wf (.sl c7) (.l mS)) (h8 : CT.wf (.sl c8) (.l mEl)) (h9 : CT.wf (.sl c9) (.l mC)) (h10 : CT.wf (.sl c10) (.l mD)) (h11 : CT.wf (.sl c11) (.l mN)) :
    F4 [] [] [T, Im, mF, mTb, mM, mG, mE, mS, mEl, mC, mD, mN] = some ([], [true], []) := by
  clear h0 h1 h2 h3 h4 h5 h6 h7 h8 h9 h10 h11
  refine of_ret ?_
  unfold t4
  refine d_callx [] [] [] ([], [true], []) e4_8 rfl rfl rfl q_awake rfl (d_itF rfl ?_)
  obtain ⟨b, hs, hb⟩ := q_short8 (T := T) (Im := Im) (mF := mF) (mTb := mTb) (mM := mM) (mG := mG) (mE := mE) (mS := mS) (mEl := mEl) (mC := mC) (mD := mD) (mN := mN)
  refine d_callx [] [] [T, Im, mF, mTb, mM, mG, mE, mS, mEl, mC, mD, mN] ([], [b], []) e4_9 rfl rfl rfl hs rfl ?_
  cases b with
  | false => exact d_itT rfl rfl
  | true =>
  obtain ⟨⟨s0, s1, s2, s3, s4, s5, s6, s7, s8, s9, s10, s11⟩, z1, z2, z3⟩ := hb rfl
  refine d_itF rfl ?_
  have ty : tyB T := fun i hi => ⟨by have := (z1 i hi).1; omega, by have := (z1 i hi).2; omega⟩
  have hm : Mok T Im mF mTb mM mG mE mS mEl mC mD := ⟨by omega, by omega, by omega, by omega, by omega, by omega, by omega, by omega, by omega, by omega, ty, fun i hi => by have := z2 i hi; omega, fun i hi => by have := z3 i hi; omega⟩
  have hn : Mok T Im mF mTb mM mG [] [] [] mC [] := ⟨by omega, by omega, by omega, by omega, by omega, by omega, by simp, by simp, by simp, by simp, ty, fun i hi => by have := z2 i hi; omega, fun i hi => by simp at hi⟩
  have q1 := q_of (mN := mN) hm
  have q2 := q_of (mN := mN) hn
  unfold ofRes at q1 q2
  by_cases hE : ofErr T Im mF mTb mM mG mE mS mEl mD = 0
  case neg =>
    rw [if_neg hE] at q1
    refine d_callx [] [] [T, Im, mF, mTb, mM, mG, mE, mS, mEl, mC, mD, mN] _ e4_10 rfl rfl rfl q1 rfl ?_
    exact d_itT (ne_t hE) rfl
  have R := right_iff.1 hE
  have hE2 : ofErr T Im mF mTb mM mG [] [] [] [] = 0 := right_iff.2 ⟨R.im, R.fn, R.tb, R.me, R.tb1, R.me1, R.gl, fun i hi => by simp at hi, fun i hi => by simp at hi, fun i hi => by simp at hi, fun i hi => by simp at hi, R.lo⟩
  rw [if_pos hE] at q1
  rw [if_pos hE2] at q2
  have n1 : (ofF Im mF).length = (inF Im).length + mF.length := by unfold ofF; rw [List.length_append, mapN_len]
  have n2 : (ofG Im mG).length = (inG Im).length + mG.length := by unfold ofG; rw [List.length_append, mapN_len]
  have l1 := inF_le Im; have l2 := inG_le Im
  have hty : tyB (ofT T) := by
    intro i hi
    rw [ofT_len] at hi
    rw [ofT_cell0 T hi, ofT_cell1 T hi]
    exact ty i hi
  have hst : ∀ i, i < (ofF Im mF).length → stOk (ofT T) (ofF Im mF) i = true := fun i hi => right_stOk R hi
  have hel : ∀ i, i < mEl.length → ∀ k, k < ((mEl.getD i (.i 0)).cell 2).list.length → badAt (ofF Im mF).length ((mEl.getD i (.i 0)).cell 2).list k = false := by
    intro i hi k hk
    have h := R.el i hi
    unfold elE at h
    rw [orE_eq0, ite_eq0 (by decide)] at h
    rw [Bool.eq_false_iff]
    intro hbad
    have := badF_iff.2 ⟨k, hk, hbad⟩
    rw [this] at h
    exact Bool.false_ne_true h.2
  have ht1 := R.tb1
  have ht2 := R.me1
  generalize (ofG Im mG) = G at *
  generalize (ofF Im mF) = Fs at *
  generalize (ofTb Im mTb) = Tb at *
  generalize (ofMe Im mM) = Me at *
  generalize (ofT T) = T' at *
  generalize (inF Im).length = nF at *
  generalize (inG Im).length = nG at *
  generalize hcc : decide ((mC.length : Int) > 0) = cc at *
  clear R hE hE2 hm hn hb hs z1
  refine d_callx [] [] [T, Im, mF, mTb, mM, mG, mE, mS, mEl, mC, mD, mN] _ e4_10 rfl rfl rfl q1 rfl ?_
  refine d_itF rfl ?_
  refine d_callx [] [] [T, Im, mF, mTb, mM, mG, [], [], [], mC, [], mN] _ e4_10 rfl rfl rfl q2 rfl ?_
  show Vx.T.den _ _ [(nF : Int), (nG : Int), (mEl.length : Int), (mD.length : Int), 0, (nF : Int), (nG : Int), 0, 0, 0] [true, true, cc, cc] [T, Im, mF, mTb, mM, mG, mE, mS, mEl, mC, mD, mN, T', Fs, G, Tb, Me, T', Fs, G, Tb, Me] = _
  refine d_lb false (by show ((0 : Int) != 0 || ((Fs.length : Int) != (Fs.length : Int))) = false; simp) ?_
  refine d_lb false (by show ((false || decide ((Tb.length : Int) > 1)) || decide ((Me.length : Int) > 1)) = false; rw [gt_f (show (Tb.length : Int) ≤ 1 by omega), gt_f (show (Me.length : Int) ≤ 1 by omega)]; rfl) ?_
  refine d_lb false (by show (false || (arI .add .i64 (nF : Int) (mF.length : Int) != (Fs.length : Int))) = false; rw [addI (by omega) (by omega), ne_f (by omega)]; rfl) ?_
  refine d_lb false (by show (false || (arI .add .i64 (nG : Int) (mG.length : Int) != (G.length : Int))) = false; rw [addI (by omega) (by omega), ne_f (by omega)]; rfl) ?_
  refine d_itF rfl ?_
  show Vx.T.den _ _ [(nF : Int), (nG : Int), (mEl.length : Int), (mD.length : Int), 0, (nF : Int), (nG : Int), 0, 0, 0] [true, true, cc, cc, false, false, false, false] [T, Im, mF, mTb, mM, mG, mE, mS, mEl, mC, mD, mN, T', Fs, G, Tb, Me, T', Fs, G, Tb, Me] = _
  refine d_loop (fun i => ([(i : Int)], [false], [])) Fs.length (by omega) 2 ([(Fs.length : Int)], [false], []) rfl (fun i hi => ?_) (fun _ _ => rfl) ?_ rfl ?_
  · show Vx.T.den _ l4_5 [(nF : Int), (nG : Int), (mEl.length : Int), (mD.length : Int), 0, (nF : Int), (nG : Int), 0, 0, 0, (i : Int)] [true, true, cc, cc, false, false, false, false, false] [T, Im, mF, mTb, mM, mG, mE, mS, mEl, mC, mD, mN, T', Fs, G, Tb, Me, T', Fs, G, Tb, Me] = some (.nxt ([((i + 1 : Nat) : Int)], [false], []))
    unfold l4_5
    have ht := q_typeB (i0 := (nF : Int)) (i1 := (nG : Int)) (i2 := (mEl.length : Int)) (i3 := (mD.length : Int)) (f := (i : Int)) (b0 := cc) (T := T') (Fs := Fs) (G := G) (Tb := Tb) (Me := Me) hty
    rw [if_pos (by exact hst i hi)] at ht
    refine d_itT (lt_t (show (i : Int) < (Fs.length : Int) by omega)) ?_
    refine d_callx [(nF : Int), (nG : Int), (mEl.length : Int), (mD.length : Int), (i : Int)] [cc] [T', Fs, G, Tb, Me] _ e4_14 rfl rfl rfl ht rfl ?_
    refine d_itF rfl ?_
    rw [← up1 i (by omega)]; rfl
  · unfold l4_5
    exact d_itF (lt_f (show (Fs.length : Int) ≤ (Fs.length : Int) by omega)) rfl
  unfold k4_6
  refine d_rq rfl ?_
  show Vx.T.den _ _ [(nF : Int), (nG : Int), (mEl.length : Int), (mD.length : Int), 0, (nF : Int), (nG : Int), 0, 0, 0, 2, (Fs.length : Int)] [true, true, cc, cc, false, false, false, false, false] [T, Im, mF, mTb, mM, mG, mE, mS, mEl, mC, mD, mN, T', Fs, G, Tb, Me, T', Fs, G, Tb, Me] = _
  refine d_loop (fun i => ([(i : Int)], [false], [])) mEl.length (by omega) 4 ([(mEl.length : Int)], [false], []) rfl (fun i hi => ?_) (fun _ _ => rfl) ?_ rfl ?_
  · show Vx.T.den _ l4_3 [(nF : Int), (nG : Int), (mEl.length : Int), (mD.length : Int), 0, (nF : Int), (nG : Int), 0, 0, 0, 2, (Fs.length : Int), (i : Int)] [true, true, cc, cc, false, false, false, false, false, false] [T, Im, mF, mTb, mM, mG, mE, mS, mEl, mC, mD, mN, T', Fs, G, Tb, Me, T', Fs, G, Tb, Me] = some (.nxt ([((i + 1 : Nat) : Int)], [false], []))
    unfold l4_3
    refine d_itT (lt_t (show (i : Int) < (mEl.length : Int) by omega)) ?_
    have hz := z3 i hi
    have hbad := hel i hi
    obtain ⟨L, hL⟩ : ∃ L, L = ((mEl.getD i (.i 0)).cell 2).list := ⟨_, rfl⟩
    rw [← hL] at hz hbad
    refine d_loop (fun k => ([(k : Int)], [false], [])) L.length (by omega) 6 ([(L.length : Int)], [false], []) rfl (fun k hk => ?_) (fun _ _ => rfl) ?_ rfl ?_
    · show Vx.T.den _ l4_1 [(nF : Int), (nG : Int), (mEl.length : Int), (mD.length : Int), 0, (nF : Int), (nG : Int), 0, 0, 0, 2, (Fs.length : Int), (i : Int), (k : Int)] [true, true, cc, cc, false, false, false, false, false, false, false] [T, Im, mF, mTb, mM, mG, mE, mS, mEl, mC, mD, mN, T', Fs, G, Tb, Me, T', Fs, G, Tb, Me] = some (.nxt ([((k + 1 : Nat) : Int)], [false], []))
      unfold l4_1
      have hq : (decide ((k : Int) ≥ 0) && decide ((k : Int) < (L.length : Int))) = true := an_t (ge_t (by omega)) (lt_t (by omega))
      refine d_rq (ge_t (show (0 : Int) ≤ (i : Int) by omega)) (d_lst [L] (by rw [hL]; rfl) (d_itT (lt_t (show (k : Int) < (L.length : Int) by omega)) (d_lst [L] (by rw [hL]; rfl) (d_rq hq (d_rq hq ?_)))))
      have hb := hbad k hk
      unfold badAt at hb
      refine d_lb false ?_ (d_itF rfl ?_)
      · show (decide (((L.getD k (.i 0)).cell 0).int < -1) || decide (((L.getD k (.i 0)).cell 0).int ≥ (Fs.length : Int))) = false
        generalize ((L.getD k (.i 0)).cell 0).int = y at *
        unfold hasB at hb
        by_cases hy : y = -1
        · rw [lt_f (by omega), ge_f (by omega)]; rfl
        · rw [ne_t hy, Bool.true_and] at hb
          have hb : (decide (y ≥ 0) && decide (y < (Fs.length : Int))) = true := by simpa using hb
          rw [Bool.and_eq_true, decide_eq_true_eq, decide_eq_true_eq] at hb
          rw [lt_f (by omega), ge_f (by omega)]; rfl
      · rw [← up1 k (by omega)]; rfl
    · show Vx.T.den _ l4_1 [(nF : Int), (nG : Int), (mEl.length : Int), (mD.length : Int), 0, (nF : Int), (nG : Int), 0, 0, 0, 2, (Fs.length : Int), (i : Int), (L.length : Int)] [true, true, cc, cc, false, false, false, false, false, false, false] [T, Im, mF, mTb, mM, mG, mE, mS, mEl, mC, mD, mN, T', Fs, G, Tb, Me, T', Fs, G, Tb, Me] = _
      unfold l4_1
      exact d_rq (ge_t (show (0 : Int) ≤ (i : Int) by omega)) (d_lst [L] (by rw [hL]; rfl) (d_itF (lt_f (show (L.length : Int) ≤ (L.length : Int) by omega)) rfl))
    · unfold k4_2
      refine d_rq rfl ?_
      rw [← up1 i (by omega)]; rfl
  · unfold l4_3
    exact d_itF (lt_f (show (mEl.length : Int) ≤ (mEl.length : Int) by omega)) rfl
  · unfold k4_4
    exact d_rq rfl rfl
end Go.Proofs.Ytkpbcfkmkgddhaa.YCtxParts
