/-
  CtxNames, of numbers and lists alone: the law answers true.
-/
import Derived.Test.YtkpbcfkmkgddhaaOfCtxCtxNames
import Derived.Test.YtkpbcfkmkgddhaaVr
namespace Go.Proofs.Ytkpbcfkmkgddhaa.YCtxNames
set_option linter.all false
open Go.Proofs.Ytkpbcfkmkgddhaa.Vx Go.Proofs.Ytkpbcfkmkgddhaa.XCtxNames Go.Proofs.Ytkpbcfkmkgddhaa.Vd Go.Proofs.Ytkpbcfkmkgddhaa.Vn Go.Proofs.Ytkpbcfkmkgddhaa.Vl Go.Proofs.Ytkpbcfkmkgddhaa.Vp Go.Proofs.Ytkpbcfkmkgddhaa.Vb Go.Proofs.Ytkpbcfkmkgddhaa.SCtxNames Go.Proofs.Ytkpbcfkmkgddhaa.Vo Go.Proofs.Ytkpbcfkmkgddhaa.OCtxNames Go.Proofs.Ytkpbcfkmkgddhaa.Vr
theorem q_awake : F8 [] [] [] = some ([], [true], []) := by kernel_rfl
theorem modify_last (f : D → D) (z : D) : ∀ A : List D, (A ++ [z]).modify A.length f = A ++ [f z]
  | [] => rfl
  | a :: A => by
    show a :: (A ++ [z]).modify A.length f = _
    rw [modify_last f z A]; rfl
theorem exName_l {mE : List D} {x : D} {i : Nat} (h : i < mE.length) : exName (mE ++ [x]) i = exName mE i := by unfold exName; rw [get_l h]
theorem exName_r {mE : List D} {x : D} : exName (mE ++ [x]) mE.length = (x.cell 0).list := by
  unfold exName
  rw [show (mE ++ [x]).getD mE.length (.i 0) = x from get_r (A := mE) (B := [x]) (i := 0)]
theorem dup_l {mE : List D} {x : D} {i : Nat} (h : i < mE.length) : dupB (mE ++ [x]) i = dupB mE i := by
  rw [Bool.eq_iff_iff, dupB_iff, dupB_iff]
  constructor
  · rintro ⟨k, h1, h2⟩; rw [exName_l (by omega), exName_l h] at h2; exact ⟨k, h1, h2⟩
  · rintro ⟨k, h1, h2⟩; rw [← exName_l (mE := mE) (x := x) (by omega), ← exName_l (mE := mE) (x := x) h] at h2; exact ⟨k, h1, h2⟩
theorem exE_l {nF nT nM nG : Int} {mE : List D} {x : D} {i : Nat} (h : i < mE.length) : exE nF nT nM nG (mE ++ [x]) i = exE nF nT nM nG mE i := by
  unfold exE; rw [dup_l h, get_l h]
theorem exE_r {nF nT nM nG : Int} {mE : List D} {x : D} : exE nF nT nM nG (mE ++ [x]) mE.length = orE (if (!dupB (mE ++ [x]) mE.length) = true then 0 else 8) (if exOk nF nT nM nG x = true then 0 else 7) := by
  unfold exE
  rw [show (mE ++ [x]).getD mE.length (.i 0) = x from get_r (A := mE) (B := [x]) (i := 0)]
/-- One more export of a name that is there. -/
theorem twice {T Im mF mTb mM mG mE mS mEl mD : List D} (R : Right T Im mF mTb mM mG mE mS mEl mD) (x : D) {i : Nat} (hi : i < mE.length) (hx : (x.cell 0).list = exName mE i) : ofErr T Im mF mTb mM mG (mE ++ [x]) mS mEl mD = 8 := by
  have h0 := right_iff.2 R
  unfold ofErr at h0 ⊢
  rw [errN_eq0, errN_eq0, errN_eq0, errN_eq0, errN_eq0] at h0
  obtain ⟨⟨⟨⟨⟨h1, h2⟩, _⟩, _⟩, _⟩, _⟩ := h0
  rw [errN_or (loE (ofT T) mF), errN_or (daE _ _ _ _), errN_or (elE _ _ _ _ _), errN_or (stE _ _ _), h1]
  have hd : dupB (mE ++ [x]) mE.length = true := dupB_iff.2 ⟨i, hi, by rw [exName_l hi, exName_r, hx]⟩
  have e8 : errN (exE (ofF Im mF).length (ofTb Im mTb).length (ofMe Im mM).length (ofG Im mG).length (mE ++ [x])) 0 (mE ++ [x]).length = 8 := by
    rw [List.length_append, show mE.length + [x].length = mE.length + 1 from rfl, errN]
    rw [errN_eq0.2 ⟨rfl, fun k hk => by rw [exE_l hk]; exact h2 k hk⟩, exE_r, hd, orE_zero]
    exact orE_l _ (by decide)
  rw [e8]
  rw [orE_l (a := 8) _ (by decide), orE_l (a := 8) _ (by decide), orE_l (a := 8) _ (by decide), orE_l (a := 8) _ (by decide)]
/-- One more export of another name. -/
theorem other {T Im mF mTb mM mG mE mS mEl mD : List D} (R : Right T Im mF mTb mM mG mE mS mEl mD) (x : D) {i : Nat} (hi : i < mE.length) (hn : ∀ k, k < mE.length → exName mE k ≠ (x.cell 0).list) (h1 : (x.cell 1).int = ((mE.getD i (.i 0)).cell 1).int) (h2 : (x.cell 2).int = ((mE.getD i (.i 0)).cell 2).int) :
    Right T Im mF mTb mM mG (mE ++ [x]) mS mEl mD := by
  refine ⟨R.im, R.fn, R.tb, R.me, R.tb1, R.me1, R.gl, fun k hk => ?_, R.st, R.el, R.da, R.lo⟩
  rw [List.length_append, List.length_singleton] at hk
  by_cases e : k < mE.length
  · rw [exE_l e]; exact R.ex k e
  · obtain rfl : k = mE.length := by omega
    have hr := R.ex i hi
    unfold exE at hr
    rw [orE_eq0, ite_eq0 (by decide), ite_eq0 (by decide)] at hr
    have hd : dupB (mE ++ [x]) mE.length = false := by
      rw [Bool.eq_false_iff]
      intro h
      obtain ⟨j, j1, j2⟩ := dupB_iff.1 h
      rw [exName_l j1, exName_r] at j2
      exact hn j j1 j2
    have ho : exOk (ofF Im mF).length (ofTb Im mTb).length (ofMe Im mM).length (ofG Im mG).length x = true := by
      have := hr.2
      unfold exOk at this ⊢
      rw [h1, h2]; exact this
    rw [exE_r, hd, ho]; rfl
theorem law {c0 c1 c2 c3 c4 c5 c6 c7 c8 c9 c10 c11 : List CT} (i : Int) (T Im mF mTb mM mG mE mS mEl mC mD mN nm : List D) (h0 : CT.wf (.sl c0) (.l T)) (h1 : CT.wf (.sl c1) (.l Im)) (h2 : CT.wf (.sl c2) (.l mF)) (h3 : CT.wf (.sl c3) (.l mTb)) (h4 : CT.wf (.sl c4) (.l mM)) (h5 : CT.wf (.sl c5) (.l mG))
    (h6 : CT.wf (.sl c6) (.l mE)) (h7 : CT.wf (.sl c7) (.l mS)) (h8 : CT.wf (.sl c8) (.l mEl)) (h9 : CT.wf (.sl c9) (.l mC)) (h10 : CT.wf (.sl c10) (.l mD)) (h11 : CT.wf (.sl c11) (.l mN)) (hi0 : (Lit.int .i64 i).wf = true) (h12 : CT.wf .s (.l nm)) :
    F5 [i] [] [T, Im, mF, mTb, mM, mG, mE, mS, mEl, mC, mD, mN, nm] = some ([], [true], []) := by
  clear h0 h1 h2 h3 h4 h5 h6 h7 h8 h9 h10 h11 hi0 h12
  refine of_ret ?_
  unfold t5
  refine d_callx [] [] [] ([], [true], []) e5_8 rfl rfl rfl q_awake rfl (d_itF rfl ?_)
  obtain ⟨b, hs, hb⟩ := q_short8 (T := T) (Im := Im) (mF := mF) (mTb := mTb) (mM := mM) (mG := mG) (mE := mE) (mS := mS) (mEl := mEl) (mC := mC) (mD := mD) (mN := mN)
  refine d_callx [] [] [T, Im, mF, mTb, mM, mG, mE, mS, mEl, mC, mD, mN] ([], [b], []) e5_9 rfl rfl rfl hs rfl ?_
  by_cases hg : (!b || decide (i < 0) || decide (i ≥ (mE.length : Int))) = true
  · exact d_lb true hg (d_itT rfl rfl)
  have hg := Bool.eq_false_iff.2 hg
  refine d_lb false hg (d_itF rfl ?_)
  rw [Bool.or_eq_false_iff, Bool.or_eq_false_iff, decide_eq_false_iff_not, decide_eq_false_iff_not] at hg
  obtain ⟨⟨hb1, hi0⟩, hi1⟩ := hg
  obtain rfl : b = true := by simpa using hb1
  obtain ⟨⟨s0, s1, s2, s3, s4, s5, s6, s7, s8, s9, s10, s11⟩, z1, z2, z3⟩ := hb rfl
  have ty : tyB T := fun i hi => ⟨by have := (z1 i hi).1; omega, by have := (z1 i hi).2; omega⟩
  have hm : Mok T Im mF mTb mM mG mE mS mEl mC mD := ⟨by omega, by omega, by omega, by omega, by omega, by omega, by omega, by omega, by omega, by omega, ty, fun i hi => by have := z2 i hi; omega, fun i hi => by have := z3 i hi; omega⟩
  have hmm : ∀ x, Mok T Im mF mTb mM mG (mE ++ [x]) mS mEl mC mD := fun x => ⟨by omega, by omega, by omega, by omega, by omega, by omega, by rw [List.length_append, List.length_singleton]; omega, by omega, by omega, by omega, ty, hm.lo, hm.el⟩
  have q1 := q_of (mN := mN) hm
  unfold ofRes at q1
  by_cases hE : ofErr T Im mF mTb mM mG mE mS mEl mD = 0
  case neg =>
    rw [if_neg hE] at q1
    refine d_callx [] [] [T, Im, mF, mTb, mM, mG, mE, mS, mEl, mC, mD, mN] _ e5_10 rfl rfl rfl q1 rfl ?_
    exact d_itT (ne_t hE) rfl
  have R := right_iff.1 hE
  rw [if_pos hE] at q1
  obtain ⟨j, rfl⟩ : ∃ j : Nat, i = j := ⟨i.toNat, by omega⟩
  have hj : j < mE.length := by omega
  obtain ⟨x, hx⟩ : ∃ x : D, x = .st [.l (exName mE j), .i ((mE.getD j (.i 0)).cell 1).int, .i ((mE.getD j (.i 0)).cell 2).int] := ⟨_, rfl⟩
  obtain ⟨y, hy⟩ : ∃ y : D, y = .st [.l nm, .i ((mE.getD j (.i 0)).cell 1).int, .i ((mE.getD j (.i 0)).cell 2).int] := ⟨_, rfl⟩
  have q2 := q_of (mN := mN) (hmm x)
  have q3 := q_of (mN := mN) (hmm y)
  unfold ofRes at q2 q3
  rw [if_neg (by rw [twice R x hj (by rw [hx]; rfl)]; decide), twice R x hj (by rw [hx]; rfl)] at q2
  have hup : ∀ z : D, z = x → (mE ++ [z]).modify (mE.length : Int).toNat (fun d => d.put 3 0 [.l nm]) = mE ++ [y] := by
    rintro z rfl
    rw [Int.toNat_natCast, modify_last, hx, hy]
    rfl
  generalize (ofG Im mG) = G at *
  generalize (ofF Im mF) = Fs at *
  generalize (ofTb Im mTb) = Tb at *
  generalize (ofMe Im mM) = Me at *
  generalize (ofT T) = T' at *
  generalize (inF Im).length = nF at *
  generalize (inG Im).length = nG at *
  generalize hcc : decide ((mC.length : Int) > 0) = cc at *
  refine d_callx [] [] [T, Im, mF, mTb, mM, mG, mE, mS, mEl, mC, mD, mN] _ e5_10 rfl rfl rfl q1 rfl ?_
  refine d_itF rfl ?_
  have hq : (decide ((j : Int) ≥ 0) && decide ((j : Int) < (mE.length : Int))) = true := an_t (ge_t (by omega)) (lt_t (by omega))
  refine d_rq hq (d_rq hq (d_lst [exName mE j] rfl ?_))
  show Vx.T.den _ _ [(j : Int), (nF : Int), (nG : Int), (mEl.length : Int), (mD.length : Int), 0] [true, true, false, cc] [T, Im, mF, mTb, mM, mG, mE, mS, mEl, mC, mD, mN, nm, T', Fs, G, Tb, Me, exName mE j] = _
  have key : ∀ (u v w : List D) (body k : Vx.T) (le : Vx.LE), (body = l5_1 ∧ k = k5_2 ∨ body = l5_3 ∧ k = k5_4 ∨ body = l5_5 ∧ k = k5_6) →
      le.L [(j : Int), (nF : Int), (nG : Int), (mEl.length : Int), (mD.length : Int), 0, 0, 0, 0, 0, 8] [true, true, false, cc, false] [T, Im, mF, mTb, mM, mG, mE, mS, mEl, mC, mD, mN, nm, T', Fs, G, Tb, Me, exName mE j, u, v, w, mE ++ [x], [], [], [], [], []] = [x] →
      (Vx.T.call 10 [] [] [.v 0, .v 1, .v 2, .v 3, .v 4, .v 5, .v 22, .v 7, .v 8, .v 9, .v 10, .v 11] 5 1 5 (.lp [.n 0] [.t false] [le] 1 1 1 body k)).den (Tab.fn a5) [(j : Int), (nF : Int), (nG : Int), (mEl.length : Int), (mD.length : Int), 0] [true, true, false, cc] [T, Im, mF, mTb, mM, mG, mE, mS, mEl, mC, mD, mN, nm, T', Fs, G, Tb, Me, exName mE j, u, v, w, mE ++ [x]] = some (.ret ([], [true], [])) := by
    intro u v w body k le hbk hle
    refine d_callx [] [] [T, Im, mF, mTb, mM, mG, mE ++ [x], mS, mEl, mC, mD, mN] ([0, 0, 0, 0, 8], [false], [[], [], [], [], []]) e5_10 rfl rfl rfl q2 rfl ?_
    show Vx.T.den _ _ [(j : Int), (nF : Int), (nG : Int), (mEl.length : Int), (mD.length : Int), 0, 0, 0, 0, 0, 8] [true, true, false, cc, false] [T, Im, mF, mTb, mM, mG, mE, mS, mEl, mC, mD, mN, nm, T', Fs, G, Tb, Me, exName mE j, u, v, w, mE ++ [x], [], [], [], [], []] = _
    refine d_findR (fun q => ([(q : Int)], [false], [[x]])) mE.length (by omega) (fun q => D.sameL (exName mE q) nm) (by show (([(0 : Int)], [false], [le.L _ _ _]) : Vx.R) = _; rw [hle]; rfl) (fun _ => ([], [true], [])) 2 ([(mE.length : Int)], [false], [[x]]) (fun q hq hp => ?_) (fun _ _ => rfl) (fun q hq hp => ?_) ?_ rfl (fun _ _ _ _ => rfl) (fun hp => ?_)
    · show Vx.T.den _ body [(j : Int), (nF : Int), (nG : Int), (mEl.length : Int), (mD.length : Int), 0, 0, 0, 0, 0, 8, (q : Int)] [true, true, false, cc, false, false] [T, Im, mF, mTb, mM, mG, mE, mS, mEl, mC, mD, mN, nm, T', Fs, G, Tb, Me, exName mE j, u, v, w, mE ++ [x], [], [], [], [], [], [x]] = _
      rw [← up1 q (by omega)]
      rcases hbk with ⟨rfl, rfl⟩ | ⟨rfl, rfl⟩ | ⟨rfl, rfl⟩
      · exact d_itT (lt_t (show (q : Int) < (mE.length : Int) by omega)) (d_rq (ge_t (show (0 : Int) ≤ (q : Int) by omega)) (d_lst [exName mE q] rfl (d_itF hp rfl)))
      · exact d_itT (lt_t (show (q : Int) < (mE.length : Int) by omega)) (d_rq (ge_t (show (0 : Int) ≤ (q : Int) by omega)) (d_lst [exName mE q] rfl (d_itF hp rfl)))
      · exact d_itT (lt_t (show (q : Int) < (mE.length : Int) by omega)) (d_rq (ge_t (show (0 : Int) ≤ (q : Int) by omega)) (d_lst [exName mE q] rfl (d_itF hp rfl)))
    · show Vx.T.den _ body [(j : Int), (nF : Int), (nG : Int), (mEl.length : Int), (mD.length : Int), 0, 0, 0, 0, 0, 8, (q : Int)] [true, true, false, cc, false, false] [T, Im, mF, mTb, mM, mG, mE, mS, mEl, mC, mD, mN, nm, T', Fs, G, Tb, Me, exName mE j, u, v, w, mE ++ [x], [], [], [], [], [], [x]] = _
      rcases hbk with ⟨rfl, rfl⟩ | ⟨rfl, rfl⟩ | ⟨rfl, rfl⟩
      · exact d_itT (lt_t (show (q : Int) < (mE.length : Int) by omega)) (d_rq (ge_t (show (0 : Int) ≤ (q : Int) by omega)) (d_lst [exName mE q] rfl (d_itT hp (d_rt rfl))))
      · exact d_itT (lt_t (show (q : Int) < (mE.length : Int) by omega)) (d_rq (ge_t (show (0 : Int) ≤ (q : Int) by omega)) (d_lst [exName mE q] rfl (d_itT hp (d_rt rfl))))
      · exact d_itT (lt_t (show (q : Int) < (mE.length : Int) by omega)) (d_rq (ge_t (show (0 : Int) ≤ (q : Int) by omega)) (d_lst [exName mE q] rfl (d_itT hp (d_rt rfl))))
    · rcases hbk with ⟨rfl, rfl⟩ | ⟨rfl, rfl⟩ | ⟨rfl, rfl⟩
      · exact d_itF (lt_f (show (mE.length : Int) ≤ (mE.length : Int) by omega)) rfl
      · exact d_itF (lt_f (show (mE.length : Int) ≤ (mE.length : Int) by omega)) rfl
      · exact d_itF (lt_f (show (mE.length : Int) ≤ (mE.length : Int) by omega)) rfl
    · have hR := right_iff.2 (other R y hj (fun q hq e => Bool.false_ne_true ((hp q hq).symm.trans (D.sameL_iff.2 (e.trans (by rw [hy]; rfl))))) (by rw [hy]; rfl) (by rw [hy]; rfl))
      rw [if_pos hR] at q3
      have hlen : (mE ++ [x]).length = mE.length + 1 := by rw [List.length_append]; rfl
      have hq2 : (decide ((mE.length : Int) ≥ 0) && decide ((mE.length : Int) < ((mE ++ [x]).length : Int))) = true := an_t (ge_t (by omega)) (lt_t (by rw [hlen]; omega))
      show Vx.T.den _ k [(j : Int), (nF : Int), (nG : Int), (mEl.length : Int), (mD.length : Int), 0, 0, 0, 0, 0, 8, 2, (mE.length : Int)] [true, true, false, cc, false, false] [T, Im, mF, mTb, mM, mG, mE, mS, mEl, mC, mD, mN, nm, T', Fs, G, Tb, Me, exName mE j, u, v, w, mE ++ [x], [], [], [], [], [], [x]] = _
      rcases hbk with ⟨rfl, rfl⟩ | ⟨rfl, rfl⟩ | ⟨rfl, rfl⟩
      all_goals
        refine d_rq rfl (d_rq hq2 (d_rq hq2 (d_rq hq2 (d_lst [mE ++ [y]] (congrArg (fun z => [z]) (hup x rfl)) ?_))))
        exact d_callx [] [] [T, Im, mF, mTb, mM, mG, mE ++ [y], mS, mEl, mC, mD, mN] _ e5_10 rfl rfl rfl q3 rfl (d_lb true rfl rfl)
  have hsz : (mE.length : Int) ≤ 1066193093600 := by omega
  refine d_both (d_lst [[]] rfl (d_both ?_ ?_)) ?_
  · exact d_rq (an_t rfl (le_t hsz)) (d_lst [mE] rfl (d_lst [[x]] (by rw [hx]; rfl) (d_rq (an_t (le_t hsz) rfl) (d_lst [mE ++ [x]] rfl (key _ _ _ _ _ _ (.inl ⟨rfl, rfl⟩) rfl)))))
  · exact d_lst [[x]] (by rw [hx]; rfl) (d_rq (an_t rfl (le_t hsz)) (d_lst [mE] rfl (d_rq (an_t (le_t hsz) rfl) (d_lst [mE ++ [x]] rfl (key _ _ _ _ _ _ (.inr (.inl ⟨rfl, rfl⟩)) rfl)))))
  · exact d_lst [[x]] (by rw [hx]; rfl) (d_lst [[]] rfl (d_rq (an_t rfl (le_t hsz)) (d_lst [mE] rfl (d_rq (an_t (le_t hsz) rfl) (d_lst [mE ++ [x]] rfl (key _ _ _ _ _ _ (.inr (.inr ⟨rfl, rfl⟩)) rfl))))))
end Go.Proofs.Ytkpbcfkmkgddhaa.YCtxNames
