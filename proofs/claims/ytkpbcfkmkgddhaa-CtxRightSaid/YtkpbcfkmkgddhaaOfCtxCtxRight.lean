/-
  CtxRight: what ctx.Of answers: the first error, or the context.
-/
import Derived.Test.YtkpbcfkmkgddhaaSCtxRight
import Derived.Test.YtkpbcfkmkgddhaaVo
namespace Go.Proofs.Ytkpbcfkmkgddhaa.OCtxRight
set_option linter.all false
open Go.Proofs.Ytkpbcfkmkgddhaa.Vx Go.Proofs.Ytkpbcfkmkgddhaa.XCtxRight Go.Proofs.Ytkpbcfkmkgddhaa.Vd Go.Proofs.Ytkpbcfkmkgddhaa.Vn Go.Proofs.Ytkpbcfkmkgddhaa.Vl Go.Proofs.Ytkpbcfkmkgddhaa.Vp Go.Proofs.Ytkpbcfkmkgddhaa.Vb Go.Proofs.Ytkpbcfkmkgddhaa.SCtxRight Go.Proofs.Ytkpbcfkmkgddhaa.Vo
theorem d_bothS {C : Nat → Vx.Fn} {a : Vx.T} {is bs ls} {o : Out} (h : a.den C is bs ls = some o) : (Vx.T.both a a).den C is bs ls = some o := d_both h h
def limD (x : D) (j : Nat) : D := .st [.i (x.cell j).int, .b (x.cell (j + 1)).bool, .i (x.cell (j + 2)).int]
def impE (Im : List D) (nT : Int) (i : Nat) : Int :=
  if ((Im.getD i (.i 0)).cell 2).int = 0 then (if hasB ((Im.getD i (.i 0)).cell 3).int nT = true then 0 else 7)
  else if ((Im.getD i (.i 0)).cell 2).int = 1 then tableE ((Im.getD i (.i 0)).cell 4).int ((Im.getD i (.i 0)).cell 6).int ((Im.getD i (.i 0)).cell 5).bool
  else if ((Im.getD i (.i 0)).cell 2).int = 2 then memoryE ((Im.getD i (.i 0)).cell 4).int ((Im.getD i (.i 0)).cell 6).int ((Im.getD i (.i 0)).cell 5).bool else 0
def impF (Im : List D) (i : Nat) : List D := if ((Im.getD i (.i 0)).cell 2).int = 0 then [.i ((Im.getD i (.i 0)).cell 3).int] else []
def impT (Im : List D) (i : Nat) : List D := if ((Im.getD i (.i 0)).cell 2).int = 1 then [limD (Im.getD i (.i 0)) 4] else []
def impM (Im : List D) (i : Nat) : List D := if ((Im.getD i (.i 0)).cell 2).int = 2 then [limD (Im.getD i (.i 0)) 4] else []
def impG (Im : List D) (i : Nat) : List D := if ((Im.getD i (.i 0)).cell 2).int = 3 then [.st [.i ((Im.getD i (.i 0)).cell 3).int, .b ((Im.getD i (.i 0)).cell 7).bool]] else []
theorem impF_le (Im : List D) (i : Nat) : (impF Im i).length ≤ 1 := by unfold impF; split <;> simp
theorem impT_le (Im : List D) (i : Nat) : (impT Im i).length ≤ 1 := by unfold impT; split <;> simp
theorem impM_le (Im : List D) (i : Nat) : (impM Im i).length ≤ 1 := by unfold impM; split <;> simp
theorem impG_le (Im : List D) (i : Nat) : (impG Im i).length ≤ 1 := by unfold impG; split <;> simp
theorem q_imports {E0 D0 x0 : Int} {c : Bool} {T Im : List D} (hIm : Im.length ≤ 4000) :
    F25 [0, 0, E0, D0, x0] [c] [T, [], [], [], [], Im] = some ([((accN (impF Im) [] Im.length).length : Int), ((accN (impG Im) [] Im.length).length : Int), E0, D0, errN (impE Im T.length) x0 Im.length], [c],
      [T, accN (impF Im) [] Im.length, accN (impG Im) [] Im.length, accN (impT Im) [] Im.length, accN (impM Im) [] Im.length]) := by
  refine of_ret ?_
  unfold t25
  refine d_loop (fun i => ([(i : Int), ((accN (impF Im) [] i).length : Int), ((accN (impG Im) [] i).length : Int), errN (impE Im T.length) x0 i], [], [accN (impF Im) [] i, accN (impG Im) [] i, accN (impT Im) [] i, accN (impM Im) [] i])) Im.length (by omega) 2
    ([(Im.length : Int), ((accN (impF Im) [] Im.length).length : Int), ((accN (impG Im) [] Im.length).length : Int), errN (impE Im T.length) x0 Im.length], [], [accN (impF Im) [] Im.length, accN (impG Im) [] Im.length, accN (impT Im) [] Im.length, accN (impM Im) [] Im.length]) rfl (fun i hi => ?_) (fun _ _ => rfl) ?_ rfl ?_
  · show Vx.T.den _ l25_1 [0, 0, E0, D0, x0, (i : Int), ((accN (impF Im) [] i).length : Int), ((accN (impG Im) [] i).length : Int), errN (impE Im T.length) x0 i] [c] [T, [], [], [], [], Im, accN (impF Im) [] i, accN (impG Im) [] i, accN (impT Im) [] i, accN (impM Im) [] i] = some (.nxt ([((i + 1 : Nat) : Int), ((accN (impF Im) [] (i + 1)).length : Int), ((accN (impG Im) [] (i + 1)).length : Int), errN (impE Im T.length) x0 (i + 1)], [], [accN (impF Im) [] (i + 1), accN (impG Im) [] (i + 1), accN (impT Im) [] (i + 1), accN (impM Im) [] (i + 1)]))
    have lF : (accN (impF Im) [] i).length ≤ 0 + i := accN_le (impF_le Im) i
    have lG : (accN (impG Im) [] i).length ≤ 0 + i := accN_le (impG_le Im) i
    have lT : (accN (impT Im) [] i).length ≤ 0 + i := accN_le (impT_le Im) i
    have lM : (accN (impM Im) [] i).length ≤ 0 + i := accN_le (impM_le Im) i
    simp only [accN, errN]
    obtain ⟨F1, gF⟩ : ∃ z, z = impF Im i := ⟨_, rfl⟩
    rw [← gF]
    obtain ⟨T1, gT⟩ : ∃ z, z = impT Im i := ⟨_, rfl⟩
    rw [← gT]
    obtain ⟨M1, gM⟩ : ∃ z, z = impM Im i := ⟨_, rfl⟩
    rw [← gM]
    obtain ⟨G1, gG⟩ : ∃ z, z = impG Im i := ⟨_, rfl⟩
    rw [← gG]
    obtain ⟨E1, gE⟩ : ∃ z, z = impE Im T.length i := ⟨_, rfl⟩
    rw [← gE]
    generalize accN (impF Im) [] i = AF at *
    generalize accN (impG Im) [] i = AG at *
    generalize accN (impT Im) [] i = AT at *
    generalize accN (impM Im) [] i = AM at *
    generalize errN (impE Im T.length) x0 i = e at *
    unfold impF at gF
    unfold impT at gT
    unfold impM at gM
    unfold impG at gG
    unfold impE at gE
    unfold l25_1
    refine d_itT (lt_t (show (i : Int) < (Im.length : Int) by omega)) (d_rq (ge_t (show (0 : Int) ≤ (i : Int) by omega)) (d_lst [((Im.getD i (.i 0)).cell 0).list, ((Im.getD i (.i 0)).cell 1).list] rfl ?_))
    obtain ⟨x, hx⟩ : ∃ x, x = Im.getD i (.i 0) := ⟨_, rfl⟩
    rw [← hx] at gF gT gM gG gE
    by_cases h0 : (x.cell 2).int = 0
    · rw [if_pos h0] at gE gF
      rw [if_neg (by omega)] at gT gM gG
      subst gF gT gM gG gE
      refine d_itT (eq_t (by rw [hx] at h0; exact h0)) ?_
      refine d_callx [(x.cell 3).int, (T.length : Int)] [] [] ([], [hasB (x.cell 3).int (T.length : Int)], []) e25_30 (by rw [hx]; rfl) rfl rfl (q_has _ _) rfl ?_
      refine d_ite (fun h => ?_) fun h => ?_
      all_goals
        have h : (!hasB (x.cell 3).int (T.length : Int) && (e == 0)) = _ := h
        refine d_lst [[.i (x.cell 3).int]] (by rw [hx]; rfl) (d_rq (an_t (le_t (show (AF.length : Int) ≤ 3909374676536 by omega)) rfl) (d_lst [AF ++ [.i (x.cell 3).int]] rfl ?_))
        simp only [List.append_nil, List.length_append]
      · rw [wantT 7 h, ← up1 i (by omega), show ((AF.length + [D.i (x.cell 3).int].length : Nat) : Int) = arI .add .i64 (AF.length : Int) 1 from (up1 _ (by omega)).symm]
        rfl
      · rw [wantF 7 h, ← up1 i (by omega), show ((AF.length + [D.i (x.cell 3).int].length : Nat) : Int) = arI .add .i64 (AF.length : Int) 1 from (up1 _ (by omega)).symm]
        rfl
    rw [if_neg h0] at gE gF
    refine d_itF (eq_f (by rw [hx] at h0; exact h0)) ?_
    by_cases h1 : (x.cell 2).int = 1
    · rw [if_pos h1] at gE gT
      rw [if_neg (by omega)] at gM gG
      subst gF gT gM gG gE
      refine d_itT (eq_t (by rw [hx] at h1; exact h1)) ?_
      refine d_callx [(x.cell 4).int, (x.cell 6).int] [(x.cell 5).bool] [] _ e25_38 (by rw [hx]; rfl) (by rw [hx]; rfl) rfl (q_table _ _ _) rfl ?_
      refine d_callx [(x.cell 4).int, (x.cell 6).int] [(x.cell 5).bool] [] _ e25_38 (by rw [hx]; rfl) (by rw [hx]; rfl) rfl (q_table _ _ _) rfl ?_
      generalize tableE (x.cell 4).int (x.cell 6).int (x.cell 5).bool = q
      refine d_lb (!(q == 0) && (e == 0)) rfl ?_
      refine d_ite (fun h => ?_) fun h => ?_
      all_goals
        have h : (!(q == 0) && (e == 0)) = _ := h
        refine d_lst [[limD x 4]] (by rw [hx]; rfl) (d_rq (an_t (le_t (show (AT.length : Int) ≤ 1407374883553 by omega)) rfl) (d_lst [AT ++ [limD x 4]] rfl ?_))
        simp only [List.append_nil, ← up1 i (by omega)]
      · rw [wantET h]; rfl
      · rw [wantEF h]; rfl
    rw [if_neg h1] at gE gT
    refine d_itF (eq_f (by rw [hx] at h1; exact h1)) ?_
    by_cases h2 : (x.cell 2).int = 2
    · rw [if_pos h2] at gE gM
      rw [if_neg (by omega)] at gG
      subst gF gT gM gG gE
      refine d_itT (eq_t (by rw [hx] at h2; exact h2)) ?_
      refine d_callx [(x.cell 4).int, (x.cell 6).int] [(x.cell 5).bool] [] _ e25_39 (by rw [hx]; rfl) (by rw [hx]; rfl) rfl (q_memory _ _ _) rfl ?_
      refine d_callx [(x.cell 4).int, (x.cell 6).int] [(x.cell 5).bool] [] _ e25_39 (by rw [hx]; rfl) (by rw [hx]; rfl) rfl (q_memory _ _ _) rfl ?_
      generalize memoryE (x.cell 4).int (x.cell 6).int (x.cell 5).bool = q
      refine d_lb (!(q == 0) && (e == 0)) rfl ?_
      refine d_ite (fun h => ?_) fun h => ?_
      all_goals
        have h : (!(q == 0) && (e == 0)) = _ := h
        refine d_lst [[limD x 4]] (by rw [hx]; rfl) (d_rq (an_t (le_t (show (AM.length : Int) ≤ 1407374883553 by omega)) rfl) (d_lst [AM ++ [limD x 4]] rfl ?_))
        simp only [List.append_nil, ← up1 i (by omega)]
      · rw [wantET h]; rfl
      · rw [wantEF h]; rfl
    rw [if_neg h2] at gE gM
    refine d_itF (eq_f (by rw [hx] at h2; exact h2)) ?_
    by_cases h3 : (x.cell 2).int = 3
    · rw [if_pos h3] at gG
      subst gF gT gM gG gE
      refine d_itT (eq_t (by rw [hx] at h3; exact h3)) ?_
      refine d_lst [[.st [.i (x.cell 3).int, .b (x.cell 7).bool]]] (by rw [hx]; rfl) (d_rq (an_t (le_t (show (AG.length : Int) ≤ 2069668946401 by omega)) rfl) (d_lst [AG ++ [.st [.i (x.cell 3).int, .b (x.cell 7).bool]]] rfl ?_))
      simp only [List.append_nil, List.length_append]
      rw [← up1 i (by omega), show ((AG.length + [D.st [.i (x.cell 3).int, .b (x.cell 7).bool]].length : Nat) : Int) = arI .add .i64 (AG.length : Int) 1 from (up1 _ (by omega)).symm, orE_z]
      rfl
    · rw [if_neg h3] at gG
      subst gF gT gM gG gE
      refine d_itF (eq_f (by rw [hx] at h3; exact h3)) ?_
      simp only [List.append_nil]
      rw [← up1 i (by omega), orE_z]
      rfl
  · unfold l25_1
    exact d_itF (lt_f (show (Im.length : Int) ≤ (Im.length : Int) by omega)) rfl
  · unfold k25_2
    exact d_rq rfl rfl
/-! own -/
def fnE (mF : List D) (nT : Int) (i : Nat) : Int := if hasB ((mF.getD i (.i 0)).cell 0).int nT = true then 0 else 7
def fnD (mF : List D) (i : Nat) : D := .i ((mF.getD i (.i 0)).cell 0).int
def tbE (mT : List D) (i : Nat) : Int := tableE ((mT.getD i (.i 0)).cell 0).int ((mT.getD i (.i 0)).cell 2).int ((mT.getD i (.i 0)).cell 1).bool
def meE (mM : List D) (i : Nat) : Int := memoryE ((mM.getD i (.i 0)).cell 0).int ((mM.getD i (.i 0)).cell 2).int ((mM.getD i (.i 0)).cell 1).bool
def lmD (mT : List D) (i : Nat) : D := limD (mT.getD i (.i 0)) 0
def glE (V : Int) (G mG : List D) (i : Nat) : Int := if constB V G ((mG.getD i (.i 0)).cell 2).list ((mG.getD i (.i 0)).cell 0).int = true then 0 else 6
def glD (mG : List D) (i : Nat) : D := .st [.i ((mG.getD i (.i 0)).cell 0).int, .b ((mG.getD i (.i 0)).cell 1).bool]
def many (l : List D) (e : Int) : Int := if decide ((l.length : Int) ≤ 1) = true then 0 else e
theorem constB_app {V : Int} {G X L : List D} {t : Int} (h : V ≤ G.length) : constB V (G ++ X) L t = constB V G L t := by
  unfold constB
  rw [show min V (((G ++ X).length : Nat) : Int) = min V (G.length : Int) by rw [List.length_append]; omega]
  split
  · split
    · rfl
    · split
      · rfl
      · split
        · rename_i h1
          have h2 := h1.2
          simp only [hasB, Bool.and_eq_true, decide_eq_true_eq] at h2
          rw [get_l (by omega)]
        · rfl
  · rfl
theorem own_gl {i0 V i2 i3 x0 a5 a6 a7 a8 a9 a10 a11 a12 e : Int} {c : Bool} {T Fs G Tb Me mT mI mF mTb mM mG mE mS mEl mC mD mN Fs' Tb' Me' : List D} {body k : Vx.T} {bs : List Bool} {ex : E} (hb : (body = l26_1 ∧ k = k26_2 ∧ bs = [c, true]) ∨ (body = l26_3 ∧ k = k26_4 ∧ bs = [c, false, true]) ∨ (body = l26_5 ∧ k = k26_6 ∧ bs = [c, false, false]))
    (hV : V ≤ G.length) (hG : G.length ≤ 10000) (hm : mG.length ≤ 4000) {e13 : Int} (hx : ex.I [i0, V, i2, i3, x0, a5, a6, a7, a8, a9, a10, a11, a12, e13] bs [T, Fs, G, Tb, Me, mT, mI, mF, mTb, mM, mG, mE, mS, mEl, mC, mD, mN, Fs', Tb', Me'] = e) :
    (Vx.T.lp [.n 0, ex] [] [.v 2] 2 0 1 body k).den (Tab.fn a26) [i0, V, i2, i3, x0, a5, a6, a7, a8, a9, a10, a11, a12, e13] bs [T, Fs, G, Tb, Me, mT, mI, mF, mTb, mM, mG, mE, mS, mEl, mC, mD, mN, Fs', Tb', Me'] =
      some (.ret ([i0, V, i2, i3, errN (glE V G mG) e mG.length], [c], [T, Fs', G ++ mapN (glD mG) mG.length, Tb', Me'])) := by
  refine d_loop (fun i => ([(i : Int), errN (glE V G mG) e i], [], [G ++ mapN (glD mG) i])) mG.length (by omega) 8 ([(mG.length : Int), errN (glE V G mG) e mG.length], [], [G ++ mapN (glD mG) mG.length]) ?_ (fun i hi => ?_) (fun _ _ => rfl) ?_ rfl ?_
  · show (([(0 : Int), ex.I _ _ _], [], [G]) : Vx.R) = ([(0 : Int), e], [], [G ++ []])
    rw [hx, List.append_nil]
  · show Vx.T.den _ body [i0, V, i2, i3, x0, a5, a6, a7, a8, a9, a10, a11, a12, e13, (i : Int), errN (glE V G mG) e i] (bs ++ []) [T, Fs, G, Tb, Me, mT, mI, mF, mTb, mM, mG, mE, mS, mEl, mC, mD, mN, Fs', Tb', Me', G ++ mapN (glD mG) i] = some (.nxt ([((i + 1 : Nat) : Int), errN (glE V G mG) e (i + 1)], [], [G ++ mapN (glD mG) (i + 1)]))
    rw [List.append_nil, ← mapN_succ]
    have hl : (G ++ mapN (glD mG) i).length ≤ 14000 := by rw [List.length_append, mapN_len]; omega
    have hc := constB_app (V := V) (G := G) (X := mapN (glD mG) i) (L := ((mG.getD i (.i 0)).cell 2).list) (t := ((mG.getD i (.i 0)).cell 0).int) hV
    simp only [errN]
    obtain ⟨E1, gE⟩ : ∃ z, z = glE V G mG i := ⟨_, rfl⟩
    rw [← gE]
    unfold glE at gE
    rw [← hc] at gE
    generalize G ++ mapN (glD mG) i = AG at *
    generalize errN (glE V G mG) e i = q at *
    have key : ∀ n, (n = 2 ∨ n = 3) → bs.length = n → body = (.ite (.cm .lss (.iv 14) (.ln 10)) (.rq (.cm .geq (.iv 14) (.n 0)) (.lst [(.cl 10 (.iv 14) 2)] (.call 20 [(.iv 0), (.iv 1), (.iv 2), (.iv 3), (.ix 10 (.iv 14) 0)] [(.bv 0)] [(.v 0), (.v 17), (.v 20), (.v 18), (.v 19), (.v 21)] 0 1 0 (.ite (.an (.nt (.bv n)) (.cm .eql (.iv 15) (.n 0))) b26_1 b26_2)))) (.brk 8 [(.iv 14), (.iv 15)] [] [(.v 20)])) → bs.getD 0 false = c →
        Vx.T.den (Tab.fn a26) body [i0, V, i2, i3, x0, a5, a6, a7, a8, a9, a10, a11, a12, e13, (i : Int), q] bs [T, Fs, G, Tb, Me, mT, mI, mF, mTb, mM, mG, mE, mS, mEl, mC, mD, mN, Fs', Tb', Me', AG] = some (.nxt ([((i + 1 : Nat) : Int), orE q E1], [], [AG ++ [glD mG i]])) := by
      intro n _ hn hbo hb0
      subst hbo
      refine d_itT (lt_t (show (i : Int) < (mG.length : Int) by omega)) (d_rq (ge_t (show (0 : Int) ≤ (i : Int) by omega)) (d_lst [((mG.getD i (.i 0)).cell 2).list] rfl ?_))
      refine d_callx [i0, V, i2, i3, ((mG.getD i (.i 0)).cell 0).int] [c] [T, Fs', AG, Tb', Me', ((mG.getD i (.i 0)).cell 2).list] ([], [constB V AG ((mG.getD i (.i 0)).cell 2).list ((mG.getD i (.i 0)).cell 0).int], []) e26_20 rfl (by show [bs.getD 0 false] = _; rw [hb0]) rfl q_const1 rfl ?_
      generalize constB V AG ((mG.getD i (.i 0)).cell 2).list ((mG.getD i (.i 0)).cell 0).int = b at *
      subst gE
      have hbn : (bs ++ [b]).getD n false = b := by rw [← hn]; simp [List.getD_eq_getElem?_getD]
      refine d_ite (fun h => ?_) fun h => ?_
      all_goals
        have h : (!((bs ++ [b]).getD n false) && (q == 0)) = _ := h
        rw [hbn] at h
      · unfold b26_1
        refine d_lst [[glD mG i]] rfl (d_rq (an_t (le_t (show (AG.length : Int) ≤ 2069668946401 by omega)) rfl) (d_lst [AG ++ [glD mG i]] rfl ?_))
        rw [wantT 6 h, ← up1 i (by omega)]
        rfl
      · unfold b26_2
        refine d_lst [[glD mG i]] rfl (d_rq (an_t (le_t (show (AG.length : Int) ≤ 2069668946401 by omega)) rfl) (d_lst [AG ++ [glD mG i]] rfl ?_))
        rw [wantF 6 h, ← up1 i (by omega)]
        rfl
    rcases hb with ⟨rfl, rfl, rfl⟩ | ⟨rfl, rfl, rfl⟩ | ⟨rfl, rfl, rfl⟩
    · exact key 2 (.inl rfl) rfl rfl rfl
    · exact key 3 (.inr rfl) rfl rfl rfl
    · exact key 3 (.inr rfl) rfl rfl rfl
  · rcases hb with ⟨rfl, rfl, rfl⟩ | ⟨rfl, rfl, rfl⟩ | ⟨rfl, rfl, rfl⟩
    · exact d_itF (lt_f (show (mG.length : Int) ≤ (mG.length : Int) by omega)) rfl
    · exact d_itF (lt_f (show (mG.length : Int) ≤ (mG.length : Int) by omega)) rfl
    · exact d_itF (lt_f (show (mG.length : Int) ≤ (mG.length : Int) by omega)) rfl
  · rcases hb with ⟨rfl, rfl, rfl⟩ | ⟨rfl, rfl, rfl⟩ | ⟨rfl, rfl, rfl⟩
    · exact d_rq rfl rfl
    · exact d_rq rfl rfl
    · exact d_rq rfl rfl
def ownE (V x0 : Int) (T G Tb Me mF mTb mM mG : List D) : Int :=
  errN (glE V G mG) (orE (orE (errN (meE mM) (errN (tbE mTb) (errN (fnE mF T.length) x0 mF.length) mTb.length) mM.length) (many (Tb ++ mapN (lmD mTb) mTb.length) 3)) (many (Me ++ mapN (lmD mM) mM.length) 8)) mG.length
theorem q_own {i0 V i2 i3 x0 : Int} {c : Bool} {T Fs G Tb Me mT mI mF mTb mM mG mE mS mEl mC mD mN : List D} (hV : V ≤ G.length) (hFs : Fs.length ≤ 4000) (hG : G.length ≤ 4000) (hTb : Tb.length ≤ 4000) (hMe : Me.length ≤ 4000) (h1 : mF.length ≤ 4000) (h2 : mTb.length ≤ 4000) (h3 : mM.length ≤ 4000) (h4 : mG.length ≤ 4000) :
    F26 [i0, V, i2, i3, x0] [c] [T, Fs, G, Tb, Me, mT, mI, mF, mTb, mM, mG, mE, mS, mEl, mC, mD, mN] = some ([i0, V, i2, i3, ownE V x0 T G Tb Me mF mTb mM mG], [c],
      [T, Fs ++ mapN (fnD mF) mF.length, G ++ mapN (glD mG) mG.length, Tb ++ mapN (lmD mTb) mTb.length, Me ++ mapN (lmD mM) mM.length]) := by
  refine of_ret ?_
  unfold t26 ownE
  obtain ⟨e1, he1⟩ : ∃ z, z = errN (fnE mF T.length) x0 mF.length := ⟨_, rfl⟩
  rw [← he1]
  obtain ⟨e2, he2⟩ : ∃ z, z = errN (tbE mTb) e1 mTb.length := ⟨_, rfl⟩
  rw [← he2]
  obtain ⟨e3, he3⟩ : ∃ z, z = errN (meE mM) e2 mM.length := ⟨_, rfl⟩
  rw [← he3]
  obtain ⟨Fs', hFs'⟩ : ∃ z, z = Fs ++ mapN (fnD mF) mF.length := ⟨_, rfl⟩
  rw [← hFs']
  obtain ⟨Tb', hTb'⟩ : ∃ z, z = Tb ++ mapN (lmD mTb) mTb.length := ⟨_, rfl⟩
  rw [← hTb']
  obtain ⟨Me', hMe'⟩ : ∃ z, z = Me ++ mapN (lmD mM) mM.length := ⟨_, rfl⟩
  rw [← hMe']
  refine d_loop (fun i => ([(i : Int), errN (fnE mF T.length) x0 i], [], [Fs ++ mapN (fnD mF) i])) mF.length (by omega) 2 ([(mF.length : Int), e1], [], [Fs']) (by show (([(0 : Int), x0], [], [Fs]) : Vx.R) = ([(0 : Int), x0], [], [Fs ++ []]); rw [List.append_nil]) (fun i hi => ?_) (fun _ _ => rfl) ?_ rfl ?_
  · show Vx.T.den _ l26_11 [i0, V, i2, i3, x0, (i : Int), errN (fnE mF T.length) x0 i] [c] [T, Fs, G, Tb, Me, mT, mI, mF, mTb, mM, mG, mE, mS, mEl, mC, mD, mN, Fs ++ mapN (fnD mF) i] = some (.nxt ([((i + 1 : Nat) : Int), errN (fnE mF T.length) x0 (i + 1)], [], [Fs ++ mapN (fnD mF) (i + 1)]))
    rw [← mapN_succ]
    have hl : (Fs ++ mapN (fnD mF) i).length ≤ 8000 := by rw [List.length_append, mapN_len]; omega
    simp only [errN]
    obtain ⟨E1, gE⟩ : ∃ z, z = fnE mF T.length i := ⟨_, rfl⟩
    rw [← gE]
    unfold fnE at gE
    generalize Fs ++ mapN (fnD mF) i = AG at *
    generalize errN (fnE mF T.length) x0 i = q at *
    unfold l26_11
    refine d_itT (lt_t (show (i : Int) < (mF.length : Int) by omega)) (d_rq (ge_t (show (0 : Int) ≤ (i : Int) by omega)) (d_lst [((mF.getD i (.i 0)).cell 1).list, ((mF.getD i (.i 0)).cell 2).list] rfl ?_))
    refine d_callx [((mF.getD i (.i 0)).cell 0).int, (T.length : Int)] [] [] ([], [hasB ((mF.getD i (.i 0)).cell 0).int (T.length : Int)], []) e26_30 rfl rfl rfl (q_has _ _) rfl ?_
    generalize hasB ((mF.getD i (.i 0)).cell 0).int (T.length : Int) = b at *
    subst gE
    refine d_ite (fun h => ?_) fun h => ?_
    all_goals
      have h : (!b && (q == 0)) = _ := h
      refine d_lst [[fnD mF i]] rfl (d_rq (an_t (le_t (show (AG.length : Int) ≤ 3909374676536 by omega)) rfl) (d_lst [AG ++ [fnD mF i]] rfl ?_))
    · rw [wantT 7 h, ← up1 i (by omega)]; rfl
    · rw [wantF 7 h, ← up1 i (by omega)]; rfl
  · unfold l26_11
    rw [he1, hFs']
    exact d_itF (lt_f (show (mF.length : Int) ≤ (mF.length : Int) by omega)) rfl
  unfold k26_12
  refine d_rq rfl ?_
  show Vx.T.den _ _ [i0, V, i2, i3, x0, 2, (mF.length : Int), e1] [c] [T, Fs, G, Tb, Me, mT, mI, mF, mTb, mM, mG, mE, mS, mEl, mC, mD, mN, Fs'] = _
  refine d_loop (fun i => ([(i : Int), errN (tbE mTb) e1 i], [], [Tb ++ mapN (lmD mTb) i])) mTb.length (by omega) 4 ([(mTb.length : Int), e2], [], [Tb']) (by show (([(0 : Int), e1], [], [Tb]) : Vx.R) = ([(0 : Int), e1], [], [Tb ++ []]); rw [List.append_nil]) (fun i hi => ?_) (fun _ _ => rfl) ?_ rfl ?_
  · show Vx.T.den _ l26_9 [i0, V, i2, i3, x0, 2, (mF.length : Int), e1, (i : Int), errN (tbE mTb) e1 i] [c] [T, Fs, G, Tb, Me, mT, mI, mF, mTb, mM, mG, mE, mS, mEl, mC, mD, mN, Fs', Tb ++ mapN (lmD mTb) i] = some (.nxt ([((i + 1 : Nat) : Int), errN (tbE mTb) e1 (i + 1)], [], [Tb ++ mapN (lmD mTb) (i + 1)]))
    rw [← mapN_succ]
    have hl : (Tb ++ mapN (lmD mTb) i).length ≤ 8000 := by rw [List.length_append, mapN_len]; omega
    simp only [errN]
    obtain ⟨E1, gE⟩ : ∃ z, z = tbE mTb i := ⟨_, rfl⟩
    rw [← gE]
    unfold tbE at gE
    generalize Tb ++ mapN (lmD mTb) i = AG at *
    generalize errN (tbE mTb) e1 i = q at *
    unfold l26_9
    refine d_itT (lt_t (show (i : Int) < (mTb.length : Int) by omega)) (d_rq (ge_t (show (0 : Int) ≤ (i : Int) by omega)) ?_)
    refine d_callx [((mTb.getD i (.i 0)).cell 0).int, ((mTb.getD i (.i 0)).cell 2).int] [((mTb.getD i (.i 0)).cell 1).bool] [] ([E1], [], []) e26_38 rfl rfl rfl (by rw [gE]; exact q_table _ _ _) rfl ?_
    refine d_callx [((mTb.getD i (.i 0)).cell 0).int, ((mTb.getD i (.i 0)).cell 2).int] [((mTb.getD i (.i 0)).cell 1).bool] [] ([E1], [], []) e26_38 rfl rfl rfl (by rw [gE]; exact q_table _ _ _) rfl ?_
    refine d_lb (!(E1 == 0) && (q == 0)) rfl ?_
    refine d_ite (fun h => ?_) fun h => ?_
    all_goals
      have h : (!(E1 == 0) && (q == 0)) = _ := h
      refine d_lst [[lmD mTb i]] rfl (d_rq (an_t (le_t (show (AG.length : Int) ≤ 1407374883553 by omega)) rfl) (d_lst [AG ++ [lmD mTb i]] rfl ?_))
    · rw [wantET h, ← up1 i (by omega)]; rfl
    · rw [wantEF h, ← up1 i (by omega)]; rfl
  · unfold l26_9
    rw [he2, hTb']
    exact d_itF (lt_f (show (mTb.length : Int) ≤ (mTb.length : Int) by omega)) rfl
  unfold k26_10
  refine d_rq rfl ?_
  show Vx.T.den _ _ [i0, V, i2, i3, x0, 2, (mF.length : Int), e1, 4, (mTb.length : Int), e2] [c] [T, Fs, G, Tb, Me, mT, mI, mF, mTb, mM, mG, mE, mS, mEl, mC, mD, mN, Fs', Tb'] = _
  refine d_loop (fun i => ([(i : Int), errN (meE mM) e2 i], [], [Me ++ mapN (lmD mM) i])) mM.length (by omega) 6 ([(mM.length : Int), e3], [], [Me']) (by show (([(0 : Int), e2], [], [Me]) : Vx.R) = ([(0 : Int), e2], [], [Me ++ []]); rw [List.append_nil]) (fun i hi => ?_) (fun _ _ => rfl) ?_ rfl ?_
  · show Vx.T.den _ l26_7 [i0, V, i2, i3, x0, 2, (mF.length : Int), e1, 4, (mTb.length : Int), e2, (i : Int), errN (meE mM) e2 i] [c] [T, Fs, G, Tb, Me, mT, mI, mF, mTb, mM, mG, mE, mS, mEl, mC, mD, mN, Fs', Tb', Me ++ mapN (lmD mM) i] = some (.nxt ([((i + 1 : Nat) : Int), errN (meE mM) e2 (i + 1)], [], [Me ++ mapN (lmD mM) (i + 1)]))
    rw [← mapN_succ]
    have hl : (Me ++ mapN (lmD mM) i).length ≤ 8000 := by rw [List.length_append, mapN_len]; omega
    simp only [errN]
    obtain ⟨E1, gE⟩ : ∃ z, z = meE mM i := ⟨_, rfl⟩
    rw [← gE]
    unfold meE at gE
    generalize Me ++ mapN (lmD mM) i = AG at *
    generalize errN (meE mM) e2 i = q at *
    unfold l26_7
    refine d_itT (lt_t (show (i : Int) < (mM.length : Int) by omega)) (d_rq (ge_t (show (0 : Int) ≤ (i : Int) by omega)) ?_)
    refine d_callx [((mM.getD i (.i 0)).cell 0).int, ((mM.getD i (.i 0)).cell 2).int] [((mM.getD i (.i 0)).cell 1).bool] [] ([E1], [], []) e26_39 rfl rfl rfl (by rw [gE]; exact q_memory _ _ _) rfl ?_
    refine d_callx [((mM.getD i (.i 0)).cell 0).int, ((mM.getD i (.i 0)).cell 2).int] [((mM.getD i (.i 0)).cell 1).bool] [] ([E1], [], []) e26_39 rfl rfl rfl (by rw [gE]; exact q_memory _ _ _) rfl ?_
    refine d_lb (!(E1 == 0) && (q == 0)) rfl ?_
    refine d_ite (fun h => ?_) fun h => ?_
    all_goals
      have h : (!(E1 == 0) && (q == 0)) = _ := h
      refine d_lst [[lmD mM i]] rfl (d_rq (an_t (le_t (show (AG.length : Int) ≤ 1407374883553 by omega)) rfl) (d_lst [AG ++ [lmD mM i]] rfl ?_))
    · rw [wantET h, ← up1 i (by omega)]; rfl
    · rw [wantEF h, ← up1 i (by omega)]; rfl
  · unfold l26_7
    rw [he3, hMe']
    exact d_itF (lt_f (show (mM.length : Int) ≤ (mM.length : Int) by omega)) rfl
  unfold k26_8
  refine d_rq rfl ?_
  show Vx.T.den _ _ [i0, V, i2, i3, x0, 2, (mF.length : Int), e1, 4, (mTb.length : Int), e2, 6, (mM.length : Int), e3] [c] [T, Fs, G, Tb, Me, mT, mI, mF, mTb, mM, mG, mE, mS, mEl, mC, mD, mN, Fs', Tb', Me'] = _
  unfold many
  generalize e10 : decide ((Tb'.length : Int) ≤ 1) = q1
  generalize e11 : decide ((Me'.length : Int) ≤ 1) = q2
  refine d_lb (!q1 && (e3 == 0)) (by rw [← e10]; rfl) ?_
  refine d_ite (fun h => ?_) fun h => ?_
  · have h : (!q1 && (e3 == 0)) = true := h
    rw [h, wantT 3 h, orE_l _ (by decide)]
    exact own_gl (.inl ⟨rfl, rfl, rfl⟩) hV (by omega) h4 rfl
  · have h : (!q1 && (e3 == 0)) = false := h
    rw [h, wantF 3 h]
    refine d_lb (!q2 && (e3 == 0)) (by rw [← e11]; rfl) ?_
    refine d_ite (fun h => ?_) fun h => ?_
    · have h : (!q2 && (e3 == 0)) = true := h
      rw [h, wantT 8 h]
      exact own_gl (.inr (.inl ⟨rfl, rfl, rfl⟩)) hV (by omega) h4 rfl
    · have h : (!q2 && (e3 == 0)) = false := h
      rw [h, wantF 8 h]
      exact own_gl (.inr (.inr ⟨rfl, rfl, rfl⟩)) hV (by omega) h4 rfl
/-! exports -/
def exName (mE : List D) (i : Nat) : List D := ((mE.getD i (.i 0)).cell 0).list
def dupB (mE : List D) (i : Nat) : Bool := (List.range i).any fun k => D.sameL (exName mE k) (exName mE i)
theorem dupB_iff {mE : List D} {i : Nat} : dupB mE i = true ↔ ∃ k, k < i ∧ exName mE k = exName mE i := by
  unfold dupB
  rw [List.any_eq_true]
  constructor
  · rintro ⟨k, h1, h2⟩; exact ⟨k, List.mem_range.1 h1, D.sameL_iff.1 h2⟩
  · rintro ⟨k, h1, h2⟩; exact ⟨k, List.mem_range.2 h1, D.sameL_iff.2 h2⟩
def manyN (nF nT nM nG : Int) (k : Int) : Int := if k ≤ 0 then nF else if k = 1 then nT else if k = 2 then nM else nG
def exOk (nF nT nM nG : Int) (x : D) : Bool := hasB (x.cell 1).int 4 && hasB (x.cell 2).int (manyN nF nT nM nG (x.cell 1).int)
def exE (nF nT nM nG : Int) (mE : List D) (i : Nat) : Int := orE (if (!dupB mE i) = true then 0 else 8) (if exOk nF nT nM nG (mE.getD i (.i 0)) = true then 0 else 7)
theorem take_get {L : List D} {i k : Nat} (h : k < i) : (L.take i).getD k (.i 0) = L.getD k (.i 0) := by
  simp [List.getD_eq_getElem?_getD, List.getElem?_take, h]
theorem q_exports {i0 i1 i2 i3 x0 : Int} {c : Bool} {T Fs G Tb Me mE : List D} (hE : mE.length ≤ 4000) :
    F27 [i0, i1, i2, i3, x0] [c] [T, Fs, G, Tb, Me, mE] = some ([i0, i1, i2, i3, errN (exE Fs.length Tb.length Me.length G.length mE) x0 mE.length], [c], [T, Fs, G, Tb, Me]) := by
  refine of_ret ?_
  unfold t27
  refine d_lst [[.i (Fs.length : Int), .i (Tb.length : Int), .i (Me.length : Int), .i (G.length : Int)]] rfl ?_
  have hmany : ∀ k : Int, (([D.i (Fs.length : Int), .i (Tb.length : Int), .i (Me.length : Int), .i (G.length : Int)].getD (if (3 : Int) < (if (0 : Int) > k then (0 : Int) else k) then (3 : Int) else (if (0 : Int) > k then (0 : Int) else k)).toNat (.i 0)).cell 0).int = manyN Fs.length Tb.length Me.length G.length k := by
    intro k
    unfold manyN
    by_cases h0 : k ≤ 0
    · have : (if (0 : Int) > k then (0 : Int) else k) = 0 := by split <;> omega
      rw [if_pos h0, this]; rfl
    rw [if_neg h0, if_neg (show ¬ (0 : Int) > k by omega)]
    by_cases h1 : k = 1
    · subst h1; rfl
    by_cases h2 : k = 2
    · subst h2; rfl
    rw [if_neg h1, if_neg h2]
    have : (if (3 : Int) < k then (3 : Int) else k) = 3 := by split <;> omega
    rw [this]; rfl
  have hrng : ∀ k : Int, (decide ((if (3 : Int) < (if (0 : Int) > k then (0 : Int) else k) then (3 : Int) else (if (0 : Int) > k then (0 : Int) else k)) ≥ 0) && decide ((if (3 : Int) < (if (0 : Int) > k then (0 : Int) else k) then (3 : Int) else (if (0 : Int) > k then (0 : Int) else k)) < 4)) = true := by
    intro k
    refine an_t (decide_eq_true ?_) (decide_eq_true ?_) <;> (split <;> split <;> omega)
  obtain ⟨M, hM⟩ : ∃ M : List D, M = [.i (Fs.length : Int), .i (Tb.length : Int), .i (Me.length : Int), .i (G.length : Int)] := ⟨_, rfl⟩
  have hM4 : (M.length : Int) = 4 := by rw [hM]; rfl
  rw [← hM] at hmany
  show Vx.T.den _ _ [i0, i1, i2, i3, x0] [c] ([T, Fs, G, Tb, Me, mE] ++ [[.i (Fs.length : Int), .i (Tb.length : Int), .i (Me.length : Int), .i (G.length : Int)]]) = _
  rw [← hM]
  have hq : ∀ (k : Int) (z : Bool), (z || (decide ((if (3 : Int) < (if (0 : Int) > k then (0 : Int) else k) then (3 : Int) else (if (0 : Int) > k then (0 : Int) else k)) ≥ 0) && decide ((if (3 : Int) < (if (0 : Int) > k then (0 : Int) else k) then (3 : Int) else (if (0 : Int) > k then (0 : Int) else k)) < (M.length : Int)))) = true := by
    intro k z; rw [hM4, hrng, Bool.or_true]
  have hq1 : ∀ (k : Int), (decide ((if (3 : Int) < (if (0 : Int) > k then (0 : Int) else k) then (3 : Int) else (if (0 : Int) > k then (0 : Int) else k)) ≥ 0) && decide ((if (3 : Int) < (if (0 : Int) > k then (0 : Int) else k) then (3 : Int) else (if (0 : Int) > k then (0 : Int) else k)) < (M.length : Int))) = true := by
    intro k; rw [hM4, hrng]
  clear hM hM4 hrng
  obtain ⟨f, hf⟩ : ∃ f, f = exE Fs.length Tb.length Me.length G.length mE := ⟨_, rfl⟩
  rw [← hf]
  refine d_loop (fun i => ([(i : Int), errN f x0 i], [], [])) mE.length (by omega) 2 ([(mE.length : Int), errN f x0 mE.length], [], []) rfl (fun i hi => ?_) (fun _ _ => rfl) ?_ rfl ?_
  · show Vx.T.den _ l27_3 [i0, i1, i2, i3, x0, (i : Int), errN f x0 i] [c] [T, Fs, G, Tb, Me, mE, M] = some (.nxt ([((i + 1 : Nat) : Int), errN f x0 (i + 1)], [], []))
    simp only [errN]
    obtain ⟨E1, gE⟩ : ∃ z, z = f i := ⟨_, rfl⟩
    rw [← gE]
    generalize errN f x0 i = e
    rw [hf] at gE
    unfold exE exOk at gE
    clear hf
    obtain ⟨x, hx⟩ : ∃ x, x = mE.getD i (.i 0) := ⟨_, rfl⟩
    rw [← hx] at gE
    have hk := hmany (x.cell 1).int
    unfold l27_3
    refine d_itT (lt_t (show (i : Int) < (mE.length : Int) by omega)) (d_rq (ge_t (show (0 : Int) ≤ (i : Int) by omega)) (d_lst [exName mE i] rfl (d_rq (an_t (le_t (show (0 : Int) ≤ (i : Int) by omega)) (le_t (show (i : Int) ≤ (mE.length : Int) by omega))) (d_lst [mE.take i] rfl ?_))))
    have hlen : (mE.take i).length = i := by rw [List.length_take]; omega
    refine d_find (fun k => ([(0 : Int), (k : Int)], [], [])) i (by omega) (fun k => D.sameL (exName mE k) (exName mE i)) rfl (fun j => (1, ([(j : Int), (j : Int)], [], []))) 2 ([(0 : Int), (i : Int)], [], []) (fun j hj hp => ?_) (fun _ _ => rfl) (fun j hj hp => ⟨?_, rfl⟩) ?_ rfl (fun j hj hp _ => ?_) (fun hp => ?_)
    · show Vx.T.den _ l27_1 [i0, i1, i2, i3, x0, (i : Int), e, 0, (j : Int)] [c] [T, Fs, G, Tb, Me, mE, M, exName mE i, mE.take i] = _
      unfold l27_1
      refine d_itT (lt_t (show (j : Int) < ((mE.take i).length : Int) by omega)) (d_rq (ge_t (show (0 : Int) ≤ (j : Int) by omega)) (d_lst [exName mE j] (by show [(((mE.take i).getD j (.i 0)).cell 0).list] = _; rw [take_get hj]; rfl) (d_itF hp ?_)))
      show some (Out.nxt ([0, arI .add .i64 (j : Int) 1], [], [])) = _
      rw [up1 j (by omega)]
    · show Vx.T.den _ l27_1 [i0, i1, i2, i3, x0, (i : Int), e, 0, (j : Int)] [c] [T, Fs, G, Tb, Me, mE, M, exName mE i, mE.take i] = _
      unfold l27_1
      refine d_itT (lt_t (show (j : Int) < ((mE.take i).length : Int) by omega)) (d_rq (ge_t (show (0 : Int) ≤ (j : Int) by omega)) (d_lst [exName mE j] (by show [(((mE.take i).getD j (.i 0)).cell 0).list] = _; rw [take_get hj]; rfl) (d_itT hp rfl)))
    · show Vx.T.den _ l27_1 [i0, i1, i2, i3, x0, (i : Int), e, 0, (i : Int)] [c] [T, Fs, G, Tb, Me, mE, M, exName mE i, mE.take i] = _
      unfold l27_1
      exact d_itF (lt_f (show ((mE.take i).length : Int) ≤ (i : Int) by omega)) rfl
    · have hd : dupB mE i = true := dupB_iff.2 ⟨j, hj, D.sameL_iff.1 hp⟩
      rw [hd] at gE
      show Vx.T.den _ k27_2 [i0, i1, i2, i3, x0, (i : Int), e, 1, (j : Int), (j : Int)] [c] [T, Fs, G, Tb, Me, mE, M, exName mE i, mE.take i] = _
      unfold k27_2
      refine d_itT rfl (d_lb (e == 0) (by show (decide ((j : Int) ≥ 0) && (e == 0)) = _; rw [ge_t (show (0 : Int) ≤ (j : Int) by omega), Bool.true_and]) ?_)
      by_cases he : e = 0
      · subst he
        have hr : orE 0 E1 = 8 := by rw [gE, orE_zero]; exact orE_l _ (by decide)
        rw [hr]
        refine d_itT rfl ?_
        refine d_callx [(x.cell 1).int, 4] [] [] ([], [hasB (x.cell 1).int 4], []) e27_30 (by rw [hx]; rfl) rfl rfl (q_has _ _) rfl ?_
        show Vx.T.den _ _ [i0, i1, i2, i3, x0, (i : Int), 0, 1, (j : Int), (j : Int)] [c, true, hasB (x.cell 1).int 4] [T, Fs, G, Tb, Me, mE, M, exName mE i, mE.take i] = _
        have hb : b27_1.den (Tab.fn a27) [i0, i1, i2, i3, x0, (i : Int), 0, 1, (j : Int), (j : Int)] [c, true, hasB (x.cell 1).int 4] [T, Fs, G, Tb, Me, mE, M, exName mE i, mE.take i] = some (.nxt ([((i + 1 : Nat) : Int), 8], [], [])) := by
          rw [← up1 i (by omega)]
          unfold b27_1
          refine d_ite (fun h => ?_) fun h => rfl
          refine d_rq (by rw [hx] at hk; exact hq1 _) ?_
          exact d_callx [((mE.getD i (.i 0)).cell 2).int, _] [] [] ([], [_], []) e27_30 rfl rfl rfl (q_has _ _) rfl rfl
        exact d_both (d_rq (hq _ _) hb) (d_rq (hq _ _) (d_bothS hb))
      · have hr : orE e E1 = e := orE_l _ he
        rw [hr, eq_f he]
        refine d_itF rfl ?_
        refine d_callx [(x.cell 1).int, 4] [] [] ([], [hasB (x.cell 1).int 4], []) e27_30 (by rw [hx]; rfl) rfl rfl (q_has _ _) rfl ?_
        show Vx.T.den _ _ [i0, i1, i2, i3, x0, (i : Int), e, 1, (j : Int), (j : Int)] [c, false, hasB (x.cell 1).int 4] [T, Fs, G, Tb, Me, mE, M, exName mE i, mE.take i] = _
        have hb : b27_2.den (Tab.fn a27) [i0, i1, i2, i3, x0, (i : Int), e, 1, (j : Int), (j : Int)] [c, false, hasB (x.cell 1).int 4] [T, Fs, G, Tb, Me, mE, M, exName mE i, mE.take i] = some (.nxt ([((i + 1 : Nat) : Int), e], [], [])) := by
          rw [← up1 i (by omega)]
          unfold b27_2
          refine d_ite (fun h => ?_) fun h => d_itF (eq_f he) rfl
          refine d_rq (hq1 _) ?_
          refine d_callx [((mE.getD i (.i 0)).cell 2).int, _] [] [] ([], [_], []) e27_30 rfl rfl rfl (q_has _ _) rfl ?_
          exact d_itF (by show (_ && (e == 0)) = false; rw [eq_f he, Bool.and_false]) rfl
        exact d_both (d_rq (hq _ _) hb) (d_rq (hq _ _) (d_bothS hb))
    · have hd : dupB mE i = false := by
        rw [Bool.eq_false_iff]
        intro h
        obtain ⟨k, h1, h2⟩ := dupB_iff.1 h
        exact Bool.false_ne_true ((hp k h1).symm.trans (D.sameL_iff.2 h2))
      rw [hd] at gE
      have gE : E1 = (if (hasB (x.cell 1).int 4 && hasB (x.cell 2).int (manyN Fs.length Tb.length Me.length G.length (x.cell 1).int)) = true then 0 else 7) := gE
      rw [← hk] at gE
      show Vx.T.den _ k27_2 [i0, i1, i2, i3, x0, (i : Int), e, 2, 0, (i : Int)] [c] [T, Fs, G, Tb, Me, mE, M, exName mE i, mE.take i] = _
      unfold k27_2
      refine d_itF rfl (d_rq rfl ?_)
      refine d_callx [(x.cell 1).int, 4] [] [] ([], [hasB (x.cell 1).int 4], []) e27_30 (by rw [hx]; rfl) rfl rfl (q_has _ _) rfl ?_
      show Vx.T.den _ _ [i0, i1, i2, i3, x0, (i : Int), e, 2, 0, (i : Int)] [c, hasB (x.cell 1).int 4] [T, Fs, G, Tb, Me, mE, M, exName mE i, mE.take i] = _
      have hb : b27_3.den (Tab.fn a27) [i0, i1, i2, i3, x0, (i : Int), e, 2, 0, (i : Int)] [c, hasB (x.cell 1).int 4] [T, Fs, G, Tb, Me, mE, M, exName mE i, mE.take i] = some (.nxt ([((i + 1 : Nat) : Int), orE e E1], [], [])) := by
        rw [← up1 i (by omega)]
        unfold b27_3
        by_cases h4 : hasB (x.cell 1).int 4 = true
        · rw [h4] at gE ⊢
          refine d_itT rfl (d_rq (hq1 _) ?_)
          rw [Bool.true_and] at gE
          rw [hx] at gE
          obtain ⟨N, hN⟩ : ∃ z, z = (((M.getD (if (3 : Int) < (if (0 : Int) > ((mE.getD i (.i 0)).cell 1).int then (0 : Int) else ((mE.getD i (.i 0)).cell 1).int) then (3 : Int) else (if (0 : Int) > ((mE.getD i (.i 0)).cell 1).int then (0 : Int) else ((mE.getD i (.i 0)).cell 1).int)).toNat (.i 0)).cell 0).int) := ⟨_, rfl⟩
          rw [← hN] at gE
          refine d_callx [((mE.getD i (.i 0)).cell 2).int, N] [] [] ([], [hasB ((mE.getD i (.i 0)).cell 2).int N], []) e27_30 (by rw [hN]; rfl) rfl rfl (q_has _ _) rfl ?_
          generalize hasB ((mE.getD i (.i 0)).cell 2).int N = w at *
          subst gE
          refine d_ite (fun h => ?_) fun h => ?_
          · rw [wantT 7 (show (!w && (e == 0)) = true from h)]; rfl
          · rw [wantF 7 (show (!w && (e == 0)) = false from h)]; rfl
        · rw [Bool.eq_false_iff.2 h4] at gE ⊢
          have gE : E1 = 7 := gE
          subst gE
          refine d_itF rfl (d_ite (fun h => ?_) fun h => ?_)
          · rw [show e = 0 by simpa using (show (e == 0) = true from h)]; rfl
          · rw [orE_l _ (by simpa using (show (e == 0) = false from h))]; rfl
      exact d_both (d_rq (hq _ _) hb) (d_rq (hq _ _) (d_bothS hb))
  · unfold l27_3
    exact d_itF (lt_f (show (mE.length : Int) ≤ (mE.length : Int) by omega)) rfl
  · unfold k27_4
    exact d_rq rfl rfl
/-! segments -/
def badAt (nF : Int) (L : List D) (k : Nat) : Bool := ((L.getD k (.i 0)).cell 0).int != -1 && !hasB ((L.getD k (.i 0)).cell 0).int nF
def badF (nF : Int) (L : List D) : Bool := (List.range L.length).any (badAt nF L)
theorem badF_iff {nF : Int} {L : List D} : badF nF L = true ↔ ∃ k, k < L.length ∧ badAt nF L k = true := by
  unfold badF
  rw [List.any_eq_true]
  constructor
  · rintro ⟨k, h1, h2⟩; exact ⟨k, List.mem_range.1 h1, h2⟩
  · rintro ⟨k, h1, h2⟩; exact ⟨k, List.mem_range.2 h1, h2⟩
def acE (V nT : Int) (G : List D) (x : D) : Int := if (x.cell 0).int = 0 then orE (if decide (nT > 0) = true then 0 else 7) (if constB V G (x.cell 1).list 127 = true then 0 else 6) else 0
def elE (V nF nT : Int) (G mEl : List D) (i : Nat) : Int := orE (acE V nT G (mEl.getD i (.i 0))) (if (!badF nF ((mEl.getD i (.i 0)).cell 2).list) = true then 0 else 7)
def daE (V nM : Int) (G mD : List D) (i : Nat) : Int := acE V nM G (mD.getD i (.i 0))
theorem seg_fs {i0 i1 i2 i3 x0 q e : Int} {i : Nat} (hi : i < 9000) {T Fs G Tb Me l5 l6 l7 l8 l9 l10 l11 l12 l13 l14 l15 l16 l17 L : List D} {n : Nat} {bs : List Bool} (hn : bs.length = n) {body k : Vx.T} {ex : E}
    (hbo : body = (.ite (.cm .lss (.iv 8) (.ln 18)) (.rq (.cm .geq (.iv 8) (.n 0)) (.ite (.cm .neq (.ix 18 (.iv 8) 0) (.n (-1))) (.call 30 [(.ix 18 (.iv 8) 0), (.ln 1)] [] [] 0 1 0 (.ite (.nt (.bv n)) (.brk 1 [(.iv 8), (.iv 8), (.iv 9)] [] []) (.nxt [(.iv 7), (.ar .add .i64 (.iv 8) (.n 1)), (.iv 9)] [] []))) (.nxt [(.iv 7), (.ar .add .i64 (.iv 8) (.n 1)), (.iv 9)] [] []))) (.brk 2 [(.iv 7), (.iv 8), (.iv 9)] [] [])))
    (hko : k = (.ite (.cm .eql (.iv 7) (.n 1)) (.lb (.an (.cm .geq (.iv 8) (.n 0)) (.cm .eql (.iv 10) (.n 0))) (.ite (.bv n) (.nxt [(.ar .add .i64 (.iv 5) (.n 1)), (.n 7)] [] []) (.nxt [(.ar .add .i64 (.iv 5) (.n 1)), (.iv 10)] [] []))) (.rq (.cm .eql (.iv 7) (.n 2)) (.nxt [(.ar .add .i64 (.iv 5) (.n 1)), (.iv 10)] [] []))))
    (hL : L.length ≤ 1000000) (hx : ex.I [i0, i1, i2, i3, x0, (i : Int), q] bs [T, Fs, G, Tb, Me, l5, l6, l7, l8, l9, l10, l11, l12, l13, l14, l15, l16, l17, L] = e) :
    (Vx.T.lp [.n 0, .n 0, ex] [] [] 3 0 0 body k).den (Tab.fn a29) [i0, i1, i2, i3, x0, (i : Int), q] bs [T, Fs, G, Tb, Me, l5, l6, l7, l8, l9, l10, l11, l12, l13, l14, l15, l16, l17, L] = some (.nxt ([((i + 1 : Nat) : Int), orE e (if (!badF Fs.length L) = true then 0 else 7)], [], [])) := by
  subst hbo hko
  have hbn : ∀ b : Bool, (bs ++ [b]).getD n false = b := fun b => by rw [← hn]; simp [List.getD_eq_getElem?_getD]
  refine d_find (fun j => ([(0 : Int), (j : Int), e], [], [])) L.length (by omega) (badAt Fs.length L) (by show (([(0 : Int), 0, ex.I _ _ _], [], []) : Vx.R) = _; rw [hx]; rfl) (fun j => (1, ([(j : Int), (j : Int), e], [], []))) 2 ([(0 : Int), (L.length : Int), e], [], []) (fun j hj hp => ?_) (fun _ _ => rfl) (fun j hj hp => ⟨?_, rfl⟩) ?_ rfl (fun j hj hp _ => ?_) (fun hp => ?_)
  · show Vx.T.den _ _ [i0, i1, i2, i3, x0, (i : Int), q, 0, (j : Int), e] (bs ++ []) [T, Fs, G, Tb, Me, l5, l6, l7, l8, l9, l10, l11, l12, l13, l14, l15, l16, l17, L] = _
    rw [List.append_nil, ← up1 j (by omega)]
    refine d_itT (lt_t (show (j : Int) < (L.length : Int) by omega)) (d_rq (ge_t (show (0 : Int) ≤ (j : Int) by omega)) ?_)
    unfold badAt at hp
    obtain ⟨y, hy⟩ : ∃ y, y = ((L.getD j (.i 0)).cell 0).int := ⟨_, rfl⟩
    rw [← hy] at hp
    by_cases h1 : y = -1
    · exact d_itF (ne_f (by rw [hy] at h1; exact h1)) rfl
    · rw [ne_t h1, Bool.true_and] at hp
      refine d_itT (ne_t (by rw [hy] at h1; exact h1)) ?_
      refine d_callx [y, (Fs.length : Int)] [] [] ([], [hasB y (Fs.length : Int)], []) e29_30 (by rw [hy]; rfl) rfl rfl (q_has _ _) rfl ?_
      exact d_itF (by show (!((bs ++ [_]).getD n false)) = false; rw [hbn, hp]) rfl
  · show Vx.T.den _ _ [i0, i1, i2, i3, x0, (i : Int), q, 0, (j : Int), e] (bs ++ []) [T, Fs, G, Tb, Me, l5, l6, l7, l8, l9, l10, l11, l12, l13, l14, l15, l16, l17, L] = _
    rw [List.append_nil]
    refine d_itT (lt_t (show (j : Int) < (L.length : Int) by omega)) (d_rq (ge_t (show (0 : Int) ≤ (j : Int) by omega)) ?_)
    unfold badAt at hp
    obtain ⟨y, hy⟩ : ∃ y, y = ((L.getD j (.i 0)).cell 0).int := ⟨_, rfl⟩
    rw [← hy, Bool.and_eq_true] at hp
    refine d_itT (by rw [hy] at hp; exact hp.1) ?_
    refine d_callx [y, (Fs.length : Int)] [] [] ([], [hasB y (Fs.length : Int)], []) e29_30 (by rw [hy]; rfl) rfl rfl (q_has _ _) rfl ?_
    exact d_itT (by show (!((bs ++ [_]).getD n false)) = true; rw [hbn, hp.2]) rfl
  · show Vx.T.den _ _ [i0, i1, i2, i3, x0, (i : Int), q, 0, (L.length : Int), e] (bs ++ []) [T, Fs, G, Tb, Me, l5, l6, l7, l8, l9, l10, l11, l12, l13, l14, l15, l16, l17, L] = _
    exact d_itF (lt_f (show (L.length : Int) ≤ (L.length : Int) by omega)) rfl
  · have hb : badF Fs.length L = true := badF_iff.2 ⟨j, hj, hp⟩
    rw [hb]
    show Vx.T.den _ _ [i0, i1, i2, i3, x0, (i : Int), q, 1, (j : Int), (j : Int), e] (bs ++ []) [T, Fs, G, Tb, Me, l5, l6, l7, l8, l9, l10, l11, l12, l13, l14, l15, l16, l17, L] = some (.nxt ([((i + 1 : Nat) : Int), orE e 7], [], []))
    rw [List.append_nil, ← up1 i (by omega)]
    refine d_itT rfl (d_lb (e == 0) (by show (decide ((j : Int) ≥ 0) && (e == 0)) = _; rw [ge_t (show (0 : Int) ≤ (j : Int) by omega), Bool.true_and]) ?_)
    by_cases he : e = 0
    · subst he
      exact d_itT (hbn _) rfl
    · refine d_itF (by show (bs ++ [e == 0]).getD n false = false; rw [hbn, eq_f he]) ?_
      rw [orE_l _ he]; rfl
  · have hb : badF Fs.length L = false := by
      rw [Bool.eq_false_iff]
      intro h
      obtain ⟨k, h1, h2⟩ := badF_iff.1 h
      exact Bool.false_ne_true ((hp k h1).symm.trans h2)
    rw [hb]
    show Vx.T.den _ _ [i0, i1, i2, i3, x0, (i : Int), q, 2, 0, (L.length : Int), e] (bs ++ []) [T, Fs, G, Tb, Me, l5, l6, l7, l8, l9, l10, l11, l12, l13, l14, l15, l16, l17, L] = some (.nxt ([((i + 1 : Nat) : Int), orE e 0], [], []))
    rw [List.append_nil, ← up1 i (by omega), orE_z]
    exact d_itF rfl (d_rq rfl rfl)
theorem q_segments {i0 V i2 i3 x0 : Int} {c : Bool} {T Fs G Tb Me mT mI mF mTb mM mG mE mS mEl mC mD mN : List D} (h1 : mEl.length ≤ 4000) (h2 : mD.length ≤ 4000) (h3 : ∀ i, i < mEl.length → ((mEl.getD i (.i 0)).cell 2).list.length ≤ 1000000) :
    F29 [i0, V, i2, i3, x0] [c] [T, Fs, G, Tb, Me, mT, mI, mF, mTb, mM, mG, mE, mS, mEl, mC, mD, mN] = some ([i0, V, i2, i3, errN (daE V Me.length G mD) (errN (elE V Fs.length Tb.length G mEl) x0 mEl.length) mD.length], [c], [T, Fs, G, Tb, Me]) := by
  refine of_ret ?_
  unfold t29
  obtain ⟨e1, he1⟩ : ∃ z, z = errN (elE V Fs.length Tb.length G mEl) x0 mEl.length := ⟨_, rfl⟩
  rw [← he1]
  refine d_loop (fun i => ([(i : Int), errN (elE V Fs.length Tb.length G mEl) x0 i], [], [])) mEl.length (by omega) 2 ([(mEl.length : Int), e1], [], []) rfl (fun i hi => ?_) (fun _ _ => rfl) ?_ rfl ?_
  · show Vx.T.den _ l29_11 [i0, V, i2, i3, x0, (i : Int), errN (elE V Fs.length Tb.length G mEl) x0 i] [c] [T, Fs, G, Tb, Me, mT, mI, mF, mTb, mM, mG, mE, mS, mEl, mC, mD, mN] = some (.nxt ([((i + 1 : Nat) : Int), errN (elE V Fs.length Tb.length G mEl) x0 (i + 1)], [], []))
    simp only [errN]
    generalize errN (elE V Fs.length Tb.length G mEl) x0 i = e at *
    unfold elE acE
    have hl := h3 i hi
    unfold l29_11
    obtain ⟨x, hx⟩ : ∃ x, x = mEl.getD i (.i 0) := ⟨_, rfl⟩
    rw [← hx] at hl ⊢
    refine d_itT (lt_t (show (i : Int) < (mEl.length : Int) by omega)) (d_rq (ge_t (show (0 : Int) ≤ (i : Int) by omega)) (d_lst [(x.cell 1).list, (x.cell 2).list] (by rw [hx]; rfl) ?_))
    show Vx.T.den _ _ [i0, V, i2, i3, x0, (i : Int), e] [c] [T, Fs, G, Tb, Me, mT, mI, mF, mTb, mM, mG, mE, mS, mEl, mC, mD, mN, (x.cell 1).list, (x.cell 2).list] = _
    rw [← orE_assoc]
    by_cases hm : (x.cell 0).int = 0
    · rw [if_pos hm]
      refine d_itT (eq_t (by rw [hx] at hm; exact hm)) ?_
      generalize hb1 : decide ((Tb.length : Int) > 0) = b1
      rw [← orE_assoc]
      refine d_lb (!b1 && (e == 0)) (by rw [← hb1]; rfl) ?_
      refine d_ite (fun h => ?_) fun h => ?_
      · have h : (!b1 && (e == 0)) = true := h
        rw [h, wantT 7 h, orE_l (if constB V G (x.cell 1).list 127 = true then 0 else 6) (by decide)]
        refine d_callx [i0, V, i2, i3, 127] [c] [T, Fs, G, Tb, Me, (x.cell 1).list] ([], [constB V G (x.cell 1).list 127], []) e29_20 rfl rfl rfl q_const1 rfl ?_
        exact seg_fs (n := 3) (by omega) rfl rfl rfl hl rfl
      · have h : (!b1 && (e == 0)) = false := h
        rw [h, wantF 7 h]
        refine d_callx [i0, V, i2, i3, 127] [c] [T, Fs, G, Tb, Me, (x.cell 1).list] ([], [constB V G (x.cell 1).list 127], []) e29_20 rfl rfl rfl q_const1 rfl ?_
        generalize constB V G (x.cell 1).list 127 = b2
        refine d_ite (fun h => ?_) fun h => ?_
        · have h : (!b2 && (e == 0)) = true := h
          rw [wantT 6 h]
          exact seg_fs (n := 3) (by omega) rfl rfl rfl hl rfl
        · have h : (!b2 && (e == 0)) = false := h
          rw [wantF 6 h]
          exact seg_fs (n := 3) (by omega) rfl rfl rfl hl rfl
    · rw [if_neg hm, orE_z]
      refine d_itF (eq_f (by rw [hx] at hm; exact hm)) ?_
      exact seg_fs (n := 1) (by omega) rfl rfl rfl hl rfl
  · unfold l29_11
    rw [he1]
    exact d_itF (lt_f (show (mEl.length : Int) ≤ (mEl.length : Int) by omega)) rfl
  unfold k29_12
  refine d_rq rfl ?_
  show Vx.T.den _ _ [i0, V, i2, i3, x0, 2, (mEl.length : Int), e1] [c] [T, Fs, G, Tb, Me, mT, mI, mF, mTb, mM, mG, mE, mS, mEl, mC, mD, mN] = _
  refine d_loop (fun i => ([(i : Int), errN (daE V Me.length G mD) e1 i], [], [])) mD.length (by omega) 4 ([(mD.length : Int), errN (daE V Me.length G mD) e1 mD.length], [], []) rfl (fun i hi => ?_) (fun _ _ => rfl) ?_ rfl ?_
  · show Vx.T.den _ l29_9 [i0, V, i2, i3, x0, 2, (mEl.length : Int), e1, (i : Int), errN (daE V Me.length G mD) e1 i] [c] [T, Fs, G, Tb, Me, mT, mI, mF, mTb, mM, mG, mE, mS, mEl, mC, mD, mN] = some (.nxt ([((i + 1 : Nat) : Int), errN (daE V Me.length G mD) e1 (i + 1)], [], []))
    simp only [errN]
    generalize errN (daE V Me.length G mD) e1 i = e at *
    unfold daE acE
    unfold l29_9
    obtain ⟨x, hx⟩ : ∃ x, x = mD.getD i (.i 0) := ⟨_, rfl⟩
    rw [← hx]
    refine d_itT (lt_t (show (i : Int) < (mD.length : Int) by omega)) (d_rq (ge_t (show (0 : Int) ≤ (i : Int) by omega)) (d_lst [(x.cell 1).list, (x.cell 2).list] (by rw [hx]; rfl) ?_))
    show Vx.T.den _ _ [i0, V, i2, i3, x0, 2, (mEl.length : Int), e1, (i : Int), e] [c] [T, Fs, G, Tb, Me, mT, mI, mF, mTb, mM, mG, mE, mS, mEl, mC, mD, mN, (x.cell 1).list, (x.cell 2).list] = _
    by_cases hm : (x.cell 0).int = 0
    · rw [if_pos hm]
      refine d_itT (eq_t (by rw [hx] at hm; exact hm)) ?_
      generalize hb1 : decide ((Me.length : Int) > 0) = b1
      rw [← orE_assoc]
      refine d_lb (!b1 && (e == 0)) (by rw [← hb1]; rfl) ?_
      refine d_ite (fun h => ?_) fun h => ?_
      · have h : (!b1 && (e == 0)) = true := h
        rw [h, wantT 7 h, orE_l (if constB V G (x.cell 1).list 127 = true then 0 else 6) (by decide)]
        refine d_callx [i0, V, i2, i3, 127] [c] [T, Fs, G, Tb, Me, (x.cell 1).list] ([], [constB V G (x.cell 1).list 127], []) e29_20 rfl rfl rfl q_const1 rfl ?_
        rw [← up1 i (by omega)]; rfl
      · have h : (!b1 && (e == 0)) = false := h
        rw [h, wantF 7 h]
        refine d_callx [i0, V, i2, i3, 127] [c] [T, Fs, G, Tb, Me, (x.cell 1).list] ([], [constB V G (x.cell 1).list 127], []) e29_20 rfl rfl rfl q_const1 rfl ?_
        generalize constB V G (x.cell 1).list 127 = b2
        refine d_ite (fun h => ?_) fun h => ?_
        · have h : (!b2 && (e == 0)) = true := h
          rw [wantT 6 h, ← up1 i (by omega)]; rfl
        · have h : (!b2 && (e == 0)) = false := h
          rw [wantF 6 h, ← up1 i (by omega)]; rfl
    · rw [if_neg hm, orE_z, ← up1 i (by omega)]
      exact d_itF (eq_f (by rw [hx] at hm; exact hm)) rfl
  · unfold l29_9
    exact d_itF (lt_f (show (mD.length : Int) ≤ (mD.length : Int) by omega)) rfl
  · unfold k29_10
    exact d_rq rfl rfl
/-! the whole -/
def tyD (T : List D) (i : Nat) : D := .st [.l ((T.getD i (.i 0)).cell 0).list, .l ((T.getD i (.i 0)).cell 1).list]
def ofT (T : List D) : List D := mapN (tyD T) T.length
def inF (Im : List D) : List D := accN (impF Im) [] Im.length
def inG (Im : List D) : List D := accN (impG Im) [] Im.length
def inT (Im : List D) : List D := accN (impT Im) [] Im.length
def inM (Im : List D) : List D := accN (impM Im) [] Im.length
def ofF (Im mF : List D) : List D := inF Im ++ mapN (fnD mF) mF.length
def ofG (Im mG : List D) : List D := inG Im ++ mapN (glD mG) mG.length
def ofTb (Im mTb : List D) : List D := inT Im ++ mapN (lmD mTb) mTb.length
def ofMe (Im mM : List D) : List D := inM Im ++ mapN (lmD mM) mM.length
def stOk (T Fs : List D) (f : Int) : Bool := hasB f Fs.length && hasB (fnT Fs f) T.length
def tyP (T : List D) (t : Int) : List D := ((T.getD t.toNat (.i 0)).cell 0).list
def tyR (T : List D) (t : Int) : List D := ((T.getD t.toNat (.i 0)).cell 1).list
def stE (T Fs mS : List D) (i : Nat) : Int := if stOk T Fs ((mS.getD i (.i 0)).cell 0).int = true then (if (((tyP T (fnT Fs ((mS.getD i (.i 0)).cell 0).int)).length : Int) + ((tyR T (fnT Fs ((mS.getD i (.i 0)).cell 0).int)).length : Int) == 0) = true then 0 else 6) else 7
def loE (T mF : List D) (i : Nat) : Int := if hasB ((mF.getD i (.i 0)).cell 0).int T.length = true then (if decide (((tyP T ((mF.getD i (.i 0)).cell 0).int).length : Int) + ((((mF.getD i (.i 0)).cell 1).list.length : Nat) : Int) ≤ 64) = true then 0 else 4) else 0
def ofErr (T Im mF mTb mM mG mE mS mEl mD : List D) : Int :=
  errN (loE (ofT T) mF) (errN (daE (inG Im).length (ofMe Im mM).length (ofG Im mG) mD) (errN (elE (inG Im).length (ofF Im mF).length (ofTb Im mTb).length (ofG Im mG) mEl)
    (errN (stE (ofT T) (ofF Im mF) mS) (errN (exE (ofF Im mF).length (ofTb Im mTb).length (ofMe Im mM).length (ofG Im mG).length mE)
      (ownE (inG Im).length (errN (impE Im (ofT T).length) 0 Im.length) (ofT T) (inG Im) (inT Im) (inM Im) mF mTb mM mG) mE.length) mS.length) mEl.length) mD.length) mF.length
def ofRes (T Im mF mTb mM mG mE mS mEl mC mD : List D) : Vx.R :=
  if ofErr T Im mF mTb mM mG mE mS mEl mD = 0 then ([(inF Im).length, (inG Im).length, mEl.length, mD.length, 0], [decide ((mC.length : Int) > 0)], [ofT T, ofF Im mF, ofG Im mG, ofTb Im mTb, ofMe Im mM])
  else ([0, 0, 0, 0, ofErr T Im mF mTb mM mG mE mS mEl mD], [false], [[], [], [], [], []])
theorem ofT_len (T : List D) : (ofT T).length = T.length := mapN_len _ _
theorem inF_le (Im : List D) : (inF Im).length ≤ Im.length := by have := accN_le (impF_le Im) (A := []) Im.length; unfold inF; simpa using this
theorem inG_le (Im : List D) : (inG Im).length ≤ Im.length := by have := accN_le (impG_le Im) (A := []) Im.length; unfold inG; simpa using this
theorem inT_le (Im : List D) : (inT Im).length ≤ Im.length := by have := accN_le (impT_le Im) (A := []) Im.length; unfold inT; simpa using this
theorem inM_le (Im : List D) : (inM Im).length ≤ Im.length := by have := accN_le (impM_le Im) (A := []) Im.length; unfold inM; simpa using this
theorem ofT_cell0 (T : List D) {i : Nat} (h : i < T.length) : ((ofT T).getD i (.i 0)).cell 0 = .l ((T.getD i (.i 0)).cell 0).list := by unfold ofT; rw [mapN_get _ h]; rfl
theorem ofT_cell1 (T : List D) {i : Nat} (h : i < T.length) : ((ofT T).getD i (.i 0)).cell 1 = .l ((T.getD i (.i 0)).cell 1).list := by unfold ofT; rw [mapN_get _ h]; rfl
/-- A module that isn't too great. -/
structure Mok (T Im mF mTb mM mG mE mS mEl mC mD : List D) : Prop where
  hT : T.length ≤ 4000
  hI : Im.length ≤ 4000
  hF : mF.length ≤ 4000
  hTb : mTb.length ≤ 4000
  hM : mM.length ≤ 4000
  hG : mG.length ≤ 4000
  hE : mE.length ≤ 4000
  hS : mS.length ≤ 4000
  hEl : mEl.length ≤ 4000
  hD : mD.length ≤ 4000
  ty : tyB T
  lo : ∀ i, i < mF.length → ((mF.getD i (.i 0)).cell 1).list.length ≤ 1000000
  el : ∀ i, i < mEl.length → ((mEl.getD i (.i 0)).cell 2).list.length ≤ 1000000
theorem q_of {T Im mF mTb mM mG mE mS mEl mC mD mN : List D} (h : Mok T Im mF mTb mM mG mE mS mEl mC mD) : F10 [] [] [T, Im, mF, mTb, mM, mG, mE, mS, mEl, mC, mD, mN] = some (ofRes T Im mF mTb mM mG mE mS mEl mC mD) := by
  have hT := h.hT; have hI := h.hI; have hF := h.hF; have hTb := h.hTb; have hM := h.hM; have hG := h.hG; have hE := h.hE; have hS := h.hS; have hEl := h.hEl; have hD := h.hD
  have ty := h.ty; have lo := h.lo; have el := h.el
  have hty : tyB (ofT T) := by
    intro i hi
    rw [ofT_len] at hi
    rw [ofT_cell0 T hi, ofT_cell1 T hi]
    exact ty i hi
  refine of_ret ?_
  unfold t10
  refine d_loop (fun i => ([(i : Int)], [], [mapN (tyD T) i])) T.length (by omega) 2 ([(T.length : Int)], [], [ofT T]) rfl (fun i hi => ?_) (fun _ _ => rfl) ?_ rfl ?_
  · show Vx.T.den _ l10_5 [(i : Int)] [] [T, Im, mF, mTb, mM, mG, mE, mS, mEl, mC, mD, mN, mapN (tyD T) i] = some (.nxt ([((i + 1 : Nat) : Int)], [], [mapN (tyD T) (i + 1)]))
    have hs := mapN_succ [] (tyD T) i
    rw [List.nil_append, List.nil_append] at hs
    rw [← hs, ← up1 i (by omega)]
    have hl : (mapN (tyD T) i).length = i := mapN_len _ _
    obtain ⟨t1, t2⟩ := ty i hi
    generalize mapN (tyD T) i = A at *
    unfold l10_5
    refine d_itT (lt_t (show (i : Int) < (T.length : Int) by omega)) (d_rq (ge_t (show (0 : Int) ≤ (i : Int) by omega)) (d_lst [((T.getD i (.i 0)).cell 0).list, ((T.getD i (.i 0)).cell 1).list] rfl ?_))
    refine d_callx [] [] [((T.getD i (.i 0)).cell 0).list, ((T.getD i (.i 0)).cell 1).list] ([], [], [((T.getD i (.i 0)).cell 0).list, ((T.getD i (.i 0)).cell 1).list]) e10_24 rfl rfl rfl (q_copied _ _ (by omega) (by omega)) rfl ?_
    refine d_lst [[tyD T i]] rfl (d_rq (an_t (le_t (show (A.length : Int) ≤ 718048409976 by omega)) rfl) (d_lst [A ++ [tyD T i]] rfl rfl))
  · unfold l10_5
    exact d_itF (lt_f (show (T.length : Int) ≤ (T.length : Int) by omega)) rfl
  unfold k10_6
  have l1 := inF_le Im; have l2 := inG_le Im; have l3 := inT_le Im; have l4 := inM_le Im
  have n1 : (ofF Im mF).length = (inF Im).length + mF.length := by unfold ofF; rw [List.length_append, mapN_len]
  have n2 : (ofG Im mG).length = (inG Im).length + mG.length := by unfold ofG; rw [List.length_append, mapN_len]
  have n3 : (ofTb Im mTb).length = (inT Im).length + mTb.length := by unfold ofTb; rw [List.length_append, mapN_len]
  have n4 : (ofMe Im mM).length = (inM Im).length + mM.length := by unfold ofMe; rw [List.length_append, mapN_len]
  have hT' := ofT_len T
  have hi := q_imports (E0 := (mEl.length : Int)) (D0 := (mD.length : Int)) (x0 := 0) (c := decide ((mC.length : Int) > 0)) (T := ofT T) (Im := Im) hI
  have ho := q_own (i0 := ((inF Im).length : Int)) (V := ((inG Im).length : Int)) (i2 := (mEl.length : Int)) (i3 := (mD.length : Int)) (x0 := errN (impE Im (ofT T).length) 0 Im.length) (c := decide ((mC.length : Int) > 0)) (T := ofT T) (Fs := inF Im) (G := inG Im) (Tb := inT Im) (Me := inM Im) (mT := T) (mI := Im) (mF := mF) (mTb := mTb) (mM := mM) (mG := mG) (mE := mE) (mS := mS) (mEl := mEl) (mC := mC) (mD := mD) (mN := mN) (by omega) (by omega) (by omega) (by omega) (by omega) hF hTb hM hG
  unfold ofRes
  have hi : F25 [0, 0, (mEl.length : Int), (mD.length : Int), 0] [decide ((mC.length : Int) > 0)] [ofT T, [], [], [], [], Im] = some ([((inF Im).length : Int), ((inG Im).length : Int), (mEl.length : Int), (mD.length : Int), errN (impE Im (ofT T).length) 0 Im.length], [decide ((mC.length : Int) > 0)], [ofT T, inF Im, inG Im, inT Im, inM Im]) := hi
  have ho : F26 [((inF Im).length : Int), ((inG Im).length : Int), (mEl.length : Int), (mD.length : Int), errN (impE Im (ofT T).length) 0 Im.length] [decide ((mC.length : Int) > 0)] [ofT T, inF Im, inG Im, inT Im, inM Im, T, Im, mF, mTb, mM, mG, mE, mS, mEl, mC, mD, mN] = some ([((inF Im).length : Int), ((inG Im).length : Int), (mEl.length : Int), (mD.length : Int), ownE (inG Im).length (errN (impE Im (ofT T).length) 0 Im.length) (ofT T) (inG Im) (inT Im) (inM Im) mF mTb mM mG], [decide ((mC.length : Int) > 0)], [ofT T, ofF Im mF, ofG Im mG, ofTb Im mTb, ofMe Im mM]) := ho
  obtain ⟨E, he⟩ : ∃ z, z = ofErr T Im mF mTb mM mG mE mS mEl mD := ⟨_, rfl⟩
  rw [← he]
  unfold ofErr at he
  generalize ownE (inG Im).length (errN (impE Im (ofT T).length) 0 Im.length) (ofT T) (inG Im) (inT Im) (inM Im) mF mTb mM mG = e2 at *
  generalize errN (impE Im (ofT T).length) 0 Im.length = e1 at *
  generalize inT Im = IT at *
  generalize inM Im = IM at *
  generalize inF Im = IF at *
  generalize inG Im = IG at *
  generalize ofT T = T' at *
  generalize ofF Im mF = Fs at *
  generalize ofG Im mG = G at *
  generalize ofTb Im mTb = Tb at *
  generalize ofMe Im mM = Me at *
  generalize hcc : decide ((mC.length : Int) > 0) = cc at *
  refine d_rq rfl ?_
  refine d_callx [0, 0, (mEl.length : Int), (mD.length : Int), 0] [cc] [T', [], [], [], [], Im] _ e10_25 rfl (by rw [← hcc]; rfl) rfl hi rfl ?_
  refine d_callx [(IF.length : Int), (IG.length : Int), (mEl.length : Int), (mD.length : Int), e1] [cc] [T', IF, IG, IT, IM, T, Im, mF, mTb, mM, mG, mE, mS, mEl, mC, mD, mN] _ e10_26 rfl rfl rfl ho rfl ?_
  obtain ⟨e3, he3⟩ : ∃ z, z = errN (exE Fs.length Tb.length Me.length G.length mE) e2 mE.length := ⟨_, rfl⟩
  rw [← he3] at he
  refine d_callx [(IF.length : Int), (IG.length : Int), (mEl.length : Int), (mD.length : Int), e2] [cc] [T', Fs, G, Tb, Me, mE] ([(IF.length : Int), (IG.length : Int), (mEl.length : Int), (mD.length : Int), e3], [cc], [T', Fs, G, Tb, Me]) e10_27 rfl rfl rfl (by rw [he3]; exact q_exports hE) rfl ?_
  show Vx.T.den _ _ [2, (T.length : Int), (IF.length : Int), (IG.length : Int), (mEl.length : Int), (mD.length : Int), e1, (IF.length : Int), (IG.length : Int), (mEl.length : Int), (mD.length : Int), e2, (IF.length : Int), (IG.length : Int), (mEl.length : Int), (mD.length : Int), e3] [cc, cc, cc]
    [T, Im, mF, mTb, mM, mG, mE, mS, mEl, mC, mD, mN, T', T', IF, IG, IT, IM, T', Fs, G, Tb, Me, T', Fs, G, Tb, Me] = _
  obtain ⟨e4, he4⟩ : ∃ z, z = errN (stE T' Fs mS) e3 mS.length := ⟨_, rfl⟩
  rw [← he4] at he
  refine d_loop (fun i => ([(i : Int), errN (stE T' Fs mS) e3 i], [], [T', Fs, G, Tb, Me])) mS.length (by omega) 4 ([(mS.length : Int), e4], [], [T', Fs, G, Tb, Me]) rfl (fun i hi => ?_) (fun _ _ => rfl) ?_ rfl ?_
  · show Vx.T.den _ l10_3 [2, (T.length : Int), (IF.length : Int), (IG.length : Int), (mEl.length : Int), (mD.length : Int), e1, (IF.length : Int), (IG.length : Int), (mEl.length : Int), (mD.length : Int), e2, (IF.length : Int), (IG.length : Int), (mEl.length : Int), (mD.length : Int), e3, (i : Int), errN (stE T' Fs mS) e3 i] [cc, cc, cc]
      [T, Im, mF, mTb, mM, mG, mE, mS, mEl, mC, mD, mN, T', T', IF, IG, IT, IM, T', Fs, G, Tb, Me, T', Fs, G, Tb, Me, T', Fs, G, Tb, Me] = some (.nxt ([((i + 1 : Nat) : Int), errN (stE T' Fs mS) e3 (i + 1)], [], [T', Fs, G, Tb, Me]))
    simp only [errN]
    generalize errN (stE T' Fs mS) e3 i = e at *
    unfold stE
    rw [← up1 i (by omega)]
    obtain ⟨f, hf⟩ : ∃ f, f = ((mS.getD i (.i 0)).cell 0).int := ⟨_, rfl⟩
    rw [← hf]
    unfold l10_3
    have ht := q_typeB (i0 := (IF.length : Int)) (i1 := (IG.length : Int)) (i2 := (mEl.length : Int)) (i3 := (mD.length : Int)) (f := f) (b0 := cc) (T := T') (Fs := Fs) (G := G) (Tb := Tb) (Me := Me) hty
    refine d_itT (lt_t (show (i : Int) < (mS.length : Int) by omega)) (d_rq (ge_t (show (0 : Int) ≤ (i : Int) by omega)) ?_)
    by_cases hok : stOk T' Fs f = true
    · rw [if_pos hok]
      rw [if_pos (by exact hok)] at ht
      have hr : 0 ≤ fnT Fs f ∧ fnT Fs f < T'.length := by simp only [stOk, hasB, Bool.and_eq_true, decide_eq_true_eq] at hok; exact hok.2
      obtain ⟨p1, p2⟩ := hty (fnT Fs f).toNat (by omega)
      have p1 : (tyP T' (fnT Fs f)).length ≤ 1000000 := p1
      have p2 : (tyR T' (fnT Fs f)).length ≤ 1000000 := p2
      have ht : F14 [(IF.length : Int), (IG.length : Int), (mEl.length : Int), (mD.length : Int), f] [cc] [T', Fs, G, Tb, Me] = some ([], [true], [tyP T' (fnT Fs f), tyR T' (fnT Fs f)]) := ht
      generalize tyP T' (fnT Fs f) = P at *
      generalize tyR T' (fnT Fs f) = R at *
      refine d_callx [(IF.length : Int), (IG.length : Int), (mEl.length : Int), (mD.length : Int), f] [cc] [T', Fs, G, Tb, Me] ([], [true], [P, R]) e10_14 (by rw [hf]; rfl) rfl rfl ht rfl ?_
      refine d_itF rfl ?_
      rw [← addI (a := (P.length : Int)) (b := (R.length : Int)) (by omega) (by omega)]
      generalize hb : (arI .add .i64 (P.length : Int) (R.length : Int) == 0) = b
      refine d_lb (!b && (e == 0)) (by rw [← hb]; rfl) ?_
      refine d_ite (fun h => ?_) fun h => ?_
      · rw [wantT 6 (show (!b && (e == 0)) = true from h)]; rfl
      · rw [wantF 6 (show (!b && (e == 0)) = false from h)]; rfl
    · rw [if_neg hok]
      rw [if_neg (by exact hok)] at ht
      refine d_callx [(IF.length : Int), (IG.length : Int), (mEl.length : Int), (mD.length : Int), f] [cc] [T', Fs, G, Tb, Me] ([], [false], [[], []]) e10_14 (by rw [hf]; rfl) rfl rfl ht rfl ?_
      by_cases he : e = 0
      · subst he
        exact d_itT rfl rfl
      · rw [orE_l _ he]
        refine d_itF (by show (true && (e == 0)) = false; rw [eq_f he]; rfl) (d_lb false rfl (d_itF rfl rfl))
  · unfold l10_3
    rw [he4]
    exact d_itF (lt_f (show (mS.length : Int) ≤ (mS.length : Int) by omega)) rfl
  unfold k10_4
  refine d_rq rfl ?_
  show Vx.T.den _ _ [2, (T.length : Int), (IF.length : Int), (IG.length : Int), (mEl.length : Int), (mD.length : Int), e1, (IF.length : Int), (IG.length : Int), (mEl.length : Int), (mD.length : Int), e2, (IF.length : Int), (IG.length : Int), (mEl.length : Int), (mD.length : Int), e3, 4, (mS.length : Int), e4] [cc, cc, cc]
    [T, Im, mF, mTb, mM, mG, mE, mS, mEl, mC, mD, mN, T', T', IF, IG, IT, IM, T', Fs, G, Tb, Me, T', Fs, G, Tb, Me, T', Fs, G, Tb, Me] = _
  obtain ⟨e5, he5⟩ : ∃ z, z = errN (daE IG.length Me.length G mD) (errN (elE IG.length Fs.length Tb.length G mEl) e4 mEl.length) mD.length := ⟨_, rfl⟩
  rw [← he5] at he
  refine d_callx [(IF.length : Int), (IG.length : Int), (mEl.length : Int), (mD.length : Int), e4] [cc] [T', Fs, G, Tb, Me, T, Im, mF, mTb, mM, mG, mE, mS, mEl, mC, mD, mN] ([(IF.length : Int), (IG.length : Int), (mEl.length : Int), (mD.length : Int), e5], [cc], [T', Fs, G, Tb, Me]) e10_29 rfl rfl rfl (by rw [he5]; exact q_segments hEl hD el) rfl ?_
  show Vx.T.den _ _ [2, (T.length : Int), (IF.length : Int), (IG.length : Int), (mEl.length : Int), (mD.length : Int), e1, (IF.length : Int), (IG.length : Int), (mEl.length : Int), (mD.length : Int), e2, (IF.length : Int), (IG.length : Int), (mEl.length : Int), (mD.length : Int), e3, 4, (mS.length : Int), e4, (IF.length : Int), (IG.length : Int), (mEl.length : Int), (mD.length : Int), e5] [cc, cc, cc, cc]
    [T, Im, mF, mTb, mM, mG, mE, mS, mEl, mC, mD, mN, T', T', IF, IG, IT, IM, T', Fs, G, Tb, Me, T', Fs, G, Tb, Me, T', Fs, G, Tb, Me, T', Fs, G, Tb, Me] = _
  refine d_loop (fun i => ([(i : Int), (IF.length : Int), (IG.length : Int), (mEl.length : Int), (mD.length : Int), errN (loE T' mF) e5 i], [], [T', Fs, G, Tb, Me])) mF.length (by omega) 6 ([(mF.length : Int), (IF.length : Int), (IG.length : Int), (mEl.length : Int), (mD.length : Int), E], [], [T', Fs, G, Tb, Me]) rfl (fun i hi => ?_) (fun _ _ => rfl) ?_ rfl ?_
  · show Vx.T.den _ l10_1 [2, (T.length : Int), (IF.length : Int), (IG.length : Int), (mEl.length : Int), (mD.length : Int), e1, (IF.length : Int), (IG.length : Int), (mEl.length : Int), (mD.length : Int), e2, (IF.length : Int), (IG.length : Int), (mEl.length : Int), (mD.length : Int), e3, 4, (mS.length : Int), e4, (IF.length : Int), (IG.length : Int), (mEl.length : Int), (mD.length : Int), e5, (i : Int), (IF.length : Int), (IG.length : Int), (mEl.length : Int), (mD.length : Int), errN (loE T' mF) e5 i] [cc, cc, cc, cc]
      [T, Im, mF, mTb, mM, mG, mE, mS, mEl, mC, mD, mN, T', T', IF, IG, IT, IM, T', Fs, G, Tb, Me, T', Fs, G, Tb, Me, T', Fs, G, Tb, Me, T', Fs, G, Tb, Me, T', Fs, G, Tb, Me] = some (.nxt ([((i + 1 : Nat) : Int), (IF.length : Int), (IG.length : Int), (mEl.length : Int), (mD.length : Int), errN (loE T' mF) e5 (i + 1)], [], [T', Fs, G, Tb, Me]))
    simp only [errN]
    generalize errN (loE T' mF) e5 i = e at *
    unfold loE
    rw [← up1 i (by omega)]
    have hlo := lo i hi
    obtain ⟨x, hx⟩ : ∃ x, x = mF.getD i (.i 0) := ⟨_, rfl⟩
    rw [← hx] at hlo ⊢
    unfold l10_1
    refine d_itT (lt_t (show (i : Int) < (mF.length : Int) by omega)) (d_rq (ge_t (show (0 : Int) ≤ (i : Int) by omega)) (d_lst [(x.cell 1).list, (x.cell 2).list] (by rw [hx]; rfl) ?_))
    refine d_callx [(x.cell 0).int, (T'.length : Int)] [] [] ([], [hasB (x.cell 0).int (T'.length : Int)], []) e10_30 (by rw [hx]; rfl) rfl rfl (q_has _ _) rfl ?_
    by_cases hh : hasB (x.cell 0).int (T'.length : Int) = true
    · rw [if_pos hh]
      have hr : 0 ≤ (x.cell 0).int ∧ (x.cell 0).int < T'.length := by simp only [hasB, Bool.and_eq_true, decide_eq_true_eq] at hh; exact hh
      obtain ⟨p1, p2⟩ := hty (x.cell 0).int.toNat (by omega)
      have p1 : (tyP T' (x.cell 0).int).length ≤ 1000000 := p1
      have hq : (decide (((mF.getD i (.i 0)).cell 0).int ≥ 0) && decide (((mF.getD i (.i 0)).cell 0).int < ((T'.length : Nat) : Int))) = true := by rw [← hx]; exact hh
      refine d_itT hh (d_rq hq (d_rq hq (d_rq hq (d_lst [tyP T' (x.cell 0).int] (by rw [hx]; rfl) ?_))))
      generalize tyP T' (x.cell 0).int = P at *
      generalize (x.cell 1).list = L at *
      rw [← addI (a := (P.length : Int)) (b := (L.length : Int)) (by omega) (by omega)]
      generalize hb : decide (arI .add .i64 (P.length : Int) (L.length : Int) ≤ 64) = b
      refine d_lb (!b && (e == 0)) (by rw [← hb]; rfl) ?_
      refine d_ite (fun h => ?_) fun h => ?_
      · rw [wantT 4 (show (!b && (e == 0)) = true from h)]; rfl
      · rw [wantF 4 (show (!b && (e == 0)) = false from h)]; rfl
    · rw [if_neg hh, orE_z]
      exact d_itF (Bool.eq_false_iff.2 hh) rfl
  · unfold l10_1
    rw [he]
    exact d_itF (lt_f (show (mF.length : Int) ≤ (mF.length : Int) by omega)) rfl
  · unfold k10_2
    refine d_rq rfl ?_
    by_cases hE : E = 0
    · rw [if_pos hE]
      exact d_itF (ne_f hE) rfl
    · rw [if_neg hE]
      exact d_itT (ne_t hE) rfl
/-! a module that isn't too long -/
def mo (a n : Int) : Int := if a < 0 ∨ n > 3000 ∨ a + n > 3000 then -1 else a + n
theorem mo_ok {a n : Int} (h0 : -1 ≤ a) (hn : 0 ≤ n) : -1 ≤ mo a n ∧ mo a n ≤ 3000 ∧ (0 ≤ mo a n → 0 ≤ a ∧ n ≤ 3000) := by
  unfold mo; split <;> omega
theorem q_more {a n : Int} (h0 : -1 ≤ a) (h1 : a ≤ 3000) (hn : 0 ≤ n) : F22 [a, n] [] [] = some ([mo a n], [], []) := by
  refine of_ret ?_
  unfold t22
  unfold mo
  by_cases h : a < 0 ∨ n > 3000
  · have hb : (decide (a < 0) || decide (n > 3000)) = true := by simpa using h
    rw [if_pos (by omega)]
    exact d_lb true hb (d_lb true rfl (d_itT rfl rfl))
  · have hb : (decide (a < 0) || decide (n > 3000)) = false := by simpa using h
    have ha : arI .add .i64 a n = a + n := addI (by omega) (by omega)
    refine d_lb false hb ?_
    by_cases h2 : a + n > 3000
    · rw [if_pos (by omega)]
      exact d_lb true (by show (false || decide (arI .add .i64 a n > 3000)) = true; rw [ha, decide_eq_true h2]; rfl) (d_itT rfl rfl)
    · rw [if_neg (by omega), ← ha]
      exact d_lb false (by show (false || decide (arI .add .i64 a n > 3000)) = false; rw [ha, decide_eq_false h2]; rfl) (d_itF rfl rfl)
theorem it_sum {nb nl : Nat} {step : Vx.R → Option Out} {t : Nat} (n : Nat) (P : Nat → Prop) (hs : ∀ i (a : Int), i < n → -1 ≤ a → a ≤ 3000 → ∃ a' : Int, step ([a, (i : Int)], [], []) = some (.nxt ([a', ((i + 1 : Nat) : Int)], [], [])) ∧ -1 ≤ a' ∧ a' ≤ 3000 ∧ (0 ≤ a' → 0 ≤ a ∧ P i))
    (he : ∀ a : Int, step ([a, (n : Int)], [], []) = some (.brk t ([a, (n : Int)], [], []))) : ∀ (d i k : Nat) (a : Int), i + d = n → -1 ≤ a → a ≤ 3000 → ∃ a' : Int, iterT 2 0 0 step (k + (d + 1)) ([a, (i : Int)], [], []) = some (.brk t ([a', (n : Int)], [], [])) ∧ -1 ≤ a' ∧ a' ≤ 3000 ∧ (0 ≤ a' → 0 ≤ a ∧ ∀ j, i ≤ j → j < n → P j) := by
  intro d
  induction d with
  | zero =>
    intro i k a h h0 h1
    obtain rfl : i = n := by omega
    exact ⟨a, it_brk (he a), h0, h1, fun h => ⟨h, fun j h2 h3 => by omega⟩⟩
  | succ d ih =>
    intro i k a h h0 h1
    obtain ⟨a', h2, h3, h4, h5⟩ := hs i a (by omega) h0 h1
    obtain ⟨a2, h6, h7, h8, h9⟩ := ih (i + 1) k a' (by omega) h3 h4
    refine ⟨a2, it_nxt h2 rfl h6, h7, h8, fun h => ?_⟩
    obtain ⟨g1, g2⟩ := h9 h
    obtain ⟨g3, g4⟩ := h5 g1
    refine ⟨g3, fun j j1 j2 => ?_⟩
    by_cases e : j = i
    · rw [e]; exact g4
    · exact g2 j (by omega) j2
theorem x_sum {C : Nat → Vx.Fn} {ii bb : List E} {ll : List Vx.LE} {body k : Vx.T} {is bs ls} {Q : Prop} (t : Nat) (n : Nat) (hn : n ≤ 1000000) (P : Nat → Prop) (a : Int) (ha : -1 ≤ a) (hb : a ≤ 3000) (h0 : vals ii bb ll is bs ls = ([a, 0], [], []))
    (hs : ∀ i (a : Int), i < n → -1 ≤ a → a ≤ 3000 → ∃ a' : Int, body.den C (is ++ [a, (i : Int)]) (bs ++ []) (ls ++ []) = some (.nxt ([a', ((i + 1 : Nat) : Int)], [], [])) ∧ -1 ≤ a' ∧ a' ≤ 3000 ∧ (0 ≤ a' → 0 ≤ a ∧ P i))
    (he : ∀ a : Int, body.den C (is ++ [a, (n : Int)]) (bs ++ []) (ls ++ []) = some (.brk t ([a, (n : Int)], [], [])))
    (hk : ∀ a' : Int, -1 ≤ a' → a' ≤ 3000 → (0 ≤ a' → 0 ≤ a ∧ ∀ j, j < n → P j) → ∃ b, k.den C (is ++ [(t : Int), a', (n : Int)]) bs ls = some (.ret ([], [b], [])) ∧ (b = true → Q)) : ∃ b, (Vx.T.lp ii bb ll 2 0 0 body k).den C is bs ls = some (.ret ([], [b], [])) ∧ (b = true → Q) := by
  obtain ⟨m, hm⟩ := fuel_eq (n + 1) (by omega)
  obtain ⟨a', h1, h2, h3, h4⟩ := it_sum (nb := 0) (nl := 0) (step := fun r => body.den C (is ++ r.1) (bs ++ r.2.1) (ls ++ r.2.2)) (t := t) n P hs he n 0 m a (by omega) ha hb
  obtain ⟨b, h5, h6⟩ := hk a' h2 h3 fun h => ⟨(h4 h).1, fun j hj => (h4 h).2 j (by omega) hj⟩
  refine ⟨b, d_lp _ (by rw [hm, h0]; exact h1) rfl ?_, h6⟩
  rw [List.append_nil, List.append_nil]
  exact h5
theorem q_body {a : Int} {L : List D} (h0 : -1 ≤ a) (h1 : a ≤ 3000) : ∃ r : Int, F23 [a] [] [L] = some ([r], [], []) ∧ -1 ≤ r ∧ r ≤ 3000 ∧ (0 ≤ r → 0 ≤ a) := by
  obtain ⟨m0, m1, m2⟩ := mo_ok (a := a) (n := (L.length : Int)) h0 (by omega)
  have hgo : ∀ (d i k : Nat) (s : Int), i + d = L.length → -1 ≤ s → s ≤ 3000 → (L.length ≤ 3000 ∨ (s = -1)) → ∃ (s' : Int) (x : Int), iterT 2 0 0 (fun r => l23_1.den (Tab.fn a23) ([a, mo a L.length] ++ r.1) ([] ++ r.2.1) ([L] ++ r.2.2)) (k + (d + 1)) ([s, (i : Int)], [], []) = some (.brk 2 ([s', x], [], [])) ∧ -1 ≤ s' ∧ s' ≤ 3000 ∧ (0 ≤ s' → 0 ≤ s) := by
    have stop : ∀ (i k : Nat) (s : Int), (¬ (i : Int) < L.length ∨ s < 0) → iterT 2 0 0 (fun r => l23_1.den (Tab.fn a23) ([a, mo a L.length] ++ r.1) ([] ++ r.2.1) ([L] ++ r.2.2)) (k + 1) ([s, (i : Int)], [], []) = some (.brk 2 ([s, (i : Int)], [], [])) := by
      intro i k s h
      refine it_brk ?_
      show Vx.T.den _ l23_1 [a, mo a L.length, s, (i : Int)] [] [L] = _
      unfold l23_1
      refine d_lb false ?_ (d_itF rfl rfl)
      show (decide ((i : Int) < (L.length : Int)) && decide (s ≥ 0)) = false
      rcases h with h | h
      · rw [decide_eq_false h]; rfl
      · rw [ge_f h, Bool.and_false]
    intro d
    induction d with
    | zero =>
      intro i k s h h0 h1 _
      exact ⟨s, i, stop i k s (.inl (by omega)), h0, h1, id⟩
    | succ d ih =>
      intro i k s h h0 h1 hs
      by_cases hneg : s < 0
      · exact ⟨s, i, stop i (k + (d + 1)) s (.inr hneg), h0, h1, id⟩
      · have hL3 : L.length ≤ 3000 := by omega
        have hi : i < L.length := by omega
        obtain ⟨y, hy⟩ : ∃ y, y = ((L.getD i (.i 0)).cell 4).list := ⟨_, rfl⟩
        obtain ⟨c0, c1, c2⟩ := mo_ok (a := s) (n := (y.length : Int)) h0 (by omega)
        obtain ⟨s', x, g1, g2, g3, g4⟩ := ih (i + 1) k (mo s y.length) (by omega) c0 c1 (.inl hL3)
        refine ⟨s', x, it_nxt (r' := ([mo s y.length, ((i + 1 : Nat) : Int)], [], [])) ?_ rfl g1, g2, g3, fun h => (c2 (g4 h)).1⟩
        show Vx.T.den _ l23_1 [a, mo a L.length, s, (i : Int)] [] [L] = _
        unfold l23_1
        have hq : (decide ((i : Int) ≥ 0) && decide ((i : Int) < (L.length : Int))) = true := an_t (ge_t (by omega)) (lt_t (by omega))
        refine d_lb true (an_t (lt_t (show (i : Int) < (L.length : Int) by omega)) (ge_t (show (0 : Int) ≤ s by omega))) (d_itT rfl (d_rq hq (d_rq hq (d_rq hq (d_lst [y] (by rw [hy]; rfl) ?_)))))
        refine d_callx [s, (y.length : Int)] [] [] ([mo s y.length], [], []) e23_22 rfl rfl rfl (q_more h0 h1 (by omega)) rfl ?_
        rw [← up1 i (by omega)]; rfl
  have hs0 : L.length ≤ 3000 ∨ mo a L.length = -1 := by unfold mo; split <;> omega
  by_cases hL3 : L.length ≤ 3000
  · obtain ⟨m, hm⟩ := fuel_eq (L.length + 1) (by omega)
    obtain ⟨s', x, g1, g2, g3, g4⟩ := hgo L.length 0 m (mo a L.length) (by omega) m0 m1 hs0
    rw [← hm] at g1
    refine ⟨s', of_ret ?_, g2, g3, fun h => (m2 (g4 h)).1⟩
    unfold t23
    refine d_callx [a, (L.length : Int)] [] [] ([mo a L.length], [], []) e23_22 rfl rfl rfl (q_more h0 h1 (by omega)) rfl ?_
    exact d_lp _ g1 rfl rfl
  · have hm1 : mo a L.length = -1 := by omega
    refine ⟨-1, of_ret ?_, by omega, by omega, fun h => by omega⟩
    unfold t23
    refine d_callx [a, (L.length : Int)] [] [] ([mo a L.length], [], []) e23_22 rfl rfl rfl (q_more h0 h1 (by omega)) rfl ?_
    obtain ⟨m, hm⟩ := fuel_eq (0 + 1) (by omega)
    refine d_lp ([-1, 0], [], []) (t := 2) ?_ rfl rfl
    rw [hm]
    refine it_brk ?_
    show Vx.T.den _ l23_1 [a, mo a L.length, mo a L.length, 0] [] [L] = _
    rw [hm1]
    unfold l23_1
    refine d_lb false ?_ (d_itF rfl rfl)
    show (decide ((0 : Int) < (L.length : Int)) && decide ((-1 : Int) ≥ 0)) = false
    rw [ge_f (show (-1 : Int) < 0 by decide), Bool.and_false]
theorem q_short8 {T Im mF mTb mM mG mE mS mEl mC mD mN : List D} : ∃ b, F9 [] [] [T, Im, mF, mTb, mM, mG, mE, mS, mEl, mC, mD, mN] = some ([], [b], []) ∧ (b = true →
    (T.length ≤ 70 ∧ Im.length ≤ 70 ∧ mF.length ≤ 70 ∧ mTb.length ≤ 70 ∧ mM.length ≤ 70 ∧ mG.length ≤ 70 ∧ mE.length ≤ 70 ∧ mS.length ≤ 70 ∧ mEl.length ≤ 70 ∧ mC.length ≤ 70 ∧ mD.length ≤ 70 ∧ mN.length ≤ 70) ∧
    (∀ i, i < T.length → ((T.getD i (.i 0)).cell 0).list.length ≤ 3000 ∧ ((T.getD i (.i 0)).cell 1).list.length ≤ 3000) ∧ (∀ i, i < mF.length → ((mF.getD i (.i 0)).cell 1).list.length ≤ 3000) ∧ (∀ i, i < mEl.length → ((mEl.getD i (.i 0)).cell 2).list.length ≤ 3000)) := by
  obtain ⟨M, hM⟩ : ∃ M : List D, M = [.i (T.length : Int), .i (Im.length : Int), .i (mF.length : Int), .i (mTb.length : Int), .i (mM.length : Int), .i (mG.length : Int), .i (mE.length : Int), .i (mS.length : Int), .i (mEl.length : Int), .i (mC.length : Int), .i (mD.length : Int), .i (mN.length : Int)] := ⟨_, rfl⟩
  have hM12 : M.length = 12 := by rw [hM]; rfl
  have first : ∀ {Q : Prop}, ((∀ i, i < 12 → ((M.getD i (.i 0)).cell 0).int ≤ 70) → ∃ b, k9_18.den (Tab.fn a9) [2, 12] [false] [T, Im, mF, mTb, mM, mG, mE, mS, mEl, mC, mD, mN, M] = some (.ret ([], [b], [])) ∧ (b = true → Q)) →
      ∃ b, t9.den (Tab.fn a9) [] [] [T, Im, mF, mTb, mM, mG, mE, mS, mEl, mC, mD, mN] = some (.ret ([], [b], [])) ∧ (b = true → Q) := by
    intro Q hk
    have body : ∀ i : Nat, i < 12 → (((M.getD i (.i 0)).cell 0).int ≤ 70 → l9_17.den (Tab.fn a9) [(i : Int)] [false] [T, Im, mF, mTb, mM, mG, mE, mS, mEl, mC, mD, mN, M] = some (.nxt ([((i + 1 : Nat) : Int)], [false], []))) ∧
        (¬ ((M.getD i (.i 0)).cell 0).int ≤ 70 → l9_17.den (Tab.fn a9) [(i : Int)] [false] [T, Im, mF, mTb, mM, mG, mE, mS, mEl, mC, mD, mN, M] = some (.ret ([], [false], []))) := by
      intro i hi
      rw [← up1 i (by omega)]
      unfold l9_17
      refine ⟨fun h => ?_, fun h => ?_⟩
      · exact d_itT (lt_t (show (i : Int) < (M.length : Int) by omega)) (d_rq (ge_t (show (0 : Int) ≤ (i : Int) by omega)) (d_itF (gt_f h) rfl))
      · exact d_itT (lt_t (show (i : Int) < (M.length : Int) by omega)) (d_rq (ge_t (show (0 : Int) ≤ (i : Int) by omega)) (d_itT (gt_t (show (70 : Int) < ((M.getD i (.i 0)).cell 0).int by omega)) (d_rt rfl)))
    have he : l9_17.den (Tab.fn a9) [((12 : Nat) : Int)] [false] [T, Im, mF, mTb, mM, mG, mE, mS, mEl, mC, mD, mN, M] = some (.brk 2 ([12], [false], [])) := by
      unfold l9_17
      exact d_itF (lt_f (show (M.length : Int) ≤ ((12 : Nat) : Int) by omega)) rfl
    unfold t9
    by_cases hA : ∀ i, i < 12 → ((M.getD i (.i 0)).cell 0).int ≤ 70
    · obtain ⟨b, h1, h2⟩ := hk hA
      refine ⟨b, d_lst [M] (by rw [hM]; rfl) ?_, h2⟩
      exact d_loop (fun i => ([(i : Int)], [false], [])) 12 (by omega) 2 ([12], [false], []) rfl (fun i hi => (body i hi).1 (hA i hi)) (fun _ _ => rfl) he rfl h1
    · refine ⟨false, d_lst [M] (by rw [hM]; rfl) ?_, fun h => by cases h⟩
      refine d_findR (fun i => ([(i : Int)], [false], [])) 12 (by omega) (fun i => decide (((M.getD i (.i 0)).cell 0).int > 70)) rfl (fun _ => ([], [false], [])) 2 ([12], [false], []) (fun i hi hp => (body i hi).1 (by have := of_decide_eq_false hp; omega)) (fun _ _ => rfl) (fun i hi hp => (body i hi).2 (by have := of_decide_eq_true hp; omega)) he rfl (fun _ _ _ _ => rfl) (fun hp => ?_)
      exact absurd (fun i hi => by have := of_decide_eq_false (hp i hi); omega) hA
  have fin : ∀ {Q : Prop}, (∃ b, t9.den (Tab.fn a9) [] [] [T, Im, mF, mTb, mM, mG, mE, mS, mEl, mC, mD, mN] = some (.ret ([], [b], [])) ∧ (b = true → Q)) → ∃ b, F9 [] [] [T, Im, mF, mTb, mM, mG, mE, mS, mEl, mC, mD, mN] = some ([], [b], []) ∧ (b = true → Q) := by
    rintro Q ⟨b, h1, h2⟩; exact ⟨b, of_ret h1, h2⟩
  refine fin (first fun hA => ?_)
  have s0 : T.length ≤ 70 := by have := hA 0 (by omega); rw [hM] at this; exact Int.ofNat_le.1 this
  have s1 : Im.length ≤ 70 := by have := hA 1 (by omega); rw [hM] at this; exact Int.ofNat_le.1 this
  have s2 : mF.length ≤ 70 := by have := hA 2 (by omega); rw [hM] at this; exact Int.ofNat_le.1 this
  have s3 : mTb.length ≤ 70 := by have := hA 3 (by omega); rw [hM] at this; exact Int.ofNat_le.1 this
  have s4 : mM.length ≤ 70 := by have := hA 4 (by omega); rw [hM] at this; exact Int.ofNat_le.1 this
  have s5 : mG.length ≤ 70 := by have := hA 5 (by omega); rw [hM] at this; exact Int.ofNat_le.1 this
  have s6 : mE.length ≤ 70 := by have := hA 6 (by omega); rw [hM] at this; exact Int.ofNat_le.1 this
  have s7 : mS.length ≤ 70 := by have := hA 7 (by omega); rw [hM] at this; exact Int.ofNat_le.1 this
  have s8 : mEl.length ≤ 70 := by have := hA 8 (by omega); rw [hM] at this; exact Int.ofNat_le.1 this
  have s9 : mC.length ≤ 70 := by have := hA 9 (by omega); rw [hM] at this; exact Int.ofNat_le.1 this
  have s10 : mD.length ≤ 70 := by have := hA 10 (by omega); rw [hM] at this; exact Int.ofNat_le.1 this
  have s11 : mN.length ≤ 70 := by have := hA 11 (by omega); rw [hM] at this; exact Int.ofNat_le.1 this
  clear hA hM hM12 first fin
  unfold k9_18
  have rqx : ∀ {c : E} {k : Vx.T} {is bs ls} {Q : Prop}, c.B is bs ls = true → (∃ b, k.den (Tab.fn a9) is bs ls = some (.ret ([], [b], [])) ∧ (b = true → Q)) → ∃ b, (Vx.T.rq c k).den (Tab.fn a9) is bs ls = some (.ret ([], [b], [])) ∧ (b = true → Q) := by
    rintro c k is bs ls Q h ⟨b, h1, h2⟩; exact ⟨b, d_rq h h1, h2⟩
  refine rqx rfl ?_
  refine x_sum 4 T.length (by omega) (fun i => ((T.getD i (.i 0)).cell 0).list.length ≤ 3000 ∧ ((T.getD i (.i 0)).cell 1).list.length ≤ 3000) 0 (by omega) (by omega) rfl (fun i a hi h0 h1 => ?_) (fun a => ?_) (fun a1 p1 q1 r1 => ?_)
  · show ∃ a' : Int, Vx.T.den _ l9_15 [2, 12, a, (i : Int)] [false] [T, Im, mF, mTb, mM, mG, mE, mS, mEl, mC, mD, mN, M] = _ ∧ _
    unfold l9_15
    rw [← up1 i (by omega)]
    obtain ⟨x, hx⟩ : ∃ x, x = T.getD i (.i 0) := ⟨_, rfl⟩
    obtain ⟨m0, m1, m2⟩ := mo_ok (a := a) (n := ((x.cell 0).list.length : Int)) h0 (by omega)
    obtain ⟨c0, c1, c2⟩ := mo_ok (a := mo a (x.cell 0).list.length) (n := ((x.cell 1).list.length : Int)) m0 (by omega)
    rw [← hx]
    refine ⟨mo (mo a (x.cell 0).list.length) (x.cell 1).list.length, ?_, c0, c1, fun h => ⟨(m2 (c2 h).1).1, by have := (m2 (c2 h).1).2; omega, by have := (c2 h).2; omega⟩⟩
    · refine d_itT (lt_t (show (i : Int) < (T.length : Int) by omega)) (d_rq (ge_t (show (0 : Int) ≤ (i : Int) by omega)) (d_lst [(x.cell 0).list, (x.cell 1).list] (by rw [hx]; rfl) ?_))
      refine d_callx [a, ((x.cell 0).list.length : Int)] [] [] ([mo a (x.cell 0).list.length], [], []) e9_22 rfl rfl rfl (q_more (by omega) (by omega) (by omega)) rfl ?_
      refine d_callx [mo a (x.cell 0).list.length, ((x.cell 1).list.length : Int)] [] [] ([mo (mo a (x.cell 0).list.length) (x.cell 1).list.length], [], []) e9_22 rfl rfl rfl (q_more (by omega) (by omega) (by omega)) rfl rfl
  · show Vx.T.den _ l9_15 [2, 12, a, (T.length : Int)] [false] [T, Im, mF, mTb, mM, mG, mE, mS, mEl, mC, mD, mN, M] = _
    unfold l9_15
    exact d_itF (lt_f (show (T.length : Int) ≤ (T.length : Int) by omega)) rfl
  show ∃ b, Vx.T.den _ k9_16 [2, 12, 4, a1, (T.length : Int)] [false] [T, Im, mF, mTb, mM, mG, mE, mS, mEl, mC, mD, mN, M] = _ ∧ _
  unfold k9_16
  refine rqx rfl ?_
  refine x_sum 6 Im.length (by omega) (fun _ => True) a1 (by omega) (by omega) rfl (fun i a hi h0 h1 => ?_) (fun a => ?_) (fun a2 p2 q2 r2 => ?_)
  · show ∃ a' : Int, Vx.T.den _ l9_13 [2, 12, 4, a1, (T.length : Int), a, (i : Int)] [false] [T, Im, mF, mTb, mM, mG, mE, mS, mEl, mC, mD, mN, M] = _ ∧ _
    unfold l9_13
    rw [← up1 i (by omega)]
    obtain ⟨x, hx⟩ : ∃ x, x = Im.getD i (.i 0) := ⟨_, rfl⟩
    obtain ⟨m0, m1, m2⟩ := mo_ok (a := a) (n := ((x.cell 0).list.length : Int)) h0 (by omega)
    obtain ⟨c0, c1, c2⟩ := mo_ok (a := mo a (x.cell 0).list.length) (n := ((x.cell 1).list.length : Int)) m0 (by omega)
    refine ⟨mo (mo a (x.cell 0).list.length) (x.cell 1).list.length, ?_, c0, c1, fun h => ⟨(m2 (c2 h).1).1, trivial⟩⟩
    · refine d_itT (lt_t (show (i : Int) < (Im.length : Int) by omega)) (d_rq (ge_t (show (0 : Int) ≤ (i : Int) by omega)) (d_lst [(x.cell 0).list, (x.cell 1).list] (by rw [hx]; rfl) ?_))
      refine d_callx [a, ((x.cell 0).list.length : Int)] [] [] ([mo a (x.cell 0).list.length], [], []) e9_22 rfl rfl rfl (q_more (by omega) (by omega) (by omega)) rfl ?_
      refine d_callx [mo a (x.cell 0).list.length, ((x.cell 1).list.length : Int)] [] [] ([mo (mo a (x.cell 0).list.length) (x.cell 1).list.length], [], []) e9_22 rfl rfl rfl (q_more (by omega) (by omega) (by omega)) rfl rfl
  · show Vx.T.den _ l9_13 [2, 12, 4, a1, (T.length : Int), a, (Im.length : Int)] [false] [T, Im, mF, mTb, mM, mG, mE, mS, mEl, mC, mD, mN, M] = _
    unfold l9_13
    exact d_itF (lt_f (show (Im.length : Int) ≤ (Im.length : Int) by omega)) rfl
  show ∃ b, Vx.T.den _ k9_14 [2, 12, 4, a1, (T.length : Int), 6, a2, (Im.length : Int)] [false] [T, Im, mF, mTb, mM, mG, mE, mS, mEl, mC, mD, mN, M] = _ ∧ _
  unfold k9_14
  refine rqx rfl ?_
  refine x_sum 8 mF.length (by omega) (fun i => ((mF.getD i (.i 0)).cell 1).list.length ≤ 3000) a2 (by omega) (by omega) rfl (fun i a hi h0 h1 => ?_) (fun a => ?_) (fun a3 p3 q3 r3 => ?_)
  · show ∃ a' : Int, Vx.T.den _ l9_11 [2, 12, 4, a1, (T.length : Int), 6, a2, (Im.length : Int), a, (i : Int)] [false] [T, Im, mF, mTb, mM, mG, mE, mS, mEl, mC, mD, mN, M] = _ ∧ _
    unfold l9_11
    rw [← up1 i (by omega)]
    obtain ⟨x, hx⟩ : ∃ x, x = mF.getD i (.i 0) := ⟨_, rfl⟩
    obtain ⟨m0, m1, m2⟩ := mo_ok (a := a) (n := ((x.cell 1).list.length : Int)) h0 (by omega)
    obtain ⟨r, g, c0, c1, c2⟩ := q_body (L := (x.cell 2).list) m0 m1
    rw [← hx]
    refine ⟨r, ?_, c0, c1, fun h => ⟨(m2 (c2 h)).1, by have := (m2 (c2 h)).2; omega⟩⟩
    · refine d_itT (lt_t (show (i : Int) < (mF.length : Int) by omega)) (d_rq (ge_t (show (0 : Int) ≤ (i : Int) by omega)) (d_lst [(x.cell 1).list, (x.cell 2).list] (by rw [hx]; rfl) ?_))
      refine d_callx [a, ((x.cell 1).list.length : Int)] [] [] ([mo a (x.cell 1).list.length], [], []) e9_22 rfl rfl rfl (q_more (by omega) (by omega) (by omega)) rfl ?_
      refine d_callx [mo a (x.cell 1).list.length] [] [(x.cell 2).list] ([r], [], []) e9_23 rfl rfl rfl g rfl rfl
  · show Vx.T.den _ l9_11 [2, 12, 4, a1, (T.length : Int), 6, a2, (Im.length : Int), a, (mF.length : Int)] [false] [T, Im, mF, mTb, mM, mG, mE, mS, mEl, mC, mD, mN, M] = _
    unfold l9_11
    exact d_itF (lt_f (show (mF.length : Int) ≤ (mF.length : Int) by omega)) rfl
  show ∃ b, Vx.T.den _ k9_12 [2, 12, 4, a1, (T.length : Int), 6, a2, (Im.length : Int), 8, a3, (mF.length : Int)] [false] [T, Im, mF, mTb, mM, mG, mE, mS, mEl, mC, mD, mN, M] = _ ∧ _
  unfold k9_12
  refine rqx rfl ?_
  refine x_sum 10 mG.length (by omega) (fun _ => True) a3 (by omega) (by omega) rfl (fun i a hi h0 h1 => ?_) (fun a => ?_) (fun a4 p4 q4 r4 => ?_)
  · show ∃ a' : Int, Vx.T.den _ l9_9 [2, 12, 4, a1, (T.length : Int), 6, a2, (Im.length : Int), 8, a3, (mF.length : Int), a, (i : Int)] [false] [T, Im, mF, mTb, mM, mG, mE, mS, mEl, mC, mD, mN, M] = _ ∧ _
    unfold l9_9
    rw [← up1 i (by omega)]
    obtain ⟨x, hx⟩ : ∃ x, x = mG.getD i (.i 0) := ⟨_, rfl⟩
    obtain ⟨r, g, c0, c1, c2⟩ := q_body (L := (x.cell 2).list) h0 h1
    refine ⟨r, ?_, c0, c1, fun h => ⟨c2 h, trivial⟩⟩
    · refine d_itT (lt_t (show (i : Int) < (mG.length : Int) by omega)) (d_rq (ge_t (show (0 : Int) ≤ (i : Int) by omega)) (d_lst [(x.cell 2).list] (by rw [hx]; rfl) ?_))
      refine d_callx [a] [] [(x.cell 2).list] ([r], [], []) e9_23 rfl rfl rfl g rfl rfl
  · show Vx.T.den _ l9_9 [2, 12, 4, a1, (T.length : Int), 6, a2, (Im.length : Int), 8, a3, (mF.length : Int), a, (mG.length : Int)] [false] [T, Im, mF, mTb, mM, mG, mE, mS, mEl, mC, mD, mN, M] = _
    unfold l9_9
    exact d_itF (lt_f (show (mG.length : Int) ≤ (mG.length : Int) by omega)) rfl
  show ∃ b, Vx.T.den _ k9_10 [2, 12, 4, a1, (T.length : Int), 6, a2, (Im.length : Int), 8, a3, (mF.length : Int), 10, a4, (mG.length : Int)] [false] [T, Im, mF, mTb, mM, mG, mE, mS, mEl, mC, mD, mN, M] = _ ∧ _
  unfold k9_10
  refine rqx rfl ?_
  refine x_sum 12 mE.length (by omega) (fun _ => True) a4 (by omega) (by omega) rfl (fun i a hi h0 h1 => ?_) (fun a => ?_) (fun a5 p5 q5 r5 => ?_)
  · show ∃ a' : Int, Vx.T.den _ l9_7 [2, 12, 4, a1, (T.length : Int), 6, a2, (Im.length : Int), 8, a3, (mF.length : Int), 10, a4, (mG.length : Int), a, (i : Int)] [false] [T, Im, mF, mTb, mM, mG, mE, mS, mEl, mC, mD, mN, M] = _ ∧ _
    unfold l9_7
    rw [← up1 i (by omega)]
    obtain ⟨x, hx⟩ : ∃ x, x = mE.getD i (.i 0) := ⟨_, rfl⟩
    obtain ⟨m0, m1, m2⟩ := mo_ok (a := a) (n := ((x.cell 0).list.length : Int)) h0 (by omega)
    refine ⟨mo a (x.cell 0).list.length, ?_, m0, m1, fun h => ⟨(m2 h).1, trivial⟩⟩
    · refine d_itT (lt_t (show (i : Int) < (mE.length : Int) by omega)) (d_rq (ge_t (show (0 : Int) ≤ (i : Int) by omega)) (d_lst [(x.cell 0).list] (by rw [hx]; rfl) ?_))
      refine d_callx [a, ((x.cell 0).list.length : Int)] [] [] ([mo a (x.cell 0).list.length], [], []) e9_22 rfl rfl rfl (q_more (by omega) (by omega) (by omega)) rfl rfl
  · show Vx.T.den _ l9_7 [2, 12, 4, a1, (T.length : Int), 6, a2, (Im.length : Int), 8, a3, (mF.length : Int), 10, a4, (mG.length : Int), a, (mE.length : Int)] [false] [T, Im, mF, mTb, mM, mG, mE, mS, mEl, mC, mD, mN, M] = _
    unfold l9_7
    exact d_itF (lt_f (show (mE.length : Int) ≤ (mE.length : Int) by omega)) rfl
  show ∃ b, Vx.T.den _ k9_8 [2, 12, 4, a1, (T.length : Int), 6, a2, (Im.length : Int), 8, a3, (mF.length : Int), 10, a4, (mG.length : Int), 12, a5, (mE.length : Int)] [false] [T, Im, mF, mTb, mM, mG, mE, mS, mEl, mC, mD, mN, M] = _ ∧ _
  unfold k9_8
  refine rqx rfl ?_
  refine x_sum 14 mEl.length (by omega) (fun i => ((mEl.getD i (.i 0)).cell 2).list.length ≤ 3000) a5 (by omega) (by omega) rfl (fun i a hi h0 h1 => ?_) (fun a => ?_) (fun a6 p6 q6 r6 => ?_)
  · show ∃ a' : Int, Vx.T.den _ l9_5 [2, 12, 4, a1, (T.length : Int), 6, a2, (Im.length : Int), 8, a3, (mF.length : Int), 10, a4, (mG.length : Int), 12, a5, (mE.length : Int), a, (i : Int)] [false] [T, Im, mF, mTb, mM, mG, mE, mS, mEl, mC, mD, mN, M] = _ ∧ _
    unfold l9_5
    rw [← up1 i (by omega)]
    obtain ⟨x, hx⟩ : ∃ x, x = mEl.getD i (.i 0) := ⟨_, rfl⟩
    obtain ⟨m0, m1, m2⟩ := mo_ok (a := a) (n := ((x.cell 2).list.length : Int)) h0 (by omega)
    obtain ⟨r, g, c0, c1, c2⟩ := q_body (L := (x.cell 1).list) m0 m1
    rw [← hx]
    refine ⟨r, ?_, c0, c1, fun h => ⟨(m2 (c2 h)).1, by have := (m2 (c2 h)).2; omega⟩⟩
    · refine d_itT (lt_t (show (i : Int) < (mEl.length : Int) by omega)) (d_rq (ge_t (show (0 : Int) ≤ (i : Int) by omega)) (d_lst [(x.cell 1).list, (x.cell 2).list] (by rw [hx]; rfl) ?_))
      refine d_callx [a, ((x.cell 2).list.length : Int)] [] [] ([mo a (x.cell 2).list.length], [], []) e9_22 rfl rfl rfl (q_more (by omega) (by omega) (by omega)) rfl ?_
      refine d_callx [mo a (x.cell 2).list.length] [] [(x.cell 1).list] ([r], [], []) e9_23 rfl rfl rfl g rfl rfl
  · show Vx.T.den _ l9_5 [2, 12, 4, a1, (T.length : Int), 6, a2, (Im.length : Int), 8, a3, (mF.length : Int), 10, a4, (mG.length : Int), 12, a5, (mE.length : Int), a, (mEl.length : Int)] [false] [T, Im, mF, mTb, mM, mG, mE, mS, mEl, mC, mD, mN, M] = _
    unfold l9_5
    exact d_itF (lt_f (show (mEl.length : Int) ≤ (mEl.length : Int) by omega)) rfl
  show ∃ b, Vx.T.den _ k9_6 [2, 12, 4, a1, (T.length : Int), 6, a2, (Im.length : Int), 8, a3, (mF.length : Int), 10, a4, (mG.length : Int), 12, a5, (mE.length : Int), 14, a6, (mEl.length : Int)] [false] [T, Im, mF, mTb, mM, mG, mE, mS, mEl, mC, mD, mN, M] = _ ∧ _
  unfold k9_6
  refine rqx rfl ?_
  refine x_sum 16 mD.length (by omega) (fun _ => True) a6 (by omega) (by omega) rfl (fun i a hi h0 h1 => ?_) (fun a => ?_) (fun a7 p7 q7 r7 => ?_)
  · show ∃ a' : Int, Vx.T.den _ l9_3 [2, 12, 4, a1, (T.length : Int), 6, a2, (Im.length : Int), 8, a3, (mF.length : Int), 10, a4, (mG.length : Int), 12, a5, (mE.length : Int), 14, a6, (mEl.length : Int), a, (i : Int)] [false] [T, Im, mF, mTb, mM, mG, mE, mS, mEl, mC, mD, mN, M] = _ ∧ _
    unfold l9_3
    rw [← up1 i (by omega)]
    obtain ⟨x, hx⟩ : ∃ x, x = mD.getD i (.i 0) := ⟨_, rfl⟩
    obtain ⟨m0, m1, m2⟩ := mo_ok (a := a) (n := ((x.cell 2).list.length : Int)) h0 (by omega)
    obtain ⟨r, g, c0, c1, c2⟩ := q_body (L := (x.cell 1).list) m0 m1
    refine ⟨r, ?_, c0, c1, fun h => ⟨(m2 (c2 h)).1, trivial⟩⟩
    · refine d_itT (lt_t (show (i : Int) < (mD.length : Int) by omega)) (d_rq (ge_t (show (0 : Int) ≤ (i : Int) by omega)) (d_lst [(x.cell 1).list, (x.cell 2).list] (by rw [hx]; rfl) ?_))
      refine d_callx [a, ((x.cell 2).list.length : Int)] [] [] ([mo a (x.cell 2).list.length], [], []) e9_22 rfl rfl rfl (q_more (by omega) (by omega) (by omega)) rfl ?_
      refine d_callx [mo a (x.cell 2).list.length] [] [(x.cell 1).list] ([r], [], []) e9_23 rfl rfl rfl g rfl rfl
  · show Vx.T.den _ l9_3 [2, 12, 4, a1, (T.length : Int), 6, a2, (Im.length : Int), 8, a3, (mF.length : Int), 10, a4, (mG.length : Int), 12, a5, (mE.length : Int), 14, a6, (mEl.length : Int), a, (mD.length : Int)] [false] [T, Im, mF, mTb, mM, mG, mE, mS, mEl, mC, mD, mN, M] = _
    unfold l9_3
    exact d_itF (lt_f (show (mD.length : Int) ≤ (mD.length : Int) by omega)) rfl
  show ∃ b, Vx.T.den _ k9_4 [2, 12, 4, a1, (T.length : Int), 6, a2, (Im.length : Int), 8, a3, (mF.length : Int), 10, a4, (mG.length : Int), 12, a5, (mE.length : Int), 14, a6, (mEl.length : Int), 16, a7, (mD.length : Int)] [false] [T, Im, mF, mTb, mM, mG, mE, mS, mEl, mC, mD, mN, M] = _ ∧ _
  unfold k9_4
  refine rqx rfl ?_
  refine x_sum 18 mN.length (by omega) (fun _ => True) a7 (by omega) (by omega) rfl (fun i a hi h0 h1 => ?_) (fun a => ?_) (fun a8 p8 q8 r8 => ?_)
  · show ∃ a' : Int, Vx.T.den _ l9_1 [2, 12, 4, a1, (T.length : Int), 6, a2, (Im.length : Int), 8, a3, (mF.length : Int), 10, a4, (mG.length : Int), 12, a5, (mE.length : Int), 14, a6, (mEl.length : Int), 16, a7, (mD.length : Int), a, (i : Int)] [false] [T, Im, mF, mTb, mM, mG, mE, mS, mEl, mC, mD, mN, M] = _ ∧ _
    unfold l9_1
    rw [← up1 i (by omega)]
    obtain ⟨x, hx⟩ : ∃ x, x = mN.getD i (.i 0) := ⟨_, rfl⟩
    obtain ⟨m0, m1, m2⟩ := mo_ok (a := a) (n := ((x.cell 0).list.length : Int)) h0 (by omega)
    obtain ⟨c0, c1, c2⟩ := mo_ok (a := mo a (x.cell 0).list.length) (n := ((x.cell 1).list.length : Int)) m0 (by omega)
    refine ⟨mo (mo a (x.cell 0).list.length) (x.cell 1).list.length, ?_, c0, c1, fun h => ⟨(m2 (c2 h).1).1, trivial⟩⟩
    · refine d_itT (lt_t (show (i : Int) < (mN.length : Int) by omega)) (d_rq (ge_t (show (0 : Int) ≤ (i : Int) by omega)) (d_lst [(x.cell 0).list, (x.cell 1).list] (by rw [hx]; rfl) ?_))
      refine d_callx [a, ((x.cell 0).list.length : Int)] [] [] ([mo a (x.cell 0).list.length], [], []) e9_22 rfl rfl rfl (q_more (by omega) (by omega) (by omega)) rfl ?_
      refine d_callx [mo a (x.cell 0).list.length, ((x.cell 1).list.length : Int)] [] [] ([mo (mo a (x.cell 0).list.length) (x.cell 1).list.length], [], []) e9_22 rfl rfl rfl (q_more (by omega) (by omega) (by omega)) rfl rfl
  · show Vx.T.den _ l9_1 [2, 12, 4, a1, (T.length : Int), 6, a2, (Im.length : Int), 8, a3, (mF.length : Int), 10, a4, (mG.length : Int), 12, a5, (mE.length : Int), 14, a6, (mEl.length : Int), 16, a7, (mD.length : Int), a, (mN.length : Int)] [false] [T, Im, mF, mTb, mM, mG, mE, mS, mEl, mC, mD, mN, M] = _
    unfold l9_1
    exact d_itF (lt_f (show (mN.length : Int) ≤ (mN.length : Int) by omega)) rfl
  show ∃ b, Vx.T.den _ k9_2 [2, 12, 4, a1, (T.length : Int), 6, a2, (Im.length : Int), 8, a3, (mF.length : Int), 10, a4, (mG.length : Int), 12, a5, (mE.length : Int), 14, a6, (mEl.length : Int), 16, a7, (mD.length : Int), 18, a8, (mN.length : Int)] [false] [T, Im, mF, mTb, mM, mG, mE, mS, mEl, mC, mD, mN, M] = _ ∧ _
  unfold k9_2
  refine rqx rfl ?_
  refine ⟨decide (a8 ≥ 0), rfl, fun h => ?_⟩
  have h8 := of_decide_eq_true h
  obtain ⟨h7, _⟩ := r8 h8
  obtain ⟨h6, _⟩ := r7 h7
  obtain ⟨h5, g6⟩ := r6 h6
  obtain ⟨h4, _⟩ := r5 h5
  obtain ⟨h3, _⟩ := r4 h4
  obtain ⟨h2, g3⟩ := r3 h3
  obtain ⟨h1, _⟩ := r2 h2
  obtain ⟨h0, g1⟩ := r1 h1
  exact ⟨⟨s0, s1, s2, s3, s4, s5, s6, s7, s8, s9, s10, s11⟩, g1, g3, g6⟩
/-! modules that are right -/
theorem many_eq0 {l : List D} {e : Int} (he : e ≠ 0) : many l e = 0 ↔ l.length ≤ 1 := by
  unfold many
  split
  · rename_i h; have := of_decide_eq_true h; constructor
    · intro _; omega
    · intro _; rfl
  · rename_i h; constructor
    · intro h2; exact absurd h2 he
    · intro h2; exact absurd (decide_eq_true (by omega)) h
structure Right (T Im mF mTb mM mG mE mS mEl mD : List D) : Prop where
  im : ∀ i, i < Im.length → impE Im (ofT T).length i = 0
  fn : ∀ i, i < mF.length → fnE mF (ofT T).length i = 0
  tb : ∀ i, i < mTb.length → tbE mTb i = 0
  me : ∀ i, i < mM.length → meE mM i = 0
  tb1 : (ofTb Im mTb).length ≤ 1
  me1 : (ofMe Im mM).length ≤ 1
  gl : ∀ i, i < mG.length → glE (inG Im).length (inG Im) mG i = 0
  ex : ∀ i, i < mE.length → exE (ofF Im mF).length (ofTb Im mTb).length (ofMe Im mM).length (ofG Im mG).length mE i = 0
  st : ∀ i, i < mS.length → stE (ofT T) (ofF Im mF) mS i = 0
  el : ∀ i, i < mEl.length → elE (inG Im).length (ofF Im mF).length (ofTb Im mTb).length (ofG Im mG) mEl i = 0
  da : ∀ i, i < mD.length → daE (inG Im).length (ofMe Im mM).length (ofG Im mG) mD i = 0
  lo : ∀ i, i < mF.length → loE (ofT T) mF i = 0
theorem right_iff {T Im mF mTb mM mG mE mS mEl mD : List D} : ofErr T Im mF mTb mM mG mE mS mEl mD = 0 ↔ Right T Im mF mTb mM mG mE mS mEl mD := by
  have e3 : (3 : Int) ≠ 0 := by decide
  have e8 : (8 : Int) ≠ 0 := by decide
  unfold ofErr ownE
  rw [errN_eq0, errN_eq0, errN_eq0, errN_eq0, errN_eq0, errN_eq0, orE_eq0, orE_eq0, errN_eq0, errN_eq0, errN_eq0, errN_eq0, many_eq0 e3, many_eq0 e8]
  constructor
  · rintro ⟨⟨⟨⟨⟨⟨⟨⟨⟨⟨⟨⟨_, h1⟩, h2⟩, h3⟩, h4⟩, h5⟩, h6⟩, h7⟩, h8⟩, h9⟩, h10⟩, h11⟩, h12⟩
    exact ⟨h1, h2, h3, h4, h5, h6, h7, h8, h9, h10, h11, h12⟩
  · intro h
    exact ⟨⟨⟨⟨⟨⟨⟨⟨⟨⟨⟨⟨rfl, h.im⟩, h.fn⟩, h.tb⟩, h.me⟩, h.tb1⟩, h.me1⟩, h.gl⟩, h.ex⟩, h.st⟩, h.el⟩, h.da⟩, h.lo⟩
theorem mem_accN {g : Nat → List D} {x : D} : ∀ {n : Nat}, x ∈ accN g [] n → ∃ i, i < n ∧ x ∈ g i
  | 0, h => by cases h
  | n + 1, h => by
    rw [accN, List.mem_append] at h
    rcases h with h | h
    · obtain ⟨i, h1, h2⟩ := mem_accN h; exact ⟨i, by omega, h2⟩
    · exact ⟨n, by omega, h⟩
theorem mem_mapN {g : Nat → D} {x : D} {n : Nat} (h : x ∈ mapN g n) : ∃ i, i < n ∧ x = g i := by
  unfold mapN at h
  obtain ⟨i, h1, h2⟩ := List.mem_map.1 h
  exact ⟨i, List.mem_range.1 h1, h2.symm⟩
theorem ite_eq0 {b : Bool} {e : Int} (he : e ≠ 0) : (if b = true then 0 else e) = 0 ↔ b = true := by cases b <;> simp [he]
/-- Each function of a right module has a type. -/
theorem right_types {T Im mF mTb mM mG mE mS mEl mD : List D} (h : Right T Im mF mTb mM mG mE mS mEl mD) : ∀ x ∈ ofF Im mF, hasB (x.cell 0).int (ofT T).length = true := by
  intro x hx
  unfold ofF at hx
  rw [List.mem_append] at hx
  rcases hx with hx | hx
  · obtain ⟨i, h1, h2⟩ := mem_accN hx
    have h3 := h.im i h1
    unfold impF at h2
    unfold impE at h3
    split at h2
    · rename_i hk
      rw [if_pos hk, ite_eq0 (by decide)] at h3
      rw [List.mem_singleton.1 h2]
      exact h3
    · cases h2
  · obtain ⟨i, h1, rfl⟩ := mem_mapN hx
    have h3 := h.fn i h1
    unfold fnE at h3
    exact (ite_eq0 (by decide)).1 h3
theorem right_stOk {T Im mF mTb mM mG mE mS mEl mD : List D} (h : Right T Im mF mTb mM mG mE mS mEl mD) {i : Nat} (hi : i < (ofF Im mF).length) : stOk (ofT T) (ofF Im mF) i = true := by
  unfold stOk fnT
  refine Bool.and_eq_true_iff.2 ⟨?_, ?_⟩
  · unfold hasB; simp; omega
  · refine right_types h _ ?_
    rw [Int.toNat_natCast, List.getD_eq_getElem?_getD, List.getElem?_eq_getElem hi]
    exact List.getElem_mem hi
end Go.Proofs.Ytkpbcfkmkgddhaa.OCtxRight
