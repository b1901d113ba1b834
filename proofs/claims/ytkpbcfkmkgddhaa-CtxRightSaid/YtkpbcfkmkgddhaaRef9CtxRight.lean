/-
  CtxRight: what the document's answer for layer 9 answers: the same first error, the same context.
-/
import Derived.Test.YtkpbcfkmkgddhaaSame9CtxRight
namespace Go.Proofs.Ytkpbcfkmkgddhaa.WCtxRight
set_option linter.all false
open Go.Proofs.Ytkpbcfkmkgddhaa.Vx Go.Proofs.Ytkpbcfkmkgddhaa.XCtxRight Go.Proofs.Ytkpbcfkmkgddhaa.Vd Go.Proofs.Ytkpbcfkmkgddhaa.Vn Go.Proofs.Ytkpbcfkmkgddhaa.Vl Go.Proofs.Ytkpbcfkmkgddhaa.Vp Go.Proofs.Ytkpbcfkmkgddhaa.Vb Go.Proofs.Ytkpbcfkmkgddhaa.SCtxRight Go.Proofs.Ytkpbcfkmkgddhaa.Vo Go.Proofs.Ytkpbcfkmkgddhaa.OCtxRight Go.Proofs.Ytkpbcfkmkgddhaa.ZCtxRight
/-- A loop that returns the first error. -/
theorem d_first {C : Nat → Vx.Fn} {ii bb : List E} {ll : List Vx.LE} {body k : Vx.T} {is bs ls} (c : Int) (n : Nat) (hn : n < 9223372036854775807) (f : Nat → Int) (t : Nat) (rest : Int) (h0 : vals ii bb ll is bs ls = ([c, 0], [], []))
    (hs : ∀ i, i < n → f i = 0 → body.den C (is ++ [c, (i : Int)]) (bs ++ []) (ls ++ []) = some (.nxt ([c, ((i + 1 : Nat) : Int)], [], [])))
    (hb : ∀ i, i < n → f i ≠ 0 → body.den C (is ++ [c, (i : Int)]) (bs ++ []) (ls ++ []) = some (.ret ([f i], [], [])))
    (he : body.den C (is ++ [c, (n : Int)]) (bs ++ []) (ls ++ []) = some (.brk t ([c, (n : Int)], [], [])))
    (hk : (∀ i, i < n → f i = 0) → k.den C (is ++ [(t : Int), c, (n : Int)]) bs ls = some (.ret ([rest], [], []))) : (Vx.T.lp ii bb ll 2 0 0 body k).den C is bs ls = some (.ret ([orE (errN f 0 n) rest], [], [])) := by
  refine d_findR (fun i => ([c, (i : Int)], [], [])) n hn (fun i => decide (f i ≠ 0)) h0 (fun i => ([f i], [], [])) t ([c, (n : Int)], [], []) (fun i hi hp => hs i hi (by have := of_decide_eq_false hp; exact Decidable.not_not.1 this)) (fun _ _ => rfl) (fun i hi hp => hb i hi (of_decide_eq_true hp)) he rfl (fun j hj hp hbf => ?_) (fun hp => ?_)
  · have h1 : f j ≠ 0 := of_decide_eq_true hp
    rw [errN_stop h1 (fun i hi => Decidable.not_not.1 (of_decide_eq_false (hbf i hi))) hj, orE_l _ h1]
  · have hz : ∀ i, i < n → f i = 0 := fun i hi => Decidable.not_not.1 (of_decide_eq_false (hp i hi))
    rw [errN_eq0.2 ⟨rfl, hz⟩, orE_zero, List.append_nil, List.append_nil]
    exact hk hz
theorem q_rtable (mn mx : Int) (c : Bool) : F32 [mn, mx] [c] [] = some ([tableE mn mx c], [], []) := by
  refine of_ret ?_
  unfold t32 tableE
  by_cases h : mn < 0 ∨ (c = true ∧ mx < mn)
  · rw [if_pos h]
    refine d_lb true ?_ (d_itT rfl rfl)
    show (decide (mn < 0) || (c && decide (mn > mx))) = true
    rcases h with h | ⟨h1, h2⟩
    · rw [decide_eq_true h]; rfl
    · rw [h1, gt_t h2]; simp
  · rw [if_neg h]
    refine d_lb false ?_ (d_itF rfl ?_)
    · show (decide (mn < 0) || (c && decide (mn > mx))) = false
      rw [decide_eq_false (fun h' => h (.inl h'))]
      cases c with
      | false => rfl
      | true => rw [gt_f (Int.not_lt.1 fun h' => h (.inr ⟨rfl, h'⟩))]; rfl
    · by_cases h2 : mn > 64
      · rw [if_pos h2]; exact d_itT (decide_eq_true h2) rfl
      · rw [if_neg h2]; exact d_itF (decide_eq_false h2) rfl
theorem q_rmemory (mn mx : Int) (c : Bool) : F33 [mn, mx] [c] [] = some ([memoryE mn mx c], [], []) := by
  refine of_ret ?_
  unfold t33 memoryE
  by_cases h : mn < 0 ∨ mn > 65536 ∨ (c = true ∧ (mx > 65536 ∨ mx < mn))
  · rw [if_pos h]
    refine d_lb (decide (mn < 0) || decide (mn > 65536)) rfl (d_lb (decide (mn < 0) || decide (mn > 65536) || (c && decide (mx > 65536))) rfl (d_lb true ?_ (d_itT rfl rfl)))
    show ((decide (mn < 0) || decide (mn > 65536) || (c && decide (mx > 65536))) || (c && decide (mn > mx))) = true
    rcases h with h | h | ⟨h1, h2 | h2⟩
    · rw [decide_eq_true h]; simp
    · rw [decide_eq_true h]; simp
    · rw [h1, decide_eq_true h2]; simp
    · rw [h1, gt_t h2]; simp
  · rw [if_neg h]
    have n1 : ¬ mn < 0 := fun h' => h (.inl h')
    have n2 : ¬ mn > 65536 := fun h' => h (.inr (.inl h'))
    refine d_lb false (by show (decide (mn < 0) || decide (mn > 65536)) = false; rw [decide_eq_false n1, decide_eq_false n2]; rfl) (d_lb false ?_ (d_lb false ?_ (d_itF rfl ?_)))
    · show (false || (c && decide (mx > 65536))) = false
      cases c with
      | false => rfl
      | true => rw [decide_eq_false (fun h' => h (.inr (.inr ⟨rfl, .inl h'⟩)))]; rfl
    · show (false || (c && decide (mn > mx))) = false
      cases c with
      | false => rfl
      | true => rw [gt_f (Int.not_lt.1 fun h' => h (.inr (.inr ⟨rfl, .inr h'⟩)))]; rfl
    · by_cases h2 : mn > 4
      · rw [if_pos h2]; exact d_itT (decide_eq_true h2) rfl
      · rw [if_neg h2]; exact d_itF (decide_eq_false h2) rfl
/-! Gather -/
theorem q_gather {T Im mF mTb mM mG mE mS mEl mC mD mN : List D} (im : Bool) (hI : Im.length ≤ 4000) (hF : mF.length ≤ 4000) (hTb : mTb.length ≤ 4000) (hM : mM.length ≤ 4000) (hG : mG.length ≤ 4000) :
    F13 [] [im] [T, Im, mF, mTb, mM, mG, mE, mS, mEl, mC, mD, mN] = some ([((inF Im).length : Int), ((inG Im).length : Int), (mEl.length : Int), (mD.length : Int)], [decide ((mC.length : Int) > 0)], [T, ofF Im mF, if im = true then inG Im else ofG Im mG, inT Im ++ mTb, inM Im ++ mM]) := by
  refine of_ret ?_
  unfold t13
  refine d_loop (fun i => ([(i : Int), ((accN (impF Im) [] i).length : Int), ((accN (impG Im) [] i).length : Int)], [], [accN (impF Im) [] i, accN (impG Im) [] i, accN (impT Im) [] i, accN (impM Im) [] i])) Im.length (by omega) 2
    ([(Im.length : Int), ((inF Im).length : Int), ((inG Im).length : Int)], [], [inF Im, inG Im, inT Im, inM Im]) rfl (fun i hi => ?_) (fun _ _ => rfl) ?_ rfl ?_
  · show Vx.T.den _ l13_5 [(i : Int), ((accN (impF Im) [] i).length : Int), ((accN (impG Im) [] i).length : Int)] [im] [T, Im, mF, mTb, mM, mG, mE, mS, mEl, mC, mD, mN, accN (impF Im) [] i, accN (impG Im) [] i, accN (impT Im) [] i, accN (impM Im) [] i] = some (.nxt ([((i + 1 : Nat) : Int), ((accN (impF Im) [] (i + 1)).length : Int), ((accN (impG Im) [] (i + 1)).length : Int)], [], [accN (impF Im) [] (i + 1), accN (impG Im) [] (i + 1), accN (impT Im) [] (i + 1), accN (impM Im) [] (i + 1)]))
    have lF : (accN (impF Im) [] i).length ≤ 0 + i := accN_le (impF_le Im) i
    have lG : (accN (impG Im) [] i).length ≤ 0 + i := accN_le (impG_le Im) i
    have lT : (accN (impT Im) [] i).length ≤ 0 + i := accN_le (impT_le Im) i
    have lM : (accN (impM Im) [] i).length ≤ 0 + i := accN_le (impM_le Im) i
    simp only [accN]
    obtain ⟨F1, gF⟩ : ∃ z, z = impF Im i := ⟨_, rfl⟩
    rw [← gF]
    obtain ⟨T1, gT⟩ : ∃ z, z = impT Im i := ⟨_, rfl⟩
    rw [← gT]
    obtain ⟨M1, gM⟩ : ∃ z, z = impM Im i := ⟨_, rfl⟩
    rw [← gM]
    obtain ⟨G1, gG⟩ : ∃ z, z = impG Im i := ⟨_, rfl⟩
    rw [← gG]
    generalize accN (impF Im) [] i = AF at *
    generalize accN (impG Im) [] i = AG at *
    generalize accN (impT Im) [] i = AT at *
    generalize accN (impM Im) [] i = AM at *
    unfold impF at gF
    unfold impT at gT
    unfold impM at gM
    unfold impG at gG
    unfold l13_5
    refine d_itT (lt_t (show (i : Int) < (Im.length : Int) by omega)) (d_rq (ge_t (show (0 : Int) ≤ (i : Int) by omega)) (d_lst [((Im.getD i (.i 0)).cell 0).list, ((Im.getD i (.i 0)).cell 1).list] rfl ?_))
    obtain ⟨x, hx⟩ : ∃ x, x = Im.getD i (.i 0) := ⟨_, rfl⟩
    rw [← hx] at gF gT gM gG
    have cd : ∀ z : Int, (x.cell 2).int = z → ((((Im.getD i (.i 0)).cell 2).int == z) = true) := fun z h => eq_t (by rw [hx] at h; exact h)
    have cn : ∀ z : Int, (x.cell 2).int ≠ z → ((((Im.getD i (.i 0)).cell 2).int == z) = false) := fun z h => eq_f (by rw [hx] at h; exact h)
    by_cases h0 : (x.cell 2).int = 0
    · rw [if_pos h0] at gF
      rw [if_neg (by omega)] at gT gM gG
      subst gF gT gM gG
      refine d_itT (cd 0 h0) (d_lst [[.i (x.cell 3).int]] (by rw [hx]; rfl) (d_rq (an_t (le_t (show (AF.length : Int) ≤ 3909374676536 by omega)) rfl) (d_lst [AF ++ [.i (x.cell 3).int]] rfl ?_)))
      simp only [List.append_nil, List.length_append]
      rw [← up1 i (by omega), show ((AF.length + [D.i (x.cell 3).int].length : Nat) : Int) = arI .add .i64 (AF.length : Int) 1 from (up1 _ (by omega)).symm]
      exact d_itF (cn 1 (by omega)) (d_itF (cn 2 (by omega)) (d_itF (cn 3 (by omega)) rfl))
    rw [if_neg h0] at gF
    refine d_itF (cn 0 h0) ?_
    by_cases h1 : (x.cell 2).int = 1
    · rw [if_pos h1] at gT
      rw [if_neg (by omega)] at gM gG
      subst gF gT gM gG
      refine d_itT (cd 1 h1) (d_lst [[limD x 4]] (by rw [hx]; rfl) (d_rq (an_t (le_t (show (AT.length : Int) ≤ 1407374883553 by omega)) rfl) (d_lst [AT ++ [limD x 4]] rfl ?_)))
      simp only [List.append_nil]
      rw [← up1 i (by omega)]
      exact d_itF (cn 2 (by omega)) (d_itF (cn 3 (by omega)) rfl)
    rw [if_neg h1] at gT
    refine d_itF (cn 1 h1) ?_
    by_cases h2 : (x.cell 2).int = 2
    · rw [if_pos h2] at gM
      rw [if_neg (by omega)] at gG
      subst gF gT gM gG
      refine d_itT (cd 2 h2) (d_lst [[limD x 4]] (by rw [hx]; rfl) (d_rq (an_t (le_t (show (AM.length : Int) ≤ 1407374883553 by omega)) rfl) (d_lst [AM ++ [limD x 4]] rfl ?_)))
      simp only [List.append_nil]
      rw [← up1 i (by omega)]
      exact d_itF (cn 3 (by omega)) rfl
    rw [if_neg h2] at gM
    refine d_itF (cn 2 h2) ?_
    by_cases h3 : (x.cell 2).int = 3
    · rw [if_pos h3] at gG
      subst gF gT gM gG
      refine d_itT (cd 3 h3) (d_lst [[.st [.i (x.cell 3).int, .b (x.cell 7).bool]]] (by rw [hx]; rfl) (d_rq (an_t (le_t (show (AG.length : Int) ≤ 2069668946401 by omega)) rfl) (d_lst [AG ++ [.st [.i (x.cell 3).int, .b (x.cell 7).bool]]] rfl ?_)))
      simp only [List.append_nil, List.length_append]
      rw [← up1 i (by omega), show ((AG.length + [D.st [.i (x.cell 3).int, .b (x.cell 7).bool]].length : Nat) : Int) = arI .add .i64 (AG.length : Int) 1 from (up1 _ (by omega)).symm]
      rfl
    · rw [if_neg h3] at gG
      subst gF gT gM gG
      refine d_itF (cn 3 h3) ?_
      simp only [List.append_nil]
      rw [← up1 i (by omega)]; rfl
  · unfold l13_5
    exact d_itF (lt_f (show (Im.length : Int) ≤ (Im.length : Int) by omega)) rfl
  unfold k13_6
  refine d_rq rfl ?_
  have l1 := inF_le Im; have l2 := inG_le Im; have l3 := inT_le Im; have l4 := inM_le Im
  unfold ofF ofG
  generalize inF Im = IF at *
  generalize inG Im = IG at *
  generalize inT Im = IT at *
  generalize inM Im = IM at *
  show Vx.T.den _ _ [2, (Im.length : Int), (IF.length : Int), (IG.length : Int)] [im] [T, Im, mF, mTb, mM, mG, mE, mS, mEl, mC, mD, mN, IF, IG, IT, IM] = _
  refine d_loop (fun i => ([(i : Int)], [], [IF ++ mapN (fnD mF) i])) mF.length (by omega) 4 ([(mF.length : Int)], [], [IF ++ mapN (fnD mF) mF.length]) (by show (([(0 : Int)], [], [IF]) : Vx.R) = ([(0 : Int)], [], [IF ++ []]); rw [List.append_nil]) (fun i hi => ?_) (fun _ _ => rfl) ?_ rfl ?_
  · show Vx.T.den _ l13_3 [2, (Im.length : Int), (IF.length : Int), (IG.length : Int), (i : Int)] [im] [T, Im, mF, mTb, mM, mG, mE, mS, mEl, mC, mD, mN, IF, IG, IT, IM, IF ++ mapN (fnD mF) i] = some (.nxt ([((i + 1 : Nat) : Int)], [], [IF ++ mapN (fnD mF) (i + 1)]))
    rw [← mapN_succ]
    have hl : (IF ++ mapN (fnD mF) i).length ≤ 8000 := by rw [List.length_append, mapN_len]; omega
    generalize IF ++ mapN (fnD mF) i = AG at *
    unfold l13_3
    rw [← up1 i (by omega)]
    exact d_itT (lt_t (show (i : Int) < (mF.length : Int) by omega)) (d_rq (ge_t (show (0 : Int) ≤ (i : Int) by omega)) (d_lst [[fnD mF i]] rfl (d_rq (an_t (le_t (show (AG.length : Int) ≤ 3909374676536 by omega)) rfl) (d_lst [AG ++ [fnD mF i]] rfl rfl))))
  · unfold l13_3
    exact d_itF (lt_f (show (mF.length : Int) ≤ (mF.length : Int) by omega)) rfl
  unfold k13_4
  refine d_rq rfl ?_
  generalize IF ++ mapN (fnD mF) mF.length = Fs at *
  refine d_rq (an_t (le_t (show (IT.length : Int) ≤ 1407374883553 by omega)) (le_t (show (mTb.length : Int) ≤ 1407374883553 by omega))) (d_lst [IT ++ mTb] rfl (d_rq (an_t (le_t (show (IM.length : Int) ≤ 1407374883553 by omega)) (le_t (show (mM.length : Int) ≤ 1407374883553 by omega))) (d_lst [IM ++ mM] rfl ?_)))
  generalize IT ++ mTb = Tb
  generalize IM ++ mM = Me
  show Vx.T.den _ _ [2, (Im.length : Int), (IF.length : Int), (IG.length : Int), 4, (mF.length : Int)] [im] [T, Im, mF, mTb, mM, mG, mE, mS, mEl, mC, mD, mN, IF, IG, IT, IM, Fs, Tb, Me] = _
  cases im with
  | true =>
    refine d_loop (fun i => ([(i : Int)], [], [IG])) 0 (by omega) 6 ([0], [], [IG]) rfl (fun i hi => by omega) (fun _ _ => rfl) ?_ rfl ?_
    · unfold l13_1
      exact d_itF (by show (decide ((0 : Int) < (mG.length : Int)) && !true) = false; simp) rfl
    · unfold k13_2
      exact d_rq rfl rfl
  | false =>
    refine d_loop (fun i => ([(i : Int)], [], [IG ++ mapN (glD mG) i])) mG.length (by omega) 6 ([(mG.length : Int)], [], [IG ++ mapN (glD mG) mG.length]) (by show (([(0 : Int)], [], [IG]) : Vx.R) = ([(0 : Int)], [], [IG ++ []]); rw [List.append_nil]) (fun i hi => ?_) (fun _ _ => rfl) ?_ rfl ?_
    · show Vx.T.den _ l13_1 [2, (Im.length : Int), (IF.length : Int), (IG.length : Int), 4, (mF.length : Int), (i : Int)] [false] [T, Im, mF, mTb, mM, mG, mE, mS, mEl, mC, mD, mN, IF, IG, IT, IM, Fs, Tb, Me, IG ++ mapN (glD mG) i] = some (.nxt ([((i + 1 : Nat) : Int)], [], [IG ++ mapN (glD mG) (i + 1)]))
      rw [← mapN_succ]
      have hl : (IG ++ mapN (glD mG) i).length ≤ 8000 := by rw [List.length_append, mapN_len]; omega
      generalize IG ++ mapN (glD mG) i = AG at *
      unfold l13_1
      rw [← up1 i (by omega)]
      have hq : (decide ((i : Int) ≥ 0) && decide ((i : Int) < (mG.length : Int))) = true := an_t (ge_t (by omega)) (lt_t (by omega))
      refine d_itT (by show (decide ((i : Int) < (mG.length : Int)) && !false) = true; rw [lt_t (show (i : Int) < (mG.length : Int) by omega)]; rfl) (d_rq hq (d_rq hq (d_rq hq (d_rq hq (d_bothS ?_)))))
      unfold b13_1
      exact d_rq hq (d_rq hq (d_lst [[glD mG i]] rfl (d_rq (an_t (le_t (show (AG.length : Int) ≤ 2069668946401 by omega)) rfl) (d_lst [AG ++ [glD mG i]] rfl rfl))))
    · unfold l13_1
      exact d_itF (by show (decide ((mG.length : Int) < (mG.length : Int)) && !false) = false; rw [lt_f (show (mG.length : Int) ≤ (mG.length : Int) by omega)]; rfl) rfl
    · unfold k13_2
      exact d_rq rfl rfl
theorem d_firstI {C : Nat → Vx.Fn} {ii bb : List E} {ll : List Vx.LE} {body k : Vx.T} {is bs ls} (c : Int) (n : Nat) (hn : n < 9223372036854775807) (f : Nat → Int) (t : Nat) (rest : Int) (h0 : vals ii bb ll is bs ls = ([c, 0], [], []))
    (hs : ∀ i, i < n → body.den C (is ++ [c, (i : Int)]) (bs ++ []) (ls ++ []) = some (if f i = 0 then .nxt ([c, ((i + 1 : Nat) : Int)], [], []) else .ret ([f i], [], [])))
    (he : body.den C (is ++ [c, (n : Int)]) (bs ++ []) (ls ++ []) = some (.brk t ([c, (n : Int)], [], [])))
    (hk : (∀ i, i < n → f i = 0) → k.den C (is ++ [(t : Int), c, (n : Int)]) bs ls = some (.ret ([rest], [], []))) : (Vx.T.lp ii bb ll 2 0 0 body k).den C is bs ls = some (.ret ([orE (errN f 0 n) rest], [], [])) :=
  d_first c n hn f t rest h0 (fun i hi h => by rw [hs i hi, if_pos h]) (fun i hi h => by rw [hs i hi, if_neg h]) he hk
/-! seen -/
theorem q_seen {h0 V e0 d0 : Int} {cc : Bool} {T Im mF mTb mM mG mE mS mEl mC mD mN Fs G Tb Me : List D} (hE : mE.length ≤ 4000) (hS : mS.length ≤ 4000) (hty : ∀ x ∈ Fs, hasB (x.cell 0).int T.length = true) :
    F34 [h0, V, e0, d0] [cc] [T, Im, mF, mTb, mM, mG, mE, mS, mEl, mC, mD, mN, T, Fs, G, Tb, Me] = some ([orE (errN (exE Fs.length Tb.length Me.length G.length mE) 0 mE.length) (orE (errN (stE (ofT T) Fs mS) 0 mS.length) 0)], [], []) := by
  refine of_ret ?_
  unfold t34
  refine d_firstI 0 mE.length (by omega) (exE Fs.length Tb.length Me.length G.length mE) 2 _ rfl (fun i hi => ?_) ?_ (fun _ => ?_)
  · show Vx.T.den _ l34_5 [h0, V, e0, d0, 0, (i : Int)] [cc] [T, Im, mF, mTb, mM, mG, mE, mS, mEl, mC, mD, mN, T, Fs, G, Tb, Me] = _
    obtain ⟨E1, gE⟩ : ∃ z, z = exE Fs.length Tb.length Me.length G.length mE i := ⟨_, rfl⟩
    rw [← gE]
    unfold exE exOk at gE
    obtain ⟨x, hx⟩ : ∃ x, x = mE.getD i (.i 0) := ⟨_, rfl⟩
    rw [← hx] at gE
    unfold l34_5
    refine d_itT (lt_t (show (i : Int) < (mE.length : Int) by omega)) (d_rq (ge_t (show (0 : Int) ≤ (i : Int) by omega)) (d_lst [exName mE i] rfl ?_))
    refine d_findR (fun k => ([0, (k : Int)], [], [])) i (by omega) (fun k => D.sameL (exName mE k) (exName mE i)) rfl (fun _ => ([8], [], [])) 4 ([0, (i : Int)], [], []) (fun j hj hp => ?_) (fun _ _ => rfl) (fun j hj hp => ?_) ?_ rfl (fun j hj hp _ => ?_) (fun hp => ?_)
    · show Vx.T.den _ l34_1 [h0, V, e0, d0, 0, (i : Int), 0, (j : Int)] [cc] [T, Im, mF, mTb, mM, mG, mE, mS, mEl, mC, mD, mN, T, Fs, G, Tb, Me, exName mE i] = _
      unfold l34_1
      have hq : (decide ((j : Int) ≥ 0) && decide ((j : Int) < (mE.length : Int))) = true := an_t (ge_t (by omega)) (lt_t (by omega))
      refine d_itT (lt_t (show (j : Int) < (i : Int) by omega)) (d_rq hq (d_rq hq (d_rq hq (d_lst [exName mE j] rfl (d_itF hp ?_)))))
      rw [← up1 j (by omega)]; rfl
    · show Vx.T.den _ l34_1 [h0, V, e0, d0, 0, (i : Int), 0, (j : Int)] [cc] [T, Im, mF, mTb, mM, mG, mE, mS, mEl, mC, mD, mN, T, Fs, G, Tb, Me, exName mE i] = _
      unfold l34_1
      have hq : (decide ((j : Int) ≥ 0) && decide ((j : Int) < (mE.length : Int))) = true := an_t (ge_t (by omega)) (lt_t (by omega))
      exact d_itT (lt_t (show (j : Int) < (i : Int) by omega)) (d_rq hq (d_rq hq (d_rq hq (d_lst [exName mE j] rfl (d_itT hp (d_rt (d_rt rfl)))))))
    · show Vx.T.den _ l34_1 [h0, V, e0, d0, 0, (i : Int), 0, (i : Int)] [cc] [T, Im, mF, mTb, mM, mG, mE, mS, mEl, mC, mD, mN, T, Fs, G, Tb, Me, exName mE i] = _
      unfold l34_1
      exact d_itF (lt_f (show (i : Int) ≤ (i : Int) by omega)) rfl
    · have hd : dupB mE i = true := dupB_iff.2 ⟨j, hj, D.sameL_iff.1 hp⟩
      rw [hd] at gE
      have gE : E1 = 8 := by rw [gE]; exact orE_l _ (by decide)
      rw [gE]; rfl
    · have hd : dupB mE i = false := by
        rw [Bool.eq_false_iff]
        intro h
        obtain ⟨k, h1, h2⟩ := dupB_iff.1 h
        exact Bool.false_ne_true ((hp k h1).symm.trans (D.sameL_iff.2 h2))
      rw [hd] at gE
      have gE : E1 = (if (hasB (x.cell 1).int 4 && hasB (x.cell 2).int (manyN Fs.length Tb.length Me.length G.length (x.cell 1).int)) = true then 0 else 7) := gE
      show Vx.T.den _ k34_2 [h0, V, e0, d0, 0, (i : Int), 4, 0, (i : Int)] [cc] [T, Im, mF, mTb, mM, mG, mE, mS, mEl, mC, mD, mN, T, Fs, G, Tb, Me, exName mE i] = _
      unfold k34_2
      refine d_rq rfl ?_
      obtain ⟨kd, hkd⟩ : ∃ z, z = (x.cell 1).int := ⟨_, rfl⟩
      obtain ⟨ix, hix⟩ : ∃ z, z = (x.cell 2).int := ⟨_, rfl⟩
      rw [← hkd, ← hix] at gE
      have cd : ∀ z : Int, kd = z → ((((mE.getD i (.i 0)).cell 1).int == z) = true) := fun z h => eq_t (by rw [hkd, hx] at h; exact h)
      have cn : ∀ z : Int, kd ≠ z → ((((mE.getD i (.i 0)).cell 1).int == z) = false) := fun z h => eq_f (by rw [hkd, hx] at h; exact h)
      have ca : ∀ (b : Bool) (z : Int), kd ≠ z → (b && (((mE.getD i (.i 0)).cell 1).int == z)) = false := fun b z h => by rw [cn z h, Bool.and_false]
      have fin : ∀ (b : Bool), E1 = (if b = true then 0 else 7) → some (if E1 = 0 then Out.nxt ([0, ((i + 1 : Nat) : Int)], [], []) else Out.ret ([E1], [], [])) = if b = true then some (Out.nxt ([0, arI .add .i64 (i : Int) 1], [], [])) else some (Out.ret ([7], [], [])) := by
        intro b hb
        rw [hb, up1 i (by omega)]
        cases b <;> rfl
      have hin : ∀ n : Nat, F31 [ix, (n : Int)] [] [] = some ([], [hasB ix n], []) := fun n => q_in _ _
      by_cases k0 : kd = 0
      · rw [fin (hasB ix Fs.length) (by rw [gE, k0]; rfl)]
        refine d_itT (cd 0 k0) ?_
        refine d_callx [ix, (Fs.length : Int)] [] [] ([], [hasB ix Fs.length], []) e34_31 (by rw [hix, hx]; rfl) rfl rfl (hin _) rfl ?_
        refine d_itF (ca _ 1 (by omega)) ?_
        unfold b34_3
        refine d_itF (ca _ 2 (by omega)) ?_
        unfold b34_2
        refine d_itF (ca _ 3 (by omega)) ?_
        generalize hasB ix Fs.length = b
        cases b
        · exact d_itT rfl (d_rt rfl)
        · exact d_itF rfl rfl
      refine d_itF (cn 0 k0) ?_
      by_cases k1 : kd = 1
      · rw [fin (hasB ix Tb.length) (by rw [gE, k1]; rfl)]
        refine d_itT (cd 1 k1) ?_
        refine d_callx [ix, (Tb.length : Int)] [] [] ([], [hasB ix Tb.length], []) e34_31 (by rw [hix, hx]; rfl) rfl rfl (hin _) rfl ?_
        unfold b34_3
        refine d_itF (ca _ 2 (by omega)) ?_
        unfold b34_2
        refine d_itF (ca _ 3 (by omega)) ?_
        generalize hasB ix Tb.length = b
        cases b
        · exact d_itT rfl (d_rt rfl)
        · exact d_itF rfl rfl
      refine d_itF (cn 1 k1) ?_
      by_cases k2 : kd = 2
      · rw [fin (hasB ix Me.length) (by rw [gE, k2]; rfl)]
        refine d_itT (cd 2 k2) ?_
        refine d_callx [ix, (Me.length : Int)] [] [] ([], [hasB ix Me.length], []) e34_31 (by rw [hix, hx]; rfl) rfl rfl (hin _) rfl ?_
        unfold b34_2
        refine d_itF (ca _ 3 (by omega)) ?_
        generalize hasB ix Me.length = b
        cases b
        · exact d_itT rfl (d_rt rfl)
        · exact d_itF rfl rfl
      refine d_itF (cn 2 k2) ?_
      by_cases k3 : kd = 3
      · rw [fin (hasB ix G.length) (by rw [gE, k3]; rfl)]
        refine d_itT (cd 3 k3) ?_
        refine d_callx [ix, (G.length : Int)] [] [] ([], [hasB ix G.length], []) e34_31 (by rw [hix, hx]; rfl) rfl rfl (hin _) rfl ?_
        generalize hasB ix G.length = b
        cases b
        · exact d_itT rfl (d_rt rfl)
        · exact d_itF rfl rfl
      · have h4 : hasB kd 4 = false := by unfold hasB; rw [Bool.and_eq_false_iff, decide_eq_false_iff_not, decide_eq_false_iff_not]; omega
        rw [fin false (by rw [gE, h4]; rfl)]
        exact d_itF (cn 3 k3) (d_rt rfl)
  · unfold l34_5
    exact d_itF (lt_f (show (mE.length : Int) ≤ (mE.length : Int) by omega)) rfl
  unfold k34_6
  refine d_rq rfl ?_
  show Vx.T.den _ _ [h0, V, e0, d0, 2, 0, (mE.length : Int)] [cc] [T, Im, mF, mTb, mM, mG, mE, mS, mEl, mC, mD, mN, T, Fs, G, Tb, Me] = _
  refine d_firstI 0 mS.length (by omega) (stE (ofT T) Fs mS) 6 _ rfl (fun i hi => ?_) ?_ (fun _ => ?_)
  · show Vx.T.den _ l34_3 [h0, V, e0, d0, 2, 0, (mE.length : Int), 0, (i : Int)] [cc] [T, Im, mF, mTb, mM, mG, mE, mS, mEl, mC, mD, mN, T, Fs, G, Tb, Me] = _
    obtain ⟨E1, gE⟩ : ∃ z, z = stE (ofT T) Fs mS i := ⟨_, rfl⟩
    rw [← gE]
    unfold stE at gE
    obtain ⟨f, hf⟩ : ∃ f, f = ((mS.getD i (.i 0)).cell 0).int := ⟨_, rfl⟩
    rw [← hf] at gE
    unfold l34_3
    refine d_itT (lt_t (show (i : Int) < (mS.length : Int) by omega)) (d_rq (ge_t (show (0 : Int) ≤ (i : Int) by omega)) ?_)
    refine d_callx [f, (Fs.length : Int)] [] [] ([], [hasB f Fs.length], []) e34_31 (by rw [hf]; rfl) rfl rfl (q_in _ _) rfl ?_
    by_cases hh : hasB f Fs.length = true
    · have hr : 0 ≤ f ∧ f < Fs.length := by simp only [hasB, Bool.and_eq_true, decide_eq_true_eq] at hh; exact hh
      have hm : hasB (fnT Fs f) T.length = true := by
        unfold fnT
        refine hty _ ?_
        rw [List.getD_eq_getElem?_getD, List.getElem?_eq_getElem (by omega)]
        exact List.getElem_mem _
      have hr2 : 0 ≤ fnT Fs f ∧ fnT Fs f < T.length := by simp only [hasB, Bool.and_eq_true, decide_eq_true_eq] at hm; exact hm
      rw [if_pos (by unfold stOk; rw [hh, ofT_len, hm]; rfl)] at gE
      have p0 : tyP (ofT T) (fnT Fs f) = ((T.getD (fnT Fs f).toNat (.i 0)).cell 0).list := by unfold tyP; rw [ofT_cell0 T (by omega)]; rfl
      have p1 : tyR (ofT T) (fnT Fs f) = ((T.getD (fnT Fs f).toNat (.i 0)).cell 1).list := by unfold tyR; rw [ofT_cell1 T (by omega)]; rfl
      rw [p0, p1] at gE
      rw [hh]
      refine d_itF rfl ?_
      have hq : (decide (((mS.getD i (.i 0)).cell 0).int ≥ 0) && decide (((mS.getD i (.i 0)).cell 0).int < (Fs.length : Int))) = true := by rw [← hf]; exact hh
      have hq2 : (decide (((Fs.getD ((mS.getD i (.i 0)).cell 0).int.toNat (.i 0)).cell 0).int ≥ 0) && decide (((Fs.getD ((mS.getD i (.i 0)).cell 0).int.toNat (.i 0)).cell 0).int < (T.length : Int))) = true := by rw [← hf]; exact hm
      have h4 : b34_4.den (Tab.fn a34) [h0, V, e0, d0, 2, 0, (mE.length : Int), 0, (i : Int)] [cc, true] [T, Im, mF, mTb, mM, mG, mE, mS, mEl, mC, mD, mN, T, Fs, G, Tb, Me] = some (if E1 = 0 then Out.nxt ([0, ((i + 1 : Nat) : Int)], [], []) else Out.ret ([E1], [], [])) := by
        unfold b34_4
        refine d_rq hq2 (d_lst [((T.getD (fnT Fs f).toNat (.i 0)).cell 0).list, ((T.getD (fnT Fs f).toNat (.i 0)).cell 1).list] (by rw [hf]; rfl) ?_)
        generalize ((T.getD (fnT Fs f).toNat (.i 0)).cell 0).list = P at *
        generalize ((T.getD (fnT Fs f).toNat (.i 0)).cell 1).list = Q at *
        by_cases hz : P.length = 0 ∧ Q.length = 0
        · rw [eq_t (show (P.length : Int) + (Q.length : Int) = 0 by omega)] at gE
          have gE : E1 = 0 := gE
          rw [gE, if_pos rfl, ← up1 i (by omega)]
          exact d_lb false (by show (((P.length : Int) != 0) || ((Q.length : Int) != 0)) = false; rw [ne_f (by omega), ne_f (by omega)]; rfl) (d_itF rfl rfl)
        · rw [eq_f (show ¬ (P.length : Int) + (Q.length : Int) = 0 by omega)] at gE
          have gE : E1 = 6 := gE
          rw [gE]
          refine d_lb true ?_ (d_itT rfl (d_rt rfl))
          show (((P.length : Int) != 0) || ((Q.length : Int) != 0)) = true
          by_cases h1 : P.length = 0
          · rw [ne_t (show (Q.length : Int) ≠ 0 by omega), Bool.or_true]
          · rw [ne_t (show (P.length : Int) ≠ 0 by omega)]; rfl
      have h5 : b34_5.den (Tab.fn a34) [h0, V, e0, d0, 2, 0, (mE.length : Int), 0, (i : Int)] [cc, true] [T, Im, mF, mTb, mM, mG, mE, mS, mEl, mC, mD, mN, T, Fs, G, Tb, Me] = some (if E1 = 0 then Out.nxt ([0, ((i + 1 : Nat) : Int)], [], []) else Out.ret ([E1], [], [])) := by
        unfold b34_5
        exact d_rq hq (d_rq hq2 h4)
      exact d_both (d_rq hq (d_both (d_rq hq (d_rq hq2 (d_bothS h4))) h5)) (d_rq hq h5)
    · have hh := Bool.eq_false_iff.2 hh
      rw [if_neg (by unfold stOk; rw [hh]; simp)] at gE
      rw [hh, gE]
      exact d_itT rfl (d_rt rfl)
  · unfold l34_3
    exact d_itF (lt_f (show (mS.length : Int) ≤ (mS.length : Int) by omega)) rfl
  · unfold k34_4
    exact d_rq rfl rfl
/-! laid -/
theorem laid_fs {h0 V e0 d0 : Int} {i : Nat} (hi : i < 9000) {T Im mF mTb mM mG mE mS mEl mC mD mN Fs G Tb Me O L : List D} (hL : L.length ≤ 1000000) {body k : Vx.T} {bs w : List Bool} {bb : List E} {n : Nat} (hn : bs.length = n) (hw : w.length = 5) (hbb : bb.map (E.B [h0, V, e0, d0, 0, (i : Int)] bs [T, Im, mF, mTb, mM, mG, mE, mS, mEl, mC, mD, mN, T, Fs, G, Tb, Me, O, L]) = w)
    (hbd : body = l35_1 ∧ k = k35_2 ∧ n = 3 ∨ body = l35_3 ∧ k = k35_4 ∧ n = 2) :
    (Vx.T.lp [.iv 4, .n 0] bb [] 2 5 0 body k).den (Tab.fn a35) [h0, V, e0, d0, 0, (i : Int)] bs [T, Im, mF, mTb, mM, mG, mE, mS, mEl, mC, mD, mN, T, Fs, G, Tb, Me, O, L] = some (if badF Fs.length L = true then Out.ret ([7], [], []) else Out.nxt ([0, ((i + 1 : Nat) : Int)], [], [])) := by
  have hbs : ∀ b0 b1 b2 b3 b4 : Bool, w = [b0, b1, b2, b3, b4] → ∀ j : Nat, j < L.length →
      body.den (Tab.fn a35) [h0, V, e0, d0, 0, (i : Int), 0, (j : Int)] (bs ++ w) [T, Im, mF, mTb, mM, mG, mE, mS, mEl, mC, mD, mN, T, Fs, G, Tb, Me, O, L] = some (if badAt Fs.length L j = true then Out.ret ([7], [], []) else Out.nxt ([0, ((j + 1 : Nat) : Int)], w, [])) := by
    intro b0 b1 b2 b3 b4 hw5 j hj
    unfold badAt
    obtain ⟨y, hy⟩ : ∃ y, y = ((L.getD j (.i 0)).cell 0).int := ⟨_, rfl⟩
    rw [← hy]
    have hq : ∀ z : Bool, (z || (decide ((j : Int) ≥ 0) && decide ((j : Int) < (L.length : Int)))) = true := fun z => by rw [ge_t (show (0 : Int) ≤ (j : Int) by omega), lt_t (show (j : Int) < (L.length : Int) by omega)]; simp
    rcases hbd with ⟨rfl, rfl, rfl⟩ | ⟨rfl, rfl, rfl⟩
    · obtain ⟨a0, a1, a2, rfl⟩ : ∃ a0 a1 a2, bs = [a0, a1, a2] := by
        match bs, hn with
        | [a, b, c], _ => exact ⟨a, b, c, rfl⟩
      subst hw5
      have hb : b35_1.den (Tab.fn a35) [h0, V, e0, d0, 0, (i : Int), 0, (j : Int)] [a0, a1, a2, b0, b1, b2, b3, b4] [T, Im, mF, mTb, mM, mG, mE, mS, mEl, mC, mD, mN, T, Fs, G, Tb, Me, O, L] = some (if (y != -1 && !hasB y Fs.length) = true then Out.ret ([7], [], []) else Out.nxt ([0, ((j + 1 : Nat) : Int)], [b0, b1, b2, b3, b4], [])) := by
        unfold b35_1
        rw [← up1 j (by omega)]
        by_cases h1 : y = -1
        · rw [ne_f h1]
          exact d_itF (ne_f (by rw [hy] at h1; exact h1)) rfl
        · rw [ne_t h1]
          refine d_itT (ne_t (by rw [hy] at h1; exact h1)) ?_
          refine d_callx [y, (Fs.length : Int)] [] [] ([], [hasB y Fs.length], []) e35_31 (by rw [hy]; rfl) rfl rfl (q_in _ _) rfl ?_
          generalize hasB y Fs.length = b
          cases b
          · exact d_itT rfl (d_rt (d_rt rfl))
          · exact d_itF rfl rfl
      show l35_1.den (Tab.fn a35) [h0, V, e0, d0, 0, (i : Int), 0, (j : Int)] [a0, a1, a2, b0, b1, b2, b3, b4] [T, Im, mF, mTb, mM, mG, mE, mS, mEl, mC, mD, mN, T, Fs, G, Tb, Me, O, L] = _
      unfold l35_1
      have hb2 : ∃ o, some (if (y != -1 && !hasB y Fs.length) = true then Out.ret ([7], [], []) else Out.nxt ([0, ((j + 1 : Nat) : Int)], [b0, b1, b2, b3, b4], [])) = some o := ⟨_, rfl⟩
      refine d_itT (lt_t (show (j : Int) < (L.length : Int) by omega)) (d_rq (ge_t (show (0 : Int) ≤ (j : Int) by omega)) (d_both (d_rq (hq _) (d_bothS hb)) (d_rq (hq _) hb)))
    · obtain ⟨a0, a1, rfl⟩ : ∃ a0 a1, bs = [a0, a1] := by
        match bs, hn with
        | [a, b], _ => exact ⟨a, b, rfl⟩
      subst hw5
      have hb : b35_2.den (Tab.fn a35) [h0, V, e0, d0, 0, (i : Int), 0, (j : Int)] [a0, a1, b0, b1, b2, b3, b4] [T, Im, mF, mTb, mM, mG, mE, mS, mEl, mC, mD, mN, T, Fs, G, Tb, Me, O, L] = some (if (y != -1 && !hasB y Fs.length) = true then Out.ret ([7], [], []) else Out.nxt ([0, ((j + 1 : Nat) : Int)], [b0, b1, b2, b3, b4], [])) := by
        unfold b35_2
        rw [← up1 j (by omega)]
        by_cases h1 : y = -1
        · rw [ne_f h1]
          exact d_itF (ne_f (by rw [hy] at h1; exact h1)) rfl
        · rw [ne_t h1]
          refine d_itT (ne_t (by rw [hy] at h1; exact h1)) ?_
          refine d_callx [y, (Fs.length : Int)] [] [] ([], [hasB y Fs.length], []) e35_31 (by rw [hy]; rfl) rfl rfl (q_in _ _) rfl ?_
          generalize hasB y Fs.length = b
          cases b
          · exact d_itT rfl (d_rt (d_rt rfl))
          · exact d_itF rfl rfl
      show l35_3.den (Tab.fn a35) [h0, V, e0, d0, 0, (i : Int), 0, (j : Int)] [a0, a1, b0, b1, b2, b3, b4] [T, Im, mF, mTb, mM, mG, mE, mS, mEl, mC, mD, mN, T, Fs, G, Tb, Me, O, L] = _
      unfold l35_3
      exact d_itT (lt_t (show (j : Int) < (L.length : Int) by omega)) (d_rq (ge_t (show (0 : Int) ≤ (j : Int) by omega)) (d_both (d_rq (hq _) (d_bothS hb)) (d_rq (hq _) hb)))
  obtain ⟨b0, b1, b2, b3, b4, hw5⟩ : ∃ b0 b1 b2 b3 b4, w = [b0, b1, b2, b3, b4] := by
    match w, hw with
    | [a, b, c, d, e], _ => exact ⟨a, b, c, d, e, rfl⟩
  have hbs := hbs b0 b1 b2 b3 b4 hw5
  refine d_findR (fun j => ([0, (j : Int)], w, [])) L.length (by omega) (badAt Fs.length L) (by show (([(0 : Int), 0], bb.map (E.B _ _ _), []) : Vx.R) = _; rw [hbb]; rfl) (fun _ => ([7], [], [])) 4 ([0, (L.length : Int)], w, []) (fun j hj hp => (hbs j hj).trans (by rw [if_neg (by rw [hp]; decide)])) (fun _ _ => by rw [hw5]; rfl) (fun j hj hp => (hbs j hj).trans (by rw [if_pos hp])) ?_ (by rw [hw5]; rfl) (fun j hj hp _ => ?_) (fun hp => ?_)
  · show Vx.T.den _ body [h0, V, e0, d0, 0, (i : Int), 0, (L.length : Int)] (bs ++ w) [T, Im, mF, mTb, mM, mG, mE, mS, mEl, mC, mD, mN, T, Fs, G, Tb, Me, O, L] = _
    rcases hbd with ⟨rfl, rfl, rfl⟩ | ⟨rfl, rfl, rfl⟩
    · obtain ⟨a0, a1, a2, rfl⟩ : ∃ a0 a1 a2, bs = [a0, a1, a2] := by
        match bs, hn with
        | [a, b, c], _ => exact ⟨a, b, c, rfl⟩
      subst hw5
      unfold l35_1
      exact d_itF (lt_f (show (L.length : Int) ≤ (L.length : Int) by omega)) rfl
    · obtain ⟨a0, a1, rfl⟩ : ∃ a0 a1, bs = [a0, a1] := by
        match bs, hn with
        | [a, b], _ => exact ⟨a, b, rfl⟩
      subst hw5
      unfold l35_3
      exact d_itF (lt_f (show (L.length : Int) ≤ (L.length : Int) by omega)) rfl
  · rw [if_pos (badF_iff.2 ⟨j, hj, hp⟩)]
  · have hb : ¬ badF Fs.length L = true := fun h => by
      obtain ⟨q, h1, h2⟩ := badF_iff.1 h
      exact Bool.false_ne_true ((hp q h1).symm.trans h2)
    rw [if_neg hb, ← up1 i (by omega)]
    rcases hbd with ⟨rfl, rfl, rfl⟩ | ⟨rfl, rfl, rfl⟩
    · unfold k35_2
      exact d_rq rfl rfl
    · unfold k35_4
      exact d_rq rfl rfl
theorem q_laid {h0 V e0 d0 : Int} {cc : Bool} {T Im mF mTb mM mG mE mS mEl mC mD mN Fs G Tb Me : List D} (hEl : mEl.length ≤ 4000) (hD : mD.length ≤ 4000) (hF : mF.length ≤ 4000) (ty : tyB T) (lo : ∀ i, i < mF.length → ((mF.getD i (.i 0)).cell 1).list.length ≤ 1000000) (el : ∀ i, i < mEl.length → ((mEl.getD i (.i 0)).cell 2).list.length ≤ 1000000)
    (hfn : ∀ i, i < mF.length → hasB ((mF.getD i (.i 0)).cell 0).int T.length = true) :
    F35 [h0, V, e0, d0] [cc] [T, Im, mF, mTb, mM, mG, mE, mS, mEl, mC, mD, mN, T, Fs, G, Tb, Me] = some ([orE (errN (elE V Fs.length Tb.length G mEl) 0 mEl.length) (orE (errN (daE V Me.length G mD) 0 mD.length) (orE (errN (loE (ofT T) mF) 0 mF.length) 0))], [], []) := by
  refine of_ret ?_
  unfold t35
  have e7 : (7 : Int) ≠ 0 := by decide
  refine d_firstI 0 mEl.length (by omega) (elE V Fs.length Tb.length G mEl) 2 _ rfl (fun i hi => ?_) ?_ (fun _ => ?_)
  · show Vx.T.den _ l35_9 [h0, V, e0, d0, 0, (i : Int)] [cc] [T, Im, mF, mTb, mM, mG, mE, mS, mEl, mC, mD, mN, T, Fs, G, Tb, Me] = _
    obtain ⟨E1, gE⟩ : ∃ z, z = elE V Fs.length Tb.length G mEl i := ⟨_, rfl⟩
    rw [← gE]
    unfold elE acE at gE
    have hl := el i hi
    obtain ⟨x, hx⟩ : ∃ x, x = mEl.getD i (.i 0) := ⟨_, rfl⟩
    rw [← hx] at gE hl
    unfold l35_9
    refine d_itT (lt_t (show (i : Int) < (mEl.length : Int) by omega)) (d_rq (ge_t (show (0 : Int) ≤ (i : Int) by omega)) (d_lst [(x.cell 1).list, (x.cell 2).list] (by rw [hx]; rfl) ?_))
    generalize (x.cell 1).list = O at *
    generalize (x.cell 2).list = L at *
    by_cases hm : (x.cell 0).int = 0
    · rw [if_pos hm] at gE
      have hm' : (((mEl.getD i (.i 0)).cell 0).int == 0) = true := eq_t (by rw [hx] at hm; exact hm)
      by_cases ht : (Tb.length : Int) > 0
      · rw [decide_eq_true ht, if_pos rfl, orE_zero] at gE
        refine d_lb false (by show ((((mEl.getD i (.i 0)).cell 0).int == 0) && ((Tb.length : Int) == 0)) = false; rw [eq_f (show (Tb.length : Int) ≠ 0 by omega), Bool.and_false]) (d_itF rfl (d_itT hm' ?_))
        refine d_callx [h0, V, e0, d0, 127] [cc] [T, Fs, G, Tb, Me, O] ([], [constB V G O 127], []) e35_21 rfl rfl rfl q_rconst1 rfl ?_
        generalize constB V G O 127 = b at *
        cases b
        · have gE : E1 = 6 := by rw [gE]; exact orE_l _ (by decide)
          rw [gE]
          exact d_itT rfl (d_rt rfl)
        · have gE : E1 = (if (!badF Fs.length L) = true then 0 else 7) := gE
          refine d_itF rfl ?_
          refine Eq.trans (laid_fs (bs := [cc, false, true]) (w := [true, true, true, true, false]) (n := 3) (by omega) hl rfl rfl rfl (.inl ⟨rfl, rfl, rfl⟩)) ?_
          rw [gE]
          cases badF Fs.length L <;> rfl
      · rw [decide_eq_false ht] at gE
        have gE : E1 = 7 := by rw [gE]; rw [orE_l (a := if false = true then 0 else 7) _ (by decide), orE_l _ (by decide)]; rfl
        rw [gE]
        exact d_lb true (by show ((((mEl.getD i (.i 0)).cell 0).int == 0) && ((Tb.length : Int) == 0)) = true; rw [hm', eq_t (show (Tb.length : Int) = 0 by omega)]; rfl) (d_itT rfl (d_rt rfl))
    · rw [if_neg hm, orE_zero] at gE
      have hm' : (((mEl.getD i (.i 0)).cell 0).int == 0) = false := eq_f (by rw [hx] at hm; exact hm)
      refine d_lb false (by show ((((mEl.getD i (.i 0)).cell 0).int == 0) && ((Tb.length : Int) == 0)) = false; rw [hm']; rfl) (d_itF rfl (d_itF hm' ?_))
      refine Eq.trans (laid_fs (bs := [cc, false]) (w := [false, false, false, false, false]) (n := 2) (by omega) hl rfl rfl rfl (.inr ⟨rfl, rfl, rfl⟩)) ?_
      rw [gE]
      cases badF Fs.length L <;> rfl
  · unfold l35_9
    exact d_itF (lt_f (show (mEl.length : Int) ≤ (mEl.length : Int) by omega)) rfl
  unfold k35_10
  refine d_rq rfl ?_
  show Vx.T.den _ _ [h0, V, e0, d0, 2, 0, (mEl.length : Int)] [cc] [T, Im, mF, mTb, mM, mG, mE, mS, mEl, mC, mD, mN, T, Fs, G, Tb, Me] = _
  refine d_firstI 0 mD.length (by omega) (daE V Me.length G mD) 6 _ rfl (fun i hi => ?_) ?_ (fun _ => ?_)
  · show Vx.T.den _ l35_7 [h0, V, e0, d0, 2, 0, (mEl.length : Int), 0, (i : Int)] [cc] [T, Im, mF, mTb, mM, mG, mE, mS, mEl, mC, mD, mN, T, Fs, G, Tb, Me] = _
    obtain ⟨E1, gE⟩ : ∃ z, z = daE V Me.length G mD i := ⟨_, rfl⟩
    rw [← gE]
    unfold daE acE at gE
    obtain ⟨x, hx⟩ : ∃ x, x = mD.getD i (.i 0) := ⟨_, rfl⟩
    rw [← hx] at gE
    have hq : ∀ z : Bool, (z || (decide ((i : Int) ≥ 0) && decide ((i : Int) < (mD.length : Int)))) = true := fun z => by rw [ge_t (show (0 : Int) ≤ (i : Int) by omega), lt_t (show (i : Int) < (mD.length : Int) by omega)]; simp
    unfold l35_7
    refine d_itT (lt_t (show (i : Int) < (mD.length : Int) by omega)) (d_rq (ge_t (show (0 : Int) ≤ (i : Int) by omega)) ?_)
    by_cases hbad : (x.cell 0).int = 0 ∧ ¬ (Me.length : Int) > 0
    · rw [if_pos hbad.1, decide_eq_false hbad.2] at gE
      have gE : E1 = 7 := by rw [gE]; exact orE_l _ (by decide)
      rw [gE]
      exact d_lb true (by show ((((mD.getD i (.i 0)).cell 0).int == 0) && ((Me.length : Int) == 0)) = true; rw [← hx, eq_t hbad.1, eq_t (show (Me.length : Int) = 0 by omega)]; rfl) (d_itT rfl (d_rt rfl))
    · refine d_lb false ?_ (d_itF rfl ?_)
      · show ((((mD.getD i (.i 0)).cell 0).int == 0) && ((Me.length : Int) == 0)) = false
        rw [← hx, Bool.and_eq_false_iff]
        by_cases h1 : (x.cell 0).int = 0
        · exact .inr (eq_f (by intro h2; exact hbad ⟨h1, by omega⟩))
        · exact .inl (eq_f h1)
      have hb3 : b35_3.den (Tab.fn a35) [h0, V, e0, d0, 2, 0, (mEl.length : Int), 0, (i : Int)] [cc, false] [T, Im, mF, mTb, mM, mG, mE, mS, mEl, mC, mD, mN, T, Fs, G, Tb, Me] = some (if E1 = 0 then Out.nxt ([0, ((i + 1 : Nat) : Int)], [], []) else Out.ret ([E1], [], [])) := by
        unfold b35_3
        by_cases h1 : (x.cell 0).int = 0
        · have h2 : (Me.length : Int) > 0 := by omega
          rw [if_pos h1, decide_eq_true h2, if_pos rfl, orE_zero] at gE
          refine d_itT (eq_t (by rw [hx] at h1; exact h1)) (d_lst [(x.cell 1).list] (by rw [hx]; rfl) ?_)
          refine d_callx [h0, V, e0, d0, 127] [cc] [T, Fs, G, Tb, Me, (x.cell 1).list] ([], [constB V G (x.cell 1).list 127], []) e35_21 rfl rfl rfl q_rconst1 rfl ?_
          generalize constB V G (x.cell 1).list 127 = b at *
          subst gE
          rw [← up1 i (by omega)]
          cases b
          · exact d_itT rfl (d_rt rfl)
          · exact d_itF rfl rfl
        · rw [if_neg h1] at gE
          subst gE
          rw [← up1 i (by omega)]
          exact d_itF (eq_f (by rw [hx] at h1; exact h1)) rfl
      exact d_both (d_rq (hq _) hb3) (d_rq (hq _) (d_bothS hb3))
  · unfold l35_7
    exact d_itF (lt_f (show (mD.length : Int) ≤ (mD.length : Int) by omega)) rfl
  unfold k35_8
  refine d_rq rfl ?_
  show Vx.T.den _ _ [h0, V, e0, d0, 2, 0, (mEl.length : Int), 6, 0, (mD.length : Int)] [cc] [T, Im, mF, mTb, mM, mG, mE, mS, mEl, mC, mD, mN, T, Fs, G, Tb, Me] = _
  refine d_firstI 0 mF.length (by omega) (loE (ofT T) mF) 8 _ rfl (fun i hi => ?_) ?_ (fun _ => ?_)
  · show Vx.T.den _ l35_5 [h0, V, e0, d0, 2, 0, (mEl.length : Int), 6, 0, (mD.length : Int), 0, (i : Int)] [cc] [T, Im, mF, mTb, mM, mG, mE, mS, mEl, mC, mD, mN, T, Fs, G, Tb, Me] = _
    obtain ⟨E1, gE⟩ : ∃ z, z = loE (ofT T) mF i := ⟨_, rfl⟩
    rw [← gE]
    unfold loE at gE
    have hlo := lo i hi
    have hfi := hfn i hi
    rw [ofT_len, if_pos hfi] at gE
    have hr : 0 ≤ ((mF.getD i (.i 0)).cell 0).int ∧ ((mF.getD i (.i 0)).cell 0).int < T.length := by simp only [hasB, Bool.and_eq_true, decide_eq_true_eq] at hfi; exact hfi
    obtain ⟨p1, _⟩ := ty ((mF.getD i (.i 0)).cell 0).int.toNat (by omega)
    have p0 : tyP (ofT T) ((mF.getD i (.i 0)).cell 0).int = ((T.getD ((mF.getD i (.i 0)).cell 0).int.toNat (.i 0)).cell 0).list := by unfold tyP; rw [ofT_cell0 T (by omega)]; rfl
    rw [p0] at gE
    have hq : (decide (((mF.getD i (.i 0)).cell 0).int ≥ 0) && decide (((mF.getD i (.i 0)).cell 0).int < (T.length : Int))) = true := hfi
    unfold l35_5
    refine d_itT (lt_t (show (i : Int) < (mF.length : Int) by omega)) (d_rq (ge_t (show (0 : Int) ≤ (i : Int) by omega)) (d_rq hq (d_rq hq (d_rq hq (d_lst [((T.getD ((mF.getD i (.i 0)).cell 0).int.toNat (.i 0)).cell 0).list] rfl (d_lst [((mF.getD i (.i 0)).cell 1).list] rfl ?_))))))
    generalize ((T.getD ((mF.getD i (.i 0)).cell 0).int.toNat (.i 0)).cell 0).list = P at *
    generalize ((mF.getD i (.i 0)).cell 1).list = L at *
    have ha : arI .add .i64 (P.length : Int) (L.length : Int) = (P.length : Int) + (L.length : Int) := addI (by omega) (by omega)
    by_cases h64 : (P.length : Int) + (L.length : Int) ≤ 64
    · rw [decide_eq_true h64] at gE
      have gE : E1 = 0 := gE
      rw [gE, if_pos rfl, ← up1 i (by omega)]
      exact d_itF (by show decide (arI .add .i64 (P.length : Int) (L.length : Int) > 64) = false; rw [ha]; exact gt_f h64) rfl
    · rw [decide_eq_false h64] at gE
      have gE : E1 = 4 := gE
      rw [gE]
      exact d_itT (by show decide (arI .add .i64 (P.length : Int) (L.length : Int) > 64) = true; rw [ha]; exact gt_t (by omega)) (d_rt rfl)
  · unfold l35_5
    exact d_itF (lt_f (show (mF.length : Int) ≤ (mF.length : Int) by omega)) rfl
  · unfold k35_6
    exact d_rq rfl rfl
/-! the first error -/
theorem types_ok {Im mF : List D} {n : Int} (h1 : ∀ i, i < Im.length → impE Im n i = 0) (h2 : ∀ i, i < mF.length → fnE mF n i = 0) : ∀ x ∈ ofF Im mF, hasB (x.cell 0).int n = true := by
  intro x hx
  unfold ofF at hx
  rw [List.mem_append] at hx
  rcases hx with hx | hx
  · obtain ⟨i, h3, h4⟩ := mem_accN hx
    have h5 := h1 i h3
    unfold impF at h4
    unfold impE at h5
    split at h4
    · rename_i hk
      rw [if_pos hk, ite_eq0 (by decide)] at h5
      rw [List.mem_singleton.1 h4]
      exact h5
    · cases h4
  · obtain ⟨i, h3, rfl⟩ := mem_mapN hx
    have h5 := h2 i h3
    unfold fnE at h5
    exact (ite_eq0 (by decide)).1 h5
def refErr (T Im mF mTb mM mG mE mS mEl mD : List D) : Int :=
  orE (errN (impE Im T.length) 0 Im.length) (orE (errN (fnE mF T.length) 0 mF.length) (orE (errN (tbE mTb) 0 mTb.length) (orE (errN (meE mM) 0 mM.length) (orE (many (ofTb Im mTb) 3) (orE (many (ofMe Im mM) 8) (orE (errN (glE (inG Im).length (inG Im) mG) 0 mG.length)
    (orE (orE (errN (exE (ofF Im mF).length (ofTb Im mTb).length (ofMe Im mM).length (ofG Im mG).length mE) 0 mE.length) (orE (errN (stE (ofT T) (ofF Im mF) mS) 0 mS.length) 0))
      (orE (errN (elE (inG Im).length (ofF Im mF).length (ofTb Im mTb).length (ofG Im mG) mEl) 0 mEl.length) (orE (errN (daE (inG Im).length (ofMe Im mM).length (ofG Im mG) mD) 0 mD.length) (orE (errN (loE (ofT T) mF) 0 mF.length) 0))))))))))
theorem refErr_eq (T Im mF mTb mM mG mE mS mEl mD : List D) : refErr T Im mF mTb mM mG mE mS mEl mD = ofErr T Im mF mTb mM mG mE mS mEl mD := by
  unfold refErr ofErr ownE
  rw [ofT_len]
  conv => rhs; rw [errN_or (loE _ _), errN_or (daE _ _ _ _), errN_or (elE _ _ _ _ _), errN_or (stE _ _ _), errN_or (exE _ _ _ _ _), errN_or (glE _ _ _), errN_or (meE _), errN_or (tbE _), errN_or (fnE _ _)]
  simp only [orE_assoc, orE_z]
  rfl
theorem q_error {T Im mF mTb mM mG mE mS mEl mC mD mN : List D} (h : Mok T Im mF mTb mM mG mE mS mEl mC mD) : F11 [] [] [T, Im, mF, mTb, mM, mG, mE, mS, mEl, mC, mD, mN] = some ([ofErr T Im mF mTb mM mG mE mS mEl mD], [], []) := by
  have hT := h.hT; have hI := h.hI; have hF := h.hF; have hTb := h.hTb; have hM := h.hM; have hG := h.hG; have hE := h.hE; have hS := h.hS; have hEl := h.hEl; have hD := h.hD
  rw [← refErr_eq]
  refine of_ret ?_
  unfold t11 refErr
  refine d_firstI 0 Im.length (by omega) (impE Im T.length) 2 _ rfl (fun i hi => ?_) ?_ (fun z1 => ?_)
  · show Vx.T.den _ l11_9 [0, (i : Int)] [] [T, Im, mF, mTb, mM, mG, mE, mS, mEl, mC, mD, mN] = _
    obtain ⟨E1, gE⟩ : ∃ z, z = impE Im T.length i := ⟨_, rfl⟩
    rw [← gE]
    unfold impE at gE
    obtain ⟨x, hx⟩ : ∃ x, x = Im.getD i (.i 0) := ⟨_, rfl⟩
    rw [← hx] at gE
    have cd : ∀ z : Int, (x.cell 2).int = z → ((((Im.getD i (.i 0)).cell 2).int == z) = true) := fun z h => eq_t (by rw [hx] at h; exact h)
    have cn : ∀ z : Int, (x.cell 2).int ≠ z → ((((Im.getD i (.i 0)).cell 2).int == z) = false) := fun z h => eq_f (by rw [hx] at h; exact h)
    unfold l11_9
    rw [← up1 i (by omega)]
    refine d_itT (lt_t (show (i : Int) < (Im.length : Int) by omega)) (d_rq (ge_t (show (0 : Int) ≤ (i : Int) by omega)) (d_lst [(x.cell 0).list, (x.cell 1).list] (by rw [hx]; rfl) ?_))
    have qt := q_rtable (x.cell 4).int (x.cell 6).int (x.cell 5).bool
    have qm := q_rmemory (x.cell 4).int (x.cell 6).int (x.cell 5).bool
    generalize tableE (x.cell 4).int (x.cell 6).int (x.cell 5).bool = et at *
    generalize memoryE (x.cell 4).int (x.cell 6).int (x.cell 5).bool = em at *
    by_cases h0 : (x.cell 2).int = 0
    · rw [if_pos h0] at gE
      refine d_itT (cd 0 h0) ?_
      refine d_callx [(x.cell 3).int, (T.length : Int)] [] [] ([], [hasB (x.cell 3).int T.length], []) e11_31 (by rw [hx]; rfl) rfl rfl (q_in _ _) rfl ?_
      generalize hasB (x.cell 3).int (T.length : Int) = b at *
      subst gE
      cases b
      · exact d_itT rfl (d_rt rfl)
      refine d_itF rfl ?_
      refine d_callx [(x.cell 4).int, (x.cell 6).int] [(x.cell 5).bool] [] ([et], [], []) e11_32 (by rw [hx]; rfl) (by rw [hx]; rfl) rfl qt rfl ?_
      refine d_lb false (by show ((((Im.getD i (.i 0)).cell 2).int == 1) && (et != 0)) = false; rw [cn 1 (by omega)]; rfl) (d_itF rfl ?_)
      refine d_callx [(x.cell 4).int, (x.cell 6).int] [(x.cell 5).bool] [] ([em], [], []) e11_33 (by rw [hx]; rfl) (by rw [hx]; rfl) rfl qm rfl ?_
      exact d_lb false (by show ((((Im.getD i (.i 0)).cell 2).int == 2) && (em != 0)) = false; rw [cn 2 (by omega)]; rfl) (d_itF rfl rfl)
    rw [if_neg h0] at gE
    refine d_itF (cn 0 h0) ?_
    refine d_callx [(x.cell 4).int, (x.cell 6).int] [(x.cell 5).bool] [] ([et], [], []) e11_32 (by rw [hx]; rfl) (by rw [hx]; rfl) rfl qt rfl ?_
    by_cases h1 : (x.cell 2).int = 1
    · rw [if_pos h1] at gE
      subst gE
      by_cases hz : E1 = 0
      · rw [if_pos hz]
        refine d_lb false (by show ((((Im.getD i (.i 0)).cell 2).int == 1) && (E1 != 0)) = false; rw [cd 1 h1, ne_f hz]; rfl) (d_itF rfl ?_)
        refine d_callx [(x.cell 4).int, (x.cell 6).int] [(x.cell 5).bool] [] ([em], [], []) e11_33 (by rw [hx]; rfl) (by rw [hx]; rfl) rfl qm rfl ?_
        exact d_lb false (by show ((((Im.getD i (.i 0)).cell 2).int == 2) && (em != 0)) = false; rw [cn 2 (by omega)]; rfl) (d_itF rfl rfl)
      · rw [if_neg hz]
        exact d_lb true (by show ((((Im.getD i (.i 0)).cell 2).int == 1) && (E1 != 0)) = true; rw [cd 1 h1, ne_t hz]; rfl) (d_itT rfl (d_rt rfl))
    rw [if_neg h1] at gE
    refine d_lb false (by show ((((Im.getD i (.i 0)).cell 2).int == 1) && (et != 0)) = false; rw [cn 1 h1]; rfl) (d_itF rfl ?_)
    refine d_callx [(x.cell 4).int, (x.cell 6).int] [(x.cell 5).bool] [] ([em], [], []) e11_33 (by rw [hx]; rfl) (by rw [hx]; rfl) rfl qm rfl ?_
    by_cases h2 : (x.cell 2).int = 2
    · rw [if_pos h2] at gE
      subst gE
      by_cases hz : E1 = 0
      · rw [if_pos hz]
        exact d_lb false (by show ((((Im.getD i (.i 0)).cell 2).int == 2) && (E1 != 0)) = false; rw [cd 2 h2, ne_f hz]; rfl) (d_itF rfl rfl)
      · rw [if_neg hz]
        exact d_lb true (by show ((((Im.getD i (.i 0)).cell 2).int == 2) && (E1 != 0)) = true; rw [cd 2 h2, ne_t hz]; rfl) (d_itT rfl (d_rt rfl))
    · rw [if_neg h2] at gE
      subst gE
      exact d_lb false (by show ((((Im.getD i (.i 0)).cell 2).int == 2) && (em != 0)) = false; rw [cn 2 h2]; rfl) (d_itF rfl rfl)
  · unfold l11_9
    exact d_itF (lt_f (show (Im.length : Int) ≤ (Im.length : Int) by omega)) rfl
  unfold k11_10
  refine d_rq rfl ?_
  show Vx.T.den _ _ [2, 0, (Im.length : Int)] [] [T, Im, mF, mTb, mM, mG, mE, mS, mEl, mC, mD, mN] = _
  refine d_firstI 0 mF.length (by omega) (fnE mF T.length) 4 _ rfl (fun i hi => ?_) ?_ (fun z2 => ?_)
  · show Vx.T.den _ l11_7 [2, 0, (Im.length : Int), 0, (i : Int)] [] [T, Im, mF, mTb, mM, mG, mE, mS, mEl, mC, mD, mN] = _
    unfold fnE l11_7
    rw [← up1 i (by omega)]
    refine d_itT (lt_t (show (i : Int) < (mF.length : Int) by omega)) (d_rq (ge_t (show (0 : Int) ≤ (i : Int) by omega)) ?_)
    refine d_callx [((mF.getD i (.i 0)).cell 0).int, (T.length : Int)] [] [] ([], [hasB ((mF.getD i (.i 0)).cell 0).int T.length], []) e11_31 rfl rfl rfl (q_in _ _) rfl ?_
    generalize hasB ((mF.getD i (.i 0)).cell 0).int (T.length : Int) = b
    cases b
    · exact d_itT rfl (d_rt rfl)
    · exact d_itF rfl rfl
  · unfold l11_7
    exact d_itF (lt_f (show (mF.length : Int) ≤ (mF.length : Int) by omega)) rfl
  unfold k11_8
  refine d_rq rfl ?_
  show Vx.T.den _ _ [2, 0, (Im.length : Int), 4, 0, (mF.length : Int)] [] [T, Im, mF, mTb, mM, mG, mE, mS, mEl, mC, mD, mN] = _
  refine d_firstI 0 mTb.length (by omega) (tbE mTb) 6 _ rfl (fun i hi => ?_) ?_ (fun z3 => ?_)
  · show Vx.T.den _ l11_5 [2, 0, (Im.length : Int), 4, 0, (mF.length : Int), 0, (i : Int)] [] [T, Im, mF, mTb, mM, mG, mE, mS, mEl, mC, mD, mN] = _
    unfold l11_5
    rw [← up1 i (by omega)]
    have hq := q_rtable ((mTb.getD i (.i 0)).cell 0).int ((mTb.getD i (.i 0)).cell 2).int ((mTb.getD i (.i 0)).cell 1).bool
    have hq : F32 [((mTb.getD i (.i 0)).cell 0).int, ((mTb.getD i (.i 0)).cell 2).int] [((mTb.getD i (.i 0)).cell 1).bool] [] = some ([tbE mTb i], [], []) := hq
    generalize tbE mTb i = e at *
    refine d_itT (lt_t (show (i : Int) < (mTb.length : Int) by omega)) (d_rq (ge_t (show (0 : Int) ≤ (i : Int) by omega)) ?_)
    refine d_callx [((mTb.getD i (.i 0)).cell 0).int, ((mTb.getD i (.i 0)).cell 2).int] [((mTb.getD i (.i 0)).cell 1).bool] [] ([e], [], []) e11_32 rfl rfl rfl hq rfl ?_
    by_cases hz : e = 0
    · rw [if_pos hz]; exact d_itF (ne_f hz) rfl
    · rw [if_neg hz]; exact d_itT (ne_t hz) (d_rt rfl)
  · unfold l11_5
    exact d_itF (lt_f (show (mTb.length : Int) ≤ (mTb.length : Int) by omega)) rfl
  unfold k11_6
  refine d_rq rfl ?_
  show Vx.T.den _ _ [2, 0, (Im.length : Int), 4, 0, (mF.length : Int), 6, 0, (mTb.length : Int)] [] [T, Im, mF, mTb, mM, mG, mE, mS, mEl, mC, mD, mN] = _
  refine d_firstI 0 mM.length (by omega) (meE mM) 8 _ rfl (fun i hi => ?_) ?_ (fun z4 => ?_)
  · show Vx.T.den _ l11_3 [2, 0, (Im.length : Int), 4, 0, (mF.length : Int), 6, 0, (mTb.length : Int), 0, (i : Int)] [] [T, Im, mF, mTb, mM, mG, mE, mS, mEl, mC, mD, mN] = _
    unfold l11_3
    rw [← up1 i (by omega)]
    have hq := q_rmemory ((mM.getD i (.i 0)).cell 0).int ((mM.getD i (.i 0)).cell 2).int ((mM.getD i (.i 0)).cell 1).bool
    have hq : F33 [((mM.getD i (.i 0)).cell 0).int, ((mM.getD i (.i 0)).cell 2).int] [((mM.getD i (.i 0)).cell 1).bool] [] = some ([meE mM i], [], []) := hq
    generalize meE mM i = e at *
    refine d_itT (lt_t (show (i : Int) < (mM.length : Int) by omega)) (d_rq (ge_t (show (0 : Int) ≤ (i : Int) by omega)) ?_)
    refine d_callx [((mM.getD i (.i 0)).cell 0).int, ((mM.getD i (.i 0)).cell 2).int] [((mM.getD i (.i 0)).cell 1).bool] [] ([e], [], []) e11_33 rfl rfl rfl hq rfl ?_
    by_cases hz : e = 0
    · rw [if_pos hz]; exact d_itF (ne_f hz) rfl
    · rw [if_neg hz]; exact d_itT (ne_t hz) (d_rt rfl)
  · unfold l11_3
    exact d_itF (lt_f (show (mM.length : Int) ≤ (mM.length : Int) by omega)) rfl
  unfold k11_4
  refine d_rq rfl ?_
  have g1 := q_gather (T := T) (Im := Im) (mF := mF) (mTb := mTb) (mM := mM) (mG := mG) (mE := mE) (mS := mS) (mEl := mEl) (mC := mC) (mD := mD) (mN := mN) false hI hF hTb hM hG
  have g2 := q_gather (T := T) (Im := Im) (mF := mF) (mTb := mTb) (mM := mM) (mG := mG) (mE := mE) (mS := mS) (mEl := mEl) (mC := mC) (mD := mD) (mN := mN) true hI hF hTb hM hG
  rw [if_neg (by decide)] at g1
  rw [if_pos rfl] at g2
  have n3 : (ofTb Im mTb).length = (inT Im ++ mTb).length := by unfold ofTb; rw [List.length_append, mapN_len, List.length_append]
  have n4 : (ofMe Im mM).length = (inM Im ++ mM).length := by unfold ofMe; rw [List.length_append, mapN_len, List.length_append]
  unfold many
  rw [n3, n4]
  have hty := types_ok z1 z2
  have hfn : ∀ i, i < mF.length → hasB ((mF.getD i (.i 0)).cell 0).int T.length = true := fun i hi => by
    have := z2 i hi
    unfold fnE at this
    exact (ite_eq0 (by decide)).1 this
  generalize inT Im ++ mTb = Tb at *
  generalize inM Im ++ mM = Me at *
  have s1 := q_seen (h0 := ((inF Im).length : Int)) (V := ((inG Im).length : Int)) (e0 := (mEl.length : Int)) (d0 := (mD.length : Int)) (cc := decide ((mC.length : Int) > 0)) (T := T) (Im := Im) (mF := mF) (mTb := mTb) (mM := mM) (mG := mG) (mE := mE) (mS := mS) (mEl := mEl) (mC := mC) (mD := mD) (mN := mN) (Fs := ofF Im mF) (G := ofG Im mG) (Tb := Tb) (Me := Me) hE hS hty
  have s2 := q_laid (h0 := ((inF Im).length : Int)) (V := ((inG Im).length : Int)) (e0 := (mEl.length : Int)) (d0 := (mD.length : Int)) (cc := decide ((mC.length : Int) > 0)) (T := T) (Im := Im) (mF := mF) (mTb := mTb) (mM := mM) (mG := mG) (mE := mE) (mS := mS) (mEl := mEl) (mC := mC) (mD := mD) (mN := mN) (Fs := ofF Im mF) (G := ofG Im mG) (Tb := Tb) (Me := Me) hEl hD hF h.ty h.lo h.el hfn
  generalize orE (errN (exE (ofF Im mF).length Tb.length Me.length (ofG Im mG).length mE) 0 mE.length) (orE (errN (stE (ofT T) (ofF Im mF) mS) 0 mS.length) 0) = es at *
  generalize orE (errN (elE (inG Im).length (ofF Im mF).length Tb.length (ofG Im mG) mEl) 0 mEl.length) (orE (errN (daE (inG Im).length Me.length (ofG Im mG) mD) 0 mD.length) (orE (errN (loE (ofT T) mF) 0 mF.length) 0)) = el at *
  generalize ofF Im mF = Fs at *
  generalize ofG Im mG = G at *
  generalize hV : ((inG Im).length : Int) = V at *
  generalize inG Im = IG at *
  generalize ((inF Im).length : Int) = nF at *
  refine d_callx [] [false] [T, Im, mF, mTb, mM, mG, mE, mS, mEl, mC, mD, mN] _ e11_13 rfl rfl rfl g1 rfl ?_
  show Vx.T.den _ _ [2, 0, (Im.length : Int), 4, 0, (mF.length : Int), 6, 0, (mTb.length : Int), 8, 0, (mM.length : Int), nF, V, (mEl.length : Int), (mD.length : Int)] [decide ((mC.length : Int) > 0)] [T, Im, mF, mTb, mM, mG, mE, mS, mEl, mC, mD, mN, T, Fs, G, Tb, Me] = _
  by_cases t1 : (Tb.length : Int) ≤ 1
  case neg =>
    rw [decide_eq_false t1, if_neg (by decide), orE_l _ (by decide)]
    exact d_itT (gt_t (show (1 : Int) < (Tb.length : Int) by omega)) rfl
  rw [decide_eq_true t1, if_pos rfl, orE_zero]
  refine d_itF (gt_f t1) ?_
  by_cases t2 : (Me.length : Int) ≤ 1
  case neg =>
    rw [decide_eq_false t2, if_neg (by decide), orE_l _ (by decide)]
    exact d_itT (gt_t (show (1 : Int) < (Me.length : Int) by omega)) rfl
  rw [decide_eq_true t2, if_pos rfl, orE_zero]
  refine d_itF (gt_f t2) ?_
  refine d_firstI 0 mG.length (by omega) (glE V IG mG) 10 _ rfl (fun i hi => ?_) ?_ (fun z7 => ?_)
  · show Vx.T.den _ l11_1 [2, 0, (Im.length : Int), 4, 0, (mF.length : Int), 6, 0, (mTb.length : Int), 8, 0, (mM.length : Int), nF, V, (mEl.length : Int), (mD.length : Int), 0, (i : Int)] [decide ((mC.length : Int) > 0)] [T, Im, mF, mTb, mM, mG, mE, mS, mEl, mC, mD, mN, T, Fs, G, Tb, Me] = _
    unfold l11_1
    obtain ⟨E1, gE⟩ : ∃ z, z = glE V IG mG i := ⟨_, rfl⟩
    rw [← gE]
    unfold glE at gE
    obtain ⟨L, hL⟩ : ∃ L, L = ((mG.getD i (.i 0)).cell 2).list := ⟨_, rfl⟩
    rw [← hL] at gE
    have h1 : b11_1.den (Tab.fn a11) [2, 0, (Im.length : Int), 4, 0, (mF.length : Int), 6, 0, (mTb.length : Int), 8, 0, (mM.length : Int), nF, V, (mEl.length : Int), (mD.length : Int), 0, (i : Int), nF, V, (mEl.length : Int), (mD.length : Int)] [decide ((mC.length : Int) > 0), decide ((mC.length : Int) > 0)] [T, Im, mF, mTb, mM, mG, mE, mS, mEl, mC, mD, mN, T, Fs, G, Tb, Me, T, Fs, IG, Tb, Me] = some (if E1 = 0 then Out.nxt ([0, ((i + 1 : Nat) : Int)], [], []) else Out.ret ([E1], [], [])) := by
      unfold b11_1
      refine d_lst [L] (by rw [hL]; rfl) ?_
      refine d_callx [nF, V, (mEl.length : Int), (mD.length : Int), ((mG.getD i (.i 0)).cell 0).int] [decide ((mC.length : Int) > 0)] [T, Fs, IG, Tb, Me, L] ([], [constB V IG L ((mG.getD i (.i 0)).cell 0).int], []) e11_21 rfl rfl rfl q_rconst1 rfl ?_
      generalize constB V IG L ((mG.getD i (.i 0)).cell 0).int = b at *
      subst gE
      rw [← up1 i (by omega)]
      cases b
      · exact d_itT rfl (d_rt rfl)
      · exact d_itF rfl rfl
    have h2 : b11_2.den (Tab.fn a11) [2, 0, (Im.length : Int), 4, 0, (mF.length : Int), 6, 0, (mTb.length : Int), 8, 0, (mM.length : Int), nF, V, (mEl.length : Int), (mD.length : Int), 0, (i : Int)] [decide ((mC.length : Int) > 0)] [T, Im, mF, mTb, mM, mG, mE, mS, mEl, mC, mD, mN, T, Fs, G, Tb, Me, L] = some (if E1 = 0 then Out.nxt ([0, ((i + 1 : Nat) : Int)], [], []) else Out.ret ([E1], [], [])) := by
      unfold b11_2
      refine d_callx [] [true] [T, Im, mF, mTb, mM, mG, mE, mS, mEl, mC, mD, mN] _ e11_13 rfl rfl rfl g2 rfl ?_
      refine d_callx [nF, V, (mEl.length : Int), (mD.length : Int), ((mG.getD i (.i 0)).cell 0).int] [decide ((mC.length : Int) > 0)] [T, Fs, IG, Tb, Me, L] ([], [constB V IG L ((mG.getD i (.i 0)).cell 0).int], []) e11_21 rfl rfl rfl q_rconst1 rfl ?_
      generalize constB V IG L ((mG.getD i (.i 0)).cell 0).int = b at *
      subst gE
      rw [← up1 i (by omega)]
      cases b
      · exact d_itT rfl (d_rt rfl)
      · exact d_itF rfl rfl
    have c1 : ∀ {k o}, k.den (Tab.fn a11) [2, 0, (Im.length : Int), 4, 0, (mF.length : Int), 6, 0, (mTb.length : Int), 8, 0, (mM.length : Int), nF, V, (mEl.length : Int), (mD.length : Int), 0, (i : Int), nF, V, (mEl.length : Int), (mD.length : Int)] [decide ((mC.length : Int) > 0), decide ((mC.length : Int) > 0)] [T, Im, mF, mTb, mM, mG, mE, mS, mEl, mC, mD, mN, T, Fs, G, Tb, Me, T, Fs, IG, Tb, Me] = o →
        (Vx.T.call 13 [] [.t true] [.v 0, .v 1, .v 2, .v 3, .v 4, .v 5, .v 6, .v 7, .v 8, .v 9, .v 10, .v 11] 4 1 5 k).den (Tab.fn a11) [2, 0, (Im.length : Int), 4, 0, (mF.length : Int), 6, 0, (mTb.length : Int), 8, 0, (mM.length : Int), nF, V, (mEl.length : Int), (mD.length : Int), 0, (i : Int)] [decide ((mC.length : Int) > 0)] [T, Im, mF, mTb, mM, mG, mE, mS, mEl, mC, mD, mN, T, Fs, G, Tb, Me] = o := fun {k o} hk =>
      d_callx [] [true] [T, Im, mF, mTb, mM, mG, mE, mS, mEl, mC, mD, mN] _ e11_13 rfl rfl rfl g2 rfl hk
    refine d_itT (lt_t (show (i : Int) < (mG.length : Int) by omega)) (d_rq (ge_t (show (0 : Int) ≤ (i : Int) by omega)) ?_)
    exact d_both (c1 (d_bothS h1)) (d_both (d_lst [L] (by rw [hL]; rfl) (d_bothS h2)) (d_both (c1 h1) (d_lst [L] (by rw [hL]; rfl) h2)))
  · unfold l11_1
    exact d_itF (lt_f (show (mG.length : Int) ≤ (mG.length : Int) by omega)) rfl
  unfold k11_2
  refine d_rq rfl ?_
  refine d_callx [nF, V, (mEl.length : Int), (mD.length : Int)] [decide ((mC.length : Int) > 0)] [T, Im, mF, mTb, mM, mG, mE, mS, mEl, mC, mD, mN, T, Fs, G, Tb, Me] ([es], [], []) e11_34 rfl rfl rfl s1 rfl ?_
  by_cases hz : es = 0
  · rw [hz, orE_zero]
    refine d_itF rfl ?_
    exact d_callx [nF, V, (mEl.length : Int), (mD.length : Int)] [decide ((mC.length : Int) > 0)] [T, Im, mF, mTb, mM, mG, mE, mS, mEl, mC, mD, mN, T, Fs, G, Tb, Me] ([el], [], []) e11_35 rfl rfl rfl s2 rfl rfl
  · rw [orE_l _ hz]
    exact d_itT (ne_t hz) rfl
end Go.Proofs.Ytkpbcfkmkgddhaa.WCtxRight
