/-
  CtxRight: two contexts that are the same.
-/
import Derived.Test.YtkpbcfkmkgddhaaOfCtxCtxRight
namespace Go.Proofs.Ytkpbcfkmkgddhaa.ZCtxRight
set_option linter.all false
open Go.Proofs.Ytkpbcfkmkgddhaa.Vx Go.Proofs.Ytkpbcfkmkgddhaa.XCtxRight Go.Proofs.Ytkpbcfkmkgddhaa.Vd Go.Proofs.Ytkpbcfkmkgddhaa.Vn Go.Proofs.Ytkpbcfkmkgddhaa.Vl Go.Proofs.Ytkpbcfkmkgddhaa.Vp Go.Proofs.Ytkpbcfkmkgddhaa.Vb Go.Proofs.Ytkpbcfkmkgddhaa.SCtxRight Go.Proofs.Ytkpbcfkmkgddhaa.Vo Go.Proofs.Ytkpbcfkmkgddhaa.OCtxRight
theorem q_same9 {i0 i1 i2 i3 : Int} {b0 : Bool} {T Fs G Tb Me T2 G2 Tb2 Me2 : List D} (nT : T.length = T2.length) (nG : G.length = G2.length) (nTb : Tb.length = Tb2.length) (nMe : Me.length = Me2.length) (mT : T.length ≤ 100000) (mF : Fs.length ≤ 100000) (mG : G.length ≤ 100000) (mTb : Tb.length ≤ 100000) (mMe : Me.length ≤ 100000)
    (hT : ∀ i, i < T.length → ((T.getD i (.i 0)).cell 0).list = ((T2.getD i (.i 0)).cell 0).list ∧ ((T.getD i (.i 0)).cell 1).list = ((T2.getD i (.i 0)).cell 1).list ∧ ((T.getD i (.i 0)).cell 0).list.length ≤ 1000000 ∧ ((T.getD i (.i 0)).cell 1).list.length ≤ 1000000)
    (hG : ∀ i, i < G.length → ((G.getD i (.i 0)).cell 0).int = ((G2.getD i (.i 0)).cell 0).int ∧ ((G.getD i (.i 0)).cell 1).bool = ((G2.getD i (.i 0)).cell 1).bool)
    (hTb : ∀ i, i < Tb.length → ((Tb.getD i (.i 0)).cell 0).int = ((Tb2.getD i (.i 0)).cell 0).int ∧ ((Tb.getD i (.i 0)).cell 1).bool = ((Tb2.getD i (.i 0)).cell 1).bool ∧ ((Tb.getD i (.i 0)).cell 2).int = ((Tb2.getD i (.i 0)).cell 2).int)
    (hMe : ∀ i, i < Me.length → ((Me.getD i (.i 0)).cell 0).int = ((Me2.getD i (.i 0)).cell 0).int ∧ ((Me.getD i (.i 0)).cell 1).bool = ((Me2.getD i (.i 0)).cell 1).bool ∧ ((Me.getD i (.i 0)).cell 2).int = ((Me2.getD i (.i 0)).cell 2).int) :
    F12 [i0, i1, i2, i3, i0, i1, i2, i3] [b0, b0] [T, Fs, G, Tb, Me, T2, Fs, G2, Tb2, Me2] = some ([], [true], []) := by
  refine of_ret ?_
  unfold t12
  refine d_lb false (by show (((T.length : Int) != (T2.length : Int)) || ((G.length : Int) != (G2.length : Int))) = false; rw [ne_f (by omega), ne_f (by omega)]; rfl) ?_
  refine d_lb false (by show ((false || ((Tb.length : Int) != (Tb2.length : Int))) || ((Me.length : Int) != (Me2.length : Int))) = false; rw [ne_f (by omega), ne_f (by omega)]; rfl) ?_
  refine d_lb false (by show ((false || (i0 != i0)) || (i1 != i1)) = false; simp) ?_
  refine d_lb false (by show ((false || (i2 != i2)) || (i3 != i3)) = false; simp) ?_
  refine d_itT (by show (!(false || !(b0 == b0))) = true; simp) ?_
  refine d_callx [] [] [Fs, Fs] ([], [true], []) e12_36 rfl rfl rfl (q_sameints _ (by omega)) rfl (d_itF rfl ?_)
  show Vx.T.den _ _ [i0, i1, i2, i3, i0, i1, i2, i3] [b0, b0, false, false, false, false, true] [T, Fs, G, Tb, Me, T2, Fs, G2, Tb2, Me2] = _
  refine d_loop (fun i => ([(i : Int)], [false], [])) T.length (by omega) 2 ([(T.length : Int)], [false], []) rfl (fun i hi => ?_) (fun _ _ => rfl) ?_ rfl ?_
  · show Vx.T.den _ l12_7 [i0, i1, i2, i3, i0, i1, i2, i3, (i : Int)] [b0, b0, false, false, false, false, true, false] [T, Fs, G, Tb, Me, T2, Fs, G2, Tb2, Me2] = some (.nxt ([((i + 1 : Nat) : Int)], [false], []))
    unfold l12_7
    obtain ⟨h0, h1, h2, h3⟩ := hT i hi
    obtain ⟨P, hP⟩ : ∃ P, P = ((T.getD i (.i 0)).cell 0).list := ⟨_, rfl⟩
    obtain ⟨R, hR⟩ : ∃ R, R = ((T.getD i (.i 0)).cell 1).list := ⟨_, rfl⟩
    rw [← hP] at h0 h2
    rw [← hR] at h1 h3
    have hs := q_same P R (by omega) (by omega)
    refine d_itT (lt_t (show (i : Int) < (T.length : Int) by omega)) (d_rq (ge_t (show (0 : Int) ≤ (i : Int) by omega)) (d_rq (lt_t (show (i : Int) < (T2.length : Int) by omega)) ?_))
    rw [← up1 i (by omega)]
    refine d_both ?_ ?_
    · refine d_lst [P, R] (by rw [hP, hR]; rfl) (d_lst [P, R] (by rw [h0, h1]; rfl) ?_)
      exact d_callx [] [] [P, R, P, R] ([], [true], []) e12_19 rfl rfl rfl hs rfl (d_itF rfl rfl)
    · refine d_lst [P, R] (by rw [h0, h1]; rfl) (d_lst [P, R] (by rw [hP, hR]; rfl) ?_)
      exact d_callx [] [] [P, R, P, R] ([], [true], []) e12_19 rfl rfl rfl hs rfl (d_itF rfl rfl)
  · unfold l12_7
    exact d_itF (lt_f (show (T.length : Int) ≤ (T.length : Int) by omega)) rfl
  unfold k12_8
  refine d_rq rfl ?_
  show Vx.T.den _ _ [i0, i1, i2, i3, i0, i1, i2, i3, 2, (T.length : Int)] [b0, b0, false, false, false, false, true, false] [T, Fs, G, Tb, Me, T2, Fs, G2, Tb2, Me2] = _
  refine d_loop (fun i => ([(i : Int)], [false], [])) G.length (by omega) 4 ([(G.length : Int)], [false], []) rfl (fun i hi => ?_) (fun _ _ => rfl) ?_ rfl ?_
  · show Vx.T.den _ l12_5 [i0, i1, i2, i3, i0, i1, i2, i3, 2, (T.length : Int), (i : Int)] [b0, b0, false, false, false, false, true, false, false] [T, Fs, G, Tb, Me, T2, Fs, G2, Tb2, Me2] = some (.nxt ([((i + 1 : Nat) : Int)], [false], []))
    unfold l12_5
    obtain ⟨h0, h1⟩ := hG i hi
    refine d_itT (lt_t (show (i : Int) < (G.length : Int) by omega)) (d_rq (ge_t (show (0 : Int) ≤ (i : Int) by omega)) (d_rq (lt_t (show (i : Int) < (G2.length : Int) by omega)) ?_))
    rw [← up1 i (by omega)]
    refine d_lb false ?_ (d_itF rfl rfl)
    show (!(((G.getD i (.i 0)).cell 0).int == ((G2.getD i (.i 0)).cell 0).int && (((G.getD i (.i 0)).cell 1).bool == ((G2.getD i (.i 0)).cell 1).bool))) = false
    rw [h0, h1]; simp
  · unfold l12_5
    exact d_itF (lt_f (show (G.length : Int) ≤ (G.length : Int) by omega)) rfl
  unfold k12_6
  refine d_rq rfl ?_
  show Vx.T.den _ _ [i0, i1, i2, i3, i0, i1, i2, i3, 2, (T.length : Int), 4, (G.length : Int)] [b0, b0, false, false, false, false, true, false, false] [T, Fs, G, Tb, Me, T2, Fs, G2, Tb2, Me2] = _
  refine d_loop (fun i => ([(i : Int)], [false], [])) Tb.length (by omega) 6 ([(Tb.length : Int)], [false], []) rfl (fun i hi => ?_) (fun _ _ => rfl) ?_ rfl ?_
  · show Vx.T.den _ l12_3 [i0, i1, i2, i3, i0, i1, i2, i3, 2, (T.length : Int), 4, (G.length : Int), (i : Int)] [b0, b0, false, false, false, false, true, false, false, false] [T, Fs, G, Tb, Me, T2, Fs, G2, Tb2, Me2] = some (.nxt ([((i + 1 : Nat) : Int)], [false], []))
    unfold l12_3
    obtain ⟨h0, h1, h2⟩ := hTb i hi
    refine d_itT (lt_t (show (i : Int) < (Tb.length : Int) by omega)) (d_rq (ge_t (show (0 : Int) ≤ (i : Int) by omega)) (d_rq (lt_t (show (i : Int) < (Tb2.length : Int) by omega)) ?_))
    rw [← up1 i (by omega)]
    refine d_lb false ?_ (d_itF rfl rfl)
    show (!(((Tb.getD i (.i 0)).cell 0).int == ((Tb2.getD i (.i 0)).cell 0).int && ((((Tb.getD i (.i 0)).cell 1).bool == ((Tb2.getD i (.i 0)).cell 1).bool) && (((Tb.getD i (.i 0)).cell 2).int == ((Tb2.getD i (.i 0)).cell 2).int)))) = false
    rw [h0, h1, h2]; simp
  · unfold l12_3
    exact d_itF (lt_f (show (Tb.length : Int) ≤ (Tb.length : Int) by omega)) rfl
  unfold k12_4
  refine d_rq rfl ?_
  show Vx.T.den _ _ [i0, i1, i2, i3, i0, i1, i2, i3, 2, (T.length : Int), 4, (G.length : Int), 6, (Tb.length : Int)] [b0, b0, false, false, false, false, true, false, false, false] [T, Fs, G, Tb, Me, T2, Fs, G2, Tb2, Me2] = _
  refine d_loop (fun i => ([(i : Int)], [false], [])) Me.length (by omega) 8 ([(Me.length : Int)], [false], []) rfl (fun i hi => ?_) (fun _ _ => rfl) ?_ rfl ?_
  · show Vx.T.den _ l12_1 [i0, i1, i2, i3, i0, i1, i2, i3, 2, (T.length : Int), 4, (G.length : Int), 6, (Tb.length : Int), (i : Int)] [b0, b0, false, false, false, false, true, false, false, false, false] [T, Fs, G, Tb, Me, T2, Fs, G2, Tb2, Me2] = some (.nxt ([((i + 1 : Nat) : Int)], [false], []))
    unfold l12_1
    obtain ⟨h0, h1, h2⟩ := hMe i hi
    refine d_itT (lt_t (show (i : Int) < (Me.length : Int) by omega)) (d_rq (ge_t (show (0 : Int) ≤ (i : Int) by omega)) (d_rq (lt_t (show (i : Int) < (Me2.length : Int) by omega)) ?_))
    rw [← up1 i (by omega)]
    refine d_lb false ?_ (d_itF rfl rfl)
    show (!(((Me.getD i (.i 0)).cell 0).int == ((Me2.getD i (.i 0)).cell 0).int && ((((Me.getD i (.i 0)).cell 1).bool == ((Me2.getD i (.i 0)).cell 1).bool) && (((Me.getD i (.i 0)).cell 2).int == ((Me2.getD i (.i 0)).cell 2).int)))) = false
    rw [h0, h1, h2]; simp
  · unfold l12_1
    exact d_itF (lt_f (show (Me.length : Int) ≤ (Me.length : Int) by omega)) rfl
  · unfold k12_2
    exact d_rq rfl rfl
end Go.Proofs.Ytkpbcfkmkgddhaa.ZCtxRight
