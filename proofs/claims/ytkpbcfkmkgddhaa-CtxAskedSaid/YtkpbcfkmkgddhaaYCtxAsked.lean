/-
  CtxAsked, of numbers and lists alone: the law answers true.
-/
import Derived.Test.YtkpbcfkmkgddhaaSCtxAsked
import Derived.Test.YtkpbcfkmkgddhaaVr
namespace Go.Proofs.Ytkpbcfkmkgddhaa.YCtxAsked
set_option linter.all false
open Go.Proofs.Ytkpbcfkmkgddhaa.Vx Go.Proofs.Ytkpbcfkmkgddhaa.XCtxAsked Go.Proofs.Ytkpbcfkmkgddhaa.Vd Go.Proofs.Ytkpbcfkmkgddhaa.Vn Go.Proofs.Ytkpbcfkmkgddhaa.Vl Go.Proofs.Ytkpbcfkmkgddhaa.Vp Go.Proofs.Ytkpbcfkmkgddhaa.Vb Go.Proofs.Ytkpbcfkmkgddhaa.SCtxAsked Go.Proofs.Ytkpbcfkmkgddhaa.Vr
theorem d_bothS {C : Nat → Vx.Fn} {a : Vx.T} {is bs ls} {o : Out} (h : a.den C is bs ls = some o) : (Vx.T.both a a).den C is bs ls = some o := d_both h h
theorem q_awake : F8 [] [] [] = some ([], [true], []) := by kernel_rfl
theorem last {C : List Int} {i0 i1 i2 i3 f t v : Int} {b0 ok bc okT q : Bool} {T Fs G Tb Me L P R TP TR : List D} (hok : okT = true) (hf : hasB f (Fs.length : Int) = true) (hg : hasB (fnT Fs f) (T.length : Int) = true)
    (e0 : TP = ((T.getD (fnT Fs f).toNat (.i 0)).cell 0).list) (e1 : TR = ((T.getD (fnT Fs f).toNat (.i 0)).cell 1).list) (h0 : TP.length ≤ 20) (h1 : TR.length ≤ 20) :
    b7_1.den (Tab.fn a7) [i0, i1, i2, i3, f, t, v] [b0, true, true, true, ok, ok, true, bc, bc, okT, q] [T, Fs, G, Tb, Me, L, P, R, P, R, TP, TR] = some (.ret ([], [true], [])) := by
  subst hok
  unfold b7_1
  refine d_itT rfl (d_rq hf (d_rq hg (d_rq hg (d_lst [TP, TR] (by rw [e0, e1]; rfl) ?_))))
  exact d_callx [] [] [TP, TR, TP, TR] ([], [true], []) e7_19 rfl rfl rfl (q_same _ _ (by omega) (by omega)) rfl rfl
theorem law {c0 c1 c2 c3 c4 c5 : List CT} (i0 i1 i2 i3 f t v : Int) (b0 : Bool) (T Fs G Tb Me L : List D) (hT : CT.wf (.sl c0) (.l T)) (hFs : CT.wf (.sl c1) (.l Fs)) (hG : CT.wf (.sl c2) (.l G)) (hTb : CT.wf (.sl c3) (.l Tb)) (hMe : CT.wf (.sl c4) (.l Me))
    (w0 : (Lit.int .i64 i0).wf = true) (w1 : (Lit.int .i64 i1).wf = true) (w2 : (Lit.int .i64 i2).wf = true) (w3 : (Lit.int .i64 i3).wf = true) (w4 : (Lit.int .i64 f).wf = true) (w5 : (Lit.int .i64 t).wf = true) (hL : CT.wf (.sl c5) (.l L)) (w6 : (Lit.int .i64 v).wf = true) :
    F7 [i0, i1, i2, i3, f, t, v] [b0] [T, Fs, G, Tb, Me, L] = some ([], [true], []) := by
  clear hT hFs hG hTb hMe hL w0 w1 w2 w3 w4 w5 w6
  refine of_ret ?_
  unfold t7
  refine d_callx [] [] [] ([], [true], []) e7_8 rfl rfl rfl q_awake rfl (d_itF rfl ?_)
  obtain ⟨b, hs, hb⟩ := q_short9 (i0 := i0) (i1 := i1) (i2 := i2) (i3 := i3) (b0 := b0) (T := T) (Fs := Fs) (G := G) (Tb := Tb) (Me := Me)
  refine d_callx [i0, i1, i2, i3] [b0] [T, Fs, G, Tb, Me] ([], [b], []) e7_15 rfl rfl rfl hs rfl ?_
  cases b with
  | false => exact d_itF rfl rfl
  | true =>
  obtain ⟨z0, z1, z2, hty⟩ := hb rfl
  refine d_itT rfl ?_
  obtain ⟨b6, hs6⟩ := q_short6 (L := L)
  refine d_callx [] [] [L] ([], [b6], []) e7_16 rfl rfl rfl hs6 rfl ?_
  cases b6 with
  | false => exact d_itT rfl rfl
  | true =>
  refine d_itF rfl ?_
  obtain ⟨ok, P, R, hP, hR, f1, f2⟩ := q_blocks (i0 := i0) (i1 := i1) (i2 := i2) (i3 := i3) (t := t) (b0 := b0) (T := T) (Fs := Fs) (G := G) (Tb := Tb) (Me := Me) z0 hty
  refine d_callx [i0, i1, i2, i3, t] [b0] [T, Fs, G, Tb, Me] ([], [ok], [P, R]) e7_17 rfl rfl rfl f1 rfl ?_
  refine d_callx [i0, i1, i2, i3, t] [b0] [T, Fs, G, Tb, Me] ([], [ok], [P, R]) e7_18 rfl rfl rfl f2 rfl ?_
  show Vx.T.den _ _ [i0, i1, i2, i3, f, t, v] [b0, true, true, true, ok, ok] [T, Fs, G, Tb, Me, L, P, R, P, R] = _
  refine d_bothS ?_
  unfold b7_5
  refine d_itT (by show (ok == ok) = true; simp) ?_
  refine d_callx [] [] [P, R, P, R] ([], [true], []) e7_19 rfl rfl rfl (q_same _ _ (by omega) (by omega)) rfl ?_
  show Vx.T.den _ _ [i0, i1, i2, i3, f, t, v] [b0, true, true, true, ok, ok, true] [T, Fs, G, Tb, Me, L, P, R, P, R] = _
  have key : b7_4.den (Tab.fn a7) [i0, i1, i2, i3, f, t, v] [b0, true, true, true, ok, ok, true] [T, Fs, G, Tb, Me, L, P, R, P, R] = some (.ret ([], [true], [])) := by
    unfold b7_4
    refine d_itT rfl ?_
    obtain ⟨bc, c1, c2⟩ := q_const (i0 := i0) (V := i1) (i2 := i2) (i3 := i3) (t := v) (b0 := b0) (T := T) (Fs := Fs) (G := G) (Tb := Tb) (Me := Me) (L := L)
    refine d_callx [i0, i1, i2, i3, v] [b0] [T, Fs, G, Tb, Me, L] ([], [bc], []) e7_20 rfl rfl rfl c1 rfl ?_
    refine d_callx [i0, i1, i2, i3, v] [b0] [T, Fs, G, Tb, Me, L] ([], [bc], []) e7_21 rfl rfl rfl c2 rfl ?_
    refine d_itF (by show (!(bc == bc)) = false; simp) ?_
    have ht := q_type (i0 := i0) (i1 := i1) (i2 := i2) (i3 := i3) (f := f) (b0 := b0) (Fs := Fs) (G := G) (Tb := Tb) (Me := Me) hty
    have hno : F19 [] [] [[], [], [], []] = some ([], [true], []) := q_same _ _ (by simp) (by simp)
    by_cases h1 : hasB f (Fs.length : Int) = true
    case neg =>
      rw [if_neg (by rw [Bool.eq_false_iff.2 h1]; simp)] at ht
      refine d_callx [i0, i1, i2, i3, f] [b0] [T, Fs, G, Tb, Me] ([], [false], [[], []]) e7_14 rfl rfl rfl ht rfl ?_
      show Vx.T.den _ _ [i0, i1, i2, i3, f, t, v] [b0, true, true, true, ok, ok, true, bc, bc, false] [T, Fs, G, Tb, Me, L, P, R, P, R, [], []] = _
      have hq : (decide (f < 0) || decide (f ≥ ((Fs.length : Nat) : Int))) = true := by unfold hasB at h1; simp at h1 ⊢; omega
      refine d_lb true hq (d_rq rfl (d_itF rfl (d_itT rfl ?_)))
      exact d_callx [] [] [[], [], [], []] ([], [true], []) e7_19 rfl rfl rfl hno rfl rfl
    have hr1 : 0 ≤ f ∧ f < Fs.length := by unfold hasB at h1; simpa using h1
    have hq : (decide (f < 0) || decide (f ≥ ((Fs.length : Nat) : Int))) = false := by simp; omega
    have hin : (decide (f ≥ 0) && decide (f < ((Fs.length : Nat) : Int))) = true := h1
    by_cases h2 : hasB (fnT Fs f) (T.length : Int) = true
    case neg =>
      rw [if_neg (by rw [Bool.eq_false_iff.2 h2]; simp)] at ht
      refine d_callx [i0, i1, i2, i3, f] [b0] [T, Fs, G, Tb, Me] ([], [false], [[], []]) e7_14 rfl rfl rfl ht rfl ?_
      show Vx.T.den _ _ [i0, i1, i2, i3, f, t, v] [b0, true, true, true, ok, ok, true, bc, bc, false] [T, Fs, G, Tb, Me, L, P, R, P, R, [], []] = _
      refine d_lb false hq (d_rq (by show (false || (decide (f ≥ 0) && decide (f < ((Fs.length : Nat) : Int)))) = true; rw [hin]; rfl) (d_itT rfl (d_rq hin (d_rq (by show (decide (fnT Fs f < 0) || (decide (f ≥ 0) && decide (f < ((Fs.length : Nat) : Int)))) = true; rw [hin, Bool.or_true]) ?_))))
      by_cases hn : fnT Fs f < 0
      · refine d_itF (by show (!decide (fnT Fs f < 0)) = false; rw [decide_eq_true hn]; rfl) (d_itT rfl ?_)
        exact d_callx [] [] [[], [], [], []] ([], [true], []) e7_19 rfl rfl rfl hno rfl rfl
      · have hge : decide (fnT Fs f ≥ ((T.length : Nat) : Int)) = true := by unfold hasB at h2; simp at h2 ⊢; omega
        refine d_itT (by show (!decide (fnT Fs f < 0)) = true; rw [decide_eq_false hn]; rfl) (d_rq hin (d_itT hge (d_itT rfl ?_)))
        exact d_callx [] [] [[], [], [], []] ([], [true], []) e7_19 rfl rfl rfl hno rfl rfl
    have hr2 : 0 ≤ fnT Fs f ∧ fnT Fs f < T.length := by unfold hasB at h2; simpa using h2
    rw [if_pos (by rw [h1, h2]; rfl)] at ht
    obtain ⟨h20, h21⟩ := hty (fnT Fs f).toNat (by omega)
    obtain ⟨TP, hTP⟩ : ∃ z, z = ((T.getD (fnT Fs f).toNat (.i 0)).cell 0).list := ⟨_, rfl⟩
    obtain ⟨TR, hTR⟩ : ∃ z, z = ((T.getD (fnT Fs f).toNat (.i 0)).cell 1).list := ⟨_, rfl⟩
    rw [← hTP, ← hTR] at ht
    rw [← hTP] at h20
    rw [← hTR] at h21
    refine d_callx [i0, i1, i2, i3, f] [b0] [T, Fs, G, Tb, Me] ([], [true], [TP, TR]) e7_14 rfl rfl rfl ht rfl ?_
    show Vx.T.den _ _ [i0, i1, i2, i3, f, t, v] [b0, true, true, true, ok, ok, true, bc, bc, true] [T, Fs, G, Tb, Me, L, P, R, P, R, TP, TR] = _
    refine d_lb false hq (d_rq (by show (false || (decide (f ≥ 0) && decide (f < ((Fs.length : Nat) : Int)))) = true; rw [hin]; rfl) (d_itT rfl (d_rq hin (d_rq (by show (decide (fnT Fs f < 0) || (decide (f ≥ 0) && decide (f < ((Fs.length : Nat) : Int)))) = true; rw [hin, Bool.or_true]) ?_))))
    refine d_itT (by show (!decide (fnT Fs f < 0)) = true; rw [decide_eq_false (by omega)]; rfl) (d_rq hin (d_itF (by show decide (fnT Fs f ≥ ((T.length : Nat) : Int)) = false; simp; omega) ?_))
    have b1 := last (C := []) (i0 := i0) (i1 := i1) (i2 := i2) (i3 := i3) (t := t) (v := v) (b0 := b0) (ok := ok) (bc := bc) (okT := true) (q := false) (G := G) (Tb := Tb) (Me := Me) (L := L) (P := P) (R := R) rfl h1 h2 hTP hTR h20 h21
    have b2 : b7_2.den (Tab.fn a7) [i0, i1, i2, i3, f, t, v] [b0, true, true, true, ok, ok, true, bc, bc, true, false] [T, Fs, G, Tb, Me, L, P, R, P, R, TP, TR] = some (.ret ([], [true], [])) := by
      unfold b7_2; exact d_bothS b1
    have hq9 : (!true || (decide (f ≥ 0) && decide (f < ((Fs.length : Nat) : Int)))) = true := by rw [hin]; rfl
    have b3 : b7_3.den (Tab.fn a7) [i0, i1, i2, i3, f, t, v] [b0, true, true, true, ok, ok, true, bc, bc, true, false] [T, Fs, G, Tb, Me, L, P, R, P, R, TP, TR] = some (.ret ([], [true], [])) := by
      unfold b7_3; exact d_both (d_rq hq9 b1) (d_rq hq9 b2)
    exact d_both b3 (d_both b3 (d_rq hq9 (d_both b2 (d_both b2 b1))))
  exact d_both (d_both key key) key
end Go.Proofs.Ytkpbcfkmkgddhaa.YCtxAsked
