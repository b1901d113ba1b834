/-
  What each operation gives is as is told: the plain law of TransSound.
-/
import Derived.Test.YtlnikilodakjmaaDoorXTransSound
import Derived.Test.YtlnikilodakjmaaDoorSn
import Derived.Test.YtlnikilodakjmaaDoorNTransSound
import Derived.Test.YtlnikilodakjmaaDoorITransSound
import Derived.Test.YtlnikilodakjmaaDoorZTransSound
import Derived.Test.YtlnikilodakjmaaDoorRTransSound
import Derived.Test.YtlnikilodakjmaaDoorBTransSound
import Derived.Test.YtlnikilodakjmaaDoorCTransSound
import Derived.Test.YtlnikilodakjmaaDoorDTransSound
import Derived.Test.YtlnikilodakjmaaDoorUTransSound
import Derived.Lib.BitFns
import Derived.Lib.TrailingZeros
namespace Go.Proofs.YtlnikilodakjmaaDoor.YTransSound
open Go.Proofs.YtlnikilodakjmaaDoor.NTransSound Go.Proofs.YtlnikilodakjmaaDoor.ITransSound Go.Proofs.YtlnikilodakjmaaDoor.ZTransSound Go.Proofs.YtlnikilodakjmaaDoor.RTransSound Go.Proofs.YtlnikilodakjmaaDoor.BTransSound Go.Proofs.YtlnikilodakjmaaDoor.CTransSound Go.Proofs.YtlnikilodakjmaaDoor.DTransSound Go.Proofs.YtlnikilodakjmaaDoor.UTransSound Go.Proofs.YtlnikilodakjmaaDoor.Sx Go.Proofs.YtlnikilodakjmaaDoor.Sn Go.Proofs.YtlnikilodakjmaaDoor.XTransSound Go.Proofs.YtlnikilodakjmaaDoor.ETransSound
set_option linter.unusedSimpArgs false
set_option linter.unusedVariables false
theorem q14_ (t n : Int) : F14 [t, n] [] = some ([], [(t != 127) || (decide (n < 4294967296))]) := rfl
theorem fit_of {t : Int} {n : Nat} (h : ((t != 127) || (decide ((n : Int) < 4294967296))) = true) : Fit t n := fun e => by subst e; simp at h; omega
theorem rt_rA {lo hi N r : Nat} (h : Rt lo hi N r) : rA lo hi N r = true := by
  unfold rA; rw [rL_nat N r h.2.2.1 h.r64, decide_eq_true h.2.2.2, decide_eq_true (by have := h.1; omega)]; rfl
theorem fh_rA {T : Nat} {S : Nat → Prop} {i j k l : Int} (h : FH T S i j k l) : rA i j k l = true := by
  obtain ⟨a, b, c, d, rfl, rfl, rfl, rfl, h, _⟩ := h; exact rt_rA h
theorem fh_hA {T : Nat} {S : Nat → Prop} {i j k l x : Int} (h : FH T S i j k l) {v : Nat} (hx : x = v) (hv : S v) : hA i j k l x = true := by
  obtain ⟨a, b, c, d, rfl, rfl, rfl, rfl, h, _, _, h4⟩ := h
  have h5 := h4 v hv
  have h6 := (hAN_true h5).2.1
  rw [hx, hA_hAN h.2.2.1 h.r64 (by have := h.2.1; omega)]; exact h5
theorem l12 {b3 b10 b11 b12 e1 e2 : Bool} (h3 : b3 = true) (h10 : b10 = (b3 && e1)) (h11 : b11 = ((!((!b3) || (!b10))) && e2)) (h12 : b12 = (((!b3) || (!b10)) || (!b11))) (c : b12 = false) : e1 = true ∧ e2 = true := by
  rw [h12, h11, h10, h3] at c; revert c; cases e1 <;> cases e2 <;> simp

set_option maxHeartbeats 4000000 in
theorem q23_o (op : Int) (lo hi N r : Nat) (hT : F13 [op] [] = some ([0, 0, 0, 0], [false])) : F23 [op, (lo : Int), (hi : Int), (N : Int), (r : Int)] [] = some ([0, 0, 0, 0], [false]) := by
  refine Eq.trans (Fd_of (n := 5) (m := 0) (t := XTransSound.t23) (C := Tab.fn a23) rfl rfl) ?_
  rw [XTransSound.t23]
  refine st_4_1 (e23_13) (g := true) rfl (l := [op]) rfl (m := []) rfl (cl_t hT) fun i5 i6 i7 i8 b0 hi5 hi6 hi7 hi8 hb0 => ?_
  show T.den _ _ [op, (lo : Int), (hi : Int), (N : Int), (r : Int), i5, i6, i7, i8] [b0] = _
  refine st_ite (fun hc => ?_) (fun hc => ?_)
  · replace hc : (i5 == 0) = true := hc
    have c1 := hc
    clear hc
    refine st_ret ?_
    show some ([0, 0, 0, 0], [false]) = _
    rfl
  · replace hc : (i5 == 0) = false := hc
    have c2 := hc
    clear hc
    rw [hi5] at c2; exact absurd c2 (by decide)

set_option maxHeartbeats 4000000 in
theorem q23_b (op : Int) (i o : Int) (lo hi N r : Nat) (hT : F13 [op] [] = some ([2, i, i, o], [true])) : F23 [op, (lo : Int), (hi : Int), (N : Int), (r : Int)] [] = some ([0, 0, 0, 0], [false]) := by
  refine Eq.trans (Fd_of (n := 5) (m := 0) (t := XTransSound.t23) (C := Tab.fn a23) rfl rfl) ?_
  rw [XTransSound.t23]
  refine st_4_1 (e23_13) (g := true) rfl (l := [op]) rfl (m := []) rfl (cl_t hT) fun i5 i6 i7 i8 b0 hi5 hi6 hi7 hi8 hb0 => ?_
  show T.den _ _ [op, (lo : Int), (hi : Int), (N : Int), (r : Int), i5, i6, i7, i8] [b0] = _
  refine st_ite (fun hc => ?_) (fun hc => ?_)
  · replace hc : (i5 == 0) = true := hc
    have c1 := hc
    clear hc
    rw [hi5] at c1; exact absurd c1 (by decide)
  · replace hc : (i5 == 0) = false := hc
    have c2 := hc
    clear hc
    refine st_ite (fun hc => ?_) (fun hc => ?_)
    · replace hc : (i5 == 1) = true := hc
      have c3 := hc
      clear hc
      rw [hi5] at c3; exact absurd c3 (by decide)
    · replace hc : (i5 == 1) = false := hc
      have c4 := hc
      clear hc
      refine st_ite (fun hc => ?_) (fun hc => ?_)
      · replace hc : (i5 == 2) = true := hc
        have c5 := hc
        clear hc
        refine st_ret ?_
        show some ([0, 0, 0, 0], [false]) = _
        rfl
      · replace hc : (i5 == 2) = false := hc
        have c6 := hc
        clear hc
        rw [hi5] at c6; exact absurd c6 (by decide)

set_option maxHeartbeats 4000000 in
theorem q25_o (op : Int) (lo hi N r lo2 hi2 M q : Nat) (hT : F13 [op] [] = some ([0, 0, 0, 0], [false])) : F25 [op, (lo : Int), (hi : Int), (N : Int), (r : Int), (lo2 : Int), (hi2 : Int), (M : Int), (q : Int)] [] = some ([0, 0, 0, 0], [false]) := by
  refine Eq.trans (Fd_of (n := 9) (m := 0) (t := XTransSound.t25) (C := Tab.fn a25) rfl rfl) ?_
  rw [XTransSound.t25]
  refine st_4_1 (e25_13) (g := true) rfl (l := [op]) rfl (m := []) rfl (cl_t hT) fun i9 i10 i11 i12 b0 hi9 hi10 hi11 hi12 hb0 => ?_
  show T.den _ _ [op, (lo : Int), (hi : Int), (N : Int), (r : Int), (lo2 : Int), (hi2 : Int), (M : Int), (q : Int), i9, i10, i11, i12] [b0] = _
  refine st_ite (fun hc => ?_) (fun hc => ?_)
  · replace hc : (i9 == 0) = true := hc
    have c1 := hc
    clear hc
    refine st_ret ?_
    show some ([0, 0, 0, 0], [false]) = _
    rfl
  · replace hc : (i9 == 0) = false := hc
    have c2 := hc
    clear hc
    rw [hi9] at c2; exact absurd c2 (by decide)

set_option maxHeartbeats 4000000 in
theorem q25_u (op : Int) (i o : Int) (lo hi N r lo2 hi2 M q : Nat) (hT : F13 [op] [] = some ([1, i, 0, o], [true])) : F25 [op, (lo : Int), (hi : Int), (N : Int), (r : Int), (lo2 : Int), (hi2 : Int), (M : Int), (q : Int)] [] = some ([0, 0, 0, 0], [false]) := by
  refine Eq.trans (Fd_of (n := 9) (m := 0) (t := XTransSound.t25) (C := Tab.fn a25) rfl rfl) ?_
  rw [XTransSound.t25]
  refine st_4_1 (e25_13) (g := true) rfl (l := [op]) rfl (m := []) rfl (cl_t hT) fun i9 i10 i11 i12 b0 hi9 hi10 hi11 hi12 hb0 => ?_
  show T.den _ _ [op, (lo : Int), (hi : Int), (N : Int), (r : Int), (lo2 : Int), (hi2 : Int), (M : Int), (q : Int), i9, i10, i11, i12] [b0] = _
  refine st_ite (fun hc => ?_) (fun hc => ?_)
  · replace hc : (i9 == 0) = true := hc
    have c1 := hc
    clear hc
    rw [hi9] at c1; exact absurd c1 (by decide)
  · replace hc : (i9 == 0) = false := hc
    have c2 := hc
    clear hc
    refine st_ite (fun hc => ?_) (fun hc => ?_)
    · replace hc : (i9 == 1) = true := hc
      have c3 := hc
      clear hc
      refine st_ret ?_
      show some ([0, 0, 0, 0], [false]) = _
      rfl
    · replace hc : (i9 == 1) = false := hc
      have c4 := hc
      clear hc
      rw [hi9] at c4; exact absurd c4 (by decide)

theorem e8_10 : Tab.fn a8 10 = F10 := Tab.fn_hd
theorem e8_11 : Tab.fn a8 11 = F11 := ((Tab.fn_tl rfl).trans Tab.fn_hd)
theorem e8_13 : Tab.fn a8 13 = F13 := ((Tab.fn_tl rfl).trans ((Tab.fn_tl rfl).trans Tab.fn_hd))
theorem e8_23 : Tab.fn a8 23 = F23 := ((Tab.fn_tl rfl).trans ((Tab.fn_tl rfl).trans ((Tab.fn_tl rfl).trans Tab.fn_hd)))
theorem e8_25 : Tab.fn a8 25 = F25 := ((Tab.fn_tl rfl).trans ((Tab.fn_tl rfl).trans ((Tab.fn_tl rfl).trans ((Tab.fn_tl rfl).trans Tab.fn_hd))))
theorem e8_14 : Tab.fn a8 14 = F14 := ((Tab.fn_tl rfl).trans ((Tab.fn_tl rfl).trans ((Tab.fn_tl rfl).trans ((Tab.fn_tl rfl).trans ((Tab.fn_tl rfl).trans Tab.fn_hd)))))
theorem e8_15 : Tab.fn a8 15 = F15 := ((Tab.fn_tl rfl).trans ((Tab.fn_tl rfl).trans ((Tab.fn_tl rfl).trans ((Tab.fn_tl rfl).trans ((Tab.fn_tl rfl).trans ((Tab.fn_tl rfl).trans Tab.fn_hd))))))
theorem e8_24 : Tab.fn a8 24 = F24 := ((Tab.fn_tl rfl).trans ((Tab.fn_tl rfl).trans ((Tab.fn_tl rfl).trans ((Tab.fn_tl rfl).trans ((Tab.fn_tl rfl).trans ((Tab.fn_tl rfl).trans ((Tab.fn_tl rfl).trans Tab.fn_hd)))))))
theorem e8_16 : Tab.fn a8 16 = F16 := ((Tab.fn_tl rfl).trans ((Tab.fn_tl rfl).trans ((Tab.fn_tl rfl).trans ((Tab.fn_tl rfl).trans ((Tab.fn_tl rfl).trans ((Tab.fn_tl rfl).trans ((Tab.fn_tl rfl).trans ((Tab.fn_tl rfl).trans Tab.fn_hd))))))))


set_option maxHeartbeats 4000000 in
theorem law_o (op : Int) (lo hi N r lo2 hi2 M q n m : Nat) (h : Rt lo hi N r) (h2 : Rt lo2 hi2 M q) (hn : n < 2 ^ 64) (hm : m < 2 ^ 64) (hT : F13 [op] [] = some ([0, 0, 0, 0], [false])) : F8 [op, (lo : Int), (hi : Int), (N : Int), (r : Int), (lo2 : Int), (hi2 : Int), (M : Int), (q : Int), (n : Int), (m : Int)] [] = some ([], [true]) := by
  refine Eq.trans (Fd_of (n := 11) (m := 0) (t := XTransSound.t8) (C := Tab.fn a8) rfl rfl) ?_
  rw [XTransSound.t8]
  refine st_0_1 (e8_10) (g := true) rfl (l := []) rfl (m := []) rfl (cl_t q10) fun b0 hb0 => ?_
  show T.den _ _ [op, (lo : Int), (hi : Int), (N : Int), (r : Int), (lo2 : Int), (hi2 : Int), (M : Int), (q : Int), (n : Int), (m : Int)] [b0] = _
  refine st_ite (fun hc => ?_) (fun hc => ?_)
  · replace hc : (!b0) = true := hc
    have c1 := hc
    clear hc
    rw [hb0] at c1; cases c1
  · replace hc : (!b0) = false := hc
    have c2 := hc
    clear hc
    refine st_0_1 (e8_11) (g := true) rfl (l := [(lo : Int), (hi : Int), (N : Int), (r : Int)]) rfl (m := []) rfl (cl_t (q11 (lo : Int) (hi : Int) (N : Int) (r : Int))) fun b1 hb1 => ?_
    show T.den _ _ [op, (lo : Int), (hi : Int), (N : Int), (r : Int), (lo2 : Int), (hi2 : Int), (M : Int), (q : Int), (n : Int), (m : Int)] [b0, b1] = _
    refine st_0_1 (e8_11) (g := b1) rfl (l := [(lo2 : Int), (hi2 : Int), (M : Int), (q : Int)]) rfl (m := []) rfl (cl_b (q11 (lo2 : Int) (hi2 : Int) (M : Int) (q : Int))) fun b2 hb2 => ?_
    show T.den _ _ [op, (lo : Int), (hi : Int), (N : Int), (r : Int), (lo2 : Int), (hi2 : Int), (M : Int), (q : Int), (n : Int), (m : Int)] [b0, b1, b2] = _
    refine st_ite (fun hc => ?_) (fun hc => ?_)
    · replace hc : ((!b1) || (!b2)) = true := hc
      have c3 := hc
      clear hc
      rw [hb2, hb1, rt_rA h, rt_rA h2] at c3; cases c3
    · replace hc : ((!b1) || (!b2)) = false := hc
      have c4 := hc
      clear hc
      refine st_4_1 (e8_13) (g := true) rfl (l := [op]) rfl (m := []) rfl (cl_t hT) fun i11 i12 i13 i14 b3 hi11 hi12 hi13 hi14 hb3 => ?_
      show T.den _ _ [op, (lo : Int), (hi : Int), (N : Int), (r : Int), (lo2 : Int), (hi2 : Int), (M : Int), (q : Int), (n : Int), (m : Int), i11, i12, i13, i14] [b0, b1, b2, b3] = _
      refine st_ite (fun hc => ?_) (fun hc => ?_)
      · replace hc : (i11 == 0) = true := hc
        have c5 := hc
        clear hc
        refine st_4_1 (e8_23) (g := true) rfl (l := [op, (lo : Int), (hi : Int), (N : Int), (r : Int)]) rfl (m := []) rfl (cl_t (q23_o op lo hi N r hT)) fun i15 i16 i17 i18 b4 hi15 hi16 hi17 hi18 hb4 => ?_
        show T.den _ _ [op, (lo : Int), (hi : Int), (N : Int), (r : Int), (lo2 : Int), (hi2 : Int), (M : Int), (q : Int), (n : Int), (m : Int), i11, i12, i13, i14, i15, i16, i17, i18] [b0, b1, b2, b3, b4] = _
        refine st_4_1 (e8_25) (g := true) rfl (l := [op, (lo : Int), (hi : Int), (N : Int), (r : Int), (lo2 : Int), (hi2 : Int), (M : Int), (q : Int)]) rfl (m := []) rfl (cl_t (q25_o op lo hi N r lo2 hi2 M q hT)) fun i19 i20 i21 i22 b5 hi19 hi20 hi21 hi22 hb5 => ?_
        show T.den _ _ [op, (lo : Int), (hi : Int), (N : Int), (r : Int), (lo2 : Int), (hi2 : Int), (M : Int), (q : Int), (n : Int), (m : Int), i11, i12, i13, i14, i15, i16, i17, i18, i19, i20, i21, i22] [b0, b1, b2, b3, b4, b5] = _
        refine st_lb fun b6 hb6 => ?_
        replace hb6 : b6 = ((!(b4 == (b3 && false))) || (!(b5 == (b3 && false)))) := hb6
        show T.den _ _ [op, (lo : Int), (hi : Int), (N : Int), (r : Int), (lo2 : Int), (hi2 : Int), (M : Int), (q : Int), (n : Int), (m : Int), i11, i12, i13, i14, i15, i16, i17, i18, i19, i20, i21, i22] [b0, b1, b2, b3, b4, b5, b6] = _
        refine st_lb fun b7 hb7 => ?_
        replace hb7 : b7 = (!(((i15 == 0) && (i16 == 0)) && ((i17 == 0) && (i18 == 0)))) := hb7
        show T.den _ _ [op, (lo : Int), (hi : Int), (N : Int), (r : Int), (lo2 : Int), (hi2 : Int), (M : Int), (q : Int), (n : Int), (m : Int), i11, i12, i13, i14, i15, i16, i17, i18, i19, i20, i21, i22] [b0, b1, b2, b3, b4, b5, b6, b7] = _
        refine st_lb fun b8 hb8 => ?_
        replace hb8 : b8 = (!(((i19 == 0) && (i20 == 0)) && ((i21 == 0) && (i22 == 0)))) := hb8
        show T.den _ _ [op, (lo : Int), (hi : Int), (N : Int), (r : Int), (lo2 : Int), (hi2 : Int), (M : Int), (q : Int), (n : Int), (m : Int), i11, i12, i13, i14, i15, i16, i17, i18, i19, i20, i21, i22] [b0, b1, b2, b3, b4, b5, b6, b7, b8] = _
        refine st_lb fun b9 hb9 => ?_
        replace hb9 : b9 = ((b6 || ((!b4) && b7)) || ((!b5) && b8)) := hb9
        show T.den _ _ [op, (lo : Int), (hi : Int), (N : Int), (r : Int), (lo2 : Int), (hi2 : Int), (M : Int), (q : Int), (n : Int), (m : Int), i11, i12, i13, i14, i15, i16, i17, i18, i19, i20, i21, i22] [b0, b1, b2, b3, b4, b5, b6, b7, b8, b9] = _
        refine st_ite (fun hc => ?_) (fun hc => ?_)
        · replace hc : b9 = true := hc
          have c6 := hc
          clear hc
          rw [hb9, hb6, hb7, hb8, hb4, hb5, hb3, hi15, hi16, hi17, hi18, hi19, hi20, hi21, hi22] at c6; simp at c6
        · replace hc : b9 = false := hc
          have c7 := hc
          clear hc
          refine st_rq (show (!b3) = true from ?_) ?_
          · rw [hb3]; rfl
          refine st_rq (show (!b3) = true from ?_) ?_
          · rw [hb3]; rfl
          refine st_0_1 (e8_14) (g := b3) rfl (l := [0, (n : Int)]) rfl (m := []) rfl (cl_b (q14_ 0 (n : Int))) fun b10 hb10 => ?_
          show T.den _ _ [op, (lo : Int), (hi : Int), (N : Int), (r : Int), (lo2 : Int), (hi2 : Int), (M : Int), (q : Int), (n : Int), (m : Int), i11, i12, i13, i14, i15, i16, i17, i18, i19, i20, i21, i22] [b0, b1, b2, b3, b4, b5, b6, b7, b8, b9, b10] = _
          refine st_0_1 (e8_15) (g := (!((!b3) || (!b10)))) rfl (l := [(lo : Int), (hi : Int), (N : Int), (r : Int), (n : Int)]) rfl (m := []) rfl (cl_b (q15 (lo : Int) (hi : Int) (N : Int) (r : Int) (n : Int))) fun b11 hb11 => ?_
          show T.den _ _ [op, (lo : Int), (hi : Int), (N : Int), (r : Int), (lo2 : Int), (hi2 : Int), (M : Int), (q : Int), (n : Int), (m : Int), i11, i12, i13, i14, i15, i16, i17, i18, i19, i20, i21, i22] [b0, b1, b2, b3, b4, b5, b6, b7, b8, b9, b10, b11] = _
          refine st_lb fun b12 hb12 => ?_
          replace hb12 : b12 = (((!b3) || (!b10)) || (!b11)) := hb12
          show T.den _ _ [op, (lo : Int), (hi : Int), (N : Int), (r : Int), (lo2 : Int), (hi2 : Int), (M : Int), (q : Int), (n : Int), (m : Int), i11, i12, i13, i14, i15, i16, i17, i18, i19, i20, i21, i22] [b0, b1, b2, b3, b4, b5, b6, b7, b8, b9, b10, b11, b12] = _
          refine st_ite (fun hc => ?_) (fun hc => ?_)
          · replace hc : b12 = true := hc
            have c8 := hc
            clear hc
            refine st_ret ?_
            show some ([], [true]) = _
            rfl
          · replace hc : b12 = false := hc
            have c9 := hc
            clear hc
            rw [hb12, hb3] at c9; simp at c9
      · replace hc : (i11 == 0) = false := hc
        have c10 := hc
        clear hc
        rw [hi11] at c10; exact absurd c10 (by decide)

set_option maxHeartbeats 4000000 in
theorem law_u (op : Int) (lo hi N r lo2 hi2 M q n m : Nat) (h : Rt lo hi N r) (h2 : Rt lo2 hi2 M q) (hn : n < 2 ^ 64) (hm : m < 2 ^ 64) (i o : Int) (f : Int → Int) (hT : F13 [op] [] = some ([1, i, 0, o], [true])) (hU : UnFin op i o f) (hv : ValU op o f) : F8 [op, (lo : Int), (hi : Int), (N : Int), (r : Int), (lo2 : Int), (hi2 : Int), (M : Int), (q : Int), (n : Int), (m : Int)] [] = some ([], [true]) := by
  obtain ⟨x0, x1, x2, x3, hX, hf⟩ := hU lo hi N r h
  refine Eq.trans (Fd_of (n := 11) (m := 0) (t := XTransSound.t8) (C := Tab.fn a8) rfl rfl) ?_
  rw [XTransSound.t8]
  refine st_0_1 (e8_10) (g := true) rfl (l := []) rfl (m := []) rfl (cl_t q10) fun b0 hb0 => ?_
  show T.den _ _ [op, (lo : Int), (hi : Int), (N : Int), (r : Int), (lo2 : Int), (hi2 : Int), (M : Int), (q : Int), (n : Int), (m : Int)] [b0] = _
  refine st_ite (fun hc => ?_) (fun hc => ?_)
  · replace hc : (!b0) = true := hc
    have c1 := hc
    clear hc
    rw [hb0] at c1; cases c1
  · replace hc : (!b0) = false := hc
    have c2 := hc
    clear hc
    refine st_0_1 (e8_11) (g := true) rfl (l := [(lo : Int), (hi : Int), (N : Int), (r : Int)]) rfl (m := []) rfl (cl_t (q11 (lo : Int) (hi : Int) (N : Int) (r : Int))) fun b1 hb1 => ?_
    show T.den _ _ [op, (lo : Int), (hi : Int), (N : Int), (r : Int), (lo2 : Int), (hi2 : Int), (M : Int), (q : Int), (n : Int), (m : Int)] [b0, b1] = _
    refine st_0_1 (e8_11) (g := b1) rfl (l := [(lo2 : Int), (hi2 : Int), (M : Int), (q : Int)]) rfl (m := []) rfl (cl_b (q11 (lo2 : Int) (hi2 : Int) (M : Int) (q : Int))) fun b2 hb2 => ?_
    show T.den _ _ [op, (lo : Int), (hi : Int), (N : Int), (r : Int), (lo2 : Int), (hi2 : Int), (M : Int), (q : Int), (n : Int), (m : Int)] [b0, b1, b2] = _
    refine st_ite (fun hc => ?_) (fun hc => ?_)
    · replace hc : ((!b1) || (!b2)) = true := hc
      have c3 := hc
      clear hc
      rw [hb2, hb1, rt_rA h, rt_rA h2] at c3; cases c3
    · replace hc : ((!b1) || (!b2)) = false := hc
      have c4 := hc
      clear hc
      refine st_4_1 (e8_13) (g := true) rfl (l := [op]) rfl (m := []) rfl (cl_t hT) fun i11 i12 i13 i14 b3 hi11 hi12 hi13 hi14 hb3 => ?_
      show T.den _ _ [op, (lo : Int), (hi : Int), (N : Int), (r : Int), (lo2 : Int), (hi2 : Int), (M : Int), (q : Int), (n : Int), (m : Int), i11, i12, i13, i14] [b0, b1, b2, b3] = _
      refine st_ite (fun hc => ?_) (fun hc => ?_)
      · replace hc : (i11 == 0) = true := hc
        have c5 := hc
        clear hc
        rw [hi11] at c5; exact absurd c5 (by decide)
      · replace hc : (i11 == 0) = false := hc
        have c6 := hc
        clear hc
        refine st_ite (fun hc => ?_) (fun hc => ?_)
        · replace hc : (i11 == 1) = true := hc
          have c7 := hc
          clear hc
          refine st_4_1 (e8_23) (g := true) rfl (l := [op, (lo : Int), (hi : Int), (N : Int), (r : Int)]) rfl (m := []) rfl (cl_t hX) fun i15 i16 i17 i18 b4 hi15 hi16 hi17 hi18 hb4 => ?_
          show T.den _ _ [op, (lo : Int), (hi : Int), (N : Int), (r : Int), (lo2 : Int), (hi2 : Int), (M : Int), (q : Int), (n : Int), (m : Int), i11, i12, i13, i14, i15, i16, i17, i18] [b0, b1, b2, b3, b4] = _
          refine st_4_1 (e8_25) (g := true) rfl (l := [op, (lo : Int), (hi : Int), (N : Int), (r : Int), (lo2 : Int), (hi2 : Int), (M : Int), (q : Int)]) rfl (m := []) rfl (cl_t (q25_u op i o lo hi N r lo2 hi2 M q hT)) fun i19 i20 i21 i22 b5 hi19 hi20 hi21 hi22 hb5 => ?_
          show T.den _ _ [op, (lo : Int), (hi : Int), (N : Int), (r : Int), (lo2 : Int), (hi2 : Int), (M : Int), (q : Int), (n : Int), (m : Int), i11, i12, i13, i14, i15, i16, i17, i18, i19, i20, i21, i22] [b0, b1, b2, b3, b4, b5] = _
          refine st_lb fun b6 hb6 => ?_
          replace hb6 : b6 = ((!(b4 == b3)) || (!(b5 == (b3 && false)))) := hb6
          show T.den _ _ [op, (lo : Int), (hi : Int), (N : Int), (r : Int), (lo2 : Int), (hi2 : Int), (M : Int), (q : Int), (n : Int), (m : Int), i11, i12, i13, i14, i15, i16, i17, i18, i19, i20, i21, i22] [b0, b1, b2, b3, b4, b5, b6] = _
          refine st_lb fun b7 hb7 => ?_
          replace hb7 : b7 = (!(((i15 == 0) && (i16 == 0)) && ((i17 == 0) && (i18 == 0)))) := hb7
          show T.den _ _ [op, (lo : Int), (hi : Int), (N : Int), (r : Int), (lo2 : Int), (hi2 : Int), (M : Int), (q : Int), (n : Int), (m : Int), i11, i12, i13, i14, i15, i16, i17, i18, i19, i20, i21, i22] [b0, b1, b2, b3, b4, b5, b6, b7] = _
          refine st_lb fun b8 hb8 => ?_
          replace hb8 : b8 = (!(((i19 == 0) && (i20 == 0)) && ((i21 == 0) && (i22 == 0)))) := hb8
          show T.den _ _ [op, (lo : Int), (hi : Int), (N : Int), (r : Int), (lo2 : Int), (hi2 : Int), (M : Int), (q : Int), (n : Int), (m : Int), i11, i12, i13, i14, i15, i16, i17, i18, i19, i20, i21, i22] [b0, b1, b2, b3, b4, b5, b6, b7, b8] = _
          refine st_lb fun b9 hb9 => ?_
          replace hb9 : b9 = ((b6 || ((!b4) && b7)) || ((!b5) && b8)) := hb9
          show T.den _ _ [op, (lo : Int), (hi : Int), (N : Int), (r : Int), (lo2 : Int), (hi2 : Int), (M : Int), (q : Int), (n : Int), (m : Int), i11, i12, i13, i14, i15, i16, i17, i18, i19, i20, i21, i22] [b0, b1, b2, b3, b4, b5, b6, b7, b8, b9] = _
          refine st_ite (fun hc => ?_) (fun hc => ?_)
          · replace hc : b9 = true := hc
            have c8 := hc
            clear hc
            rw [hb9, hb6, hb7, hb8, hb4, hb5, hb3, hi19, hi20, hi21, hi22] at c8; simp at c8
          · replace hc : b9 = false := hc
            have c9 := hc
            clear hc
            refine st_0_1 (e8_14) (g := b3) rfl (l := [i12, (n : Int)]) rfl (m := []) rfl (cl_b (q14_ i12 (n : Int))) fun b10 hb10 => ?_
            show T.den _ _ [op, (lo : Int), (hi : Int), (N : Int), (r : Int), (lo2 : Int), (hi2 : Int), (M : Int), (q : Int), (n : Int), (m : Int), i11, i12, i13, i14, i15, i16, i17, i18, i19, i20, i21, i22] [b0, b1, b2, b3, b4, b5, b6, b7, b8, b9, b10] = _
            refine st_0_1 (e8_15) (g := (!((!b3) || (!b10)))) rfl (l := [(lo : Int), (hi : Int), (N : Int), (r : Int), (n : Int)]) rfl (m := []) rfl (cl_b (q15 (lo : Int) (hi : Int) (N : Int) (r : Int) (n : Int))) fun b11 hb11 => ?_
            show T.den _ _ [op, (lo : Int), (hi : Int), (N : Int), (r : Int), (lo2 : Int), (hi2 : Int), (M : Int), (q : Int), (n : Int), (m : Int), i11, i12, i13, i14, i15, i16, i17, i18, i19, i20, i21, i22] [b0, b1, b2, b3, b4, b5, b6, b7, b8, b9, b10, b11] = _
            refine st_lb fun b12 hb12 => ?_
            replace hb12 : b12 = (((!b3) || (!b10)) || (!b11)) := hb12
            show T.den _ _ [op, (lo : Int), (hi : Int), (N : Int), (r : Int), (lo2 : Int), (hi2 : Int), (M : Int), (q : Int), (n : Int), (m : Int), i11, i12, i13, i14, i15, i16, i17, i18, i19, i20, i21, i22] [b0, b1, b2, b3, b4, b5, b6, b7, b8, b9, b10, b11, b12] = _
            refine st_ite (fun hc => ?_) (fun hc => ?_)
            · replace hc : b12 = true := hc
              have c10 := hc
              clear hc
              refine st_ret ?_
              show some ([], [true]) = _
              rfl
            · replace hc : b12 = false := hc
              have c11 := hc
              clear hc
              refine st_ite (fun hc => ?_) (fun hc => ?_)
              · replace hc : b4 = true := hc
                have c12 := hc
                clear hc
                refine st_1_1 (e8_24) (g := true) rfl (l := [op, (n : Int)]) rfl (m := []) rfl (cl_t (hv.1 n ⟨by omega, by omega⟩)) fun i23 b13 hi23 hb13 => ?_
                show T.den _ _ [op, (lo : Int), (hi : Int), (N : Int), (r : Int), (lo2 : Int), (hi2 : Int), (M : Int), (q : Int), (n : Int), (m : Int), i11, i12, i13, i14, i15, i16, i17, i18, i19, i20, i21, i22, i23] [b0, b1, b2, b3, b4, b5, b6, b7, b8, b9, b10, b11, b12, b13] = _
                refine st_0_1 (e8_11) (g := true) rfl (l := [i15, i16, i17, i18]) rfl (m := []) rfl (cl_t (q11 i15 i16 i17 i18)) fun b14 hb14 => ?_
                show T.den _ _ [op, (lo : Int), (hi : Int), (N : Int), (r : Int), (lo2 : Int), (hi2 : Int), (M : Int), (q : Int), (n : Int), (m : Int), i11, i12, i13, i14, i15, i16, i17, i18, i19, i20, i21, i22, i23] [b0, b1, b2, b3, b4, b5, b6, b7, b8, b9, b10, b11, b12, b13, b14] = _
                refine st_0_1 (e8_15) (g := b14) rfl (l := [i15, i16, i17, i18, i23]) rfl (m := []) rfl (cl_b (q15 i15 i16 i17 i18 i23)) fun b15 hb15 => ?_
                show T.den _ _ [op, (lo : Int), (hi : Int), (N : Int), (r : Int), (lo2 : Int), (hi2 : Int), (M : Int), (q : Int), (n : Int), (m : Int), i11, i12, i13, i14, i15, i16, i17, i18, i19, i20, i21, i22, i23] [b0, b1, b2, b3, b4, b5, b6, b7, b8, b9, b10, b11, b12, b13, b14, b15] = _
                refine st_ret ?_
                show some ([], [(b14 && b15)]) = _
                obtain ⟨p1, p2⟩ := l12 hb3 hb10 hb11 hb12 c11
                rw [hi12] at p1
                rw [hA_hAN h.2.2.1 h.r64 hn] at p2
                obtain ⟨v, e, _⟩ := hv.2 n ⟨by omega, by omega⟩
                refine rb ?_
                rw [hb15, hb14, hi15, hi16, hi17, hi18, hi23, fh_rA hf, fh_hA hf e ⟨n, hn, fit_of p1, p2, e.symm⟩]; rfl
              · replace hc : b4 = false := hc
                have c13 := hc
                clear hc
                rw [hb4] at c13; cases c13
        · replace hc : (i11 == 1) = false := hc
          have c14 := hc
          clear hc
          rw [hi11] at c14; exact absurd c14 (by decide)

set_option maxHeartbeats 4000000 in
theorem law_b (op : Int) (lo hi N r lo2 hi2 M q n m : Nat) (h : Rt lo hi N r) (h2 : Rt lo2 hi2 M q) (hn : n < 2 ^ 64) (hm : m < 2 ^ 64) (i o : Int) (f g : Int → Int → Int) (hT : F13 [op] [] = some ([2, i, i, o], [true])) (hB : BinFin op i o f g) (hv : Val op o f g) : F8 [op, (lo : Int), (hi : Int), (N : Int), (r : Int), (lo2 : Int), (hi2 : Int), (M : Int), (q : Int), (n : Int), (m : Int)] [] = some ([], [true]) := by
  obtain ⟨x0, x1, x2, x3, hX, hf⟩ := hB lo hi N r lo2 hi2 M q h h2
  refine Eq.trans (Fd_of (n := 11) (m := 0) (t := XTransSound.t8) (C := Tab.fn a8) rfl rfl) ?_
  rw [XTransSound.t8]
  refine st_0_1 (e8_10) (g := true) rfl (l := []) rfl (m := []) rfl (cl_t q10) fun b0 hb0 => ?_
  show T.den _ _ [op, (lo : Int), (hi : Int), (N : Int), (r : Int), (lo2 : Int), (hi2 : Int), (M : Int), (q : Int), (n : Int), (m : Int)] [b0] = _
  refine st_ite (fun hc => ?_) (fun hc => ?_)
  · replace hc : (!b0) = true := hc
    have c1 := hc
    clear hc
    rw [hb0] at c1; cases c1
  · replace hc : (!b0) = false := hc
    have c2 := hc
    clear hc
    refine st_0_1 (e8_11) (g := true) rfl (l := [(lo : Int), (hi : Int), (N : Int), (r : Int)]) rfl (m := []) rfl (cl_t (q11 (lo : Int) (hi : Int) (N : Int) (r : Int))) fun b1 hb1 => ?_
    show T.den _ _ [op, (lo : Int), (hi : Int), (N : Int), (r : Int), (lo2 : Int), (hi2 : Int), (M : Int), (q : Int), (n : Int), (m : Int)] [b0, b1] = _
    refine st_0_1 (e8_11) (g := b1) rfl (l := [(lo2 : Int), (hi2 : Int), (M : Int), (q : Int)]) rfl (m := []) rfl (cl_b (q11 (lo2 : Int) (hi2 : Int) (M : Int) (q : Int))) fun b2 hb2 => ?_
    show T.den _ _ [op, (lo : Int), (hi : Int), (N : Int), (r : Int), (lo2 : Int), (hi2 : Int), (M : Int), (q : Int), (n : Int), (m : Int)] [b0, b1, b2] = _
    refine st_ite (fun hc => ?_) (fun hc => ?_)
    · replace hc : ((!b1) || (!b2)) = true := hc
      have c3 := hc
      clear hc
      rw [hb2, hb1, rt_rA h, rt_rA h2] at c3; cases c3
    · replace hc : ((!b1) || (!b2)) = false := hc
      have c4 := hc
      clear hc
      refine st_4_1 (e8_13) (g := true) rfl (l := [op]) rfl (m := []) rfl (cl_t hT) fun i11 i12 i13 i14 b3 hi11 hi12 hi13 hi14 hb3 => ?_
      show T.den _ _ [op, (lo : Int), (hi : Int), (N : Int), (r : Int), (lo2 : Int), (hi2 : Int), (M : Int), (q : Int), (n : Int), (m : Int), i11, i12, i13, i14] [b0, b1, b2, b3] = _
      refine st_ite (fun hc => ?_) (fun hc => ?_)
      · replace hc : (i11 == 0) = true := hc
        have c5 := hc
        clear hc
        rw [hi11] at c5; exact absurd c5 (by decide)
      · replace hc : (i11 == 0) = false := hc
        have c6 := hc
        clear hc
        refine st_ite (fun hc => ?_) (fun hc => ?_)
        · replace hc : (i11 == 1) = true := hc
          have c7 := hc
          clear hc
          rw [hi11] at c7; exact absurd c7 (by decide)
        · replace hc : (i11 == 1) = false := hc
          have c8 := hc
          clear hc
          refine st_ite (fun hc => ?_) (fun hc => ?_)
          · replace hc : (i11 == 2) = true := hc
            have c9 := hc
            clear hc
            refine st_4_1 (e8_23) (g := true) rfl (l := [op, (lo : Int), (hi : Int), (N : Int), (r : Int)]) rfl (m := []) rfl (cl_t (q23_b op i o lo hi N r hT)) fun i15 i16 i17 i18 b4 hi15 hi16 hi17 hi18 hb4 => ?_
            show T.den _ _ [op, (lo : Int), (hi : Int), (N : Int), (r : Int), (lo2 : Int), (hi2 : Int), (M : Int), (q : Int), (n : Int), (m : Int), i11, i12, i13, i14, i15, i16, i17, i18] [b0, b1, b2, b3, b4] = _
            refine st_4_1 (e8_25) (g := true) rfl (l := [op, (lo : Int), (hi : Int), (N : Int), (r : Int), (lo2 : Int), (hi2 : Int), (M : Int), (q : Int)]) rfl (m := []) rfl (cl_t hX) fun i19 i20 i21 i22 b5 hi19 hi20 hi21 hi22 hb5 => ?_
            show T.den _ _ [op, (lo : Int), (hi : Int), (N : Int), (r : Int), (lo2 : Int), (hi2 : Int), (M : Int), (q : Int), (n : Int), (m : Int), i11, i12, i13, i14, i15, i16, i17, i18, i19, i20, i21, i22] [b0, b1, b2, b3, b4, b5] = _
            refine st_lb fun b6 hb6 => ?_
            replace hb6 : b6 = ((!(b4 == (b3 && false))) || (!(b5 == b3))) := hb6
            show T.den _ _ [op, (lo : Int), (hi : Int), (N : Int), (r : Int), (lo2 : Int), (hi2 : Int), (M : Int), (q : Int), (n : Int), (m : Int), i11, i12, i13, i14, i15, i16, i17, i18, i19, i20, i21, i22] [b0, b1, b2, b3, b4, b5, b6] = _
            refine st_lb fun b7 hb7 => ?_
            replace hb7 : b7 = (!(((i15 == 0) && (i16 == 0)) && ((i17 == 0) && (i18 == 0)))) := hb7
            show T.den _ _ [op, (lo : Int), (hi : Int), (N : Int), (r : Int), (lo2 : Int), (hi2 : Int), (M : Int), (q : Int), (n : Int), (m : Int), i11, i12, i13, i14, i15, i16, i17, i18, i19, i20, i21, i22] [b0, b1, b2, b3, b4, b5, b6, b7] = _
            refine st_lb fun b8 hb8 => ?_
            replace hb8 : b8 = (!(((i19 == 0) && (i20 == 0)) && ((i21 == 0) && (i22 == 0)))) := hb8
            show T.den _ _ [op, (lo : Int), (hi : Int), (N : Int), (r : Int), (lo2 : Int), (hi2 : Int), (M : Int), (q : Int), (n : Int), (m : Int), i11, i12, i13, i14, i15, i16, i17, i18, i19, i20, i21, i22] [b0, b1, b2, b3, b4, b5, b6, b7, b8] = _
            refine st_lb fun b9 hb9 => ?_
            replace hb9 : b9 = ((b6 || ((!b4) && b7)) || ((!b5) && b8)) := hb9
            show T.den _ _ [op, (lo : Int), (hi : Int), (N : Int), (r : Int), (lo2 : Int), (hi2 : Int), (M : Int), (q : Int), (n : Int), (m : Int), i11, i12, i13, i14, i15, i16, i17, i18, i19, i20, i21, i22] [b0, b1, b2, b3, b4, b5, b6, b7, b8, b9] = _
            refine st_ite (fun hc => ?_) (fun hc => ?_)
            · replace hc : b9 = true := hc
              have c10 := hc
              clear hc
              rw [hb9, hb6, hb7, hb8, hb4, hb5, hb3, hi15, hi16, hi17, hi18] at c10; simp at c10
            · replace hc : b9 = false := hc
              have c11 := hc
              clear hc
              refine st_0_1 (e8_14) (g := b3) rfl (l := [i12, (n : Int)]) rfl (m := []) rfl (cl_b (q14_ i12 (n : Int))) fun b10 hb10 => ?_
              show T.den _ _ [op, (lo : Int), (hi : Int), (N : Int), (r : Int), (lo2 : Int), (hi2 : Int), (M : Int), (q : Int), (n : Int), (m : Int), i11, i12, i13, i14, i15, i16, i17, i18, i19, i20, i21, i22] [b0, b1, b2, b3, b4, b5, b6, b7, b8, b9, b10] = _
              refine st_0_1 (e8_15) (g := (!((!b3) || (!b10)))) rfl (l := [(lo : Int), (hi : Int), (N : Int), (r : Int), (n : Int)]) rfl (m := []) rfl (cl_b (q15 (lo : Int) (hi : Int) (N : Int) (r : Int) (n : Int))) fun b11 hb11 => ?_
              show T.den _ _ [op, (lo : Int), (hi : Int), (N : Int), (r : Int), (lo2 : Int), (hi2 : Int), (M : Int), (q : Int), (n : Int), (m : Int), i11, i12, i13, i14, i15, i16, i17, i18, i19, i20, i21, i22] [b0, b1, b2, b3, b4, b5, b6, b7, b8, b9, b10, b11] = _
              refine st_lb fun b12 hb12 => ?_
              replace hb12 : b12 = (((!b3) || (!b10)) || (!b11)) := hb12
              show T.den _ _ [op, (lo : Int), (hi : Int), (N : Int), (r : Int), (lo2 : Int), (hi2 : Int), (M : Int), (q : Int), (n : Int), (m : Int), i11, i12, i13, i14, i15, i16, i17, i18, i19, i20, i21, i22] [b0, b1, b2, b3, b4, b5, b6, b7, b8, b9, b10, b11, b12] = _
              refine st_ite (fun hc => ?_) (fun hc => ?_)
              · replace hc : b12 = true := hc
                have c12 := hc
                clear hc
                refine st_ret ?_
                show some ([], [true]) = _
                rfl
              · replace hc : b12 = false := hc
                have c13 := hc
                clear hc
                refine st_ite (fun hc => ?_) (fun hc => ?_)
                · replace hc : b4 = true := hc
                  have c14 := hc
                  clear hc
                  rw [hb4] at c14; cases c14
                · replace hc : b4 = false := hc
                  have c15 := hc
                  clear hc
                  refine st_0_1 (e8_14) (g := true) rfl (l := [i13, (m : Int)]) rfl (m := []) rfl (cl_t (q14_ i13 (m : Int))) fun b13 hb13 => ?_
                  show T.den _ _ [op, (lo : Int), (hi : Int), (N : Int), (r : Int), (lo2 : Int), (hi2 : Int), (M : Int), (q : Int), (n : Int), (m : Int), i11, i12, i13, i14, i15, i16, i17, i18, i19, i20, i21, i22] [b0, b1, b2, b3, b4, b5, b6, b7, b8, b9, b10, b11, b12, b13] = _
                  refine st_0_1 (e8_15) (g := b13) rfl (l := [(lo2 : Int), (hi2 : Int), (M : Int), (q : Int), (m : Int)]) rfl (m := []) rfl (cl_b (q15 (lo2 : Int) (hi2 : Int) (M : Int) (q : Int) (m : Int))) fun b14 hb14 => ?_
                  show T.den _ _ [op, (lo : Int), (hi : Int), (N : Int), (r : Int), (lo2 : Int), (hi2 : Int), (M : Int), (q : Int), (n : Int), (m : Int), i11, i12, i13, i14, i15, i16, i17, i18, i19, i20, i21, i22] [b0, b1, b2, b3, b4, b5, b6, b7, b8, b9, b10, b11, b12, b13, b14] = _
                  refine st_ite (fun hc => ?_) (fun hc => ?_)
                  · replace hc : ((!b13) || (!b14)) = true := hc
                    have c16 := hc
                    clear hc
                    refine st_ret ?_
                    show some ([], [true]) = _
                    rfl
                  · replace hc : ((!b13) || (!b14)) = false := hc
                    have c17 := hc
                    clear hc
                    refine st_2_1 (e8_16) (g := true) rfl (l := [op, (n : Int), (m : Int)]) rfl (m := []) rfl (cl_t (hv.1 n m ⟨by omega, by omega⟩ ⟨by omega, by omega⟩)) fun i23 i24 b15 hi23 hi24 hb15 => ?_
                    show T.den _ _ [op, (lo : Int), (hi : Int), (N : Int), (r : Int), (lo2 : Int), (hi2 : Int), (M : Int), (q : Int), (n : Int), (m : Int), i11, i12, i13, i14, i15, i16, i17, i18, i19, i20, i21, i22, i23, i24] [b0, b1, b2, b3, b4, b5, b6, b7, b8, b9, b10, b11, b12, b13, b14, b15] = _
                    refine st_0_1 (e8_11) (g := true) rfl (l := [i19, i20, i21, i22]) rfl (m := []) rfl (cl_t (q11 i19 i20 i21 i22)) fun b16 hb16 => ?_
                    show T.den _ _ [op, (lo : Int), (hi : Int), (N : Int), (r : Int), (lo2 : Int), (hi2 : Int), (M : Int), (q : Int), (n : Int), (m : Int), i11, i12, i13, i14, i15, i16, i17, i18, i19, i20, i21, i22, i23, i24] [b0, b1, b2, b3, b4, b5, b6, b7, b8, b9, b10, b11, b12, b13, b14, b15, b16] = _
                    refine st_0_1 (e8_15) (g := (b16 && (!(i24 != 0)))) rfl (l := [i19, i20, i21, i22, i23]) rfl (m := []) rfl (cl_b (q15 i19 i20 i21 i22 i23)) fun b17 hb17 => ?_
                    show T.den _ _ [op, (lo : Int), (hi : Int), (N : Int), (r : Int), (lo2 : Int), (hi2 : Int), (M : Int), (q : Int), (n : Int), (m : Int), i11, i12, i13, i14, i15, i16, i17, i18, i19, i20, i21, i22, i23, i24] [b0, b1, b2, b3, b4, b5, b6, b7, b8, b9, b10, b11, b12, b13, b14, b15, b16, b17] = _
                    refine st_lb fun b18 hb18 => ?_
                    replace hb18 : b18 = (b16 && ((i24 != 0) || b17)) := hb18
                    show T.den _ _ [op, (lo : Int), (hi : Int), (N : Int), (r : Int), (lo2 : Int), (hi2 : Int), (M : Int), (q : Int), (n : Int), (m : Int), i11, i12, i13, i14, i15, i16, i17, i18, i19, i20, i21, i22, i23, i24] [b0, b1, b2, b3, b4, b5, b6, b7, b8, b9, b10, b11, b12, b13, b14, b15, b16, b17, b18] = _
                    refine st_ret ?_
                    show some ([], [b18]) = _
                    obtain ⟨p1, p2⟩ := l12 hb3 hb10 hb11 hb12 c13
                    rw [hi12] at p1
                    rw [hA_hAN h.2.2.1 h.r64 hn] at p2
                    have p34 : ((i != 127) || (decide ((m : Int) < 4294967296))) = true ∧ hA lo2 hi2 M q m = true := by
                      rw [hb14, hb13, hi13] at c17
                      revert c17; cases ((i != 127) || (decide ((m : Int) < 4294967296))) <;> cases hA lo2 hi2 M q m <;> simp
                    obtain ⟨p3, p4⟩ := p34
                    rw [hA_hAN h2.2.2.1 h2.r64 hm] at p4
                    refine rb ?_
                    rw [hb18, hb17, hb16, hi19, hi20, hi21, hi22, hi23, hi24, fh_rA hf]
                    by_cases hg : g n m = 0
                    · obtain ⟨v, e, _⟩ := hv.2 n m ⟨by omega, by omega⟩ ⟨by omega, by omega⟩ hg
                      rw [fh_hA hf e ⟨n, m, hn, hm, fit_of p1, fit_of p3, p2, p4, e.symm, hg⟩, hg]; rfl
                    · rw [show (g n m != 0) = true from bne_iff_ne.2 hg]; rfl
          · replace hc : (i11 == 2) = false := hc
            have c18 := hc
            clear hc
            rw [hi11] at c18; exact absurd c18 (by decide)

theorem law_nat (op : Int) (lo hi N r lo2 hi2 M q n m : Nat) (h : Rt lo hi N r) (h2 : Rt lo2 hi2 M q) (hn : n < 2 ^ 64) (hm : m < 2 ^ 64) : F8 [op, (lo : Int), (hi : Int), (N : Int), (r : Int), (lo2 : Int), (hi2 : Int), (M : Int), (q : Int), (n : Int), (m : Int)] [] = some ([], [true]) := by
  by_cases h69 : 69 ≤ op ∧ op ≤ 90
  · by_cases e69 : op = 69
    · subst e69; exact law_u 69 lo hi N r lo2 hi2 M q n m h h2 hn hm 127 127 _ q14_69 un_69 valu_69
    by_cases e70 : op = 70
    · subst e70; exact law_b 70 lo hi N r lo2 hi2 M q n m h h2 hn hm 127 127 _ _ q14_70 bin_70 val_70
    by_cases e71 : op = 71
    · subst e71; exact law_b 71 lo hi N r lo2 hi2 M q n m h h2 hn hm 127 127 _ _ q14_71 bin_71 val_71
    by_cases e72 : op = 72
    · subst e72; exact law_b 72 lo hi N r lo2 hi2 M q n m h h2 hn hm 127 127 _ _ q14_72 bin_72 val_72
    by_cases e73 : op = 73
    · subst e73; exact law_b 73 lo hi N r lo2 hi2 M q n m h h2 hn hm 127 127 _ _ q14_73 bin_73 val_73
    by_cases e74 : op = 74
    · subst e74; exact law_b 74 lo hi N r lo2 hi2 M q n m h h2 hn hm 127 127 _ _ q14_74 bin_74 val_74
    by_cases e75 : op = 75
    · subst e75; exact law_b 75 lo hi N r lo2 hi2 M q n m h h2 hn hm 127 127 _ _ q14_75 bin_75 val_75
    by_cases e76 : op = 76
    · subst e76; exact law_b 76 lo hi N r lo2 hi2 M q n m h h2 hn hm 127 127 _ _ q14_76 bin_76 val_76
    by_cases e77 : op = 77
    · subst e77; exact law_b 77 lo hi N r lo2 hi2 M q n m h h2 hn hm 127 127 _ _ q14_77 bin_77 val_77
    by_cases e78 : op = 78
    · subst e78; exact law_b 78 lo hi N r lo2 hi2 M q n m h h2 hn hm 127 127 _ _ q14_78 bin_78 val_78
    by_cases e79 : op = 79
    · subst e79; exact law_b 79 lo hi N r lo2 hi2 M q n m h h2 hn hm 127 127 _ _ q14_79 bin_79 val_79
    by_cases e80 : op = 80
    · subst e80; exact law_u 80 lo hi N r lo2 hi2 M q n m h h2 hn hm 126 127 _ q14_80 un_80 valu_80
    by_cases e81 : op = 81
    · subst e81; exact law_b 81 lo hi N r lo2 hi2 M q n m h h2 hn hm 126 127 _ _ q14_81 bin_81 val_81
    by_cases e82 : op = 82
    · subst e82; exact law_b 82 lo hi N r lo2 hi2 M q n m h h2 hn hm 126 127 _ _ q14_82 bin_82 val_82
    by_cases e83 : op = 83
    · subst e83; exact law_b 83 lo hi N r lo2 hi2 M q n m h h2 hn hm 126 127 _ _ q14_83 bin_83 val_83
    by_cases e84 : op = 84
    · subst e84; exact law_b 84 lo hi N r lo2 hi2 M q n m h h2 hn hm 126 127 _ _ q14_84 bin_84 val_84
    by_cases e85 : op = 85
    · subst e85; exact law_b 85 lo hi N r lo2 hi2 M q n m h h2 hn hm 126 127 _ _ q14_85 bin_85 val_85
    by_cases e86 : op = 86
    · subst e86; exact law_b 86 lo hi N r lo2 hi2 M q n m h h2 hn hm 126 127 _ _ q14_86 bin_86 val_86
    by_cases e87 : op = 87
    · subst e87; exact law_b 87 lo hi N r lo2 hi2 M q n m h h2 hn hm 126 127 _ _ q14_87 bin_87 val_87
    by_cases e88 : op = 88
    · subst e88; exact law_b 88 lo hi N r lo2 hi2 M q n m h h2 hn hm 126 127 _ _ q14_88 bin_88 val_88
    by_cases e89 : op = 89
    · subst e89; exact law_b 89 lo hi N r lo2 hi2 M q n m h h2 hn hm 126 127 _ _ q14_89 bin_89 val_89
    have e90 : op = 90 := by omega
    subst e90; exact law_b 90 lo hi N r lo2 hi2 M q n m h h2 hn hm 126 127 _ _ q14_90 bin_90 val_90
  by_cases h103 : 103 ≤ op ∧ op ≤ 138
  · by_cases e103 : op = 103
    · subst e103; exact law_u 103 lo hi N r lo2 hi2 M q n m h h2 hn hm 127 127 _ q14_103 un_103 valu_103
    by_cases e104 : op = 104
    · subst e104; exact law_u 104 lo hi N r lo2 hi2 M q n m h h2 hn hm 127 127 _ q14_104 un_104 valu_104
    by_cases e105 : op = 105
    · subst e105; exact law_u 105 lo hi N r lo2 hi2 M q n m h h2 hn hm 127 127 _ q14_105 un_105 valu_105
    by_cases e106 : op = 106
    · subst e106; exact law_b 106 lo hi N r lo2 hi2 M q n m h h2 hn hm 127 127 _ _ q14_106 bin_106 val_106
    by_cases e107 : op = 107
    · subst e107; exact law_b 107 lo hi N r lo2 hi2 M q n m h h2 hn hm 127 127 _ _ q14_107 bin_107 val_107
    by_cases e108 : op = 108
    · subst e108; exact law_b 108 lo hi N r lo2 hi2 M q n m h h2 hn hm 127 127 _ _ q14_108 bin_108 val_108
    by_cases e109 : op = 109
    · subst e109; exact law_b 109 lo hi N r lo2 hi2 M q n m h h2 hn hm 127 127 _ _ q14_109 bin_109 val_109
    by_cases e110 : op = 110
    · subst e110; exact law_b 110 lo hi N r lo2 hi2 M q n m h h2 hn hm 127 127 _ _ q14_110 bin_110 val_110
    by_cases e111 : op = 111
    · subst e111; exact law_b 111 lo hi N r lo2 hi2 M q n m h h2 hn hm 127 127 _ _ q14_111 bin_111 val_111
    by_cases e112 : op = 112
    · subst e112; exact law_b 112 lo hi N r lo2 hi2 M q n m h h2 hn hm 127 127 _ _ q14_112 bin_112 val_112
    by_cases e113 : op = 113
    · subst e113; exact law_b 113 lo hi N r lo2 hi2 M q n m h h2 hn hm 127 127 _ _ q14_113 bin_113 val_113
    by_cases e114 : op = 114
    · subst e114; exact law_b 114 lo hi N r lo2 hi2 M q n m h h2 hn hm 127 127 _ _ q14_114 bin_114 val_114
    by_cases e115 : op = 115
    · subst e115; exact law_b 115 lo hi N r lo2 hi2 M q n m h h2 hn hm 127 127 _ _ q14_115 bin_115 val_115
    by_cases e116 : op = 116
    · subst e116; exact law_b 116 lo hi N r lo2 hi2 M q n m h h2 hn hm 127 127 _ _ q14_116 bin_116 val_116
    by_cases e117 : op = 117
    · subst e117; exact law_b 117 lo hi N r lo2 hi2 M q n m h h2 hn hm 127 127 _ _ q14_117 bin_117 val_117
    by_cases e118 : op = 118
    · subst e118; exact law_b 118 lo hi N r lo2 hi2 M q n m h h2 hn hm 127 127 _ _ q14_118 bin_118 val_118
    by_cases e119 : op = 119
    · subst e119; exact law_b 119 lo hi N r lo2 hi2 M q n m h h2 hn hm 127 127 _ _ q14_119 bin_119 val_119
    by_cases e120 : op = 120
    · subst e120; exact law_b 120 lo hi N r lo2 hi2 M q n m h h2 hn hm 127 127 _ _ q14_120 bin_120 val_120
    by_cases e121 : op = 121
    · subst e121; exact law_u 121 lo hi N r lo2 hi2 M q n m h h2 hn hm 126 126 _ q14_121 un_121 valu_121
    by_cases e122 : op = 122
    · subst e122; exact law_u 122 lo hi N r lo2 hi2 M q n m h h2 hn hm 126 126 _ q14_122 un_122 valu_122
    by_cases e123 : op = 123
    · subst e123; exact law_u 123 lo hi N r lo2 hi2 M q n m h h2 hn hm 126 126 _ q14_123 un_123 valu_123
    by_cases e124 : op = 124
    · subst e124; exact law_b 124 lo hi N r lo2 hi2 M q n m h h2 hn hm 126 126 _ _ q14_124 bin_124 val_124
    by_cases e125 : op = 125
    · subst e125; exact law_b 125 lo hi N r lo2 hi2 M q n m h h2 hn hm 126 126 _ _ q14_125 bin_125 val_125
    by_cases e126 : op = 126
    · subst e126; exact law_b 126 lo hi N r lo2 hi2 M q n m h h2 hn hm 126 126 _ _ q14_126 bin_126 val_126
    by_cases e127 : op = 127
    · subst e127; exact law_b 127 lo hi N r lo2 hi2 M q n m h h2 hn hm 126 126 _ _ q14_127 bin_127 val_127
    by_cases e128 : op = 128
    · subst e128; exact law_b 128 lo hi N r lo2 hi2 M q n m h h2 hn hm 126 126 _ _ q14_128 bin_128 val_128
    by_cases e129 : op = 129
    · subst e129; exact law_b 129 lo hi N r lo2 hi2 M q n m h h2 hn hm 126 126 _ _ q14_129 bin_129 val_129
    by_cases e130 : op = 130
    · subst e130; exact law_b 130 lo hi N r lo2 hi2 M q n m h h2 hn hm 126 126 _ _ q14_130 bin_130 val_130
    by_cases e131 : op = 131
    · subst e131; exact law_b 131 lo hi N r lo2 hi2 M q n m h h2 hn hm 126 126 _ _ q14_131 bin_131 val_131
    by_cases e132 : op = 132
    · subst e132; exact law_b 132 lo hi N r lo2 hi2 M q n m h h2 hn hm 126 126 _ _ q14_132 bin_132 val_132
    by_cases e133 : op = 133
    · subst e133; exact law_b 133 lo hi N r lo2 hi2 M q n m h h2 hn hm 126 126 _ _ q14_133 bin_133 val_133
    by_cases e134 : op = 134
    · subst e134; exact law_b 134 lo hi N r lo2 hi2 M q n m h h2 hn hm 126 126 _ _ q14_134 bin_134 val_134
    by_cases e135 : op = 135
    · subst e135; exact law_b 135 lo hi N r lo2 hi2 M q n m h h2 hn hm 126 126 _ _ q14_135 bin_135 val_135
    by_cases e136 : op = 136
    · subst e136; exact law_b 136 lo hi N r lo2 hi2 M q n m h h2 hn hm 126 126 _ _ q14_136 bin_136 val_136
    by_cases e137 : op = 137
    · subst e137; exact law_b 137 lo hi N r lo2 hi2 M q n m h h2 hn hm 126 126 _ _ q14_137 bin_137 val_137
    have e138 : op = 138 := by omega
    subst e138; exact law_b 138 lo hi N r lo2 hi2 M q n m h h2 hn hm 126 126 _ _ q14_138 bin_138 val_138
  by_cases h167 : 167 ≤ op ∧ op ≤ 167
  · have e167 : op = 167 := by omega
    subst e167; exact law_u 167 lo hi N r lo2 hi2 M q n m h h2 hn hm 126 127 _ q14_167 un_167 valu_167
  by_cases h172 : 172 ≤ op ∧ op ≤ 173
  · by_cases e172 : op = 172
    · subst e172; exact law_u 172 lo hi N r lo2 hi2 M q n m h h2 hn hm 127 126 _ q14_172 un_172 valu_172
    have e173 : op = 173 := by omega
    subst e173; exact law_u 173 lo hi N r lo2 hi2 M q n m h h2 hn hm 127 126 _ q14_173 un_173 valu_173
  by_cases h192 : 192 ≤ op ∧ op ≤ 196
  · by_cases e192 : op = 192
    · subst e192; exact law_u 192 lo hi N r lo2 hi2 M q n m h h2 hn hm 127 127 _ q14_192 un_192 valu_192
    by_cases e193 : op = 193
    · subst e193; exact law_u 193 lo hi N r lo2 hi2 M q n m h h2 hn hm 127 127 _ q14_193 un_193 valu_193
    by_cases e194 : op = 194
    · subst e194; exact law_u 194 lo hi N r lo2 hi2 M q n m h h2 hn hm 126 126 _ q14_194 un_194 valu_194
    by_cases e195 : op = 195
    · subst e195; exact law_u 195 lo hi N r lo2 hi2 M q n m h h2 hn hm 126 126 _ q14_195 un_195 valu_195
    have e196 : op = 196 := by omega
    subst e196; exact law_u 196 lo hi N r lo2 hi2 M q n m h h2 hn hm 126 126 _ q14_196 un_196 valu_196
  exact law_o op lo hi N r lo2 hi2 M q n m h h2 hn hm (q14_out op (by omega))

set_option maxHeartbeats 4000000 in
theorem law_x (op a b N r c d M q n m : Int) (h : ¬ (rA a b N r = true ∧ rA c d M q = true)) : F8 [op, a, b, N, r, c, d, M, q, n, m] [] = some ([], [true]) := by
  refine Eq.trans (Fd_of (n := 11) (m := 0) (t := XTransSound.t8) (C := Tab.fn a8) rfl rfl) ?_
  rw [XTransSound.t8]
  refine st_0_1 (e8_10) (g := true) rfl (l := []) rfl (m := []) rfl (cl_t q10) fun b0 hb0 => ?_
  show T.den _ _ [op, a, b, N, r, c, d, M, q, n, m] [b0] = _
  refine st_ite (fun hc => ?_) (fun hc => ?_)
  · replace hc : (!b0) = true := hc
    have c1 := hc
    clear hc
    rw [hb0] at c1; cases c1
  · replace hc : (!b0) = false := hc
    have c2 := hc
    clear hc
    refine st_0_1 (e8_11) (g := true) rfl (l := [a, b, N, r]) rfl (m := []) rfl (cl_t (q11 a b N r)) fun b1 hb1 => ?_
    show T.den _ _ [op, a, b, N, r, c, d, M, q, n, m] [b0, b1] = _
    refine st_0_1 (e8_11) (g := b1) rfl (l := [c, d, M, q]) rfl (m := []) rfl (cl_b (q11 c d M q)) fun b2 hb2 => ?_
    show T.den _ _ [op, a, b, N, r, c, d, M, q, n, m] [b0, b1, b2] = _
    refine st_ite (fun hc => ?_) (fun hc => ?_)
    · replace hc : ((!b1) || (!b2)) = true := hc
      have c3 := hc
      clear hc
      refine st_ret ?_
      show some ([], [true]) = _
      rfl
    · replace hc : ((!b1) || (!b2)) = false := hc
      have c4 := hc
      clear hc
      exfalso; apply h; rw [hb2, hb1] at c4; revert c4; cases rA a b N r <;> cases rA c d M q <;> simp

theorem law (op a b N r c d M q n m : Int) (wop : (Lit.int .i64 op).wf = true) (wa : (Lit.int .u64 a).wf = true) (wb : (Lit.int .u64 b).wf = true) (wN : (Lit.int .i64 N).wf = true) (wr : (Lit.int .u64 r).wf = true) (wc : (Lit.int .u64 c).wf = true) (wd : (Lit.int .u64 d).wf = true) (wM : (Lit.int .i64 M).wf = true) (wq : (Lit.int .u64 q).wf = true) (wn : (Lit.int .u64 n).wf = true) (wm : (Lit.int .u64 m).wf = true) : F8 [op, a, b, N, r, c, d, M, q, n, m] [] = some ([], [true]) := by
  by_cases hR : rA a b N r = true ∧ rA c d M q = true
  · obtain ⟨h1, h2⟩ := hR
    have ia := wf_u64 wa
    have ib := wf_u64 wb
    have ic := wf_u64 wc
    have id := wf_u64 wd
    have in_ := wf_u64 wn
    have im := wf_u64 wm
    obtain ⟨k1, N, r, rfl, rfl, hN, hr, hrl⟩ := rA_true h1 (wf_u64 wr)
    obtain ⟨k2, M, q, rfl, rfl, hM, hq, hql⟩ := rA_true h2 (wf_u64 wq)
    obtain ⟨a, rfl⟩ := nats ia.1
    obtain ⟨b, rfl⟩ := nats ib.1
    obtain ⟨c, rfl⟩ := nats ic.1
    obtain ⟨d, rfl⟩ := nats id.1
    obtain ⟨n, rfl⟩ := nats in_.1
    obtain ⟨m, rfl⟩ := nats im.1
    exact law_nat op a b N r c d M q n m ⟨by omega, by omega, hN, hrl⟩ ⟨by omega, by omega, hM, hql⟩ (by omega) (by omega)
  · exact law_x op a b N r c d M q n m hR
end Go.Proofs.YtlnikilodakjmaaDoor.YTransSound
