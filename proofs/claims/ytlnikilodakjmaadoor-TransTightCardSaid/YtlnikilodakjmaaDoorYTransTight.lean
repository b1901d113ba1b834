/-
  All that is told is tight and of its type: the plain law of TransTight.
-/
import Derived.Test.YtlnikilodakjmaaDoorXTransTight
import Derived.Test.YtlnikilodakjmaaDoorSn
import Derived.Test.YtlnikilodakjmaaDoorNTransTight
import Derived.Test.YtlnikilodakjmaaDoorITransTight
import Derived.Test.YtlnikilodakjmaaDoorZTransTight
import Derived.Test.YtlnikilodakjmaaDoorRTransTight
import Derived.Test.YtlnikilodakjmaaDoorBTransTight
import Derived.Test.YtlnikilodakjmaaDoorCTransTight
import Derived.Test.YtlnikilodakjmaaDoorDTransTight
import Derived.Test.YtlnikilodakjmaaDoorUTransTight
import Derived.Lib.BitFns
import Derived.Lib.TrailingZeros
namespace Go.Proofs.YtlnikilodakjmaaDoor.YTransTight
open Go.Proofs.YtlnikilodakjmaaDoor.NTransTight Go.Proofs.YtlnikilodakjmaaDoor.ITransTight Go.Proofs.YtlnikilodakjmaaDoor.ZTransTight Go.Proofs.YtlnikilodakjmaaDoor.RTransTight Go.Proofs.YtlnikilodakjmaaDoor.BTransTight Go.Proofs.YtlnikilodakjmaaDoor.CTransTight Go.Proofs.YtlnikilodakjmaaDoor.DTransTight Go.Proofs.YtlnikilodakjmaaDoor.UTransTight Go.Proofs.YtlnikilodakjmaaDoor.Sx Go.Proofs.YtlnikilodakjmaaDoor.Sn Go.Proofs.YtlnikilodakjmaaDoor.XTransTight Go.Proofs.YtlnikilodakjmaaDoor.ETransTight
set_option linter.unusedSimpArgs false
set_option linter.unusedVariables false
theorem st_2_2 {C : Nat → Sx.Fn} {is : List Int} {bs : List Bool} {r : Option (List Int × List Bool)} {G : E} {f : Nat} {ii bb : List E} {k : Sx.T} {a0 a1 : Int} {c0 c1 : Bool} {F : Sx.Fn} {g : Bool} {l : List Int} {m : List Bool} (hC : C f = F) (hG : G.B is bs = g) (hl : ii.map (E.I is bs) = l) (hm : bb.map (E.B is bs) = m)
    (h : (bif g then F l m else some (List.replicate 2 0, List.replicate 2 false)) = some ([a0, a1], [c0, c1]))
    (hk : ∀ (x0 x1 : Int) (y0 y1 : Bool), x0 = a0 → x1 = a1 → y0 = c0 → y1 = c1 → k.den C (is ++ [x0, x1]) (bs ++ [y0, y1]) = r) : (Sx.T.call G f ii bb 2 2 k).den C is bs = r := st_call _ _ (by rw [hC, hG, hl, hm]; exact h) rfl rfl (hk _ _ _ _ rfl rfl rfl rfl)

theorem st_2_3 {C : Nat → Sx.Fn} {is : List Int} {bs : List Bool} {r : Option (List Int × List Bool)} {G : E} {f : Nat} {ii bb : List E} {k : Sx.T} {a0 a1 : Int} {c0 c1 c2 : Bool} {F : Sx.Fn} {g : Bool} {l : List Int} {m : List Bool} (hC : C f = F) (hG : G.B is bs = g) (hl : ii.map (E.I is bs) = l) (hm : bb.map (E.B is bs) = m)
    (h : (bif g then F l m else some (List.replicate 2 0, List.replicate 3 false)) = some ([a0, a1], [c0, c1, c2]))
    (hk : ∀ (x0 x1 : Int) (y0 y1 y2 : Bool), x0 = a0 → x1 = a1 → y0 = c0 → y1 = c1 → y2 = c2 → k.den C (is ++ [x0, x1]) (bs ++ [y0, y1, y2]) = r) : (Sx.T.call G f ii bb 2 3 k).den C is bs = r := st_call _ _ (by rw [hC, hG, hl, hm]; exact h) rfl rfl (hk _ _ _ _ _ rfl rfl rfl rfl rfl)
theorem e9_10 : Tab.fn a9 10 = F10 := Tab.fn_hd
theorem e9_11 : Tab.fn a9 11 = F11 := ((Tab.fn_tl rfl).trans Tab.fn_hd)
theorem e9_13 : Tab.fn a9 13 = F13 := ((Tab.fn_tl rfl).trans ((Tab.fn_tl rfl).trans Tab.fn_hd))
theorem e9_23 : Tab.fn a9 23 = F23 := ((Tab.fn_tl rfl).trans ((Tab.fn_tl rfl).trans ((Tab.fn_tl rfl).trans Tab.fn_hd)))
theorem e9_25 : Tab.fn a9 25 = F25 := ((Tab.fn_tl rfl).trans ((Tab.fn_tl rfl).trans ((Tab.fn_tl rfl).trans ((Tab.fn_tl rfl).trans Tab.fn_hd))))
theorem e9_27 : Tab.fn a9 27 = F27 := ((Tab.fn_tl rfl).trans ((Tab.fn_tl rfl).trans ((Tab.fn_tl rfl).trans ((Tab.fn_tl rfl).trans ((Tab.fn_tl rfl).trans Tab.fn_hd)))))
theorem e9_22 : Tab.fn a9 22 = F22 := ((Tab.fn_tl rfl).trans ((Tab.fn_tl rfl).trans ((Tab.fn_tl rfl).trans ((Tab.fn_tl rfl).trans ((Tab.fn_tl rfl).trans ((Tab.fn_tl rfl).trans Tab.fn_hd))))))
theorem e9_28 : Tab.fn a9 28 = F28 := ((Tab.fn_tl rfl).trans ((Tab.fn_tl rfl).trans ((Tab.fn_tl rfl).trans ((Tab.fn_tl rfl).trans ((Tab.fn_tl rfl).trans ((Tab.fn_tl rfl).trans ((Tab.fn_tl rfl).trans Tab.fn_hd)))))))
theorem e9_26 : Tab.fn a9 26 = F26 := ((Tab.fn_tl rfl).trans ((Tab.fn_tl rfl).trans ((Tab.fn_tl rfl).trans ((Tab.fn_tl rfl).trans ((Tab.fn_tl rfl).trans ((Tab.fn_tl rfl).trans ((Tab.fn_tl rfl).trans ((Tab.fn_tl rfl).trans Tab.fn_hd))))))))
theorem e22_28 : Tab.fn a22 28 = F28 := Tab.fn_hd
theorem e22_26 : Tab.fn a22 26 = F26 := ((Tab.fn_tl rfl).trans Tab.fn_hd)
theorem e27_59 : Tab.fn a27 59 = F59 := Tab.fn_hd
theorem e27_26 : Tab.fn a27 26 = F26 := ((Tab.fn_tl rfl).trans Tab.fn_hd)
theorem e27_60 : Tab.fn a27 60 = F60 := ((Tab.fn_tl rfl).trans ((Tab.fn_tl rfl).trans Tab.fn_hd))
theorem e28_44 : Tab.fn a28 44 = F44 := Tab.fn_hd




theorem rt_rA {lo hi N r : Nat} (h : Rt lo hi N r) : rA lo hi N r = true := by
  unfold rA; rw [rL_nat N r h.2.2.1 h.r64, decide_eq_true h.2.2.2, decide_eq_true (by have := h.1; omega)]; rfl
theorem q60_ (a b c d : Int) : F60 [a, b, c, d] [] = some ([], [(decide (c ≤ a)) && (decide (b ≤ d))]) := rfl
theorem clg {g : Bool} {x : Option (List Int × List Bool)} (h : g = true → x = some ([], [true])) : (bif g then x else some (List.replicate 0 0, List.replicate 1 false)) = some ([], [g]) := by
  cases g
  · rfl
  · exact h rfl

set_option maxHeartbeats 4000000 in
theorem q27_n (lo hi N r : Nat) (t : Int) (hR : Rt lo hi N r) (htg : tg lo hi N r = some (lo, hi, N, r)) (hT : hi ≤ Tn t) : F27 [(lo : Int), (hi : Int), (N : Int), (r : Int), t] [] = some ([], [true]) := by
  refine Eq.trans (Fd_of (n := 5) (m := 0) (t := XTransTight.t27) (C := Tab.fn a27) rfl rfl) ?_
  rw [XTransTight.t27]
  refine st_4_1 (e27_59) (g := true) rfl (l := [(lo : Int), (hi : Int), (N : Int), (r : Int)]) rfl (m := []) rfl (cl_t (q59 hR)) fun i5 i6 i7 i8 b0 hi5 hi6 hi7 hi8 hb0 => ?_
  show T.den _ _ [(lo : Int), (hi : Int), (N : Int), (r : Int), t, i5, i6, i7, i8] [b0] = _
  refine st_lb fun b1 hb1 => ?_
  replace hb1 : b1 = ((((lo : Int) == i5) && ((hi : Int) == i6)) && (((N : Int) == i7) && ((r : Int) == i8))) := hb1
  show T.den _ _ [(lo : Int), (hi : Int), (N : Int), (r : Int), t, i5, i6, i7, i8] [b0, b1] = _
  refine st_4_0 (e27_26) (g := (b0 && b1)) rfl (l := [t]) rfl (m := []) rfl (cl_4 (q26_t t)) fun i9 i10 i11 i12 hi9 hi10 hi11 hi12 => ?_
  show T.den _ _ [(lo : Int), (hi : Int), (N : Int), (r : Int), t, i5, i6, i7, i8, i9, i10, i11, i12] [b0, b1] = _
  refine st_0_1 (e27_60) (g := (b0 && b1)) rfl (l := [(lo : Int), (hi : Int), i9, i10]) rfl (m := []) rfl (cl_b (q60_ (lo : Int) (hi : Int) i9 i10)) fun b2 hb2 => ?_
  show T.den _ _ [(lo : Int), (hi : Int), (N : Int), (r : Int), t, i5, i6, i7, i8, i9, i10, i11, i12] [b0, b1, b2] = _
  refine st_ret ?_
  show some ([], [((b0 && b1) && b2)]) = _
  have e0 : b0 = true := by rw [hb0, htg]; rfl
  have e1 : b1 = true := by rw [hb1, hi5, hi6, hi7, hi8, htg]; simp [t0, t1, t2, t3]
  rw [hb2, hi9, hi10, e0, e1]
  refine rb ?_
  simp; omega

theorem q27_f {t : Int} {S : Nat → Prop} {i j k l : Int} (h : FH (Tn t) S i j k l) : F27 [i, j, k, l, t] [] = some ([], [true]) := by
  obtain ⟨a, b, c, d, rfl, rfl, rfl, rfl, h1, h2, h3, _⟩ := h; exact q27_n a b c d t h1 h3 h2

set_option maxHeartbeats 4000000 in
theorem q23_o (op : Int) (lo hi N r : Nat) (hT : F13 [op] [] = some ([0, 0, 0, 0], [false])) : F23 [op, (lo : Int), (hi : Int), (N : Int), (r : Int)] [] = some ([0, 0, 0, 0], [false]) := by
  refine Eq.trans (Fd_of (n := 5) (m := 0) (t := XTransTight.t23) (C := Tab.fn a23) rfl rfl) ?_
  rw [XTransTight.t23]
  refine st_4_1 (e23_13) (g := true) rfl (l := [op]) rfl (m := []) rfl (cl_t hT) fun i5 i6 i7 i8 b0 hi5 hi6 hi7 hi8 hb0 => ?_
  show T.den _ _ [op, (lo : Int), (hi : Int), (N : Int), (r : Int), i5, i6, i7, i8] [b0] = _
  refine st_ite (fun hc => ?_) (fun hc => ?_)
  · replace hc : (i5 == 0) = true := hc
    have c1 := hc
    clear hc
    refine st_ret ?_
    show some ([0, 0, 0, 0], [false]) = _
    rfl
  · replace hc : (i5 == 0) = false := hc
    have c2 := hc
    clear hc
    rw [hi5] at c2; exact absurd c2 (by decide)

set_option maxHeartbeats 4000000 in
theorem q23_b (op : Int) (i o : Int) (lo hi N r : Nat) (hT : F13 [op] [] = some ([2, i, i, o], [true])) : F23 [op, (lo : Int), (hi : Int), (N : Int), (r : Int)] [] = some ([0, 0, 0, 0], [false]) := by
  refine Eq.trans (Fd_of (n := 5) (m := 0) (t := XTransTight.t23) (C := Tab.fn a23) rfl rfl) ?_
  rw [XTransTight.t23]
  refine st_4_1 (e23_13) (g := true) rfl (l := [op]) rfl (m := []) rfl (cl_t hT) fun i5 i6 i7 i8 b0 hi5 hi6 hi7 hi8 hb0 => ?_
  show T.den _ _ [op, (lo : Int), (hi : Int), (N : Int), (r : Int), i5, i6, i7, i8] [b0] = _
  refine st_ite (fun hc => ?_) (fun hc => ?_)
  · replace hc : (i5 == 0) = true := hc
    have c1 := hc
    clear hc
    rw [hi5] at c1; exact absurd c1 (by decide)
  · replace hc : (i5 == 0) = false := hc
    have c2 := hc
    clear hc
    refine st_ite (fun hc => ?_) (fun hc => ?_)
    · replace hc : (i5 == 1) = true := hc
      have c3 := hc
      clear hc
      rw [hi5] at c3; exact absurd c3 (by decide)
    · replace hc : (i5 == 1) = false := hc
      have c4 := hc
      clear hc
      refine st_ite (fun hc => ?_) (fun hc => ?_)
      · replace hc : (i5 == 2) = true := hc
        have c5 := hc
        clear hc
        refine st_ret ?_
        show some ([0, 0, 0, 0], [false]) = _
        rfl
      · replace hc : (i5 == 2) = false := hc
        have c6 := hc
        clear hc
        rw [hi5] at c6; exact absurd c6 (by decide)

set_option maxHeartbeats 4000000 in
theorem q25_o (op : Int) (lo hi N r lo2 hi2 M q : Nat) (hT : F13 [op] [] = some ([0, 0, 0, 0], [false])) : F25 [op, (lo : Int), (hi : Int), (N : Int), (r : Int), (lo2 : Int), (hi2 : Int), (M : Int), (q : Int)] [] = some ([0, 0, 0, 0], [false]) := by
  refine Eq.trans (Fd_of (n := 9) (m := 0) (t := XTransTight.t25) (C := Tab.fn a25) rfl rfl) ?_
  rw [XTransTight.t25]
  refine st_4_1 (e25_13) (g := true) rfl (l := [op]) rfl (m := []) rfl (cl_t hT) fun i9 i10 i11 i12 b0 hi9 hi10 hi11 hi12 hb0 => ?_
  show T.den _ _ [op, (lo : Int), (hi : Int), (N : Int), (r : Int), (lo2 : Int), (hi2 : Int), (M : Int), (q : Int), i9, i10, i11, i12] [b0] = _
  refine st_ite (fun hc => ?_) (fun hc => ?_)
  · replace hc : (i9 == 0) = true := hc
    have c1 := hc
    clear hc
    refine st_ret ?_
    show some ([0, 0, 0, 0], [false]) = _
    rfl
  · replace hc : (i9 == 0) = false := hc
    have c2 := hc
    clear hc
    rw [hi9] at c2; exact absurd c2 (by decide)

set_option maxHeartbeats 4000000 in
theorem q25_u (op : Int) (i o : Int) (lo hi N r lo2 hi2 M q : Nat) (hT : F13 [op] [] = some ([1, i, 0, o], [true])) : F25 [op, (lo : Int), (hi : Int), (N : Int), (r : Int), (lo2 : Int), (hi2 : Int), (M : Int), (q : Int)] [] = some ([0, 0, 0, 0], [false]) := by
  refine Eq.trans (Fd_of (n := 9) (m := 0) (t := XTransTight.t25) (C := Tab.fn a25) rfl rfl) ?_
  rw [XTransTight.t25]
  refine st_4_1 (e25_13) (g := true) rfl (l := [op]) rfl (m := []) rfl (cl_t hT) fun i9 i10 i11 i12 b0 hi9 hi10 hi11 hi12 hb0 => ?_
  show T.den _ _ [op, (lo : Int), (hi : Int), (N : Int), (r : Int), (lo2 : Int), (hi2 : Int), (M : Int), (q : Int), i9, i10, i11, i12] [b0] = _
  refine st_ite (fun hc => ?_) (fun hc => ?_)
  · replace hc : (i9 == 0) = true := hc
    have c1 := hc
    clear hc
    rw [hi9] at c1; exact absurd c1 (by decide)
  · replace hc : (i9 == 0) = false := hc
    have c2 := hc
    clear hc
    refine st_ite (fun hc => ?_) (fun hc => ?_)
    · replace hc : (i9 == 1) = true := hc
      have c3 := hc
      clear hc
      refine st_ret ?_
      show some ([0, 0, 0, 0], [false]) = _
      rfl
    · replace hc : (i9 == 1) = false := hc
      have c4 := hc
      clear hc
      rw [hi9] at c4; exact absurd c4 (by decide)

set_option maxHeartbeats 4000000 in
theorem q44_o (op : Int) (h : op ≠ 40 ∧ op ≠ 41 ∧ op ≠ 44 ∧ op ≠ 45 ∧ op ≠ 46 ∧ op ≠ 47 ∧ op ≠ 48 ∧ op ≠ 49 ∧ op ≠ 50 ∧ op ≠ 51 ∧ op ≠ 52 ∧ op ≠ 53 ∧ op ≠ 54 ∧ op ≠ 55 ∧ op ≠ 58 ∧ op ≠ 59 ∧ op ≠ 60 ∧ op ≠ 61 ∧ op ≠ 62) : F44 [op] [] = some ([0, 0], [false, false, false]) := by
  refine Eq.trans (Fd_of (n := 1) (m := 0) (t := XTransTight.t44) (C := Tab.fn a44) rfl rfl) ?_
  rw [XTransTight.t44]
  refine st_ite (fun hc => ?_) (fun hc => ?_)
  · replace hc : (op == 40) = true := hc
    have c1 := hc
    clear hc
    exfalso; have := eq_of_beq c1; omega
  · replace hc : (op == 40) = false := hc
    have c2 := hc
    clear hc
    refine st_ite (fun hc => ?_) (fun hc => ?_)
    · replace hc : (op == 41) = true := hc
      have c3 := hc
      clear hc
      exfalso; have := eq_of_beq c3; omega
    · replace hc : (op == 41) = false := hc
      have c4 := hc
      clear hc
      refine st_ite (fun hc => ?_) (fun hc => ?_)
      · replace hc : (op == 44) = true := hc
        have c5 := hc
        clear hc
        exfalso; have := eq_of_beq c5; omega
      · replace hc : (op == 44) = false := hc
        have c6 := hc
        clear hc
        refine st_ite (fun hc => ?_) (fun hc => ?_)
        · replace hc : (op == 45) = true := hc
          have c7 := hc
          clear hc
          exfalso; have := eq_of_beq c7; omega
        · replace hc : (op == 45) = false := hc
          have c8 := hc
          clear hc
          refine st_ite (fun hc => ?_) (fun hc => ?_)
          · replace hc : (op == 46) = true := hc
            have c9 := hc
            clear hc
            exfalso; have := eq_of_beq c9; omega
          · replace hc : (op == 46) = false := hc
            have c10 := hc
            clear hc
            refine st_ite (fun hc => ?_) (fun hc => ?_)
            · replace hc : (op == 47) = true := hc
              have c11 := hc
              clear hc
              exfalso; have := eq_of_beq c11; omega
            · replace hc : (op == 47) = false := hc
              have c12 := hc
              clear hc
              refine st_ite (fun hc => ?_) (fun hc => ?_)
              · replace hc : (op == 48) = true := hc
                have c13 := hc
                clear hc
                exfalso; have := eq_of_beq c13; omega
              · replace hc : (op == 48) = false := hc
                have c14 := hc
                clear hc
                refine st_ite (fun hc => ?_) (fun hc => ?_)
                · replace hc : (op == 49) = true := hc
                  have c15 := hc
                  clear hc
                  exfalso; have := eq_of_beq c15; omega
                · replace hc : (op == 49) = false := hc
                  have c16 := hc
                  clear hc
                  refine st_ite (fun hc => ?_) (fun hc => ?_)
                  · replace hc : (op == 50) = true := hc
                    have c17 := hc
                    clear hc
                    exfalso; have := eq_of_beq c17; omega
                  · replace hc : (op == 50) = false := hc
                    have c18 := hc
                    clear hc
                    refine st_ite (fun hc => ?_) (fun hc => ?_)
                    · replace hc : (op == 51) = true := hc
                      have c19 := hc
                      clear hc
                      exfalso; have := eq_of_beq c19; omega
                    · replace hc : (op == 51) = false := hc
                      have c20 := hc
                      clear hc
                      refine st_ite (fun hc => ?_) (fun hc => ?_)
                      · replace hc : (op == 52) = true := hc
                        have c21 := hc
                        clear hc
                        exfalso; have := eq_of_beq c21; omega
                      · replace hc : (op == 52) = false := hc
                        have c22 := hc
                        clear hc
                        refine st_ite (fun hc => ?_) (fun hc => ?_)
                        · replace hc : (op == 53) = true := hc
                          have c23 := hc
                          clear hc
                          exfalso; have := eq_of_beq c23; omega
                        · replace hc : (op == 53) = false := hc
                          have c24 := hc
                          clear hc
                          refine st_ite (fun hc => ?_) (fun hc => ?_)
                          · replace hc : (op == 54) = true := hc
                            have c25 := hc
                            clear hc
                            exfalso; have := eq_of_beq c25; omega
                          · replace hc : (op == 54) = false := hc
                            have c26 := hc
                            clear hc
                            refine st_ite (fun hc => ?_) (fun hc => ?_)
                            · replace hc : (op == 55) = true := hc
                              have c27 := hc
                              clear hc
                              exfalso; have := eq_of_beq c27; omega
                            · replace hc : (op == 55) = false := hc
                              have c28 := hc
                              clear hc
                              refine st_ite (fun hc => ?_) (fun hc => ?_)
                              · replace hc : (op == 58) = true := hc
                                have c29 := hc
                                clear hc
                                exfalso; have := eq_of_beq c29; omega
                              · replace hc : (op == 58) = false := hc
                                have c30 := hc
                                clear hc
                                refine st_ite (fun hc => ?_) (fun hc => ?_)
                                · replace hc : (op == 59) = true := hc
                                  have c31 := hc
                                  clear hc
                                  exfalso; have := eq_of_beq c31; omega
                                · replace hc : (op == 59) = false := hc
                                  have c32 := hc
                                  clear hc
                                  refine st_ite (fun hc => ?_) (fun hc => ?_)
                                  · replace hc : (op == 60) = true := hc
                                    have c33 := hc
                                    clear hc
                                    exfalso; have := eq_of_beq c33; omega
                                  · replace hc : (op == 60) = false := hc
                                    have c34 := hc
                                    clear hc
                                    refine st_ite (fun hc => ?_) (fun hc => ?_)
                                    · replace hc : (op == 61) = true := hc
                                      have c35 := hc
                                      clear hc
                                      exfalso; have := eq_of_beq c35; omega
                                    · replace hc : (op == 61) = false := hc
                                      have c36 := hc
                                      clear hc
                                      refine st_ite (fun hc => ?_) (fun hc => ?_)
                                      · replace hc : (op == 62) = true := hc
                                        have c37 := hc
                                        clear hc
                                        exfalso; have := eq_of_beq c37; omega
                                      · replace hc : (op == 62) = false := hc
                                        have c38 := hc
                                        clear hc
                                        refine st_ret ?_
                                        show some ([0, 0], [false, false, false]) = _
                                        rfl

set_option maxHeartbeats 4000000 in
theorem q28_o (op : Int) (h : op ≠ 40 ∧ op ≠ 41 ∧ op ≠ 44 ∧ op ≠ 45 ∧ op ≠ 46 ∧ op ≠ 47 ∧ op ≠ 48 ∧ op ≠ 49 ∧ op ≠ 50 ∧ op ≠ 51 ∧ op ≠ 52 ∧ op ≠ 53 ∧ op ≠ 54 ∧ op ≠ 55 ∧ op ≠ 58 ∧ op ≠ 59 ∧ op ≠ 60 ∧ op ≠ 61 ∧ op ≠ 62) : F28 [op] [] = some ([0, 0], [false, false]) := by
  refine Eq.trans (Fd_of (n := 1) (m := 0) (t := XTransTight.t28) (C := Tab.fn a28) rfl rfl) ?_
  rw [XTransTight.t28]
  refine st_2_3 (e28_44) (g := true) rfl (l := [op]) rfl (m := []) rfl (cl_t (q44_o op h)) fun i1 i2 b0 b1 b2 hi1 hi2 hb0 hb1 hb2 => ?_
  show T.den _ _ [op, i1, i2] [b0, b1, b2] = _
  refine st_ret ?_
  show some ([i1, i2], [b1, b2]) = _
  rw [hi1, hi2, hb1, hb2]

set_option maxHeartbeats 4000000 in
theorem q22_o (op : Int) (h : op ≠ 40 ∧ op ≠ 41 ∧ op ≠ 44 ∧ op ≠ 45 ∧ op ≠ 46 ∧ op ≠ 47 ∧ op ≠ 48 ∧ op ≠ 49 ∧ op ≠ 50 ∧ op ≠ 51 ∧ op ≠ 52 ∧ op ≠ 53 ∧ op ≠ 54 ∧ op ≠ 55 ∧ op ≠ 58 ∧ op ≠ 59 ∧ op ≠ 60 ∧ op ≠ 61 ∧ op ≠ 62) : F22 [op] [] = some ([0, 0, 0, 0], [false]) := by
  refine Eq.trans (Fd_of (n := 1) (m := 0) (t := XTransTight.t22) (C := Tab.fn a22) rfl rfl) ?_
  rw [XTransTight.t22]
  refine st_2_2 (e22_28) (g := true) rfl (l := [op]) rfl (m := []) rfl (cl_t (q28_o op h)) fun i1 i2 b0 b1 hi1 hi2 hb0 hb1 => ?_
  show T.den _ _ [op, i1, i2] [b0, b1] = _
  refine st_ite (fun hc => ?_) (fun hc => ?_)
  · replace hc : ((!b1) || b0) = true := hc
    have c1 := hc
    clear hc
    refine st_ret ?_
    show some ([0, 0, 0, 0], [false]) = _
    rfl
  · replace hc : ((!b1) || b0) = false := hc
    have c2 := hc
    clear hc
    rw [hb1, hb0] at c2; cases c2

theorem q28_40 : F28 [40] [] = some ([127, 4], [false, true]) := by kernel_rfl

theorem q22_40 : F22 [40] [] = some ([0, 4294967295, 0, 0], [true]) := by kernel_rfl

theorem q27_40 : F27 [0, 4294967295, 0, 0, 127] [] = some ([], [true]) := q27_f (S := fun x => x ≤ 4294967295) (fin_0 4294967295 (by decide) (by decide) (by decide))

theorem q28_41 : F28 [41] [] = some ([126, 8], [false, true]) := by kernel_rfl

theorem q22_41 : F22 [41] [] = some ([0, 18446744073709551615, 0, 0], [true]) := by kernel_rfl

theorem q27_41 : F27 [0, 18446744073709551615, 0, 0, 126] [] = some ([], [true]) := q27_f (S := fun x => x ≤ 18446744073709551615) (fin_0 18446744073709551615 (by decide) (by decide) (by decide))

theorem q28_44 : F28 [44] [] = some ([127, 1], [false, true]) := by kernel_rfl

theorem q22_44 : F22 [44] [] = some ([0, 4294967295, 0, 0], [true]) := by kernel_rfl

theorem q27_44 : F27 [0, 4294967295, 0, 0, 127] [] = some ([], [true]) := q27_f (S := fun x => x ≤ 4294967295) (fin_0 4294967295 (by decide) (by decide) (by decide))

theorem q28_45 : F28 [45] [] = some ([127, 1], [false, true]) := by kernel_rfl

theorem q22_45 : F22 [45] [] = some ([0, 255, 0, 0], [true]) := by kernel_rfl

theorem q27_45 : F27 [0, 255, 0, 0, 127] [] = some ([], [true]) := q27_f (S := fun x => x ≤ 255) (fin_0 255 (by decide) (by decide) (by decide))

theorem q28_46 : F28 [46] [] = some ([127, 2], [false, true]) := by kernel_rfl

theorem q22_46 : F22 [46] [] = some ([0, 4294967295, 0, 0], [true]) := by kernel_rfl

theorem q27_46 : F27 [0, 4294967295, 0, 0, 127] [] = some ([], [true]) := q27_f (S := fun x => x ≤ 4294967295) (fin_0 4294967295 (by decide) (by decide) (by decide))

theorem q28_47 : F28 [47] [] = some ([127, 2], [false, true]) := by kernel_rfl

theorem q22_47 : F22 [47] [] = some ([0, 65535, 0, 0], [true]) := by kernel_rfl

theorem q27_47 : F27 [0, 65535, 0, 0, 127] [] = some ([], [true]) := q27_f (S := fun x => x ≤ 65535) (fin_0 65535 (by decide) (by decide) (by decide))

theorem q28_48 : F28 [48] [] = some ([126, 1], [false, true]) := by kernel_rfl

theorem q22_48 : F22 [48] [] = some ([0, 18446744073709551615, 0, 0], [true]) := by kernel_rfl

theorem q27_48 : F27 [0, 18446744073709551615, 0, 0, 126] [] = some ([], [true]) := q27_f (S := fun x => x ≤ 18446744073709551615) (fin_0 18446744073709551615 (by decide) (by decide) (by decide))

theorem q28_49 : F28 [49] [] = some ([126, 1], [false, true]) := by kernel_rfl

theorem q22_49 : F22 [49] [] = some ([0, 255, 0, 0], [true]) := by kernel_rfl

theorem q27_49 : F27 [0, 255, 0, 0, 126] [] = some ([], [true]) := q27_f (S := fun x => x ≤ 255) (fin_0 255 (by decide) (by decide) (by decide))

theorem q28_50 : F28 [50] [] = some ([126, 2], [false, true]) := by kernel_rfl

theorem q22_50 : F22 [50] [] = some ([0, 18446744073709551615, 0, 0], [true]) := by kernel_rfl

theorem q27_50 : F27 [0, 18446744073709551615, 0, 0, 126] [] = some ([], [true]) := q27_f (S := fun x => x ≤ 18446744073709551615) (fin_0 18446744073709551615 (by decide) (by decide) (by decide))

theorem q28_51 : F28 [51] [] = some ([126, 2], [false, true]) := by kernel_rfl

theorem q22_51 : F22 [51] [] = some ([0, 65535, 0, 0], [true]) := by kernel_rfl

theorem q27_51 : F27 [0, 65535, 0, 0, 126] [] = some ([], [true]) := q27_f (S := fun x => x ≤ 65535) (fin_0 65535 (by decide) (by decide) (by decide))

theorem q28_52 : F28 [52] [] = some ([126, 4], [false, true]) := by kernel_rfl

theorem q22_52 : F22 [52] [] = some ([0, 18446744073709551615, 0, 0], [true]) := by kernel_rfl

theorem q27_52 : F27 [0, 18446744073709551615, 0, 0, 126] [] = some ([], [true]) := q27_f (S := fun x => x ≤ 18446744073709551615) (fin_0 18446744073709551615 (by decide) (by decide) (by decide))

theorem q28_53 : F28 [53] [] = some ([126, 4], [false, true]) := by kernel_rfl

theorem q22_53 : F22 [53] [] = some ([0, 4294967295, 0, 0], [true]) := by kernel_rfl

theorem q27_53 : F27 [0, 4294967295, 0, 0, 126] [] = some ([], [true]) := q27_f (S := fun x => x ≤ 4294967295) (fin_0 4294967295 (by decide) (by decide) (by decide))

theorem q28_54 : F28 [54] [] = some ([127, 4], [true, true]) := by kernel_rfl

theorem q22_54 : F22 [54] [] = some ([0, 0, 0, 0], [false]) := by kernel_rfl

theorem q28_55 : F28 [55] [] = some ([126, 8], [true, true]) := by kernel_rfl

theorem q22_55 : F22 [55] [] = some ([0, 0, 0, 0], [false]) := by kernel_rfl

theorem q28_58 : F28 [58] [] = some ([127, 1], [true, true]) := by kernel_rfl

theorem q22_58 : F22 [58] [] = some ([0, 0, 0, 0], [false]) := by kernel_rfl

theorem q28_59 : F28 [59] [] = some ([127, 2], [true, true]) := by kernel_rfl

theorem q22_59 : F22 [59] [] = some ([0, 0, 0, 0], [false]) := by kernel_rfl

theorem q28_60 : F28 [60] [] = some ([126, 1], [true, true]) := by kernel_rfl

theorem q22_60 : F22 [60] [] = some ([0, 0, 0, 0], [false]) := by kernel_rfl

theorem q28_61 : F28 [61] [] = some ([126, 2], [true, true]) := by kernel_rfl

theorem q22_61 : F22 [61] [] = some ([0, 0, 0, 0], [false]) := by kernel_rfl

theorem q28_62 : F28 [62] [] = some ([126, 4], [true, true]) := by kernel_rfl

theorem q22_62 : F22 [62] [] = some ([0, 0, 0, 0], [false]) := by kernel_rfl

set_option maxHeartbeats 4000000 in
theorem law_on (op : Int) (lo hi N r lo2 hi2 M q : Nat) (h : Rt lo hi N r) (h2 : Rt lo2 hi2 M q) (t w : Int) (s kn : Bool) (h22 : F22 [op] [] = some ([0, 0, 0, 0], [false])) (h28 : F28 [op] [] = some ([t, w], [s, kn])) (hks : (kn && !s) = false) (hT : F13 [op] [] = some ([0, 0, 0, 0], [false])) : F9 [op, (lo : Int), (hi : Int), (N : Int), (r : Int), (lo2 : Int), (hi2 : Int), (M : Int), (q : Int)] [] = some ([], [true]) := by
  refine Eq.trans (Fd_of (n := 9) (m := 0) (t := XTransTight.t9) (C := Tab.fn a9) rfl rfl) ?_
  rw [XTransTight.t9]
  refine st_0_1 (e9_10) (g := true) rfl (l := []) rfl (m := []) rfl (cl_t q10) fun b0 hb0 => ?_
  show T.den _ _ [op, (lo : Int), (hi : Int), (N : Int), (r : Int), (lo2 : Int), (hi2 : Int), (M : Int), (q : Int)] [b0] = _
  refine st_ite (fun hc => ?_) (fun hc => ?_)
  · replace hc : (!b0) = true := hc
    have c1 := hc
    clear hc
    rw [hb0] at c1; cases c1
  · replace hc : (!b0) = false := hc
    have c2 := hc
    clear hc
    refine st_0_1 (e9_11) (g := true) rfl (l := [(lo : Int), (hi : Int), (N : Int), (r : Int)]) rfl (m := []) rfl (cl_t (q11 (lo : Int) (hi : Int) (N : Int) (r : Int))) fun b1 hb1 => ?_
    show T.den _ _ [op, (lo : Int), (hi : Int), (N : Int), (r : Int), (lo2 : Int), (hi2 : Int), (M : Int), (q : Int)] [b0, b1] = _
    refine st_0_1 (e9_11) (g := b1) rfl (l := [(lo2 : Int), (hi2 : Int), (M : Int), (q : Int)]) rfl (m := []) rfl (cl_b (q11 (lo2 : Int) (hi2 : Int) (M : Int) (q : Int))) fun b2 hb2 => ?_
    show T.den _ _ [op, (lo : Int), (hi : Int), (N : Int), (r : Int), (lo2 : Int), (hi2 : Int), (M : Int), (q : Int)] [b0, b1, b2] = _
    refine st_ite (fun hc => ?_) (fun hc => ?_)
    · replace hc : ((!b1) || (!b2)) = true := hc
      have c3 := hc
      clear hc
      rw [hb2, hb1, rt_rA h, rt_rA h2] at c3; cases c3
    · replace hc : ((!b1) || (!b2)) = false := hc
      have c4 := hc
      clear hc
      refine st_4_1 (e9_13) (g := true) rfl (l := [op]) rfl (m := []) rfl (cl_t hT) fun i9 i10 i11 i12 b3 hi9 hi10 hi11 hi12 hb3 => ?_
      show T.den _ _ [op, (lo : Int), (hi : Int), (N : Int), (r : Int), (lo2 : Int), (hi2 : Int), (M : Int), (q : Int), i9, i10, i11, i12] [b0, b1, b2, b3] = _
      refine st_ite (fun hc => ?_) (fun hc => ?_)
      · replace hc : (i9 == 0) = true := hc
        have c5 := hc
        clear hc
        refine st_4_1 (e9_23) (g := true) rfl (l := [op, (lo : Int), (hi : Int), (N : Int), (r : Int)]) rfl (m := []) rfl (cl_t (q23_o op lo hi N r hT)) fun i13 i14 i15 i16 b4 hi13 hi14 hi15 hi16 hb4 => ?_
        show T.den _ _ [op, (lo : Int), (hi : Int), (N : Int), (r : Int), (lo2 : Int), (hi2 : Int), (M : Int), (q : Int), i9, i10, i11, i12, i13, i14, i15, i16] [b0, b1, b2, b3, b4] = _
        refine st_4_1 (e9_25) (g := true) rfl (l := [op, (lo : Int), (hi : Int), (N : Int), (r : Int), (lo2 : Int), (hi2 : Int), (M : Int), (q : Int)]) rfl (m := []) rfl (cl_t (q25_o op lo hi N r lo2 hi2 M q hT)) fun i17 i18 i19 i20 b5 hi17 hi18 hi19 hi20 hb5 => ?_
        show T.den _ _ [op, (lo : Int), (hi : Int), (N : Int), (r : Int), (lo2 : Int), (hi2 : Int), (M : Int), (q : Int), i9, i10, i11, i12, i13, i14, i15, i16, i17, i18, i19, i20] [b0, b1, b2, b3, b4, b5] = _
        refine st_0_1 (e9_27) (g := b4) rfl (l := [i13, i14, i15, i16, i12]) rfl (m := []) rfl (clg (fun hg => by rw [hb4] at hg; cases hg)) fun b6 hb6 => ?_
        show T.den _ _ [op, (lo : Int), (hi : Int), (N : Int), (r : Int), (lo2 : Int), (hi2 : Int), (M : Int), (q : Int), i9, i10, i11, i12, i13, i14, i15, i16, i17, i18, i19, i20] [b0, b1, b2, b3, b4, b5, b6] = _
        refine st_0_1 (e9_27) (g := ((!(b4 && (!b6))) && b5)) rfl (l := [i17, i18, i19, i20, i12]) rfl (m := []) rfl (clg (fun hg => by rw [hb5, Bool.and_false] at hg; cases hg)) fun b7 hb7 => ?_
        show T.den _ _ [op, (lo : Int), (hi : Int), (N : Int), (r : Int), (lo2 : Int), (hi2 : Int), (M : Int), (q : Int), i9, i10, i11, i12, i13, i14, i15, i16, i17, i18, i19, i20] [b0, b1, b2, b3, b4, b5, b6, b7] = _
        refine st_lb fun b8 hb8 => ?_
        replace hb8 : b8 = ((b4 && (!b6)) || (b5 && (!b7))) := hb8
        show T.den _ _ [op, (lo : Int), (hi : Int), (N : Int), (r : Int), (lo2 : Int), (hi2 : Int), (M : Int), (q : Int), i9, i10, i11, i12, i13, i14, i15, i16, i17, i18, i19, i20] [b0, b1, b2, b3, b4, b5, b6, b7, b8] = _
        refine st_ite (fun hc => ?_) (fun hc => ?_)
        · replace hc : b8 = true := hc
          have c6 := hc
          clear hc
          rw [hb8, hb7, hb6, hb5, hb4] at c6; cases c6
        · replace hc : b8 = false := hc
          have c7 := hc
          clear hc
          refine st_4_1 (e9_22) (g := true) rfl (l := [op]) rfl (m := []) rfl (cl_t h22) fun i21 i22 i23 i24 b9 hi21 hi22 hi23 hi24 hb9 => ?_
          show T.den _ _ [op, (lo : Int), (hi : Int), (N : Int), (r : Int), (lo2 : Int), (hi2 : Int), (M : Int), (q : Int), i9, i10, i11, i12, i13, i14, i15, i16, i17, i18, i19, i20, i21, i22, i23, i24] [b0, b1, b2, b3, b4, b5, b6, b7, b8, b9] = _
          refine st_2_2 (e9_28) (g := true) rfl (l := [op]) rfl (m := []) rfl (cl_t h28) fun i25 i26 b10 b11 hi25 hi26 hb10 hb11 => ?_
          show T.den _ _ [op, (lo : Int), (hi : Int), (N : Int), (r : Int), (lo2 : Int), (hi2 : Int), (M : Int), (q : Int), i9, i10, i11, i12, i13, i14, i15, i16, i17, i18, i19, i20, i21, i22, i23, i24, i25, i26] [b0, b1, b2, b3, b4, b5, b6, b7, b8, b9, b10, b11] = _
          refine st_lb fun b12 hb12 => ?_
          replace hb12 : b12 = (!(b9 == (b11 && (!b10)))) := hb12
          show T.den _ _ [op, (lo : Int), (hi : Int), (N : Int), (r : Int), (lo2 : Int), (hi2 : Int), (M : Int), (q : Int), i9, i10, i11, i12, i13, i14, i15, i16, i17, i18, i19, i20, i21, i22, i23, i24, i25, i26] [b0, b1, b2, b3, b4, b5, b6, b7, b8, b9, b10, b11, b12] = _
          refine st_lb fun b13 hb13 => ?_
          replace hb13 : b13 = (!(((i21 == 0) && (i22 == 0)) && ((i23 == 0) && (i24 == 0)))) := hb13
          show T.den _ _ [op, (lo : Int), (hi : Int), (N : Int), (r : Int), (lo2 : Int), (hi2 : Int), (M : Int), (q : Int), i9, i10, i11, i12, i13, i14, i15, i16, i17, i18, i19, i20, i21, i22, i23, i24, i25, i26] [b0, b1, b2, b3, b4, b5, b6, b7, b8, b9, b10, b11, b12, b13] = _
          refine st_lb fun b14 hb14 => ?_
          replace hb14 : b14 = ((b12 || ((!b9) && b13)) || (b3 && b9)) := hb14
          show T.den _ _ [op, (lo : Int), (hi : Int), (N : Int), (r : Int), (lo2 : Int), (hi2 : Int), (M : Int), (q : Int), i9, i10, i11, i12, i13, i14, i15, i16, i17, i18, i19, i20, i21, i22, i23, i24, i25, i26] [b0, b1, b2, b3, b4, b5, b6, b7, b8, b9, b10, b11, b12, b13, b14] = _
          refine st_ite (fun hc => ?_) (fun hc => ?_)
          · replace hc : b14 = true := hc
            have c8 := hc
            clear hc
            rw [hb14, hb13, hb12, hb11, hb10, hb9, hb3, hi21, hi22, hi23, hi24, hks] at c8; cases c8
          · replace hc : b14 = false := hc
            have c9 := hc
            clear hc
            refine st_0_1 (e9_27) (g := b9) rfl (l := [i21, i22, i23, i24, i25]) rfl (m := []) rfl (clg (fun hg => by rw [hb9] at hg; cases hg)) fun b15 hb15 => ?_
            show T.den _ _ [op, (lo : Int), (hi : Int), (N : Int), (r : Int), (lo2 : Int), (hi2 : Int), (M : Int), (q : Int), i9, i10, i11, i12, i13, i14, i15, i16, i17, i18, i19, i20, i21, i22, i23, i24, i25, i26] [b0, b1, b2, b3, b4, b5, b6, b7, b8, b9, b10, b11, b12, b13, b14, b15] = _
            refine st_4_0 (e9_26) (g := (b9 && b15)) rfl (l := [i25]) rfl (m := []) rfl (cl_4 (q26_t i25)) fun i27 i28 i29 i30 hi27 hi28 hi29 hi30 => ?_
            show T.den _ _ [op, (lo : Int), (hi : Int), (N : Int), (r : Int), (lo2 : Int), (hi2 : Int), (M : Int), (q : Int), i9, i10, i11, i12, i13, i14, i15, i16, i17, i18, i19, i20, i21, i22, i23, i24, i25, i26, i27, i28, i29, i30] [b0, b1, b2, b3, b4, b5, b6, b7, b8, b9, b10, b11, b12, b13, b14, b15] = _
            refine st_lb fun b16 hb16 => ?_
            replace hb16 : b16 = (((i21 == i27) && (i22 == i28)) && ((i23 == i29) && (i24 == i30))) := hb16
            show T.den _ _ [op, (lo : Int), (hi : Int), (N : Int), (r : Int), (lo2 : Int), (hi2 : Int), (M : Int), (q : Int), i9, i10, i11, i12, i13, i14, i15, i16, i17, i18, i19, i20, i21, i22, i23, i24, i25, i26, i27, i28, i29, i30] [b0, b1, b2, b3, b4, b5, b6, b7, b8, b9, b10, b11, b12, b13, b14, b15, b16] = _
            refine st_rq (show ((!((b9 && b15) && (!b16))) || (decide ((IntKind.wrap .u64 (arI .mul .i64 8 i26)) ≥ 0))) = true from ?_) ?_
            · rw [hb9]; rfl
            refine st_li fun i31 hi31 => ?_
            replace hi31 : i31 = (arI .sub .u64 (arI .shl .u64 1 (IntKind.wrap .u64 (arI .mul .i64 8 i26))) 1) := hi31
            show T.den _ _ [op, (lo : Int), (hi : Int), (N : Int), (r : Int), (lo2 : Int), (hi2 : Int), (M : Int), (q : Int), i9, i10, i11, i12, i13, i14, i15, i16, i17, i18, i19, i20, i21, i22, i23, i24, i25, i26, i27, i28, i29, i30, i31] [b0, b1, b2, b3, b4, b5, b6, b7, b8, b9, b10, b11, b12, b13, b14, b15, b16] = _
            refine st_lb fun b17 hb17 => ?_
            replace hb17 : b17 = (b15 && (b16 || (i22 == i31))) := hb17
            show T.den _ _ [op, (lo : Int), (hi : Int), (N : Int), (r : Int), (lo2 : Int), (hi2 : Int), (M : Int), (q : Int), i9, i10, i11, i12, i13, i14, i15, i16, i17, i18, i19, i20, i21, i22, i23, i24, i25, i26, i27, i28, i29, i30, i31] [b0, b1, b2, b3, b4, b5, b6, b7, b8, b9, b10, b11, b12, b13, b14, b15, b16, b17] = _
            refine st_ret ?_
            show some ([], [((!b9) || b17)]) = _
            rw [hb9]; rfl
      · replace hc : (i9 == 0) = false := hc
        have c10 := hc
        clear hc
        rw [hi9] at c10; exact absurd c10 (by decide)

set_option maxHeartbeats 4000000 in
theorem law_ol (op : Int) (lo hi N r lo2 hi2 M q : Nat) (h : Rt lo hi N r) (h2 : Rt lo2 hi2 M q) (t w x : Int) (h22 : F22 [op] [] = some ([0, x, 0, 0], [true])) (h28 : F28 [op] [] = some ([t, w], [false, true])) (hfin : F27 [0, x, 0, 0, t] [] = some ([], [true])) (hw : decide (IntKind.wrap .u64 (arI .mul .i64 8 w) ≥ 0) = true) (hend : x = ((Tn t : Nat) : Int) ∨ x = arI .sub .u64 (arI .shl .u64 1 (IntKind.wrap .u64 (arI .mul .i64 8 w))) 1) (hT : F13 [op] [] = some ([0, 0, 0, 0], [false])) : F9 [op, (lo : Int), (hi : Int), (N : Int), (r : Int), (lo2 : Int), (hi2 : Int), (M : Int), (q : Int)] [] = some ([], [true]) := by
  refine Eq.trans (Fd_of (n := 9) (m := 0) (t := XTransTight.t9) (C := Tab.fn a9) rfl rfl) ?_
  rw [XTransTight.t9]
  refine st_0_1 (e9_10) (g := true) rfl (l := []) rfl (m := []) rfl (cl_t q10) fun b0 hb0 => ?_
  show T.den _ _ [op, (lo : Int), (hi : Int), (N : Int), (r : Int), (lo2 : Int), (hi2 : Int), (M : Int), (q : Int)] [b0] = _
  refine st_ite (fun hc => ?_) (fun hc => ?_)
  · replace hc : (!b0) = true := hc
    have c1 := hc
    clear hc
    rw [hb0] at c1; cases c1
  · replace hc : (!b0) = false := hc
    have c2 := hc
    clear hc
    refine st_0_1 (e9_11) (g := true) rfl (l := [(lo : Int), (hi : Int), (N : Int), (r : Int)]) rfl (m := []) rfl (cl_t (q11 (lo : Int) (hi : Int) (N : Int) (r : Int))) fun b1 hb1 => ?_
    show T.den _ _ [op, (lo : Int), (hi : Int), (N : Int), (r : Int), (lo2 : Int), (hi2 : Int), (M : Int), (q : Int)] [b0, b1] = _
    refine st_0_1 (e9_11) (g := b1) rfl (l := [(lo2 : Int), (hi2 : Int), (M : Int), (q : Int)]) rfl (m := []) rfl (cl_b (q11 (lo2 : Int) (hi2 : Int) (M : Int) (q : Int))) fun b2 hb2 => ?_
    show T.den _ _ [op, (lo : Int), (hi : Int), (N : Int), (r : Int), (lo2 : Int), (hi2 : Int), (M : Int), (q : Int)] [b0, b1, b2] = _
    refine st_ite (fun hc => ?_) (fun hc => ?_)
    · replace hc : ((!b1) || (!b2)) = true := hc
      have c3 := hc
      clear hc
      rw [hb2, hb1, rt_rA h, rt_rA h2] at c3; cases c3
    · replace hc : ((!b1) || (!b2)) = false := hc
      have c4 := hc
      clear hc
      refine st_4_1 (e9_13) (g := true) rfl (l := [op]) rfl (m := []) rfl (cl_t hT) fun i9 i10 i11 i12 b3 hi9 hi10 hi11 hi12 hb3 => ?_
      show T.den _ _ [op, (lo : Int), (hi : Int), (N : Int), (r : Int), (lo2 : Int), (hi2 : Int), (M : Int), (q : Int), i9, i10, i11, i12] [b0, b1, b2, b3] = _
      refine st_ite (fun hc => ?_) (fun hc => ?_)
      · replace hc : (i9 == 0) = true := hc
        have c5 := hc
        clear hc
        refine st_4_1 (e9_23) (g := true) rfl (l := [op, (lo : Int), (hi : Int), (N : Int), (r : Int)]) rfl (m := []) rfl (cl_t (q23_o op lo hi N r hT)) fun i13 i14 i15 i16 b4 hi13 hi14 hi15 hi16 hb4 => ?_
        show T.den _ _ [op, (lo : Int), (hi : Int), (N : Int), (r : Int), (lo2 : Int), (hi2 : Int), (M : Int), (q : Int), i9, i10, i11, i12, i13, i14, i15, i16] [b0, b1, b2, b3, b4] = _
        refine st_4_1 (e9_25) (g := true) rfl (l := [op, (lo : Int), (hi : Int), (N : Int), (r : Int), (lo2 : Int), (hi2 : Int), (M : Int), (q : Int)]) rfl (m := []) rfl (cl_t (q25_o op lo hi N r lo2 hi2 M q hT)) fun i17 i18 i19 i20 b5 hi17 hi18 hi19 hi20 hb5 => ?_
        show T.den _ _ [op, (lo : Int), (hi : Int), (N : Int), (r : Int), (lo2 : Int), (hi2 : Int), (M : Int), (q : Int), i9, i10, i11, i12, i13, i14, i15, i16, i17, i18, i19, i20] [b0, b1, b2, b3, b4, b5] = _
        refine st_0_1 (e9_27) (g := b4) rfl (l := [i13, i14, i15, i16, i12]) rfl (m := []) rfl (clg (fun hg => by rw [hb4] at hg; cases hg)) fun b6 hb6 => ?_
        show T.den _ _ [op, (lo : Int), (hi : Int), (N : Int), (r : Int), (lo2 : Int), (hi2 : Int), (M : Int), (q : Int), i9, i10, i11, i12, i13, i14, i15, i16, i17, i18, i19, i20] [b0, b1, b2, b3, b4, b5, b6] = _
        refine st_0_1 (e9_27) (g := ((!(b4 && (!b6))) && b5)) rfl (l := [i17, i18, i19, i20, i12]) rfl (m := []) rfl (clg (fun hg => by rw [hb5, Bool.and_false] at hg; cases hg)) fun b7 hb7 => ?_
        show T.den _ _ [op, (lo : Int), (hi : Int), (N : Int), (r : Int), (lo2 : Int), (hi2 : Int), (M : Int), (q : Int), i9, i10, i11, i12, i13, i14, i15, i16, i17, i18, i19, i20] [b0, b1, b2, b3, b4, b5, b6, b7] = _
        refine st_lb fun b8 hb8 => ?_
        replace hb8 : b8 = ((b4 && (!b6)) || (b5 && (!b7))) := hb8
        show T.den _ _ [op, (lo : Int), (hi : Int), (N : Int), (r : Int), (lo2 : Int), (hi2 : Int), (M : Int), (q : Int), i9, i10, i11, i12, i13, i14, i15, i16, i17, i18, i19, i20] [b0, b1, b2, b3, b4, b5, b6, b7, b8] = _
        refine st_ite (fun hc => ?_) (fun hc => ?_)
        · replace hc : b8 = true := hc
          have c6 := hc
          clear hc
          rw [hb8, hb7, hb6, hb5, hb4] at c6; cases c6
        · replace hc : b8 = false := hc
          have c7 := hc
          clear hc
          refine st_4_1 (e9_22) (g := true) rfl (l := [op]) rfl (m := []) rfl (cl_t h22) fun i21 i22 i23 i24 b9 hi21 hi22 hi23 hi24 hb9 => ?_
          show T.den _ _ [op, (lo : Int), (hi : Int), (N : Int), (r : Int), (lo2 : Int), (hi2 : Int), (M : Int), (q : Int), i9, i10, i11, i12, i13, i14, i15, i16, i17, i18, i19, i20, i21, i22, i23, i24] [b0, b1, b2, b3, b4, b5, b6, b7, b8, b9] = _
          refine st_2_2 (e9_28) (g := true) rfl (l := [op]) rfl (m := []) rfl (cl_t h28) fun i25 i26 b10 b11 hi25 hi26 hb10 hb11 => ?_
          show T.den _ _ [op, (lo : Int), (hi : Int), (N : Int), (r : Int), (lo2 : Int), (hi2 : Int), (M : Int), (q : Int), i9, i10, i11, i12, i13, i14, i15, i16, i17, i18, i19, i20, i21, i22, i23, i24, i25, i26] [b0, b1, b2, b3, b4, b5, b6, b7, b8, b9, b10, b11] = _
          refine st_lb fun b12 hb12 => ?_
          replace hb12 : b12 = (!(b9 == (b11 && (!b10)))) := hb12
          show T.den _ _ [op, (lo : Int), (hi : Int), (N : Int), (r : Int), (lo2 : Int), (hi2 : Int), (M : Int), (q : Int), i9, i10, i11, i12, i13, i14, i15, i16, i17, i18, i19, i20, i21, i22, i23, i24, i25, i26] [b0, b1, b2, b3, b4, b5, b6, b7, b8, b9, b10, b11, b12] = _
          refine st_lb fun b13 hb13 => ?_
          replace hb13 : b13 = (!(((i21 == 0) && (i22 == 0)) && ((i23 == 0) && (i24 == 0)))) := hb13
          show T.den _ _ [op, (lo : Int), (hi : Int), (N : Int), (r : Int), (lo2 : Int), (hi2 : Int), (M : Int), (q : Int), i9, i10, i11, i12, i13, i14, i15, i16, i17, i18, i19, i20, i21, i22, i23, i24, i25, i26] [b0, b1, b2, b3, b4, b5, b6, b7, b8, b9, b10, b11, b12, b13] = _
          refine st_lb fun b14 hb14 => ?_
          replace hb14 : b14 = ((b12 || ((!b9) && b13)) || (b3 && b9)) := hb14
          show T.den _ _ [op, (lo : Int), (hi : Int), (N : Int), (r : Int), (lo2 : Int), (hi2 : Int), (M : Int), (q : Int), i9, i10, i11, i12, i13, i14, i15, i16, i17, i18, i19, i20, i21, i22, i23, i24, i25, i26] [b0, b1, b2, b3, b4, b5, b6, b7, b8, b9, b10, b11, b12, b13, b14] = _
          refine st_ite (fun hc => ?_) (fun hc => ?_)
          · replace hc : b14 = true := hc
            have c8 := hc
            clear hc
            rw [hb14, hb13, hb12, hb11, hb10, hb9, hb3, hi21, hi22, hi23, hi24] at c8; cases c8
          · replace hc : b14 = false := hc
            have c9 := hc
            clear hc
            refine st_0_1 (e9_27) (g := b9) rfl (l := [i21, i22, i23, i24, i25]) rfl (m := []) rfl (clg (fun hg => by rw [hi21, hi22, hi23, hi24, hi25]; exact hfin)) fun b15 hb15 => ?_
            show T.den _ _ [op, (lo : Int), (hi : Int), (N : Int), (r : Int), (lo2 : Int), (hi2 : Int), (M : Int), (q : Int), i9, i10, i11, i12, i13, i14, i15, i16, i17, i18, i19, i20, i21, i22, i23, i24, i25, i26] [b0, b1, b2, b3, b4, b5, b6, b7, b8, b9, b10, b11, b12, b13, b14, b15] = _
            refine st_4_0 (e9_26) (g := (b9 && b15)) rfl (l := [i25]) rfl (m := []) rfl (cl_4 (q26_t i25)) fun i27 i28 i29 i30 hi27 hi28 hi29 hi30 => ?_
            show T.den _ _ [op, (lo : Int), (hi : Int), (N : Int), (r : Int), (lo2 : Int), (hi2 : Int), (M : Int), (q : Int), i9, i10, i11, i12, i13, i14, i15, i16, i17, i18, i19, i20, i21, i22, i23, i24, i25, i26, i27, i28, i29, i30] [b0, b1, b2, b3, b4, b5, b6, b7, b8, b9, b10, b11, b12, b13, b14, b15] = _
            refine st_lb fun b16 hb16 => ?_
            replace hb16 : b16 = (((i21 == i27) && (i22 == i28)) && ((i23 == i29) && (i24 == i30))) := hb16
            show T.den _ _ [op, (lo : Int), (hi : Int), (N : Int), (r : Int), (lo2 : Int), (hi2 : Int), (M : Int), (q : Int), i9, i10, i11, i12, i13, i14, i15, i16, i17, i18, i19, i20, i21, i22, i23, i24, i25, i26, i27, i28, i29, i30] [b0, b1, b2, b3, b4, b5, b6, b7, b8, b9, b10, b11, b12, b13, b14, b15, b16] = _
            refine st_rq (show ((!((b9 && b15) && (!b16))) || (decide ((IntKind.wrap .u64 (arI .mul .i64 8 i26)) ≥ 0))) = true from ?_) ?_
            · rw [hi26]; rw [hw]; cases ((b9 && b15) && (!b16)) <;> rfl
            refine st_li fun i31 hi31 => ?_
            replace hi31 : i31 = (arI .sub .u64 (arI .shl .u64 1 (IntKind.wrap .u64 (arI .mul .i64 8 i26))) 1) := hi31
            show T.den _ _ [op, (lo : Int), (hi : Int), (N : Int), (r : Int), (lo2 : Int), (hi2 : Int), (M : Int), (q : Int), i9, i10, i11, i12, i13, i14, i15, i16, i17, i18, i19, i20, i21, i22, i23, i24, i25, i26, i27, i28, i29, i30, i31] [b0, b1, b2, b3, b4, b5, b6, b7, b8, b9, b10, b11, b12, b13, b14, b15, b16] = _
            refine st_lb fun b17 hb17 => ?_
            replace hb17 : b17 = (b15 && (b16 || (i22 == i31))) := hb17
            show T.den _ _ [op, (lo : Int), (hi : Int), (N : Int), (r : Int), (lo2 : Int), (hi2 : Int), (M : Int), (q : Int), i9, i10, i11, i12, i13, i14, i15, i16, i17, i18, i19, i20, i21, i22, i23, i24, i25, i26, i27, i28, i29, i30, i31] [b0, b1, b2, b3, b4, b5, b6, b7, b8, b9, b10, b11, b12, b13, b14, b15, b16, b17] = _
            refine st_ret ?_
            show some ([], [((!b9) || b17)]) = _
            refine rb ?_
            have e17 : b17 = true := by
              rw [hb17, hb16, hb15, hb9, hi31, hi21, hi22, hi23, hi24, hi27, hi28, hi29, hi30, hb15, hb9, hi25, hi26]
              rcases hend with e | e
              · rw [e]; simp
              · rw [e]; simp
            rw [e17, Bool.or_true]
      · replace hc : (i9 == 0) = false := hc
        have c10 := hc
        clear hc
        rw [hi9] at c10; exact absurd c10 (by decide)

set_option maxHeartbeats 4000000 in
theorem law_u (op : Int) (lo hi N r lo2 hi2 M q : Nat) (h : Rt lo hi N r) (h2 : Rt lo2 hi2 M q) (i o : Int) (f : Int → Int) (t w : Int) (s kn : Bool) (h22 : F22 [op] [] = some ([0, 0, 0, 0], [false])) (h28 : F28 [op] [] = some ([t, w], [s, kn])) (hks : (kn && !s) = false) (hT : F13 [op] [] = some ([1, i, 0, o], [true])) (hU : UnFin op i o f) : F9 [op, (lo : Int), (hi : Int), (N : Int), (r : Int), (lo2 : Int), (hi2 : Int), (M : Int), (q : Int)] [] = some ([], [true]) := by
  obtain ⟨x0, x1, x2, x3, hX, hf⟩ := hU lo hi N r h
  refine Eq.trans (Fd_of (n := 9) (m := 0) (t := XTransTight.t9) (C := Tab.fn a9) rfl rfl) ?_
  rw [XTransTight.t9]
  refine st_0_1 (e9_10) (g := true) rfl (l := []) rfl (m := []) rfl (cl_t q10) fun b0 hb0 => ?_
  show T.den _ _ [op, (lo : Int), (hi : Int), (N : Int), (r : Int), (lo2 : Int), (hi2 : Int), (M : Int), (q : Int)] [b0] = _
  refine st_ite (fun hc => ?_) (fun hc => ?_)
  · replace hc : (!b0) = true := hc
    have c1 := hc
    clear hc
    rw [hb0] at c1; cases c1
  · replace hc : (!b0) = false := hc
    have c2 := hc
    clear hc
    refine st_0_1 (e9_11) (g := true) rfl (l := [(lo : Int), (hi : Int), (N : Int), (r : Int)]) rfl (m := []) rfl (cl_t (q11 (lo : Int) (hi : Int) (N : Int) (r : Int))) fun b1 hb1 => ?_
    show T.den _ _ [op, (lo : Int), (hi : Int), (N : Int), (r : Int), (lo2 : Int), (hi2 : Int), (M : Int), (q : Int)] [b0, b1] = _
    refine st_0_1 (e9_11) (g := b1) rfl (l := [(lo2 : Int), (hi2 : Int), (M : Int), (q : Int)]) rfl (m := []) rfl (cl_b (q11 (lo2 : Int) (hi2 : Int) (M : Int) (q : Int))) fun b2 hb2 => ?_
    show T.den _ _ [op, (lo : Int), (hi : Int), (N : Int), (r : Int), (lo2 : Int), (hi2 : Int), (M : Int), (q : Int)] [b0, b1, b2] = _
    refine st_ite (fun hc => ?_) (fun hc => ?_)
    · replace hc : ((!b1) || (!b2)) = true := hc
      have c3 := hc
      clear hc
      rw [hb2, hb1, rt_rA h, rt_rA h2] at c3; cases c3
    · replace hc : ((!b1) || (!b2)) = false := hc
      have c4 := hc
      clear hc
      refine st_4_1 (e9_13) (g := true) rfl (l := [op]) rfl (m := []) rfl (cl_t hT) fun i9 i10 i11 i12 b3 hi9 hi10 hi11 hi12 hb3 => ?_
      show T.den _ _ [op, (lo : Int), (hi : Int), (N : Int), (r : Int), (lo2 : Int), (hi2 : Int), (M : Int), (q : Int), i9, i10, i11, i12] [b0, b1, b2, b3] = _
      refine st_ite (fun hc => ?_) (fun hc => ?_)
      · replace hc : (i9 == 0) = true := hc
        have c5 := hc
        clear hc
        rw [hi9] at c5; exact absurd c5 (by decide)
      · replace hc : (i9 == 0) = false := hc
        have c6 := hc
        clear hc
        refine st_ite (fun hc => ?_) (fun hc => ?_)
        · replace hc : (i9 == 1) = true := hc
          have c7 := hc
          clear hc
          refine st_4_1 (e9_23) (g := true) rfl (l := [op, (lo : Int), (hi : Int), (N : Int), (r : Int)]) rfl (m := []) rfl (cl_t hX) fun i13 i14 i15 i16 b4 hi13 hi14 hi15 hi16 hb4 => ?_
          show T.den _ _ [op, (lo : Int), (hi : Int), (N : Int), (r : Int), (lo2 : Int), (hi2 : Int), (M : Int), (q : Int), i9, i10, i11, i12, i13, i14, i15, i16] [b0, b1, b2, b3, b4] = _
          refine st_4_1 (e9_25) (g := true) rfl (l := [op, (lo : Int), (hi : Int), (N : Int), (r : Int), (lo2 : Int), (hi2 : Int), (M : Int), (q : Int)]) rfl (m := []) rfl (cl_t (q25_u op i o lo hi N r lo2 hi2 M q hT)) fun i17 i18 i19 i20 b5 hi17 hi18 hi19 hi20 hb5 => ?_
          show T.den _ _ [op, (lo : Int), (hi : Int), (N : Int), (r : Int), (lo2 : Int), (hi2 : Int), (M : Int), (q : Int), i9, i10, i11, i12, i13, i14, i15, i16, i17, i18, i19, i20] [b0, b1, b2, b3, b4, b5] = _
          refine st_0_1 (e9_27) (g := b4) rfl (l := [i13, i14, i15, i16, i12]) rfl (m := []) rfl (clg (fun hg => by rw [hi13, hi14, hi15, hi16, hi12]; exact q27_f hf)) fun b6 hb6 => ?_
          show T.den _ _ [op, (lo : Int), (hi : Int), (N : Int), (r : Int), (lo2 : Int), (hi2 : Int), (M : Int), (q : Int), i9, i10, i11, i12, i13, i14, i15, i16, i17, i18, i19, i20] [b0, b1, b2, b3, b4, b5, b6] = _
          refine st_0_1 (e9_27) (g := ((!(b4 && (!b6))) && b5)) rfl (l := [i17, i18, i19, i20, i12]) rfl (m := []) rfl (clg (fun hg => by rw [hb5, Bool.and_false] at hg; cases hg)) fun b7 hb7 => ?_
          show T.den _ _ [op, (lo : Int), (hi : Int), (N : Int), (r : Int), (lo2 : Int), (hi2 : Int), (M : Int), (q : Int), i9, i10, i11, i12, i13, i14, i15, i16, i17, i18, i19, i20] [b0, b1, b2, b3, b4, b5, b6, b7] = _
          refine st_lb fun b8 hb8 => ?_
          replace hb8 : b8 = ((b4 && (!b6)) || (b5 && (!b7))) := hb8
          show T.den _ _ [op, (lo : Int), (hi : Int), (N : Int), (r : Int), (lo2 : Int), (hi2 : Int), (M : Int), (q : Int), i9, i10, i11, i12, i13, i14, i15, i16, i17, i18, i19, i20] [b0, b1, b2, b3, b4, b5, b6, b7, b8] = _
          refine st_ite (fun hc => ?_) (fun hc => ?_)
          · replace hc : b8 = true := hc
            have c8 := hc
            clear hc
            rw [hb8, hb7, hb6, hb5, hb4] at c8; cases c8
          · replace hc : b8 = false := hc
            have c9 := hc
            clear hc
            refine st_4_1 (e9_22) (g := true) rfl (l := [op]) rfl (m := []) rfl (cl_t h22) fun i21 i22 i23 i24 b9 hi21 hi22 hi23 hi24 hb9 => ?_
            show T.den _ _ [op, (lo : Int), (hi : Int), (N : Int), (r : Int), (lo2 : Int), (hi2 : Int), (M : Int), (q : Int), i9, i10, i11, i12, i13, i14, i15, i16, i17, i18, i19, i20, i21, i22, i23, i24] [b0, b1, b2, b3, b4, b5, b6, b7, b8, b9] = _
            refine st_2_2 (e9_28) (g := true) rfl (l := [op]) rfl (m := []) rfl (cl_t h28) fun i25 i26 b10 b11 hi25 hi26 hb10 hb11 => ?_
            show T.den _ _ [op, (lo : Int), (hi : Int), (N : Int), (r : Int), (lo2 : Int), (hi2 : Int), (M : Int), (q : Int), i9, i10, i11, i12, i13, i14, i15, i16, i17, i18, i19, i20, i21, i22, i23, i24, i25, i26] [b0, b1, b2, b3, b4, b5, b6, b7, b8, b9, b10, b11] = _
            refine st_lb fun b12 hb12 => ?_
            replace hb12 : b12 = (!(b9 == (b11 && (!b10)))) := hb12
            show T.den _ _ [op, (lo : Int), (hi : Int), (N : Int), (r : Int), (lo2 : Int), (hi2 : Int), (M : Int), (q : Int), i9, i10, i11, i12, i13, i14, i15, i16, i17, i18, i19, i20, i21, i22, i23, i24, i25, i26] [b0, b1, b2, b3, b4, b5, b6, b7, b8, b9, b10, b11, b12] = _
            refine st_lb fun b13 hb13 => ?_
            replace hb13 : b13 = (!(((i21 == 0) && (i22 == 0)) && ((i23 == 0) && (i24 == 0)))) := hb13
            show T.den _ _ [op, (lo : Int), (hi : Int), (N : Int), (r : Int), (lo2 : Int), (hi2 : Int), (M : Int), (q : Int), i9, i10, i11, i12, i13, i14, i15, i16, i17, i18, i19, i20, i21, i22, i23, i24, i25, i26] [b0, b1, b2, b3, b4, b5, b6, b7, b8, b9, b10, b11, b12, b13] = _
            refine st_lb fun b14 hb14 => ?_
            replace hb14 : b14 = ((b12 || ((!b9) && b13)) || (b3 && b9)) := hb14
            show T.den _ _ [op, (lo : Int), (hi : Int), (N : Int), (r : Int), (lo2 : Int), (hi2 : Int), (M : Int), (q : Int), i9, i10, i11, i12, i13, i14, i15, i16, i17, i18, i19, i20, i21, i22, i23, i24, i25, i26] [b0, b1, b2, b3, b4, b5, b6, b7, b8, b9, b10, b11, b12, b13, b14] = _
            refine st_ite (fun hc => ?_) (fun hc => ?_)
            · replace hc : b14 = true := hc
              have c10 := hc
              clear hc
              rw [hb14, hb13, hb12, hb11, hb10, hb9, hb3, hi21, hi22, hi23, hi24, hks] at c10; cases c10
            · replace hc : b14 = false := hc
              have c11 := hc
              clear hc
              refine st_0_1 (e9_27) (g := b9) rfl (l := [i21, i22, i23, i24, i25]) rfl (m := []) rfl (clg (fun hg => by rw [hb9] at hg; cases hg)) fun b15 hb15 => ?_
              show T.den _ _ [op, (lo : Int), (hi : Int), (N : Int), (r : Int), (lo2 : Int), (hi2 : Int), (M : Int), (q : Int), i9, i10, i11, i12, i13, i14, i15, i16, i17, i18, i19, i20, i21, i22, i23, i24, i25, i26] [b0, b1, b2, b3, b4, b5, b6, b7, b8, b9, b10, b11, b12, b13, b14, b15] = _
              refine st_4_0 (e9_26) (g := (b9 && b15)) rfl (l := [i25]) rfl (m := []) rfl (cl_4 (q26_t i25)) fun i27 i28 i29 i30 hi27 hi28 hi29 hi30 => ?_
              show T.den _ _ [op, (lo : Int), (hi : Int), (N : Int), (r : Int), (lo2 : Int), (hi2 : Int), (M : Int), (q : Int), i9, i10, i11, i12, i13, i14, i15, i16, i17, i18, i19, i20, i21, i22, i23, i24, i25, i26, i27, i28, i29, i30] [b0, b1, b2, b3, b4, b5, b6, b7, b8, b9, b10, b11, b12, b13, b14, b15] = _
              refine st_lb fun b16 hb16 => ?_
              replace hb16 : b16 = (((i21 == i27) && (i22 == i28)) && ((i23 == i29) && (i24 == i30))) := hb16
              show T.den _ _ [op, (lo : Int), (hi : Int), (N : Int), (r : Int), (lo2 : Int), (hi2 : Int), (M : Int), (q : Int), i9, i10, i11, i12, i13, i14, i15, i16, i17, i18, i19, i20, i21, i22, i23, i24, i25, i26, i27, i28, i29, i30] [b0, b1, b2, b3, b4, b5, b6, b7, b8, b9, b10, b11, b12, b13, b14, b15, b16] = _
              refine st_rq (show ((!((b9 && b15) && (!b16))) || (decide ((IntKind.wrap .u64 (arI .mul .i64 8 i26)) ≥ 0))) = true from ?_) ?_
              · rw [hb9]; rfl
              refine st_li fun i31 hi31 => ?_
              replace hi31 : i31 = (arI .sub .u64 (arI .shl .u64 1 (IntKind.wrap .u64 (arI .mul .i64 8 i26))) 1) := hi31
              show T.den _ _ [op, (lo : Int), (hi : Int), (N : Int), (r : Int), (lo2 : Int), (hi2 : Int), (M : Int), (q : Int), i9, i10, i11, i12, i13, i14, i15, i16, i17, i18, i19, i20, i21, i22, i23, i24, i25, i26, i27, i28, i29, i30, i31] [b0, b1, b2, b3, b4, b5, b6, b7, b8, b9, b10, b11, b12, b13, b14, b15, b16] = _
              refine st_lb fun b17 hb17 => ?_
              replace hb17 : b17 = (b15 && (b16 || (i22 == i31))) := hb17
              show T.den _ _ [op, (lo : Int), (hi : Int), (N : Int), (r : Int), (lo2 : Int), (hi2 : Int), (M : Int), (q : Int), i9, i10, i11, i12, i13, i14, i15, i16, i17, i18, i19, i20, i21, i22, i23, i24, i25, i26, i27, i28, i29, i30, i31] [b0, b1, b2, b3, b4, b5, b6, b7, b8, b9, b10, b11, b12, b13, b14, b15, b16, b17] = _
              refine st_ret ?_
              show some ([], [((!b9) || b17)]) = _
              rw [hb9]; rfl
        · replace hc : (i9 == 1) = false := hc
          have c12 := hc
          clear hc
          rw [hi9] at c12; exact absurd c12 (by decide)

set_option maxHeartbeats 4000000 in
theorem law_b (op : Int) (lo hi N r lo2 hi2 M q : Nat) (h : Rt lo hi N r) (h2 : Rt lo2 hi2 M q) (i o : Int) (f g : Int → Int → Int) (t w : Int) (s kn : Bool) (h22 : F22 [op] [] = some ([0, 0, 0, 0], [false])) (h28 : F28 [op] [] = some ([t, w], [s, kn])) (hks : (kn && !s) = false) (hT : F13 [op] [] = some ([2, i, i, o], [true])) (hB : BinFin op i o f g) : F9 [op, (lo : Int), (hi : Int), (N : Int), (r : Int), (lo2 : Int), (hi2 : Int), (M : Int), (q : Int)] [] = some ([], [true]) := by
  obtain ⟨x0, x1, x2, x3, hX, hf⟩ := hB lo hi N r lo2 hi2 M q h h2
  refine Eq.trans (Fd_of (n := 9) (m := 0) (t := XTransTight.t9) (C := Tab.fn a9) rfl rfl) ?_
  rw [XTransTight.t9]
  refine st_0_1 (e9_10) (g := true) rfl (l := []) rfl (m := []) rfl (cl_t q10) fun b0 hb0 => ?_
  show T.den _ _ [op, (lo : Int), (hi : Int), (N : Int), (r : Int), (lo2 : Int), (hi2 : Int), (M : Int), (q : Int)] [b0] = _
  refine st_ite (fun hc => ?_) (fun hc => ?_)
  · replace hc : (!b0) = true := hc
    have c1 := hc
    clear hc
    rw [hb0] at c1; cases c1
  · replace hc : (!b0) = false := hc
    have c2 := hc
    clear hc
    refine st_0_1 (e9_11) (g := true) rfl (l := [(lo : Int), (hi : Int), (N : Int), (r : Int)]) rfl (m := []) rfl (cl_t (q11 (lo : Int) (hi : Int) (N : Int) (r : Int))) fun b1 hb1 => ?_
    show T.den _ _ [op, (lo : Int), (hi : Int), (N : Int), (r : Int), (lo2 : Int), (hi2 : Int), (M : Int), (q : Int)] [b0, b1] = _
    refine st_0_1 (e9_11) (g := b1) rfl (l := [(lo2 : Int), (hi2 : Int), (M : Int), (q : Int)]) rfl (m := []) rfl (cl_b (q11 (lo2 : Int) (hi2 : Int) (M : Int) (q : Int))) fun b2 hb2 => ?_
    show T.den _ _ [op, (lo : Int), (hi : Int), (N : Int), (r : Int), (lo2 : Int), (hi2 : Int), (M : Int), (q : Int)] [b0, b1, b2] = _
    refine st_ite (fun hc => ?_) (fun hc => ?_)
    · replace hc : ((!b1) || (!b2)) = true := hc
      have c3 := hc
      clear hc
      rw [hb2, hb1, rt_rA h, rt_rA h2] at c3; cases c3
    · replace hc : ((!b1) || (!b2)) = false := hc
      have c4 := hc
      clear hc
      refine st_4_1 (e9_13) (g := true) rfl (l := [op]) rfl (m := []) rfl (cl_t hT) fun i9 i10 i11 i12 b3 hi9 hi10 hi11 hi12 hb3 => ?_
      show T.den _ _ [op, (lo : Int), (hi : Int), (N : Int), (r : Int), (lo2 : Int), (hi2 : Int), (M : Int), (q : Int), i9, i10, i11, i12] [b0, b1, b2, b3] = _
      refine st_ite (fun hc => ?_) (fun hc => ?_)
      · replace hc : (i9 == 0) = true := hc
        have c5 := hc
        clear hc
        rw [hi9] at c5; exact absurd c5 (by decide)
      · replace hc : (i9 == 0) = false := hc
        have c6 := hc
        clear hc
        refine st_ite (fun hc => ?_) (fun hc => ?_)
        · replace hc : (i9 == 1) = true := hc
          have c7 := hc
          clear hc
          rw [hi9] at c7; exact absurd c7 (by decide)
        · replace hc : (i9 == 1) = false := hc
          have c8 := hc
          clear hc
          refine st_ite (fun hc => ?_) (fun hc => ?_)
          · replace hc : (i9 == 2) = true := hc
            have c9 := hc
            clear hc
            refine st_4_1 (e9_23) (g := true) rfl (l := [op, (lo : Int), (hi : Int), (N : Int), (r : Int)]) rfl (m := []) rfl (cl_t (q23_b op i o lo hi N r hT)) fun i13 i14 i15 i16 b4 hi13 hi14 hi15 hi16 hb4 => ?_
            show T.den _ _ [op, (lo : Int), (hi : Int), (N : Int), (r : Int), (lo2 : Int), (hi2 : Int), (M : Int), (q : Int), i9, i10, i11, i12, i13, i14, i15, i16] [b0, b1, b2, b3, b4] = _
            refine st_4_1 (e9_25) (g := true) rfl (l := [op, (lo : Int), (hi : Int), (N : Int), (r : Int), (lo2 : Int), (hi2 : Int), (M : Int), (q : Int)]) rfl (m := []) rfl (cl_t hX) fun i17 i18 i19 i20 b5 hi17 hi18 hi19 hi20 hb5 => ?_
            show T.den _ _ [op, (lo : Int), (hi : Int), (N : Int), (r : Int), (lo2 : Int), (hi2 : Int), (M : Int), (q : Int), i9, i10, i11, i12, i13, i14, i15, i16, i17, i18, i19, i20] [b0, b1, b2, b3, b4, b5] = _
            refine st_0_1 (e9_27) (g := b4) rfl (l := [i13, i14, i15, i16, i12]) rfl (m := []) rfl (clg (fun hg => by rw [hb4] at hg; cases hg)) fun b6 hb6 => ?_
            show T.den _ _ [op, (lo : Int), (hi : Int), (N : Int), (r : Int), (lo2 : Int), (hi2 : Int), (M : Int), (q : Int), i9, i10, i11, i12, i13, i14, i15, i16, i17, i18, i19, i20] [b0, b1, b2, b3, b4, b5, b6] = _
            refine st_0_1 (e9_27) (g := ((!(b4 && (!b6))) && b5)) rfl (l := [i17, i18, i19, i20, i12]) rfl (m := []) rfl (clg (fun hg => by rw [hi17, hi18, hi19, hi20, hi12]; exact q27_f hf)) fun b7 hb7 => ?_
            show T.den _ _ [op, (lo : Int), (hi : Int), (N : Int), (r : Int), (lo2 : Int), (hi2 : Int), (M : Int), (q : Int), i9, i10, i11, i12, i13, i14, i15, i16, i17, i18, i19, i20] [b0, b1, b2, b3, b4, b5, b6, b7] = _
            refine st_lb fun b8 hb8 => ?_
            replace hb8 : b8 = ((b4 && (!b6)) || (b5 && (!b7))) := hb8
            show T.den _ _ [op, (lo : Int), (hi : Int), (N : Int), (r : Int), (lo2 : Int), (hi2 : Int), (M : Int), (q : Int), i9, i10, i11, i12, i13, i14, i15, i16, i17, i18, i19, i20] [b0, b1, b2, b3, b4, b5, b6, b7, b8] = _
            refine st_ite (fun hc => ?_) (fun hc => ?_)
            · replace hc : b8 = true := hc
              have c10 := hc
              clear hc
              rw [hb8, hb7, hb6, hb5, hb4] at c10; cases c10
            · replace hc : b8 = false := hc
              have c11 := hc
              clear hc
              refine st_4_1 (e9_22) (g := true) rfl (l := [op]) rfl (m := []) rfl (cl_t h22) fun i21 i22 i23 i24 b9 hi21 hi22 hi23 hi24 hb9 => ?_
              show T.den _ _ [op, (lo : Int), (hi : Int), (N : Int), (r : Int), (lo2 : Int), (hi2 : Int), (M : Int), (q : Int), i9, i10, i11, i12, i13, i14, i15, i16, i17, i18, i19, i20, i21, i22, i23, i24] [b0, b1, b2, b3, b4, b5, b6, b7, b8, b9] = _
              refine st_2_2 (e9_28) (g := true) rfl (l := [op]) rfl (m := []) rfl (cl_t h28) fun i25 i26 b10 b11 hi25 hi26 hb10 hb11 => ?_
              show T.den _ _ [op, (lo : Int), (hi : Int), (N : Int), (r : Int), (lo2 : Int), (hi2 : Int), (M : Int), (q : Int), i9, i10, i11, i12, i13, i14, i15, i16, i17, i18, i19, i20, i21, i22, i23, i24, i25, i26] [b0, b1, b2, b3, b4, b5, b6, b7, b8, b9, b10, b11] = _
              refine st_lb fun b12 hb12 => ?_
              replace hb12 : b12 = (!(b9 == (b11 && (!b10)))) := hb12
              show T.den _ _ [op, (lo : Int), (hi : Int), (N : Int), (r : Int), (lo2 : Int), (hi2 : Int), (M : Int), (q : Int), i9, i10, i11, i12, i13, i14, i15, i16, i17, i18, i19, i20, i21, i22, i23, i24, i25, i26] [b0, b1, b2, b3, b4, b5, b6, b7, b8, b9, b10, b11, b12] = _
              refine st_lb fun b13 hb13 => ?_
              replace hb13 : b13 = (!(((i21 == 0) && (i22 == 0)) && ((i23 == 0) && (i24 == 0)))) := hb13
              show T.den _ _ [op, (lo : Int), (hi : Int), (N : Int), (r : Int), (lo2 : Int), (hi2 : Int), (M : Int), (q : Int), i9, i10, i11, i12, i13, i14, i15, i16, i17, i18, i19, i20, i21, i22, i23, i24, i25, i26] [b0, b1, b2, b3, b4, b5, b6, b7, b8, b9, b10, b11, b12, b13] = _
              refine st_lb fun b14 hb14 => ?_
              replace hb14 : b14 = ((b12 || ((!b9) && b13)) || (b3 && b9)) := hb14
              show T.den _ _ [op, (lo : Int), (hi : Int), (N : Int), (r : Int), (lo2 : Int), (hi2 : Int), (M : Int), (q : Int), i9, i10, i11, i12, i13, i14, i15, i16, i17, i18, i19, i20, i21, i22, i23, i24, i25, i26] [b0, b1, b2, b3, b4, b5, b6, b7, b8, b9, b10, b11, b12, b13, b14] = _
              refine st_ite (fun hc => ?_) (fun hc => ?_)
              · replace hc : b14 = true := hc
                have c12 := hc
                clear hc
                rw [hb14, hb13, hb12, hb11, hb10, hb9, hb3, hi21, hi22, hi23, hi24, hks] at c12; cases c12
              · replace hc : b14 = false := hc
                have c13 := hc
                clear hc
                refine st_0_1 (e9_27) (g := b9) rfl (l := [i21, i22, i23, i24, i25]) rfl (m := []) rfl (clg (fun hg => by rw [hb9] at hg; cases hg)) fun b15 hb15 => ?_
                show T.den _ _ [op, (lo : Int), (hi : Int), (N : Int), (r : Int), (lo2 : Int), (hi2 : Int), (M : Int), (q : Int), i9, i10, i11, i12, i13, i14, i15, i16, i17, i18, i19, i20, i21, i22, i23, i24, i25, i26] [b0, b1, b2, b3, b4, b5, b6, b7, b8, b9, b10, b11, b12, b13, b14, b15] = _
                refine st_4_0 (e9_26) (g := (b9 && b15)) rfl (l := [i25]) rfl (m := []) rfl (cl_4 (q26_t i25)) fun i27 i28 i29 i30 hi27 hi28 hi29 hi30 => ?_
                show T.den _ _ [op, (lo : Int), (hi : Int), (N : Int), (r : Int), (lo2 : Int), (hi2 : Int), (M : Int), (q : Int), i9, i10, i11, i12, i13, i14, i15, i16, i17, i18, i19, i20, i21, i22, i23, i24, i25, i26, i27, i28, i29, i30] [b0, b1, b2, b3, b4, b5, b6, b7, b8, b9, b10, b11, b12, b13, b14, b15] = _
                refine st_lb fun b16 hb16 => ?_
                replace hb16 : b16 = (((i21 == i27) && (i22 == i28)) && ((i23 == i29) && (i24 == i30))) := hb16
                show T.den _ _ [op, (lo : Int), (hi : Int), (N : Int), (r : Int), (lo2 : Int), (hi2 : Int), (M : Int), (q : Int), i9, i10, i11, i12, i13, i14, i15, i16, i17, i18, i19, i20, i21, i22, i23, i24, i25, i26, i27, i28, i29, i30] [b0, b1, b2, b3, b4, b5, b6, b7, b8, b9, b10, b11, b12, b13, b14, b15, b16] = _
                refine st_rq (show ((!((b9 && b15) && (!b16))) || (decide ((IntKind.wrap .u64 (arI .mul .i64 8 i26)) ≥ 0))) = true from ?_) ?_
                · rw [hb9]; rfl
                refine st_li fun i31 hi31 => ?_
                replace hi31 : i31 = (arI .sub .u64 (arI .shl .u64 1 (IntKind.wrap .u64 (arI .mul .i64 8 i26))) 1) := hi31
                show T.den _ _ [op, (lo : Int), (hi : Int), (N : Int), (r : Int), (lo2 : Int), (hi2 : Int), (M : Int), (q : Int), i9, i10, i11, i12, i13, i14, i15, i16, i17, i18, i19, i20, i21, i22, i23, i24, i25, i26, i27, i28, i29, i30, i31] [b0, b1, b2, b3, b4, b5, b6, b7, b8, b9, b10, b11, b12, b13, b14, b15, b16] = _
                refine st_lb fun b17 hb17 => ?_
                replace hb17 : b17 = (b15 && (b16 || (i22 == i31))) := hb17
                show T.den _ _ [op, (lo : Int), (hi : Int), (N : Int), (r : Int), (lo2 : Int), (hi2 : Int), (M : Int), (q : Int), i9, i10, i11, i12, i13, i14, i15, i16, i17, i18, i19, i20, i21, i22, i23, i24, i25, i26, i27, i28, i29, i30, i31] [b0, b1, b2, b3, b4, b5, b6, b7, b8, b9, b10, b11, b12, b13, b14, b15, b16, b17] = _
                refine st_ret ?_
                show some ([], [((!b9) || b17)]) = _
                rw [hb9]; rfl
          · replace hc : (i9 == 2) = false := hc
            have c14 := hc
            clear hc
            rw [hi9] at c14; exact absurd c14 (by decide)

theorem law_nat (op : Int) (lo hi N r lo2 hi2 M q : Nat) (h : Rt lo hi N r) (h2 : Rt lo2 hi2 M q) : F9 [op, (lo : Int), (hi : Int), (N : Int), (r : Int), (lo2 : Int), (hi2 : Int), (M : Int), (q : Int)] [] = some ([], [true]) := by
  by_cases h69 : 69 ≤ op ∧ op ≤ 90
  · by_cases e69 : op = 69
    · subst e69; exact law_u 69 lo hi N r lo2 hi2 M q h h2 127 127 _ 0 0 false false (q22_o 69 (by decide)) (q28_o 69 (by decide)) rfl q14_69 un_69
    by_cases e70 : op = 70
    · subst e70; exact law_b 70 lo hi N r lo2 hi2 M q h h2 127 127 _ _ 0 0 false false (q22_o 70 (by decide)) (q28_o 70 (by decide)) rfl q14_70 bin_70
    by_cases e71 : op = 71
    · subst e71; exact law_b 71 lo hi N r lo2 hi2 M q h h2 127 127 _ _ 0 0 false false (q22_o 71 (by decide)) (q28_o 71 (by decide)) rfl q14_71 bin_71
    by_cases e72 : op = 72
    · subst e72; exact law_b 72 lo hi N r lo2 hi2 M q h h2 127 127 _ _ 0 0 false false (q22_o 72 (by decide)) (q28_o 72 (by decide)) rfl q14_72 bin_72
    by_cases e73 : op = 73
    · subst e73; exact law_b 73 lo hi N r lo2 hi2 M q h h2 127 127 _ _ 0 0 false false (q22_o 73 (by decide)) (q28_o 73 (by decide)) rfl q14_73 bin_73
    by_cases e74 : op = 74
    · subst e74; exact law_b 74 lo hi N r lo2 hi2 M q h h2 127 127 _ _ 0 0 false false (q22_o 74 (by decide)) (q28_o 74 (by decide)) rfl q14_74 bin_74
    by_cases e75 : op = 75
    · subst e75; exact law_b 75 lo hi N r lo2 hi2 M q h h2 127 127 _ _ 0 0 false false (q22_o 75 (by decide)) (q28_o 75 (by decide)) rfl q14_75 bin_75
    by_cases e76 : op = 76
    · subst e76; exact law_b 76 lo hi N r lo2 hi2 M q h h2 127 127 _ _ 0 0 false false (q22_o 76 (by decide)) (q28_o 76 (by decide)) rfl q14_76 bin_76
    by_cases e77 : op = 77
    · subst e77; exact law_b 77 lo hi N r lo2 hi2 M q h h2 127 127 _ _ 0 0 false false (q22_o 77 (by decide)) (q28_o 77 (by decide)) rfl q14_77 bin_77
    by_cases e78 : op = 78
    · subst e78; exact law_b 78 lo hi N r lo2 hi2 M q h h2 127 127 _ _ 0 0 false false (q22_o 78 (by decide)) (q28_o 78 (by decide)) rfl q14_78 bin_78
    by_cases e79 : op = 79
    · subst e79; exact law_b 79 lo hi N r lo2 hi2 M q h h2 127 127 _ _ 0 0 false false (q22_o 79 (by decide)) (q28_o 79 (by decide)) rfl q14_79 bin_79
    by_cases e80 : op = 80
    · subst e80; exact law_u 80 lo hi N r lo2 hi2 M q h h2 126 127 _ 0 0 false false (q22_o 80 (by decide)) (q28_o 80 (by decide)) rfl q14_80 un_80
    by_cases e81 : op = 81
    · subst e81; exact law_b 81 lo hi N r lo2 hi2 M q h h2 126 127 _ _ 0 0 false false (q22_o 81 (by decide)) (q28_o 81 (by decide)) rfl q14_81 bin_81
    by_cases e82 : op = 82
    · subst e82; exact law_b 82 lo hi N r lo2 hi2 M q h h2 126 127 _ _ 0 0 false false (q22_o 82 (by decide)) (q28_o 82 (by decide)) rfl q14_82 bin_82
    by_cases e83 : op = 83
    · subst e83; exact law_b 83 lo hi N r lo2 hi2 M q h h2 126 127 _ _ 0 0 false false (q22_o 83 (by decide)) (q28_o 83 (by decide)) rfl q14_83 bin_83
    by_cases e84 : op = 84
    · subst e84; exact law_b 84 lo hi N r lo2 hi2 M q h h2 126 127 _ _ 0 0 false false (q22_o 84 (by decide)) (q28_o 84 (by decide)) rfl q14_84 bin_84
    by_cases e85 : op = 85
    · subst e85; exact law_b 85 lo hi N r lo2 hi2 M q h h2 126 127 _ _ 0 0 false false (q22_o 85 (by decide)) (q28_o 85 (by decide)) rfl q14_85 bin_85
    by_cases e86 : op = 86
    · subst e86; exact law_b 86 lo hi N r lo2 hi2 M q h h2 126 127 _ _ 0 0 false false (q22_o 86 (by decide)) (q28_o 86 (by decide)) rfl q14_86 bin_86
    by_cases e87 : op = 87
    · subst e87; exact law_b 87 lo hi N r lo2 hi2 M q h h2 126 127 _ _ 0 0 false false (q22_o 87 (by decide)) (q28_o 87 (by decide)) rfl q14_87 bin_87
    by_cases e88 : op = 88
    · subst e88; exact law_b 88 lo hi N r lo2 hi2 M q h h2 126 127 _ _ 0 0 false false (q22_o 88 (by decide)) (q28_o 88 (by decide)) rfl q14_88 bin_88
    by_cases e89 : op = 89
    · subst e89; exact law_b 89 lo hi N r lo2 hi2 M q h h2 126 127 _ _ 0 0 false false (q22_o 89 (by decide)) (q28_o 89 (by decide)) rfl q14_89 bin_89
    have e90 : op = 90 := by omega
    subst e90; exact law_b 90 lo hi N r lo2 hi2 M q h h2 126 127 _ _ 0 0 false false (q22_o 90 (by decide)) (q28_o 90 (by decide)) rfl q14_90 bin_90
  by_cases h103 : 103 ≤ op ∧ op ≤ 138
  · by_cases e103 : op = 103
    · subst e103; exact law_u 103 lo hi N r lo2 hi2 M q h h2 127 127 _ 0 0 false false (q22_o 103 (by decide)) (q28_o 103 (by decide)) rfl q14_103 un_103
    by_cases e104 : op = 104
    · subst e104; exact law_u 104 lo hi N r lo2 hi2 M q h h2 127 127 _ 0 0 false false (q22_o 104 (by decide)) (q28_o 104 (by decide)) rfl q14_104 un_104
    by_cases e105 : op = 105
    · subst e105; exact law_u 105 lo hi N r lo2 hi2 M q h h2 127 127 _ 0 0 false false (q22_o 105 (by decide)) (q28_o 105 (by decide)) rfl q14_105 un_105
    by_cases e106 : op = 106
    · subst e106; exact law_b 106 lo hi N r lo2 hi2 M q h h2 127 127 _ _ 0 0 false false (q22_o 106 (by decide)) (q28_o 106 (by decide)) rfl q14_106 bin_106
    by_cases e107 : op = 107
    · subst e107; exact law_b 107 lo hi N r lo2 hi2 M q h h2 127 127 _ _ 0 0 false false (q22_o 107 (by decide)) (q28_o 107 (by decide)) rfl q14_107 bin_107
    by_cases e108 : op = 108
    · subst e108; exact law_b 108 lo hi N r lo2 hi2 M q h h2 127 127 _ _ 0 0 false false (q22_o 108 (by decide)) (q28_o 108 (by decide)) rfl q14_108 bin_108
    by_cases e109 : op = 109
    · subst e109; exact law_b 109 lo hi N r lo2 hi2 M q h h2 127 127 _ _ 0 0 false false (q22_o 109 (by decide)) (q28_o 109 (by decide)) rfl q14_109 bin_109
    by_cases e110 : op = 110
    · subst e110; exact law_b 110 lo hi N r lo2 hi2 M q h h2 127 127 _ _ 0 0 false false (q22_o 110 (by decide)) (q28_o 110 (by decide)) rfl q14_110 bin_110
    by_cases e111 : op = 111
    · subst e111; exact law_b 111 lo hi N r lo2 hi2 M q h h2 127 127 _ _ 0 0 false false (q22_o 111 (by decide)) (q28_o 111 (by decide)) rfl q14_111 bin_111
    by_cases e112 : op = 112
    · subst e112; exact law_b 112 lo hi N r lo2 hi2 M q h h2 127 127 _ _ 0 0 false false (q22_o 112 (by decide)) (q28_o 112 (by decide)) rfl q14_112 bin_112
    by_cases e113 : op = 113
    · subst e113; exact law_b 113 lo hi N r lo2 hi2 M q h h2 127 127 _ _ 0 0 false false (q22_o 113 (by decide)) (q28_o 113 (by decide)) rfl q14_113 bin_113
    by_cases e114 : op = 114
    · subst e114; exact law_b 114 lo hi N r lo2 hi2 M q h h2 127 127 _ _ 0 0 false false (q22_o 114 (by decide)) (q28_o 114 (by decide)) rfl q14_114 bin_114
    by_cases e115 : op = 115
    · subst e115; exact law_b 115 lo hi N r lo2 hi2 M q h h2 127 127 _ _ 0 0 false false (q22_o 115 (by decide)) (q28_o 115 (by decide)) rfl q14_115 bin_115
    by_cases e116 : op = 116
    · subst e116; exact law_b 116 lo hi N r lo2 hi2 M q h h2 127 127 _ _ 0 0 false false (q22_o 116 (by decide)) (q28_o 116 (by decide)) rfl q14_116 bin_116
    by_cases e117 : op = 117
    · subst e117; exact law_b 117 lo hi N r lo2 hi2 M q h h2 127 127 _ _ 0 0 false false (q22_o 117 (by decide)) (q28_o 117 (by decide)) rfl q14_117 bin_117
    by_cases e118 : op = 118
    · subst e118; exact law_b 118 lo hi N r lo2 hi2 M q h h2 127 127 _ _ 0 0 false false (q22_o 118 (by decide)) (q28_o 118 (by decide)) rfl q14_118 bin_118
    by_cases e119 : op = 119
    · subst e119; exact law_b 119 lo hi N r lo2 hi2 M q h h2 127 127 _ _ 0 0 false false (q22_o 119 (by decide)) (q28_o 119 (by decide)) rfl q14_119 bin_119
    by_cases e120 : op = 120
    · subst e120; exact law_b 120 lo hi N r lo2 hi2 M q h h2 127 127 _ _ 0 0 false false (q22_o 120 (by decide)) (q28_o 120 (by decide)) rfl q14_120 bin_120
    by_cases e121 : op = 121
    · subst e121; exact law_u 121 lo hi N r lo2 hi2 M q h h2 126 126 _ 0 0 false false (q22_o 121 (by decide)) (q28_o 121 (by decide)) rfl q14_121 un_121
    by_cases e122 : op = 122
    · subst e122; exact law_u 122 lo hi N r lo2 hi2 M q h h2 126 126 _ 0 0 false false (q22_o 122 (by decide)) (q28_o 122 (by decide)) rfl q14_122 un_122
    by_cases e123 : op = 123
    · subst e123; exact law_u 123 lo hi N r lo2 hi2 M q h h2 126 126 _ 0 0 false false (q22_o 123 (by decide)) (q28_o 123 (by decide)) rfl q14_123 un_123
    by_cases e124 : op = 124
    · subst e124; exact law_b 124 lo hi N r lo2 hi2 M q h h2 126 126 _ _ 0 0 false false (q22_o 124 (by decide)) (q28_o 124 (by decide)) rfl q14_124 bin_124
    by_cases e125 : op = 125
    · subst e125; exact law_b 125 lo hi N r lo2 hi2 M q h h2 126 126 _ _ 0 0 false false (q22_o 125 (by decide)) (q28_o 125 (by decide)) rfl q14_125 bin_125
    by_cases e126 : op = 126
    · subst e126; exact law_b 126 lo hi N r lo2 hi2 M q h h2 126 126 _ _ 0 0 false false (q22_o 126 (by decide)) (q28_o 126 (by decide)) rfl q14_126 bin_126
    by_cases e127 : op = 127
    · subst e127; exact law_b 127 lo hi N r lo2 hi2 M q h h2 126 126 _ _ 0 0 false false (q22_o 127 (by decide)) (q28_o 127 (by decide)) rfl q14_127 bin_127
    by_cases e128 : op = 128
    · subst e128; exact law_b 128 lo hi N r lo2 hi2 M q h h2 126 126 _ _ 0 0 false false (q22_o 128 (by decide)) (q28_o 128 (by decide)) rfl q14_128 bin_128
    by_cases e129 : op = 129
    · subst e129; exact law_b 129 lo hi N r lo2 hi2 M q h h2 126 126 _ _ 0 0 false false (q22_o 129 (by decide)) (q28_o 129 (by decide)) rfl q14_129 bin_129
    by_cases e130 : op = 130
    · subst e130; exact law_b 130 lo hi N r lo2 hi2 M q h h2 126 126 _ _ 0 0 false false (q22_o 130 (by decide)) (q28_o 130 (by decide)) rfl q14_130 bin_130
    by_cases e131 : op = 131
    · subst e131; exact law_b 131 lo hi N r lo2 hi2 M q h h2 126 126 _ _ 0 0 false false (q22_o 131 (by decide)) (q28_o 131 (by decide)) rfl q14_131 bin_131
    by_cases e132 : op = 132
    · subst e132; exact law_b 132 lo hi N r lo2 hi2 M q h h2 126 126 _ _ 0 0 false false (q22_o 132 (by decide)) (q28_o 132 (by decide)) rfl q14_132 bin_132
    by_cases e133 : op = 133
    · subst e133; exact law_b 133 lo hi N r lo2 hi2 M q h h2 126 126 _ _ 0 0 false false (q22_o 133 (by decide)) (q28_o 133 (by decide)) rfl q14_133 bin_133
    by_cases e134 : op = 134
    · subst e134; exact law_b 134 lo hi N r lo2 hi2 M q h h2 126 126 _ _ 0 0 false false (q22_o 134 (by decide)) (q28_o 134 (by decide)) rfl q14_134 bin_134
    by_cases e135 : op = 135
    · subst e135; exact law_b 135 lo hi N r lo2 hi2 M q h h2 126 126 _ _ 0 0 false false (q22_o 135 (by decide)) (q28_o 135 (by decide)) rfl q14_135 bin_135
    by_cases e136 : op = 136
    · subst e136; exact law_b 136 lo hi N r lo2 hi2 M q h h2 126 126 _ _ 0 0 false false (q22_o 136 (by decide)) (q28_o 136 (by decide)) rfl q14_136 bin_136
    by_cases e137 : op = 137
    · subst e137; exact law_b 137 lo hi N r lo2 hi2 M q h h2 126 126 _ _ 0 0 false false (q22_o 137 (by decide)) (q28_o 137 (by decide)) rfl q14_137 bin_137
    have e138 : op = 138 := by omega
    subst e138; exact law_b 138 lo hi N r lo2 hi2 M q h h2 126 126 _ _ 0 0 false false (q22_o 138 (by decide)) (q28_o 138 (by decide)) rfl q14_138 bin_138
  by_cases h167 : 167 ≤ op ∧ op ≤ 167
  · have e167 : op = 167 := by omega
    subst e167; exact law_u 167 lo hi N r lo2 hi2 M q h h2 126 127 _ 0 0 false false (q22_o 167 (by decide)) (q28_o 167 (by decide)) rfl q14_167 un_167
  by_cases h172 : 172 ≤ op ∧ op ≤ 173
  · by_cases e172 : op = 172
    · subst e172; exact law_u 172 lo hi N r lo2 hi2 M q h h2 127 126 _ 0 0 false false (q22_o 172 (by decide)) (q28_o 172 (by decide)) rfl q14_172 un_172
    have e173 : op = 173 := by omega
    subst e173; exact law_u 173 lo hi N r lo2 hi2 M q h h2 127 126 _ 0 0 false false (q22_o 173 (by decide)) (q28_o 173 (by decide)) rfl q14_173 un_173
  by_cases h192 : 192 ≤ op ∧ op ≤ 196
  · by_cases e192 : op = 192
    · subst e192; exact law_u 192 lo hi N r lo2 hi2 M q h h2 127 127 _ 0 0 false false (q22_o 192 (by decide)) (q28_o 192 (by decide)) rfl q14_192 un_192
    by_cases e193 : op = 193
    · subst e193; exact law_u 193 lo hi N r lo2 hi2 M q h h2 127 127 _ 0 0 false false (q22_o 193 (by decide)) (q28_o 193 (by decide)) rfl q14_193 un_193
    by_cases e194 : op = 194
    · subst e194; exact law_u 194 lo hi N r lo2 hi2 M q h h2 126 126 _ 0 0 false false (q22_o 194 (by decide)) (q28_o 194 (by decide)) rfl q14_194 un_194
    by_cases e195 : op = 195
    · subst e195; exact law_u 195 lo hi N r lo2 hi2 M q h h2 126 126 _ 0 0 false false (q22_o 195 (by decide)) (q28_o 195 (by decide)) rfl q14_195 un_195
    have e196 : op = 196 := by omega
    subst e196; exact law_u 196 lo hi N r lo2 hi2 M q h h2 126 126 _ 0 0 false false (q22_o 196 (by decide)) (q28_o 196 (by decide)) rfl q14_196 un_196
  have hT := q14_out op (by omega)
  by_cases k40 : op = 40
  · subst k40; exact law_ol 40 lo hi N r lo2 hi2 M q h h2 127 4 4294967295 q22_40 q28_40 q27_40 (by decide) (Or.inl rfl) hT
  by_cases k41 : op = 41
  · subst k41; exact law_ol 41 lo hi N r lo2 hi2 M q h h2 126 8 18446744073709551615 q22_41 q28_41 q27_41 (by decide) (Or.inl rfl) hT
  by_cases k44 : op = 44
  · subst k44; exact law_ol 44 lo hi N r lo2 hi2 M q h h2 127 1 4294967295 q22_44 q28_44 q27_44 (by decide) (Or.inl rfl) hT
  by_cases k45 : op = 45
  · subst k45; exact law_ol 45 lo hi N r lo2 hi2 M q h h2 127 1 255 q22_45 q28_45 q27_45 (by decide) (Or.inr (by kernel_rfl)) hT
  by_cases k46 : op = 46
  · subst k46; exact law_ol 46 lo hi N r lo2 hi2 M q h h2 127 2 4294967295 q22_46 q28_46 q27_46 (by decide) (Or.inl rfl) hT
  by_cases k47 : op = 47
  · subst k47; exact law_ol 47 lo hi N r lo2 hi2 M q h h2 127 2 65535 q22_47 q28_47 q27_47 (by decide) (Or.inr (by kernel_rfl)) hT
  by_cases k48 : op = 48
  · subst k48; exact law_ol 48 lo hi N r lo2 hi2 M q h h2 126 1 18446744073709551615 q22_48 q28_48 q27_48 (by decide) (Or.inl rfl) hT
  by_cases k49 : op = 49
  · subst k49; exact law_ol 49 lo hi N r lo2 hi2 M q h h2 126 1 255 q22_49 q28_49 q27_49 (by decide) (Or.inr (by kernel_rfl)) hT
  by_cases k50 : op = 50
  · subst k50; exact law_ol 50 lo hi N r lo2 hi2 M q h h2 126 2 18446744073709551615 q22_50 q28_50 q27_50 (by decide) (Or.inl rfl) hT
  by_cases k51 : op = 51
  · subst k51; exact law_ol 51 lo hi N r lo2 hi2 M q h h2 126 2 65535 q22_51 q28_51 q27_51 (by decide) (Or.inr (by kernel_rfl)) hT
  by_cases k52 : op = 52
  · subst k52; exact law_ol 52 lo hi N r lo2 hi2 M q h h2 126 4 18446744073709551615 q22_52 q28_52 q27_52 (by decide) (Or.inl rfl) hT
  by_cases k53 : op = 53
  · subst k53; exact law_ol 53 lo hi N r lo2 hi2 M q h h2 126 4 4294967295 q22_53 q28_53 q27_53 (by decide) (Or.inr (by kernel_rfl)) hT
  by_cases k54 : op = 54
  · subst k54; exact law_on 54 lo hi N r lo2 hi2 M q h h2 127 4 true true q22_54 q28_54 rfl hT
  by_cases k55 : op = 55
  · subst k55; exact law_on 55 lo hi N r lo2 hi2 M q h h2 126 8 true true q22_55 q28_55 rfl hT
  by_cases k58 : op = 58
  · subst k58; exact law_on 58 lo hi N r lo2 hi2 M q h h2 127 1 true true q22_58 q28_58 rfl hT
  by_cases k59 : op = 59
  · subst k59; exact law_on 59 lo hi N r lo2 hi2 M q h h2 127 2 true true q22_59 q28_59 rfl hT
  by_cases k60 : op = 60
  · subst k60; exact law_on 60 lo hi N r lo2 hi2 M q h h2 126 1 true true q22_60 q28_60 rfl hT
  by_cases k61 : op = 61
  · subst k61; exact law_on 61 lo hi N r lo2 hi2 M q h h2 126 2 true true q22_61 q28_61 rfl hT
  by_cases k62 : op = 62
  · subst k62; exact law_on 62 lo hi N r lo2 hi2 M q h h2 126 4 true true q22_62 q28_62 rfl hT
  have hn : op ≠ 40 ∧ op ≠ 41 ∧ op ≠ 44 ∧ op ≠ 45 ∧ op ≠ 46 ∧ op ≠ 47 ∧ op ≠ 48 ∧ op ≠ 49 ∧ op ≠ 50 ∧ op ≠ 51 ∧ op ≠ 52 ∧ op ≠ 53 ∧ op ≠ 54 ∧ op ≠ 55 ∧ op ≠ 58 ∧ op ≠ 59 ∧ op ≠ 60 ∧ op ≠ 61 ∧ op ≠ 62 := ⟨k40, k41, k44, k45, k46, k47, k48, k49, k50, k51, k52, k53, k54, k55, k58, k59, k60, k61, k62⟩
  exact law_on op lo hi N r lo2 hi2 M q h h2 0 0 false false (q22_o op hn) (q28_o op hn) rfl hT

set_option maxHeartbeats 4000000 in
theorem law_x (op a b N r c d M q : Int) (h : ¬ (rA a b N r = true ∧ rA c d M q = true)) : F9 [op, a, b, N, r, c, d, M, q] [] = some ([], [true]) := by
  refine Eq.trans (Fd_of (n := 9) (m := 0) (t := XTransTight.t9) (C := Tab.fn a9) rfl rfl) ?_
  rw [XTransTight.t9]
  refine st_0_1 (e9_10) (g := true) rfl (l := []) rfl (m := []) rfl (cl_t q10) fun b0 hb0 => ?_
  show T.den _ _ [op, a, b, N, r, c, d, M, q] [b0] = _
  refine st_ite (fun hc => ?_) (fun hc => ?_)
  · replace hc : (!b0) = true := hc
    have c1 := hc
    clear hc
    rw [hb0] at c1; cases c1
  · replace hc : (!b0) = false := hc
    have c2 := hc
    clear hc
    refine st_0_1 (e9_11) (g := true) rfl (l := [a, b, N, r]) rfl (m := []) rfl (cl_t (q11 a b N r)) fun b1 hb1 => ?_
    show T.den _ _ [op, a, b, N, r, c, d, M, q] [b0, b1] = _
    refine st_0_1 (e9_11) (g := b1) rfl (l := [c, d, M, q]) rfl (m := []) rfl (cl_b (q11 c d M q)) fun b2 hb2 => ?_
    show T.den _ _ [op, a, b, N, r, c, d, M, q] [b0, b1, b2] = _
    refine st_ite (fun hc => ?_) (fun hc => ?_)
    · replace hc : ((!b1) || (!b2)) = true := hc
      have c3 := hc
      clear hc
      refine st_ret ?_
      show some ([], [true]) = _
      rfl
    · replace hc : ((!b1) || (!b2)) = false := hc
      have c4 := hc
      clear hc
      exfalso; apply h; rw [hb2, hb1] at c4; revert c4; cases rA a b N r <;> cases rA c d M q <;> simp

theorem law (op a b N r c d M q : Int) (wop : (Lit.int .i64 op).wf = true) (wa : (Lit.int .u64 a).wf = true) (wb : (Lit.int .u64 b).wf = true) (wN : (Lit.int .i64 N).wf = true) (wr : (Lit.int .u64 r).wf = true) (wc : (Lit.int .u64 c).wf = true) (wd : (Lit.int .u64 d).wf = true) (wM : (Lit.int .i64 M).wf = true) (wq : (Lit.int .u64 q).wf = true) : F9 [op, a, b, N, r, c, d, M, q] [] = some ([], [true]) := by
  by_cases hR : rA a b N r = true ∧ rA c d M q = true
  · obtain ⟨h1, h2⟩ := hR
    have ia := wf_u64 wa
    have ib := wf_u64 wb
    have ic := wf_u64 wc
    have id := wf_u64 wd
    obtain ⟨k1, N, r, rfl, rfl, hN, hr, hrl⟩ := rA_true h1 (wf_u64 wr)
    obtain ⟨k2, M, q, rfl, rfl, hM, hq, hql⟩ := rA_true h2 (wf_u64 wq)
    obtain ⟨a, rfl⟩ := nats ia.1
    obtain ⟨b, rfl⟩ := nats ib.1
    obtain ⟨c, rfl⟩ := nats ic.1
    obtain ⟨d, rfl⟩ := nats id.1
    exact law_nat op a b N r c d M q ⟨by omega, by omega, hN, hrl⟩ ⟨by omega, by omega, hM, hql⟩
  · exact law_x op a b N r c d M q hR
end Go.Proofs.YtlnikilodakjmaaDoor.YTransTight
