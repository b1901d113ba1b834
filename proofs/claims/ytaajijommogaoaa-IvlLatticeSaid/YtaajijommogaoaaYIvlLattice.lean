/-
  IvlLattice, of numbers alone: the law answers true.
-/
import Derived.Test.YtaajijommogaoaaXIvlLattice
namespace Go.Proofs.Ytaajijommogaoaa.YIvlLattice
open Go.Proofs.Ytaajijommogaoaa.Sx Go.Proofs.Ytaajijommogaoaa.XIvlLattice Go.Proofs.Ytaajijommogaoaa.EIvlLattice
theorem mn_ (a b : Int) : min a b = if b < a then b else a := by split <;> omega
theorem mx_ (a b : Int) : max a b = if b > a then b else a := by split <;> omega
theorem q9 : F9 [] [] = some ([], [true]) := by decide +kernel
theorem q10 (a b : Int) : F10 [a, b] [] = some ([min a b, max a b], []) := by rw [mn_, mx_]; rfl
theorem q12 (a b c d : Int) : F12 [a, b, c, d] [] = some ([min a c, max b d], []) := by rw [mn_, mx_]; rfl
theorem q11 (a b c d : Int) : F11 [a, b, c, d] [] = some ([], [decide (c ≤ a) && decide (b ≤ d)]) := rfl
theorem q16 (a b n : Int) : F16 [a, b, n] [] = some ([], [decide (a ≤ n) && decide (n ≤ b)]) := rfl
theorem q17 (a b : Int) : F17 [a, b] [] = some ([], [decide (a ≤ b)]) := rfl
theorem st_0_1 {C : Nat → Sx.Fn} {is : List Int} {bs : List Bool} {r : Option (List Int × List Bool)} {G : E} {f : Nat} {ii bb : List E} {k : Sx.T} {c0 : Bool} {F : Sx.Fn} {g : Bool} {l : List Int} {m : List Bool} (hC : C f = F) (hG : G.B is bs = g) (hl : ii.map (E.I is bs) = l) (hm : bb.map (E.B is bs) = m)
    (h : (bif g then F l m else some (List.replicate 0 0, List.replicate 1 false)) = some ([], [c0]))
    (hk : ∀ (y0 : Bool), y0 = c0 → k.den C (is ++ []) (bs ++ [y0]) = r) : (Sx.T.call G f ii bb 0 1 k).den C is bs = r := st_call _ _ (by rw [hC, hG, hl, hm]; exact h) rfl rfl (hk _ rfl)

theorem st_2_0 {C : Nat → Sx.Fn} {is : List Int} {bs : List Bool} {r : Option (List Int × List Bool)} {G : E} {f : Nat} {ii bb : List E} {k : Sx.T} {a0 a1 : Int} {F : Sx.Fn} {g : Bool} {l : List Int} {m : List Bool} (hC : C f = F) (hG : G.B is bs = g) (hl : ii.map (E.I is bs) = l) (hm : bb.map (E.B is bs) = m)
    (h : (bif g then F l m else some (List.replicate 2 0, List.replicate 0 false)) = some ([a0, a1], []))
    (hk : ∀ (x0 x1 : Int), x0 = a0 → x1 = a1 → k.den C (is ++ [x0, x1]) (bs ++ []) = r) : (Sx.T.call G f ii bb 2 0 k).den C is bs = r := st_call _ _ (by rw [hC, hG, hl, hm]; exact h) rfl rfl (hk _ _ rfl rfl)

theorem st_2_1 {C : Nat → Sx.Fn} {is : List Int} {bs : List Bool} {r : Option (List Int × List Bool)} {G : E} {f : Nat} {ii bb : List E} {k : Sx.T} {a0 a1 : Int} {c0 : Bool} {F : Sx.Fn} {g : Bool} {l : List Int} {m : List Bool} (hC : C f = F) (hG : G.B is bs = g) (hl : ii.map (E.I is bs) = l) (hm : bb.map (E.B is bs) = m)
    (h : (bif g then F l m else some (List.replicate 2 0, List.replicate 1 false)) = some ([a0, a1], [c0]))
    (hk : ∀ (x0 x1 : Int) (y0 : Bool), x0 = a0 → x1 = a1 → y0 = c0 → k.den C (is ++ [x0, x1]) (bs ++ [y0]) = r) : (Sx.T.call G f ii bb 2 1 k).den C is bs = r := st_call _ _ (by rw [hC, hG, hl, hm]; exact h) rfl rfl (hk _ _ _ rfl rfl rfl)
theorem e15_17 : Tab.fn a15 17 = F17 := Tab.fn_hd
theorem e5_9 : Tab.fn a5 9 = F9 := Tab.fn_hd
theorem e5_10 : Tab.fn a5 10 = F10 := ((Tab.fn_tl rfl).trans Tab.fn_hd)
theorem e5_12 : Tab.fn a5 12 = F12 := ((Tab.fn_tl rfl).trans ((Tab.fn_tl rfl).trans Tab.fn_hd))
theorem e5_15 : Tab.fn a5 15 = F15 := ((Tab.fn_tl rfl).trans ((Tab.fn_tl rfl).trans ((Tab.fn_tl rfl).trans Tab.fn_hd)))
theorem e5_16 : Tab.fn a5 16 = F16 := ((Tab.fn_tl rfl).trans ((Tab.fn_tl rfl).trans ((Tab.fn_tl rfl).trans ((Tab.fn_tl rfl).trans Tab.fn_hd))))
theorem e5_11 : Tab.fn a5 11 = F11 := ((Tab.fn_tl rfl).trans ((Tab.fn_tl rfl).trans ((Tab.fn_tl rfl).trans ((Tab.fn_tl rfl).trans ((Tab.fn_tl rfl).trans Tab.fn_hd)))))
theorem e5_17 : Tab.fn a5 17 = F17 := ((Tab.fn_tl rfl).trans ((Tab.fn_tl rfl).trans ((Tab.fn_tl rfl).trans ((Tab.fn_tl rfl).trans ((Tab.fn_tl rfl).trans ((Tab.fn_tl rfl).trans Tab.fn_hd))))))

theorem q15 (a b c d : Int) : F15 [a, b, c, d] [] = some ([bif decide (max a c ≤ min b d) then max a c else 0, bif decide (max a c ≤ min b d) then min b d else 0], [decide (max a c ≤ min b d)]) := by
  rw [mn_, mx_]
  refine Eq.trans (Fd_of (n := 4) (m := 0) (t := t15) (C := Tab.fn a15) rfl rfl) ?_
  rw [t15]
  refine st_0_1 e15_17 (g := true) rfl (l := [if c > a then c else a, if d < b then d else b]) rfl (m := []) rfl (cl_t (q17 (if c > a then c else a) (if d < b then d else b))) fun y hy => ?_
  refine st_ite (fun hc => ?_) (fun hc => ?_)
  · replace hc : (!y) = true := hc
    have : y = false := by simpa using hc
    rw [← hy, this]; rfl
  · replace hc : (!y) = false := hc
    have : y = true := by simpa using hc
    rw [← hy, this]; rfl
set_option maxHeartbeats 4000000 in
theorem law5 (i0 i1 i2 i3 i4 : Int) : F5 [i0, i1, i2, i3, i4] [] = some ([], [true]) := by
  refine Eq.trans (Fd_of (n := 5) (m := 0) (t := t5) (C := Tab.fn a5) rfl rfl) ?_
  rw [t5]
  refine st_0_1 (e5_9) (g := true) rfl (l := []) rfl (m := []) rfl (cl_t q9) fun b0 hb0 => ?_
  show T.den _ _ [i0, i1, i2, i3, i4] [b0] = _
  refine st_ite (fun hc => ?_) (fun hc => ?_)
  · replace hc : (!b0) = true := hc
    have c1 := hc
    clear hc
    refine st_ret ?_
    show some ([], [false]) = _
    rw [hb0] at c1; cases c1
  · replace hc : (!b0) = false := hc
    have c2 := hc
    clear hc
    refine st_2_0 (e5_10) (g := true) rfl (l := [i0, i1]) rfl (m := []) rfl (cl_t (q10 i0 i1)) fun i5 i6 hi5 hi6 => ?_
    show T.den _ _ [i0, i1, i2, i3, i4, i5, i6] [b0] = _
    refine st_2_0 (e5_10) (g := true) rfl (l := [i2, i3]) rfl (m := []) rfl (cl_t (q10 i2 i3)) fun i7 i8 hi7 hi8 => ?_
    show T.den _ _ [i0, i1, i2, i3, i4, i5, i6, i7, i8] [b0] = _
    refine st_2_0 (e5_12) (g := true) rfl (l := [i5, i6, i7, i8]) rfl (m := []) rfl (cl_t (q12 i5 i6 i7 i8)) fun i9 i10 hi9 hi10 => ?_
    show T.den _ _ [i0, i1, i2, i3, i4, i5, i6, i7, i8, i9, i10] [b0] = _
    refine st_2_1 (e5_15) (g := true) rfl (l := [i5, i6, i7, i8]) rfl (m := []) rfl (cl_t (q15 i5 i6 i7 i8)) fun i11 i12 b1 hi11 hi12 hb1 => ?_
    show T.den _ _ [i0, i1, i2, i3, i4, i5, i6, i7, i8, i9, i10, i11, i12] [b0, b1] = _
    refine st_lb fun b2 hb2 => ?_
    replace hb2 : b2 = ((i0 != i1) && (decide (i4 ≥ i5))) := hb2
    show T.den _ _ [i0, i1, i2, i3, i4, i5, i6, i7, i8, i9, i10, i11, i12] [b0, b1, b2] = _
    refine st_lb fun b3 hb3 => ?_
    replace hb3 : b3 = ((b2 && (decide (i4 ≤ i6))) || (i4 == i0)) := hb3
    show T.den _ _ [i0, i1, i2, i3, i4, i5, i6, i7, i8, i9, i10, i11, i12] [b0, b1, b2, b3] = _
    refine st_lb fun b4 hb4 => ?_
    replace hb4 : b4 = ((decide (i4 ≥ i7)) && (decide (i4 ≤ i8))) := hb4
    show T.den _ _ [i0, i1, i2, i3, i4, i5, i6, i7, i8, i9, i10, i11, i12] [b0, b1, b2, b3, b4] = _
    refine st_0_1 (e5_16) (g := true) rfl (l := [i5, i6, i4]) rfl (m := []) rfl (cl_t (q16 i5 i6 i4)) fun b5 hb5 => ?_
    show T.den _ _ [i0, i1, i2, i3, i4, i5, i6, i7, i8, i9, i10, i11, i12] [b0, b1, b2, b3, b4, b5] = _
    refine st_lb fun b6 hb6 => ?_
    replace hb6 : b6 = (!(b5 == (b3 || (i4 == i1)))) := hb6
    show T.den _ _ [i0, i1, i2, i3, i4, i5, i6, i7, i8, i9, i10, i11, i12] [b0, b1, b2, b3, b4, b5, b6] = _
    refine st_0_1 (e5_16) (g := (!b6)) rfl (l := [i7, i8, i4]) rfl (m := []) rfl (cl_b (q16 i7 i8 i4)) fun b7 hb7 => ?_
    show T.den _ _ [i0, i1, i2, i3, i4, i5, i6, i7, i8, i9, i10, i11, i12] [b0, b1, b2, b3, b4, b5, b6, b7] = _
    refine st_lb fun b8 hb8 => ?_
    replace hb8 : b8 = ((b3 || (i4 == i1)) || b4) := hb8
    show T.den _ _ [i0, i1, i2, i3, i4, i5, i6, i7, i8, i9, i10, i11, i12] [b0, b1, b2, b3, b4, b5, b6, b7, b8] = _
    refine st_0_1 (e5_16) (g := ((!(b6 || (!(b7 == b4)))) && b8)) rfl (l := [i9, i10, i4]) rfl (m := []) rfl (cl_b (q16 i9 i10 i4)) fun b9 hb9 => ?_
    show T.den _ _ [i0, i1, i2, i3, i4, i5, i6, i7, i8, i9, i10, i11, i12] [b0, b1, b2, b3, b4, b5, b6, b7, b8, b9] = _
    refine st_lb fun b10 hb10 => ?_
    replace hb10 : b10 = ((b6 || (!(b7 == b4))) || (b8 && (!b9))) := hb10
    show T.den _ _ [i0, i1, i2, i3, i4, i5, i6, i7, i8, i9, i10, i11, i12] [b0, b1, b2, b3, b4, b5, b6, b7, b8, b9, b10] = _
    refine st_ite (fun hc => ?_) (fun hc => ?_)
    · replace hc : b10 = true := hc
      have c3 := hc
      clear hc
      refine st_ret ?_
      show some ([], [false]) = _
      have inX : (b3 || (i4 == i1)) = b5 := by
        rw [hb5, hb3, hb2, Bool.eq_iff_iff]
        simp only [Bool.or_eq_true, Bool.and_eq_true, decide_eq_true_eq, bne_iff_ne, beq_iff_eq, ne_eq, ge_iff_le, gt_iff_lt, Bool.not_eq_true', Bool.not_eq_true]
        omega
      have k6 : b6 = false := by rw [hb6, inX]; simp
      have k7 : b7 = b4 := by rw [hb7, hb4, k6]; simp
      have k8 : b8 = true → b9 = true := fun h => by
        rw [hb9, k6, k7, h]
        rw [hb8, inX, hb5, hb4] at h
        simp only [Bool.or_eq_true, Bool.and_eq_true, decide_eq_true_eq, bne_iff_ne, beq_iff_eq, ne_eq, ge_iff_le, gt_iff_lt, Bool.not_eq_true', Bool.not_eq_true] at h
        simp only [BEq.rfl, Bool.not_true, Bool.or_false, Bool.not_false, Bool.true_and, Bool.and_eq_true, decide_eq_true_eq]
        omega
      rw [hb10, k6, k7] at c3
      cases h8 : b8
      · rw [h8] at c3; simp at c3
      · rw [h8, k8 h8] at c3; simp at c3
    · replace hc : b10 = false := hc
      have c4 := hc
      clear hc
      refine st_0_1 (e5_16) (g := b1) rfl (l := [i11, i12, i4]) rfl (m := []) rfl (cl_b (q16 i11 i12 i4)) fun b11 hb11 => ?_
      show T.den _ _ [i0, i1, i2, i3, i4, i5, i6, i7, i8, i9, i10, i11, i12] [b0, b1, b2, b3, b4, b5, b6, b7, b8, b9, b10, b11] = _
      refine st_lb fun b12 hb12 => ?_
      replace hb12 : b12 = ((b3 || (i4 == i1)) && b4) := hb12
      show T.den _ _ [i0, i1, i2, i3, i4, i5, i6, i7, i8, i9, i10, i11, i12] [b0, b1, b2, b3, b4, b5, b6, b7, b8, b9, b10, b11, b12] = _
      refine st_lb fun b13 hb13 => ?_
      replace hb13 : b13 = ((b3 || (i4 == i1)) && b4) := hb13
      show T.den _ _ [i0, i1, i2, i3, i4, i5, i6, i7, i8, i9, i10, i11, i12] [b0, b1, b2, b3, b4, b5, b6, b7, b8, b9, b10, b11, b12, b13] = _
      refine st_lb fun b14 hb14 => ?_
      replace hb14 : b14 = (!((i11 == 0) && (i12 == 0))) := hb14
      show T.den _ _ [i0, i1, i2, i3, i4, i5, i6, i7, i8, i9, i10, i11, i12] [b0, b1, b2, b3, b4, b5, b6, b7, b8, b9, b10, b11, b12, b13, b14] = _
      refine st_lb fun b15 hb15 => ?_
      replace hb15 : b15 = ((b1 && (!(b11 == b12))) || ((!b1) && (b13 || b14))) := hb15
      show T.den _ _ [i0, i1, i2, i3, i4, i5, i6, i7, i8, i9, i10, i11, i12] [b0, b1, b2, b3, b4, b5, b6, b7, b8, b9, b10, b11, b12, b13, b14, b15] = _
      refine st_ite (fun hc => ?_) (fun hc => ?_)
      · replace hc : b15 = true := hc
        have c5 := hc
        clear hc
        refine st_ret ?_
        show some ([], [false]) = _
        have inX : (b3 || (i4 == i1)) = b5 := by
          rw [hb5, hb3, hb2, Bool.eq_iff_iff]
          simp only [Bool.or_eq_true, Bool.and_eq_true, decide_eq_true_eq, bne_iff_ne, beq_iff_eq, ne_eq, ge_iff_le, gt_iff_lt, Bool.not_eq_true', Bool.not_eq_true]
          omega
        cases h1 : b1
        · rw [h1] at hb1
          rw [← hb1] at hi11 hi12
          have h2 := of_decide_eq_false hb1.symm
          have k12 : b13 = false := by
            rw [hb13, inX, hb5, hb4, Bool.eq_false_iff]
            intro h
            simp only [Bool.or_eq_true, Bool.and_eq_true, decide_eq_true_eq, bne_iff_ne, beq_iff_eq, ne_eq, ge_iff_le, gt_iff_lt, Bool.not_eq_true', Bool.not_eq_true] at h
            omega
          rw [hb15, h1, k12, hb14, hi11, hi12] at c5
          simp at c5
        · rw [h1] at hb1
          rw [← hb1] at hi11 hi12
          have h2 := of_decide_eq_true hb1.symm
          simp only [cond_true] at hi11 hi12
          have k : b11 = b12 := by
            rw [hb11, hb12, h1, inX, hb5, hb4, Bool.eq_iff_iff]
            simp only [Bool.true_and, Bool.or_eq_true, Bool.and_eq_true, decide_eq_true_eq, bne_iff_ne, beq_iff_eq, ne_eq, ge_iff_le, gt_iff_lt, Bool.not_eq_true', Bool.not_eq_true]
            omega
          rw [hb15, h1, k] at c5
          simp at c5
      · replace hc : b15 = false := hc
        have c6 := hc
        clear hc
        refine st_0_1 (e5_11) (g := true) rfl (l := [i5, i6, i7, i8]) rfl (m := []) rfl (cl_t (q11 i5 i6 i7 i8)) fun b16 hb16 => ?_
        show T.den _ _ [i0, i1, i2, i3, i4, i5, i6, i7, i8, i9, i10, i11, i12] [b0, b1, b2, b3, b4, b5, b6, b7, b8, b9, b10, b11, b12, b13, b14, b15, b16] = _
        refine st_0_1 (e5_16) (g := true) rfl (l := [i7, i8, i5]) rfl (m := []) rfl (cl_t (q16 i7 i8 i5)) fun b17 hb17 => ?_
        show T.den _ _ [i0, i1, i2, i3, i4, i5, i6, i7, i8, i9, i10, i11, i12] [b0, b1, b2, b3, b4, b5, b6, b7, b8, b9, b10, b11, b12, b13, b14, b15, b16, b17] = _
        refine st_0_1 (e5_16) (g := b17) rfl (l := [i7, i8, i6]) rfl (m := []) rfl (cl_b (q16 i7 i8 i6)) fun b18 hb18 => ?_
        show T.den _ _ [i0, i1, i2, i3, i4, i5, i6, i7, i8, i9, i10, i11, i12] [b0, b1, b2, b3, b4, b5, b6, b7, b8, b9, b10, b11, b12, b13, b14, b15, b16, b17, b18] = _
        refine st_0_1 (e5_11) (g := (b16 == (b17 && b18))) rfl (l := [i5, i6, i9, i10]) rfl (m := []) rfl (cl_b (q11 i5 i6 i9 i10)) fun b19 hb19 => ?_
        show T.den _ _ [i0, i1, i2, i3, i4, i5, i6, i7, i8, i9, i10, i11, i12] [b0, b1, b2, b3, b4, b5, b6, b7, b8, b9, b10, b11, b12, b13, b14, b15, b16, b17, b18, b19] = _
        refine st_lb fun b20 hb20 => ?_
        replace hb20 : b20 = ((!(b16 == (b17 && b18))) || (!b19)) := hb20
        show T.den _ _ [i0, i1, i2, i3, i4, i5, i6, i7, i8, i9, i10, i11, i12] [b0, b1, b2, b3, b4, b5, b6, b7, b8, b9, b10, b11, b12, b13, b14, b15, b16, b17, b18, b19, b20] = _
        refine st_0_1 (e5_11) (g := (!b20)) rfl (l := [i7, i8, i9, i10]) rfl (m := []) rfl (cl_b (q11 i7 i8 i9 i10)) fun b21 hb21 => ?_
        show T.den _ _ [i0, i1, i2, i3, i4, i5, i6, i7, i8, i9, i10, i11, i12] [b0, b1, b2, b3, b4, b5, b6, b7, b8, b9, b10, b11, b12, b13, b14, b15, b16, b17, b18, b19, b20, b21] = _
        refine st_0_1 (e5_11) (g := (!(b20 || (!b21)))) rfl (l := [i5, i6, i7, i8]) rfl (m := []) rfl (cl_b (q11 i5 i6 i7 i8)) fun b22 hb22 => ?_
        show T.den _ _ [i0, i1, i2, i3, i4, i5, i6, i7, i8, i9, i10, i11, i12] [b0, b1, b2, b3, b4, b5, b6, b7, b8, b9, b10, b11, b12, b13, b14, b15, b16, b17, b18, b19, b20, b21, b22] = _
        refine st_lb fun b23 hb23 => ?_
        replace hb23 : b23 = (!((i9 == i7) && (i10 == i8))) := hb23
        show T.den _ _ [i0, i1, i2, i3, i4, i5, i6, i7, i8, i9, i10, i11, i12] [b0, b1, b2, b3, b4, b5, b6, b7, b8, b9, b10, b11, b12, b13, b14, b15, b16, b17, b18, b19, b20, b21, b22, b23] = _
        refine st_lb fun b24 hb24 => ?_
        replace hb24 : b24 = ((b20 || (!b21)) || (b22 && b23)) := hb24
        show T.den _ _ [i0, i1, i2, i3, i4, i5, i6, i7, i8, i9, i10, i11, i12] [b0, b1, b2, b3, b4, b5, b6, b7, b8, b9, b10, b11, b12, b13, b14, b15, b16, b17, b18, b19, b20, b21, b22, b23, b24] = _
        refine st_ite (fun hc => ?_) (fun hc => ?_)
        · replace hc : b24 = true := hc
          have c7 := hc
          clear hc
          refine st_ret ?_
          show some ([], [false]) = _
          have f1 : i5 ≤ i6 := by omega
          have f2 : i7 ≤ i8 := by omega
          have k1 : b16 = (b17 && b18) := by
            rw [hb18, hb16, hb17, Bool.eq_iff_iff]
            simp only [Bool.or_eq_true, Bool.and_eq_true, decide_eq_true_eq, bne_iff_ne, beq_iff_eq, ne_eq, ge_iff_le, gt_iff_lt, Bool.not_eq_true', Bool.not_eq_true]
            omega
          have k19 : b19 = true := by
            rw [hb19, k1]
            simp only [BEq.rfl, Bool.true_and, Bool.and_eq_true, decide_eq_true_eq]
            omega
          have k20 : b20 = false := by rw [hb20, k1, k19]; simp
          have k21 : b21 = true := by
            rw [hb21, k20]
            simp only [Bool.not_false, Bool.true_and, Bool.and_eq_true, decide_eq_true_eq]
            omega
          have k22 : b22 = true → b23 = false := fun h => by
            rw [hb22, k20, k21] at h
            simp only [Bool.not_true, Bool.or_false, Bool.not_false, Bool.true_and, Bool.and_eq_true, decide_eq_true_eq] at h
            rw [hb23]
            simp only [Bool.not_eq_false', Bool.and_eq_true, beq_iff_eq]
            omega
          rw [hb24, k20, k21] at c7
          cases h22 : b22
          · rw [h22] at c7; simp at c7
          · rw [h22, k22 h22] at c7; simp at c7
        · replace hc : b24 = false := hc
          have c8 := hc
          clear hc
          refine st_0_1 (e5_17) (g := true) rfl (l := [i0, i1]) rfl (m := []) rfl (cl_t (q17 i0 i1)) fun b25 hb25 => ?_
          show T.den _ _ [i0, i1, i2, i3, i4, i5, i6, i7, i8, i9, i10, i11, i12] [b0, b1, b2, b3, b4, b5, b6, b7, b8, b9, b10, b11, b12, b13, b14, b15, b16, b17, b18, b19, b20, b21, b22, b23, b24, b25] = _
          refine st_0_1 (e5_17) (g := (b25 == (decide (i0 ≤ i1)))) rfl (l := [i9, i10]) rfl (m := []) rfl (cl_b (q17 i9 i10)) fun b26 hb26 => ?_
          show T.den _ _ [i0, i1, i2, i3, i4, i5, i6, i7, i8, i9, i10, i11, i12] [b0, b1, b2, b3, b4, b5, b6, b7, b8, b9, b10, b11, b12, b13, b14, b15, b16, b17, b18, b19, b20, b21, b22, b23, b24, b25, b26] = _
          refine st_lb fun b27 hb27 => ?_
          replace hb27 : b27 = ((b25 == (decide (i0 ≤ i1))) && b26) := hb27
          show T.den _ _ [i0, i1, i2, i3, i4, i5, i6, i7, i8, i9, i10, i11, i12] [b0, b1, b2, b3, b4, b5, b6, b7, b8, b9, b10, b11, b12, b13, b14, b15, b16, b17, b18, b19, b20, b21, b22, b23, b24, b25, b26, b27] = _
          refine st_2_0 (e5_12) (g := b27) rfl (l := [i7, i8, i5, i6]) rfl (m := []) rfl (cl_2 (q12 i7 i8 i5 i6)) fun i13 i14 hi13 hi14 => ?_
          show T.den _ _ [i0, i1, i2, i3, i4, i5, i6, i7, i8, i9, i10, i11, i12, i13, i14] [b0, b1, b2, b3, b4, b5, b6, b7, b8, b9, b10, b11, b12, b13, b14, b15, b16, b17, b18, b19, b20, b21, b22, b23, b24, b25, b26, b27] = _
          refine st_lb fun b28 hb28 => ?_
          replace hb28 : b28 = ((i13 == i9) && (i14 == i10)) := hb28
          show T.den _ _ [i0, i1, i2, i3, i4, i5, i6, i7, i8, i9, i10, i11, i12, i13, i14] [b0, b1, b2, b3, b4, b5, b6, b7, b8, b9, b10, b11, b12, b13, b14, b15, b16, b17, b18, b19, b20, b21, b22, b23, b24, b25, b26, b27, b28] = _
          refine st_0_1 (e5_17) (g := ((b27 && b28) && b1)) rfl (l := [i11, i12]) rfl (m := []) rfl (cl_b (q17 i11 i12)) fun b29 hb29 => ?_
          show T.den _ _ [i0, i1, i2, i3, i4, i5, i6, i7, i8, i9, i10, i11, i12, i13, i14] [b0, b1, b2, b3, b4, b5, b6, b7, b8, b9, b10, b11, b12, b13, b14, b15, b16, b17, b18, b19, b20, b21, b22, b23, b24, b25, b26, b27, b28, b29] = _
          refine st_0_1 (e5_11) (g := (((b27 && b28) && b1) && b29)) rfl (l := [i11, i12, i5, i6]) rfl (m := []) rfl (cl_b (q11 i11 i12 i5 i6)) fun b30 hb30 => ?_
          show T.den _ _ [i0, i1, i2, i3, i4, i5, i6, i7, i8, i9, i10, i11, i12, i13, i14] [b0, b1, b2, b3, b4, b5, b6, b7, b8, b9, b10, b11, b12, b13, b14, b15, b16, b17, b18, b19, b20, b21, b22, b23, b24, b25, b26, b27, b28, b29, b30] = _
          refine st_0_1 (e5_11) (g := (((b27 && b28) && b1) && (b29 && b30))) rfl (l := [i11, i12, i7, i8]) rfl (m := []) rfl (cl_b (q11 i11 i12 i7 i8)) fun b31 hb31 => ?_
          show T.den _ _ [i0, i1, i2, i3, i4, i5, i6, i7, i8, i9, i10, i11, i12, i13, i14] [b0, b1, b2, b3, b4, b5, b6, b7, b8, b9, b10, b11, b12, b13, b14, b15, b16, b17, b18, b19, b20, b21, b22, b23, b24, b25, b26, b27, b28, b29, b30, b31] = _
          refine st_lb fun b32 hb32 => ?_
          replace hb32 : b32 = ((!b1) || ((b29 && b30) && b31)) := hb32
          show T.den _ _ [i0, i1, i2, i3, i4, i5, i6, i7, i8, i9, i10, i11, i12, i13, i14] [b0, b1, b2, b3, b4, b5, b6, b7, b8, b9, b10, b11, b12, b13, b14, b15, b16, b17, b18, b19, b20, b21, b22, b23, b24, b25, b26, b27, b28, b29, b30, b31, b32] = _
          refine st_ret ?_
          show some ([], [((b27 && b28) && b32)]) = _
          have f1 : i5 ≤ i6 := by omega
          have f2 : i7 ≤ i8 := by omega
          have k26 : b26 = true := by
            rw [hb26, hb25]
            simp only [BEq.rfl, Bool.true_and, decide_eq_true_eq]
            omega
          have k27 : b27 = true := by rw [hb27, k26, hb25]; simp
          rw [k27] at hi13 hi14
          simp only [cond_true] at hi13 hi14
          have k28 : b28 = true := by
            rw [hb28]
            simp only [Bool.and_eq_true, beq_iff_eq]
            omega
          have k32 : b32 = true := by
            cases h1 : b1
            · rw [hb32, h1]; rfl
            · rw [h1] at hb1
              rw [← hb1] at hi11 hi12
              have h2 := of_decide_eq_true hb1.symm
              simp only [cond_true] at hi11 hi12
              have k29 : b29 = true := by
                rw [hb29, k27, k28, h1]
                simp only [Bool.true_and, decide_eq_true_eq]
                omega
              have k30 : b30 = true := by
                rw [hb30, k27, k28, h1, k29]
                simp only [Bool.true_and, Bool.and_eq_true, decide_eq_true_eq]
                omega
              have k31 : b31 = true := by
                rw [hb31, k27, k28, h1, k29, k30]
                simp only [Bool.true_and, Bool.and_eq_true, decide_eq_true_eq]
                omega
              rw [hb32, k29, k30, k31]; simp
          rw [k27, k28, k32]; rfl
theorem law (a b c d n : Int) (_ : (Lit.int .u64 a).wf = true) (_ : (Lit.int .u64 b).wf = true) (_ : (Lit.int .u64 c).wf = true) (_ : (Lit.int .u64 d).wf = true) (_ : (Lit.int .u64 n).wf = true) : F5 [a, b, c, d, n] [] = some ([], [true]) := law5 a b c d n
end Go.Proofs.Ytaajijommogaoaa.YIvlLattice
