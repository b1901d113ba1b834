/-
  AbsHas, of numbers alone.
-/
import Derived.Test.YticpdchlknbodaaXAbsHas
import Derived.Test.YticpdchlknbodaaSn
namespace Go.Proofs.Yticpdchlknbodaa.YAbsHas
open Go.Proofs.Yticpdchlknbodaa.Sx Go.Proofs.Yticpdchlknbodaa.Sn Go.Proofs.Yticpdchlknbodaa.XAbsHas
set_option linter.unusedSimpArgs false
set_option linter.unusedVariables false
theorem st_0_1 {C : Nat → Sx.Fn} {is : List Int} {bs : List Bool} {r : Option (List Int × List Bool)} {G : E} {f : Nat} {ii bb : List E} {k : Sx.T} {c0 : Bool} {F : Sx.Fn} {g : Bool} {l : List Int} {m : List Bool} (hC : C f = F) (hG : G.B is bs = g) (hl : ii.map (E.I is bs) = l) (hm : bb.map (E.B is bs) = m)
    (h : (bif g then F l m else some (List.replicate 0 0, List.replicate 1 false)) = some ([], [c0]))
    (hk : ∀ (y0 : Bool), y0 = c0 → k.den C (is ++ []) (bs ++ [y0]) = r) : (Sx.T.call G f ii bb 0 1 k).den C is bs = r := st_call _ _ (by rw [hC, hG, hl, hm]; exact h) rfl rfl (hk _ rfl)

theorem st_1_0 {C : Nat → Sx.Fn} {is : List Int} {bs : List Bool} {r : Option (List Int × List Bool)} {G : E} {f : Nat} {ii bb : List E} {k : Sx.T} {a0 : Int} {F : Sx.Fn} {g : Bool} {l : List Int} {m : List Bool} (hC : C f = F) (hG : G.B is bs = g) (hl : ii.map (E.I is bs) = l) (hm : bb.map (E.B is bs) = m)
    (h : (bif g then F l m else some (List.replicate 1 0, List.replicate 0 false)) = some ([a0], []))
    (hk : ∀ (x0 : Int), x0 = a0 → k.den C (is ++ [x0]) (bs ++ []) = r) : (Sx.T.call G f ii bb 1 0 k).den C is bs = r := st_call _ _ (by rw [hC, hG, hl, hm]; exact h) rfl rfl (hk _ rfl)

theorem st_2_0 {C : Nat → Sx.Fn} {is : List Int} {bs : List Bool} {r : Option (List Int × List Bool)} {G : E} {f : Nat} {ii bb : List E} {k : Sx.T} {a0 a1 : Int} {F : Sx.Fn} {g : Bool} {l : List Int} {m : List Bool} (hC : C f = F) (hG : G.B is bs = g) (hl : ii.map (E.I is bs) = l) (hm : bb.map (E.B is bs) = m)
    (h : (bif g then F l m else some (List.replicate 2 0, List.replicate 0 false)) = some ([a0, a1], []))
    (hk : ∀ (x0 x1 : Int), x0 = a0 → x1 = a1 → k.den C (is ++ [x0, x1]) (bs ++ []) = r) : (Sx.T.call G f ii bb 2 0 k).den C is bs = r := st_call _ _ (by rw [hC, hG, hl, hm]; exact h) rfl rfl (hk _ _ rfl rfl)

theorem st_4_0 {C : Nat → Sx.Fn} {is : List Int} {bs : List Bool} {r : Option (List Int × List Bool)} {G : E} {f : Nat} {ii bb : List E} {k : Sx.T} {a0 a1 a2 a3 : Int} {F : Sx.Fn} {g : Bool} {l : List Int} {m : List Bool} (hC : C f = F) (hG : G.B is bs = g) (hl : ii.map (E.I is bs) = l) (hm : bb.map (E.B is bs) = m)
    (h : (bif g then F l m else some (List.replicate 4 0, List.replicate 0 false)) = some ([a0, a1, a2, a3], []))
    (hk : ∀ (x0 x1 x2 x3 : Int), x0 = a0 → x1 = a1 → x2 = a2 → x3 = a3 → k.den C (is ++ [x0, x1, x2, x3]) (bs ++ []) = r) : (Sx.T.call G f ii bb 4 0 k).den C is bs = r := st_call _ _ (by rw [hC, hG, hl, hm]; exact h) rfl rfl (hk _ _ _ _ rfl rfl rfl rfl)
theorem r1 {a b : Int} (h : a = b) : (some ([a], []) : Option (List Int × List Bool)) = some ([b], []) := by rw [h]
theorem rb {a b : Bool} (h : a = b) : (some ([], [a]) : Option (List Int × List Bool)) = some ([], [b]) := by rw [h]
def mk (N : Int) : Int := if N ≥ 64 then 18446744073709551615 else arI .sub .u64 (arI .shl .u64 1 (IntKind.wrap .u64 (if 0 > N then 0 else N))) 1
def hL (N r n : Int) : Bool := (arI .and .u64 (arI .xor .u64 n r) (mk N)) == 0
def rL (N r : Int) : Bool := ((decide (N ≥ 0)) && (decide (N ≤ 64))) && ((arI .andNot .u64 r (mk N)) == 0)
theorem and_z (x : Int) : arI .and .u64 x 0 = 0 := by
  show IntKind.u64.wrap ((BitVec.ofInt 64 x &&& BitVec.ofInt 64 0).toNat : Int) = 0
  rw [show BitVec.ofInt 64 0 = 0#64 from rfl, BitVec.and_zero]; decide
theorem z_and (x : Int) : arI .and .u64 0 x = 0 := by
  show IntKind.u64.wrap ((BitVec.ofInt 64 0 &&& BitVec.ofInt 64 x).toNat : Int) = 0
  rw [show BitVec.ofInt 64 0 = 0#64 from rfl, BitVec.zero_and]; decide
theorem xor_self (x : Int) : arI .xor .u64 x x = 0 := by
  show IntKind.u64.wrap ((BitVec.ofInt 64 x ^^^ BitVec.ofInt 64 x).toNat : Int) = 0
  rw [BitVec.xor_self]; decide
theorem hL_0 (r n : Int) : hL 0 r n = true := by
  unfold hL; rw [show mk 0 = 0 from by decide +kernel, and_z]; rfl
theorem hL_self (N n : Int) : hL N n n = true := by
  unfold hL; rw [xor_self, z_and]; rfl
theorem rL_00 : rL 0 0 = true := by decide +kernel

set_option maxHeartbeats 4000000 in
theorem q18 (N : Int) : F18 [N] [] = some ([mk N], []) := by
  refine Eq.trans (Fd_of (n := 1) (m := 0) (t := t18) (C := Tab.fn a18) rfl rfl) ?_
  rw [t18]
  refine st_ite (fun hc => ?_) (fun hc => ?_)
  · replace hc : (decide (N ≥ 64)) = true := hc
    have c1 := hc
    clear hc
    refine st_ret ?_
    show some ([18446744073709551615], []) = _
    exact r1 (by unfold mk; rw [if_pos (of_decide_eq_true c1)])
  · replace hc : (decide (N ≥ 64)) = false := hc
    have c2 := hc
    clear hc
    refine st_rq (show (decide ((IntKind.wrap .u64 (if 0 > N then 0 else N)) ≥ 0)) = true from ?_) ?_
    · rw [decide_eq_true_eq, wrap_u64]
      exact Int.emod_nonneg _ (by decide)
    refine st_li fun i1 hi1 => ?_
    replace hi1 : i1 = (arI .sub .u64 (arI .shl .u64 1 (IntKind.wrap .u64 (if 0 > N then 0 else N))) 1) := hi1
    show T.den _ _ [N, i1] [] = _
    refine st_ret ?_
    show some ([i1], []) = _
    exact r1 (by unfold mk; rw [if_neg (of_decide_eq_false c2)]; exact hi1)

theorem e13_18 : Tab.fn a13 18 = F18 := Tab.fn_hd
theorem e11_18 : Tab.fn a11 18 = F18 := Tab.fn_hd

set_option maxHeartbeats 4000000 in
theorem q13 (N r n : Int) : F13 [N, r, n] [] = some ([], [hL N r n]) := by
  refine Eq.trans (Fd_of (n := 3) (m := 0) (t := t13) (C := Tab.fn a13) rfl rfl) ?_
  rw [t13]
  refine st_1_0 (e13_18) (g := true) rfl (l := [N]) rfl (m := []) rfl (cl_t (q18 N)) fun i3 hi3 => ?_
  show T.den _ _ [N, r, n, i3] [] = _
  refine st_lb fun b0 hb0 => ?_
  replace hb0 : b0 = ((arI .and .u64 (arI .xor .u64 n r) i3) == 0) := hb0
  show T.den _ _ [N, r, n, i3] [b0] = _
  refine st_ret ?_
  show some ([], [b0]) = _
  exact rb (by rw [hb0, hi3]; rfl)

set_option maxHeartbeats 4000000 in
theorem q11 (N r : Int) : F11 [N, r] [] = some ([], [rL N r]) := by
  refine Eq.trans (Fd_of (n := 2) (m := 0) (t := t11) (C := Tab.fn a11) rfl rfl) ?_
  rw [t11]
  refine st_lb fun b0 hb0 => ?_
  replace hb0 : b0 = ((decide (N ≥ 0)) && (decide (N ≤ 64))) := hb0
  show T.den _ _ [N, r] [b0] = _
  refine st_1_0 (e11_18) (g := b0) rfl (l := [N]) rfl (m := []) rfl (cl_1 (q18 N)) fun i2 hi2 => ?_
  show T.den _ _ [N, r, i2] [b0] = _
  refine st_lb fun b1 hb1 => ?_
  replace hb1 : b1 = (b0 && ((arI .andNot .u64 r i2) == 0)) := hb1
  show T.den _ _ [N, r, i2] [b0, b1] = _
  refine st_ret ?_
  show some ([], [b1]) = _
  refine rb ?_
  rw [hb1, hi2]; unfold rL; rw [← hb0]
  cases b0 <;> rfl

theorem q10 (a b : Int) : F10 [a, b] [] = some ([], [decide (a ≤ b)]) := rfl
theorem q15 (a b n : Int) : F15 [a, b, n] [] = some ([], [decide (a ≤ n) && decide (n ≤ b)]) := rfl
theorem q21 (n : Int) : F21 [n] [] = some ([64, n], []) := rfl
theorem q5 : F5 [] [] = some ([], [true]) := by decide +kernel
def tpw (t : Int) : Int := if t = 127 then 4294967295 else 18446744073709551615
def hA (a b N r n : Int) : Bool := (decide (a ≤ n) && decide (n ≤ b)) && hL N r n
def rA (a b N r : Int) : Bool := decide (a ≤ b) && rL N r

theorem e6_10 : Tab.fn a6 10 = F10 := Tab.fn_hd
theorem e6_11 : Tab.fn a6 11 = F11 := ((Tab.fn_tl rfl).trans Tab.fn_hd)
theorem e12_20 : Tab.fn a12 20 = F20 := Tab.fn_hd
theorem e12_19 : Tab.fn a12 19 = F19 := ((Tab.fn_tl rfl).trans Tab.fn_hd)
theorem e8_15 : Tab.fn a8 15 = F15 := Tab.fn_hd
theorem e8_13 : Tab.fn a8 13 = F13 := ((Tab.fn_tl rfl).trans Tab.fn_hd)
theorem e14_21 : Tab.fn a14 21 = F21 := Tab.fn_hd

set_option maxHeartbeats 4000000 in
theorem q6 (a b N r : Int) : F6 [a, b, N, r] [] = some ([], [rA a b N r]) := by
  unfold rA
  refine Eq.trans (Fd_of (n := 4) (m := 0) (t := t6) (C := Tab.fn a6) rfl rfl) ?_
  rw [t6]
  refine st_0_1 (e6_10) (g := true) rfl (l := [a, b]) rfl (m := []) rfl (cl_t (q10 a b)) fun b0 hb0 => ?_
  show T.den _ _ [a, b, N, r] [b0] = _
  refine st_0_1 (e6_11) (g := b0) rfl (l := [N, r]) rfl (m := []) rfl (cl_b (q11 N r)) fun b1 hb1 => ?_
  show T.den _ _ [a, b, N, r] [b0, b1] = _
  refine st_ret ?_
  show some ([], [(b0 && b1)]) = _
  exact rb (by rw [hb1, ← hb0, ← Bool.and_assoc, Bool.and_self])

set_option maxHeartbeats 4000000 in
theorem q8 (a b N r n : Int) : F8 [a, b, N, r, n] [] = some ([], [hA a b N r n]) := by
  unfold hA
  refine Eq.trans (Fd_of (n := 5) (m := 0) (t := t8) (C := Tab.fn a8) rfl rfl) ?_
  rw [t8]
  refine st_0_1 (e8_15) (g := true) rfl (l := [a, b, n]) rfl (m := []) rfl (cl_t (q15 a b n)) fun b0 hb0 => ?_
  show T.den _ _ [a, b, N, r, n] [b0] = _
  refine st_0_1 (e8_13) (g := b0) rfl (l := [N, r, n]) rfl (m := []) rfl (cl_b (q13 N r n)) fun b1 hb1 => ?_
  show T.den _ _ [a, b, N, r, n] [b0, b1] = _
  refine st_ret ?_
  show some ([], [(b0 && b1)]) = _
  exact rb (by rw [hb1, ← hb0, ← Bool.and_assoc, Bool.and_self])

set_option maxHeartbeats 4000000 in
theorem q14 (n : Int) : F14 [n] [] = some ([n, n, 64, n], []) := by
  refine Eq.trans (Fd_of (n := 1) (m := 0) (t := t14) (C := Tab.fn a14) rfl rfl) ?_
  rw [t14]
  refine st_2_0 (e14_21) (g := true) rfl (l := [n]) rfl (m := []) rfl (cl_t (q21 n)) fun i1 i2 hi1 hi2 => ?_
  show T.den _ _ [n, i1, i2] [] = _
  refine st_ret ?_
  show some ([n, n, i1, i2], []) = _
  rw [hi1, hi2]

theorem q20 (t : Int) : F20 [t] [] = some ([if t = 127 then 32 else 64], []) := by
  refine Eq.trans (Fd_of (n := 1) (m := 0) (t := t20) (C := Tab.fn a20) rfl rfl) ?_
  rw [t20]
  refine st_ite (fun hc => ?_) (fun hc => ?_)
  · replace hc : (t == 127) = true := hc
    exact r1 (by rw [if_pos (by simpa using hc)]; rfl)
  · replace hc : (t == 127) = false := hc
    exact r1 (by rw [if_neg (by simpa using hc)]; rfl)
theorem q19_32 : F19 [32] [] = some ([0, 4294967295], []) := by decide +kernel
theorem q19_64 : F19 [64] [] = some ([0, 18446744073709551615], []) := by decide +kernel
theorem q19 (t w : Int) (h : w = if t = 127 then 32 else 64) : F19 [w] [] = some ([0, tpw t], []) := by
  subst h; unfold tpw
  by_cases h : t = 127
  · rw [if_pos h, if_pos h]; exact q19_32
  · rw [if_neg h, if_neg h]; exact q19_64

set_option maxHeartbeats 4000000 in
theorem q12 (t : Int) : F12 [t] [] = some ([0, tpw t, 0, 0], []) := by
  refine Eq.trans (Fd_of (n := 1) (m := 0) (t := t12) (C := Tab.fn a12) rfl rfl) ?_
  rw [t12]
  refine st_1_0 (e12_20) (g := true) rfl (l := [t]) rfl (m := []) rfl (cl_t (q20 t)) fun i1 hi1 => ?_
  show T.den _ _ [t, i1] [] = _
  refine st_2_0 (e12_19) (g := true) rfl (l := [i1]) rfl (m := []) rfl (cl_t (q19 t i1 hi1)) fun i2 i3 hi2 hi3 => ?_
  show T.den _ _ [t, i1, i2, i3] [] = _
  refine st_ret ?_
  show some ([i2, i3, 0, 0], []) = _
  rw [hi2, hi3]

theorem e4_5 : Tab.fn a4 5 = F5 := Tab.fn_hd
theorem e4_6 : Tab.fn a4 6 = F6 := ((Tab.fn_tl rfl).trans Tab.fn_hd)
theorem e4_10 : Tab.fn a4 10 = F10 := ((Tab.fn_tl rfl).trans ((Tab.fn_tl rfl).trans Tab.fn_hd))
theorem e4_11 : Tab.fn a4 11 = F11 := ((Tab.fn_tl rfl).trans ((Tab.fn_tl rfl).trans ((Tab.fn_tl rfl).trans Tab.fn_hd)))
theorem e4_12 : Tab.fn a4 12 = F12 := ((Tab.fn_tl rfl).trans ((Tab.fn_tl rfl).trans ((Tab.fn_tl rfl).trans ((Tab.fn_tl rfl).trans Tab.fn_hd))))
theorem e4_8 : Tab.fn a4 8 = F8 := ((Tab.fn_tl rfl).trans ((Tab.fn_tl rfl).trans ((Tab.fn_tl rfl).trans ((Tab.fn_tl rfl).trans ((Tab.fn_tl rfl).trans Tab.fn_hd)))))
theorem e4_13 : Tab.fn a4 13 = F13 := ((Tab.fn_tl rfl).trans ((Tab.fn_tl rfl).trans ((Tab.fn_tl rfl).trans ((Tab.fn_tl rfl).trans ((Tab.fn_tl rfl).trans ((Tab.fn_tl rfl).trans Tab.fn_hd))))))
theorem e4_14 : Tab.fn a4 14 = F14 := ((Tab.fn_tl rfl).trans ((Tab.fn_tl rfl).trans ((Tab.fn_tl rfl).trans ((Tab.fn_tl rfl).trans ((Tab.fn_tl rfl).trans ((Tab.fn_tl rfl).trans ((Tab.fn_tl rfl).trans Tab.fn_hd)))))))

set_option maxHeartbeats 8000000 in
theorem law (i0 i1 i2 i3 i4 i5 : Int) (w0 : (Lit.int .u64 i0).wf = true) (w1 : (Lit.int .u64 i1).wf = true) (w2 : (Lit.int .i64 i2).wf = true) (w3 : (Lit.int .u64 i3).wf = true) (w4 : (Lit.int .u64 i4).wf = true) (w5 : (Lit.int .i64 i5).wf = true) : F4 [i0, i1, i2, i3, i4, i5] [] = some ([], [true]) := by
  have v4 := wf_u64 w4
  refine Eq.trans (Fd_of (n := 6) (m := 0) (t := t4) (C := Tab.fn a4) rfl rfl) ?_
  rw [t4]
  refine st_0_1 (e4_5) (g := true) rfl (l := []) rfl (m := []) rfl (cl_t q5) fun b0 hb0 => ?_
  show T.den _ _ [i0, i1, i2, i3, i4, i5] [b0] = _
  refine st_ite (fun hc => ?_) (fun hc => ?_)
  · replace hc : (!b0) = true := hc
    have c1 := hc
    clear hc
    refine st_ret ?_
    show some ([], [false]) = _
    rw [hb0] at c1; cases c1
  · replace hc : (!b0) = false := hc
    have c2 := hc
    clear hc
    refine st_0_1 (e4_6) (g := true) rfl (l := [i0, i1, i2, i3]) rfl (m := []) rfl (cl_t (q6 i0 i1 i2 i3)) fun b1 hb1 => ?_
    show T.den _ _ [i0, i1, i2, i3, i4, i5] [b0, b1] = _
    refine st_0_1 (e4_10) (g := true) rfl (l := [i0, i1]) rfl (m := []) rfl (cl_t (q10 i0 i1)) fun b2 hb2 => ?_
    show T.den _ _ [i0, i1, i2, i3, i4, i5] [b0, b1, b2] = _
    refine st_0_1 (e4_11) (g := b2) rfl (l := [i2, i3]) rfl (m := []) rfl (cl_b (q11 i2 i3)) fun b3 hb3 => ?_
    show T.den _ _ [i0, i1, i2, i3, i4, i5] [b0, b1, b2, b3] = _
    refine st_ite (fun hc => ?_) (fun hc => ?_)
    · replace hc : (!(b1 == (b2 && b3))) = true := hc
      have c3 := hc
      clear hc
      refine st_ret ?_
      show some ([], [false]) = _
      exfalso
      have e : (b1 == (b2 && b3)) = true := by rw [hb1, hb3, hb2, beq_iff_eq]; unfold rA; cases decide (i0 ≤ i1) <;> rfl
      rw [e] at c3; cases c3
    · replace hc : (!(b1 == (b2 && b3))) = false := hc
      have c4 := hc
      clear hc
      refine st_0_1 (e4_6) (g := true) rfl (l := [i0, i1, i2, i3]) rfl (m := []) rfl (cl_t (q6 i0 i1 i2 i3)) fun b4 hb4 => ?_
      show T.den _ _ [i0, i1, i2, i3, i4, i5] [b0, b1, b2, b3, b4] = _
      refine st_ite (fun hc => ?_) (fun hc => ?_)
      · replace hc : (!b4) = true := hc
        have c5 := hc
        clear hc
        refine st_ret ?_
        show some ([], [true]) = _
        rfl
      · replace hc : (!b4) = false := hc
        have c6 := hc
        clear hc
        refine st_4_0 (e4_12) (g := true) rfl (l := [i5]) rfl (m := []) rfl (cl_t (q12 i5)) fun i6 i7 i8 i9 hi6 hi7 hi8 hi9 => ?_
        show T.den _ _ [i0, i1, i2, i3, i4, i5, i6, i7, i8, i9] [b0, b1, b2, b3, b4] = _
        refine st_0_1 (e4_8) (g := true) rfl (l := [i0, i1, i2, i3, i4]) rfl (m := []) rfl (cl_t (q8 i0 i1 i2 i3 i4)) fun b5 hb5 => ?_
        show T.den _ _ [i0, i1, i2, i3, i4, i5, i6, i7, i8, i9] [b0, b1, b2, b3, b4, b5] = _
        refine st_lb fun b6 hb6 => ?_
        replace hb6 : b6 = ((decide (i0 ≤ i4)) && (decide (i4 ≤ i1))) := hb6
        show T.den _ _ [i0, i1, i2, i3, i4, i5, i6, i7, i8, i9] [b0, b1, b2, b3, b4, b5, b6] = _
        refine st_0_1 (e4_13) (g := b6) rfl (l := [i2, i3, i4]) rfl (m := []) rfl (cl_b (q13 i2 i3 i4)) fun b7 hb7 => ?_
        show T.den _ _ [i0, i1, i2, i3, i4, i5, i6, i7, i8, i9] [b0, b1, b2, b3, b4, b5, b6, b7] = _
        refine st_0_1 (e4_8) (g := (b5 == (b6 && b7))) rfl (l := [i6, i7, i8, i9, i4]) rfl (m := []) rfl (cl_b (q8 i6 i7 i8 i9 i4)) fun b8 hb8 => ?_
        show T.den _ _ [i0, i1, i2, i3, i4, i5, i6, i7, i8, i9] [b0, b1, b2, b3, b4, b5, b6, b7, b8] = _
        have e5 : (b5 == (b6 && b7)) = true := by rw [hb5, hb7, hb6]; unfold hA; rw [beq_iff_eq]; cases (decide (i0 ≤ i4) && decide (i4 ≤ i1)) <;> rfl
        rw [e5, Bool.true_and, hi6, hi7, hi8, hi9] at hb8
        refine st_lb fun b9 hb9 => ?_
        replace hb9 : b9 = ((i5 != 127) || (decide (i4 < 4294967296))) := hb9
        show T.den _ _ [i0, i1, i2, i3, i4, i5, i6, i7, i8, i9] [b0, b1, b2, b3, b4, b5, b6, b7, b8, b9] = _
        refine st_lb fun b10 hb10 => ?_
        replace hb10 : b10 = ((b5 == (b6 && b7)) && (b8 == b9)) := hb10
        show T.den _ _ [i0, i1, i2, i3, i4, i5, i6, i7, i8, i9] [b0, b1, b2, b3, b4, b5, b6, b7, b8, b9, b10] = _
        refine st_lb fun b11 hb11 => ?_
        replace hb11 : b11 = ((i8 == 0) && (i9 == 0)) := hb11
        show T.den _ _ [i0, i1, i2, i3, i4, i5, i6, i7, i8, i9] [b0, b1, b2, b3, b4, b5, b6, b7, b8, b9, b10, b11] = _
        refine st_0_1 (e4_6) (g := (b10 && b11)) rfl (l := [i6, i7, i8, i9]) rfl (m := []) rfl (cl_b (q6 i6 i7 i8 i9)) fun b12 hb12 => ?_
        show T.den _ _ [i0, i1, i2, i3, i4, i5, i6, i7, i8, i9] [b0, b1, b2, b3, b4, b5, b6, b7, b8, b9, b10, b11, b12] = _
        have e8 : b8 = b9 := by
          rw [hb8, hb9]; unfold hA tpw; rw [hL_0, Bool.and_true, decide_eq_true (show 0 ≤ i4 by omega), Bool.true_and, Bool.eq_iff_iff, decide_eq_true_iff, Bool.or_eq_true, bne_iff_ne, decide_eq_true_iff]
          split <;> omega
        have t10 : b10 = true := by rw [hb10, e5, e8, beq_self_eq_true]; rfl
        have t11 : b11 = true := by rw [hb11, hi8, hi9]; rfl
        rw [t10, t11, hi6, hi7, hi8, hi9] at hb12
        have t12 : b12 = true := by rw [hb12]; unfold rA; rw [rL_00, Bool.and_true, decide_eq_true (show 0 ≤ tpw i5 by unfold tpw; split <;> omega)]; rfl
        refine st_4_0 (e4_14) (g := ((b10 && b11) && b12)) rfl (l := [i4]) rfl (m := []) rfl (cl_4 (q14 i4)) fun i10 i11 i12 i13 hi10 hi11 hi12 hi13 => ?_
        show T.den _ _ [i0, i1, i2, i3, i4, i5, i6, i7, i8, i9, i10, i11, i12, i13] [b0, b1, b2, b3, b4, b5, b6, b7, b8, b9, b10, b11, b12] = _
        rw [t10, t11, t12] at hi10 hi11 hi12 hi13
        simp only [Bool.and_self, cond_true] at hi10 hi11 hi12 hi13
        refine st_0_1 (e4_8) (g := ((b10 && b11) && b12)) rfl (l := [i10, i11, i12, i13, i4]) rfl (m := []) rfl (cl_b (q8 i10 i11 i12 i13 i4)) fun b13 hb13 => ?_
        show T.den _ _ [i0, i1, i2, i3, i4, i5, i6, i7, i8, i9, i10, i11, i12, i13] [b0, b1, b2, b3, b4, b5, b6, b7, b8, b9, b10, b11, b12, b13] = _
        rw [t10, t11, t12, hi10, hi11, hi12, hi13] at hb13
        have t13 : b13 = true := by rw [hb13]; unfold hA; rw [hL_self, decide_eq_true (Int.le_refl i4)]; rfl
        refine st_lb fun b14 hb14 => ?_
        replace hb14 : b14 = (((b10 && b11) && b12) && b13) := hb14
        show T.den _ _ [i0, i1, i2, i3, i4, i5, i6, i7, i8, i9, i10, i11, i12, i13] [b0, b1, b2, b3, b4, b5, b6, b7, b8, b9, b10, b11, b12, b13, b14] = _
        refine st_4_0 (e4_14) (g := b14) rfl (l := [i4]) rfl (m := []) rfl (cl_4 (q14 i4)) fun i14 i15 i16 i17 hi14 hi15 hi16 hi17 => ?_
        show T.den _ _ [i0, i1, i2, i3, i4, i5, i6, i7, i8, i9, i10, i11, i12, i13, i14, i15, i16, i17] [b0, b1, b2, b3, b4, b5, b6, b7, b8, b9, b10, b11, b12, b13, b14] = _
        have t14 : b14 = true := by rw [hb14, t10, t11, t12, t13]; rfl
        rw [t14] at hi14 hi15
        simp only [cond_true] at hi14 hi15
        refine st_lb fun b15 hb15 => ?_
        replace hb15 : b15 = ((i14 == i4) && (i15 == i4)) := hb15
        show T.den _ _ [i0, i1, i2, i3, i4, i5, i6, i7, i8, i9, i10, i11, i12, i13, i14, i15, i16, i17] [b0, b1, b2, b3, b4, b5, b6, b7, b8, b9, b10, b11, b12, b13, b14, b15] = _
        refine st_4_0 (e4_14) (g := (b14 && b15)) rfl (l := [i4]) rfl (m := []) rfl (cl_4 (q14 i4)) fun i18 i19 i20 i21 hi18 hi19 hi20 hi21 => ?_
        show T.den _ _ [i0, i1, i2, i3, i4, i5, i6, i7, i8, i9, i10, i11, i12, i13, i14, i15, i16, i17, i18, i19, i20, i21] [b0, b1, b2, b3, b4, b5, b6, b7, b8, b9, b10, b11, b12, b13, b14, b15] = _
        have t15 : b15 = true := by rw [hb15, hi14, hi15, beq_self_eq_true]; rfl
        rw [t14, t15] at hi20
        simp only [Bool.and_self, cond_true] at hi20
        refine st_lb fun b16 hb16 => ?_
        replace hb16 : b16 = ((b14 && b15) && (i20 == 64)) := hb16
        show T.den _ _ [i0, i1, i2, i3, i4, i5, i6, i7, i8, i9, i10, i11, i12, i13, i14, i15, i16, i17, i18, i19, i20, i21] [b0, b1, b2, b3, b4, b5, b6, b7, b8, b9, b10, b11, b12, b13, b14, b15, b16] = _
        refine st_ret ?_
        show some ([], [b16]) = _
        rw [hb16, t14, t15, hi20]; rfl
end Go.Proofs.Yticpdchlknbodaa.YAbsHas
