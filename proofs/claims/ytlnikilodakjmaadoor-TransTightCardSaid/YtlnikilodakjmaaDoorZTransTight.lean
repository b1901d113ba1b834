/-
  What is reckoned of what is known of two: ends and low bits.
-/
import Derived.Test.YtlnikilodakjmaaDoorXTransTight
import Derived.Test.YtlnikilodakjmaaDoorSn
import Derived.Test.YtlnikilodakjmaaDoorNTransTight
import Derived.Test.YtlnikilodakjmaaDoorITransTight
import Derived.Lib.BitFns
import Derived.Lib.TrailingZeros
namespace Go.Proofs.YtlnikilodakjmaaDoor.ZTransTight
open Go.Proofs.YtlnikilodakjmaaDoor.NTransTight Go.Proofs.YtlnikilodakjmaaDoor.ITransTight Go.Proofs.YtlnikilodakjmaaDoor.Sx Go.Proofs.YtlnikilodakjmaaDoor.Sn Go.Proofs.YtlnikilodakjmaaDoor.XTransTight Go.Proofs.YtlnikilodakjmaaDoor.ETransTight
set_option linter.unusedSimpArgs false
set_option linter.unusedVariables false
theorem st_2_1 {C : Nat → Sx.Fn} {is : List Int} {bs : List Bool} {r : Option (List Int × List Bool)} {G : E} {f : Nat} {ii bb : List E} {k : Sx.T} {a0 a1 : Int} {c0 : Bool} {F : Sx.Fn} {g : Bool} {l : List Int} {m : List Bool} (hC : C f = F) (hG : G.B is bs = g) (hl : ii.map (E.I is bs) = l) (hm : bb.map (E.B is bs) = m)
    (h : (bif g then F l m else some (List.replicate 2 0, List.replicate 1 false)) = some ([a0, a1], [c0]))
    (hk : ∀ (x0 x1 : Int) (y0 : Bool), x0 = a0 → x1 = a1 → y0 = c0 → k.den C (is ++ [x0, x1]) (bs ++ [y0]) = r) : (Sx.T.call G f ii bb 2 1 k).den C is bs = r := st_call _ _ (by rw [hC, hG, hl, hm]; exact h) rfl rfl (hk _ _ _ rfl rfl rfl)

theorem st_4_0 {C : Nat → Sx.Fn} {is : List Int} {bs : List Bool} {r : Option (List Int × List Bool)} {G : E} {f : Nat} {ii bb : List E} {k : Sx.T} {a0 a1 a2 a3 : Int} {F : Sx.Fn} {g : Bool} {l : List Int} {m : List Bool} (hC : C f = F) (hG : G.B is bs = g) (hl : ii.map (E.I is bs) = l) (hm : bb.map (E.B is bs) = m)
    (h : (bif g then F l m else some (List.replicate 4 0, List.replicate 0 false)) = some ([a0, a1, a2, a3], []))
    (hk : ∀ (x0 x1 x2 x3 : Int), x0 = a0 → x1 = a1 → x2 = a2 → x3 = a3 → k.den C (is ++ [x0, x1, x2, x3]) (bs ++ []) = r) : (Sx.T.call G f ii bb 4 0 k).den C is bs = r := st_call _ _ (by rw [hC, hG, hl, hm]; exact h) rfl rfl (hk _ _ _ _ rfl rfl rfl rfl)

theorem st_4_1 {C : Nat → Sx.Fn} {is : List Int} {bs : List Bool} {r : Option (List Int × List Bool)} {G : E} {f : Nat} {ii bb : List E} {k : Sx.T} {a0 a1 a2 a3 : Int} {c0 : Bool} {F : Sx.Fn} {g : Bool} {l : List Int} {m : List Bool} (hC : C f = F) (hG : G.B is bs = g) (hl : ii.map (E.I is bs) = l) (hm : bb.map (E.B is bs) = m)
    (h : (bif g then F l m else some (List.replicate 4 0, List.replicate 1 false)) = some ([a0, a1, a2, a3], [c0]))
    (hk : ∀ (x0 x1 x2 x3 : Int) (y0 : Bool), x0 = a0 → x1 = a1 → x2 = a2 → x3 = a3 → y0 = c0 → k.den C (is ++ [x0, x1, x2, x3]) (bs ++ [y0]) = r) : (Sx.T.call G f ii bb 4 1 k).den C is bs = r := st_call _ _ (by rw [hC, hG, hl, hm]; exact h) rfl rfl (hk _ _ _ _ _ rfl rfl rfl rfl rfl)






theorem q10 : F10 [] [] = some ([], [true]) := by decide +kernel
theorem q29 (a b : Int) : F29 [a, b] [] = some ([], [decide (a ≤ b)]) := rfl
theorem q36 (a b n : Int) : F36 [a, b, n] [] = some ([], [decide (n ≥ a) && decide (n ≤ b)]) := rfl
def rA (a b N r : Int) : Bool := decide (a ≤ b) && rL N r
def hA (a b N r n : Int) : Bool := (decide (n ≥ a) && decide (n ≤ b)) && hL N r n

theorem e15_36 : Tab.fn a15 36 = F36 := Tab.fn_hd
theorem e15_37 : Tab.fn a15 37 = F37 := ((Tab.fn_tl rfl).trans Tab.fn_hd)


theorem e11_29 : Tab.fn a11 29 = F29 := Tab.fn_hd
theorem e11_30 : Tab.fn a11 30 = F30 := ((Tab.fn_tl rfl).trans Tab.fn_hd)


set_option maxHeartbeats 4000000 in
theorem q11 (a b N r : Int) : F11 [a, b, N, r] [] = some ([], [rA a b N r]) := by
  unfold rA
  refine Eq.trans (Fd_of (n := 4) (m := 0) (t := t11) (C := Tab.fn a11) rfl rfl) ?_
  rw [t11]
  refine st_0_1 (e11_29) (g := true) rfl (l := [a, b]) rfl (m := []) rfl (cl_t (q29 a b)) fun b0 hb0 => ?_
  show T.den _ _ [a, b, N, r] [b0] = _
  refine st_0_1 (e11_30) (g := b0) rfl (l := [N, r]) rfl (m := []) rfl (cl_b (q30 N r)) fun b1 hb1 => ?_
  show T.den _ _ [a, b, N, r] [b0, b1] = _
  refine st_ret ?_
  show some ([], [(b0 && b1)]) = _
  exact rb (by rw [hb1, ← hb0, ← Bool.and_assoc, Bool.and_self])

set_option maxHeartbeats 4000000 in
theorem q15 (a b N r n : Int) : F15 [a, b, N, r, n] [] = some ([], [hA a b N r n]) := by
  unfold hA
  refine Eq.trans (Fd_of (n := 5) (m := 0) (t := t15) (C := Tab.fn a15) rfl rfl) ?_
  rw [t15]
  refine st_0_1 (e15_36) (g := true) rfl (l := [a, b, n]) rfl (m := []) rfl (cl_t (q36 a b n)) fun b0 hb0 => ?_
  show T.den _ _ [a, b, N, r, n] [b0] = _
  refine st_0_1 (e15_37) (g := b0) rfl (l := [N, r, n]) rfl (m := []) rfl (cl_b (q37 N r n)) fun b1 hb1 => ?_
  show T.den _ _ [a, b, N, r, n] [b0, b1] = _
  refine st_ret ?_
  show some ([], [(b0 && b1)]) = _
  exact rb (by rw [hb1, ← hb0, ← Bool.and_assoc, Bool.and_self])

theorem hA_true {a b N r n : Int} (h : hA a b N r n = true) : a ≤ n ∧ n ≤ b ∧ hL N r n = true := by
  unfold hA at h
  simp only [Bool.and_eq_true, decide_eq_true_eq] at h
  exact ⟨h.1.1, h.1.2, h.2⟩
theorem hA_of {a b N r n : Int} (h1 : a ≤ n) (h2 : n ≤ b) (h3 : hL N r n = true) : hA a b N r n = true := by
  unfold hA; rw [h3, decide_eq_true (show n ≥ a from h1), decide_eq_true h2]; rfl
theorem full_eq {r n m : Int} (hr : 0 ≤ r ∧ r < 18446744073709551616) (hn : 0 ≤ n ∧ n < 18446744073709551616) (hm : 0 ≤ m ∧ m < 18446744073709551616) (h1 : hL 64 r n = true) (h2 : hL 64 r m = true) : n = m := by
  obtain ⟨r, rfl⟩ := nats hr.1
  obtain ⟨n, rfl⟩ := nats hn.1
  obtain ⟨m, rfl⟩ := nats hm.1
  rw [show (64 : Int) = ((64 : Nat) : Int) from rfl, hL_nat 64 r _ (by decide) (by omega) (by omega)] at h1 h2
  have e1 := of_decide_eq_true h1
  have e2 := of_decide_eq_true h2
  omega
theorem full_r {r n : Int} (hr : 0 ≤ r ∧ r < 18446744073709551616) (hn : 0 ≤ n ∧ n < 18446744073709551616) (h : hL 64 r n = true) : n = r := full_eq hr hn hr h (hL_self 64 r)
theorem rA_true {a b N r : Int} (h : rA a b N r = true) (hr : 0 ≤ r ∧ r < 18446744073709551616) : a ≤ b ∧ ∃ n m : Nat, N = n ∧ r = m ∧ n ≤ 64 ∧ m < 2 ^ 64 ∧ m < 2 ^ n := by
  unfold rA at h
  rw [Bool.and_eq_true, decide_eq_true_iff] at h
  exact ⟨h.1, rL_true h.2 hr⟩

theorem e18_15 : Tab.fn a18 15 = F15 := Tab.fn_hd


def yes (a b N r : Int) : Bool := !(hA a b N r 0)
def sure (a b N r : Int) : Bool := !(hA a b N r 0) || ((b == 0) || (N == 64))

set_option maxHeartbeats 4000000 in
theorem q18 (a b N r : Int) : F18 [a, b, N, r] [] = some ([], [yes a b N r, sure a b N r]) := by
  refine Eq.trans (Fd_of (n := 4) (m := 0) (t := t18) (C := Tab.fn a18) rfl rfl) ?_
  rw [t18]
  refine st_0_1 (e18_15) (g := true) rfl (l := [a, b, N, r, 0]) rfl (m := []) rfl (cl_t (q15 a b N r 0)) fun b0 hb0 => ?_
  show T.den _ _ [a, b, N, r] [b0] = _
  refine st_ite (fun hc => ?_) (fun hc => ?_)
  · replace hc : (!b0) = true := hc
    have c1 := hc
    clear hc
    refine st_ret ?_
    show some ([], [true, true]) = _
    rw [hb0] at c1
    unfold yes sure; rw [c1]; rfl
  · replace hc : (!b0) = false := hc
    have c2 := hc
    clear hc
    refine st_lb fun b1 hb1 => ?_
    replace hb1 : b1 = ((b == 0) || (N == 64)) := hb1
    show T.den _ _ [a, b, N, r] [b0, b1] = _
    refine st_ite (fun hc => ?_) (fun hc => ?_)
    · replace hc : b1 = true := hc
      have c3 := hc
      clear hc
      refine st_ret ?_
      show some ([], [false, true]) = _
      rw [hb0] at c2; unfold yes sure; rw [c2, ← hb1, c3]; rfl
    · replace hc : b1 = false := hc
      have c4 := hc
      clear hc
      refine st_ret ?_
      show some ([], [false, false]) = _
      rw [hb0] at c2; unfold yes sure; rw [c2, ← hb1, c4]; rfl

theorem key (a b N r n : Int) (hb : 0 ≤ b ∧ b < 18446744073709551616) (hr : 0 ≤ r ∧ r < 18446744073709551616) (hn : 0 ≤ n ∧ n < 18446744073709551616) (hs : (!(sure a b N r)) = false) :
    ((!(hA a b N r n)) || (yes a b N r == (n != 0))) = true := by
  cases h : hA a b N r n
  · rfl
  · unfold sure at hs
    unfold yes
    cases h0 : hA a b N r 0
    · have : n ≠ 0 := fun e => by rw [e, h0] at h; cases h
      simp [this]
    · rw [h0] at hs
      have h1 := hA_true h
      have h2 := hA_true h0
      have e : n = 0 := by
        by_cases hz : b = 0
        · omega
        · have h64 : N = 64 := by simpa [hz] using hs
          subst h64
          exact full_eq hr hn ⟨by omega, by omega⟩ h1.2.2 h2.2.2
      subst e; rfl
/-- What is surely 0 is 0. -/
theorem sure_no {a b N r n : Int} (hb : 0 ≤ b ∧ b < 18446744073709551616) (hr : 0 ≤ r ∧ r < 18446744073709551616) (hn : 0 ≤ n ∧ n < 18446744073709551616) (hs : (sure a b N r && !(yes a b N r)) = true) (h : hA a b N r n = true) : n = 0 := by
  rw [Bool.and_eq_true, Bool.not_eq_true'] at hs
  have := key a b N r n hb hr hn (by rw [hs.1]; rfl)
  rw [h, hs.2] at this
  simpa using this

theorem e26_58 : Tab.fn a26 58 = F58 := Tab.fn_hd
theorem e26_48 : Tab.fn a26 48 = F48 := ((Tab.fn_tl rfl).trans Tab.fn_hd)
theorem e32_48 : Tab.fn a32 48 = F48 := Tab.fn_hd
theorem e32_62 : Tab.fn a32 62 = F62 := ((Tab.fn_tl rfl).trans Tab.fn_hd)
theorem e32_26 : Tab.fn a32 26 = F26 := ((Tab.fn_tl rfl).trans ((Tab.fn_tl rfl).trans Tab.fn_hd))
theorem e62_29 : Tab.fn a62 29 = F29 := Tab.fn_hd
theorem e20_43 : Tab.fn a20 43 = F43 := Tab.fn_hd


theorem q48 : F48 [32] [] = some ([0, 4294967295], []) := by kernel_rfl
theorem q26 (t : Int) : F26 [t] [] = some ([0, if t = 127 then 4294967295 else 18446744073709551615, 0, 0], []) := by
  by_cases h : t = 127
  · subst h; kernel_rfl
  · rw [if_neg h]
    refine Eq.trans (Fd_of (n := 1) (m := 0) (t := t26) (C := Tab.fn a26) rfl rfl) ?_
    rw [t26]
    refine st_call (C := Tab.fn a26) [64] [] ?_ rfl rfl ?_
    · show F58 [t] [] = _
      refine Eq.trans (Fd_of (n := 1) (m := 0) (t := t58) (C := Tab.fn a58) rfl rfl) ?_
      rw [t58]
      refine st_itf (show (t == 127) = false from by simpa using h) ?_
      rfl
    · kernel_rfl
theorem q20 (n : Int) : F20 [n] [] = some ([n, n, 64, n], []) := by kernel_rfl
theorem q62 (a b c d : Int) : F62 [a, b, c, d] [] = some ([if max a c ≤ min b d then max a c else 0, if max a c ≤ min b d then min b d else 0], [decide (max a c ≤ min b d)]) := by
  rw [max_, min_]
  refine Eq.trans (Fd_of (n := 4) (m := 0) (t := t62) (C := Tab.fn a62) rfl rfl) ?_
  rw [t62]
  refine st_0_1 (e62_29) (g := true) rfl (l := [(if c > a then c else a), (if d < b then d else b)]) rfl (m := []) rfl (cl_t (q29 _ _)) fun b0 hb0 => ?_
  refine st_ite (fun hc => ?_) (fun hc => ?_)
  · replace hc : (!b0) = true := hc
    rw [hb0, Bool.not_eq_true'] at hc
    refine st_ret ?_
    rw [if_neg (of_decide_eq_false hc), if_neg (of_decide_eq_false hc), hc]; rfl
  · replace hc : (!b0) = false := hc
    rw [hb0, Bool.not_eq_false'] at hc
    refine st_ret ?_
    rw [if_pos (of_decide_eq_true hc), if_pos (of_decide_eq_true hc), hc]; rfl
/-! What is known of a number of a type. -/
def cc1 (a b t : Int) : Int := if t = 127 then (if a ≤ min b 4294967295 then a else 0) else a
def cc2 (a b t : Int) : Int := if t = 127 then (if a ≤ min b 4294967295 then min b 4294967295 else 4294967295) else b
def cc3 (a b t N : Int) : Int := if t = 127 then (if a ≤ min b 4294967295 then N else 0) else N
def cc4 (a b t r : Int) : Int := if t = 127 then (if a ≤ min b 4294967295 then r else 0) else r

set_option maxHeartbeats 4000000 in
theorem q32 (a b N r t : Int) (ha : 0 ≤ a) : F32 [a, b, N, r, t] [] = some ([cc1 a b t, cc2 a b t, cc3 a b t N, cc4 a b t r], []) := by
  refine Eq.trans (Fd_of (n := 5) (m := 0) (t := t32) (C := Tab.fn a32) rfl rfl) ?_
  rw [t32]
  refine st_ite (fun hc => ?_) (fun hc => ?_)
  · replace hc : (t != 127) = true := hc
    have c1 := hc
    clear hc
    refine st_ret ?_
    show some ([a, b, N, r], []) = _
    have ht : t ≠ 127 := by simpa using c1
    unfold cc1 cc2 cc3 cc4; simp only [if_neg ht]
  · replace hc : (t != 127) = false := hc
    have c2 := hc
    clear hc
    refine st_2_0 (e32_48) (g := true) rfl (l := [32]) rfl (m := []) rfl (cl_t q48) fun i5 i6 hi5 hi6 => ?_
    show T.den _ _ [a, b, N, r, t, i5, i6] [] = _
    refine st_2_1 (e32_62) (g := true) rfl (l := [a, b, i5, i6]) rfl (m := []) rfl (cl_t ((show F62 [a, b, i5, i6] [] = F62 [a, b, 0, 4294967295] [] from by rw [hi5, hi6]).trans (q62 a b 0 4294967295))) fun i7 i8 b0 hi7 hi8 hb0 => ?_
    show T.den _ _ [a, b, N, r, t, i5, i6, i7, i8] [b0] = _
    refine st_ite (fun hc => ?_) (fun hc => ?_)
    · replace hc : (!b0) = true := hc
      have c3 := hc
      clear hc
      refine st_4_0 (e32_26) (g := true) rfl (l := [t]) rfl (m := []) rfl (cl_t (q26 t)) fun i9 i10 i11 i12 hi9 hi10 hi11 hi12 => ?_
      show T.den _ _ [a, b, N, r, t, i5, i6, i7, i8, i9, i10, i11, i12] [b0] = _
      refine st_ret ?_
      show some ([i9, i10, i11, i12], []) = _
      have ht : t = 127 := by simpa using c2
      rw [show max a 0 = a from Int.max_eq_left ha] at hi7 hi8 hb0
      rw [hb0, Bool.not_eq_true'] at c3
      have hc := of_decide_eq_false c3
      unfold cc1 cc2 cc3 cc4; rw [hi9, hi10, hi11, hi12]; simp only [if_pos ht, if_neg hc]
    · replace hc : (!b0) = false := hc
      have c4 := hc
      clear hc
      refine st_ret ?_
      show some ([i7, i8, N, r], []) = _
      have ht : t = 127 := by simpa using c2
      rw [show max a 0 = a from Int.max_eq_left ha] at hi7 hi8 hb0
      rw [hb0, Bool.not_eq_false'] at c4
      have hc := of_decide_eq_true c4
      unfold cc1 cc2 cc3 cc4; rw [hi7, hi8]; simp only [if_pos ht, if_pos hc]

theorem cut_has {a b N r t n : Int} (ht : t = 127 → n < 4294967296) (h : hA a b N r n = true) : hA (cc1 a b t) (cc2 a b t) (cc3 a b t N) (cc4 a b t r) n = true := by
  unfold cc1 cc2 cc3 cc4
  by_cases e : t = 127
  · obtain ⟨h1, h2, h3⟩ := hA_true h
    have h4 := ht e
    have h5 : a ≤ min b 4294967295 := by omega
    simp only [if_pos e, if_pos h5]
    exact hA_of h1 (by omega) h3
  · simp only [if_neg e]; exact h
theorem cc1_in {a b t : Int} (ha : 0 ≤ a ∧ a < 18446744073709551616) : 0 ≤ cc1 a b t ∧ cc1 a b t < 18446744073709551616 := by unfold cc1; (repeat' split) <;> omega
theorem cc2_in {a b t : Int} (ha : 0 ≤ a) (hb : 0 ≤ b ∧ b < 18446744073709551616) : 0 ≤ cc2 a b t ∧ cc2 a b t < 18446744073709551616 := by unfold cc2; (repeat' split) <;> omega
theorem cc4_in {a b t r : Int} (hr : 0 ≤ r ∧ r < 18446744073709551616) : 0 ≤ cc4 a b t r ∧ cc4 a b t r < 18446744073709551616 := by unfold cc4; (repeat' split) <;> omega
theorem cut_const {n t : Int} (ht : t = 127 → n < 4294967296) : cc1 n n t = n ∧ cc2 n n t = n ∧ cc3 n n t 64 = 64 ∧ cc4 n n t n = n := by
  unfold cc1 cc2 cc3 cc4
  by_cases e : t = 127
  · have h4 := ht e
    have h5 : n ≤ min n 4294967295 := by omega
    simp only [if_pos e, if_pos h5, and_self, true_and, and_true]; omega
  · simp only [if_neg e, and_self]
/-! One number. -/
def ov (a b N r : Int) : Int := if a = b then a else if N = 64 then r else 0
def ob (a b N : Int) : Bool := decide (a = b ∨ N = 64)
theorem q42 (a b N r : Int) : F42 [a, b, N, r] [] = some ([ov a b N r], [ob a b N]) := by
  unfold ov ob
  refine Eq.trans (Fd_of (n := 4) (m := 0) (t := t42) (C := Tab.fn a42) rfl rfl) ?_
  rw [t42]
  refine st_ite (fun hc => ?_) (fun hc => ?_)
  · have h : a = b := by simpa using (show (a == b) = true from hc)
    rw [if_pos h, decide_eq_true (Or.inl h)]; rfl
  · have h : a ≠ b := by simpa using (show (a == b) = false from hc)
    refine st_ite (fun hc => ?_) (fun hc => ?_)
    · have h2 : N = 64 := by simpa using (show (N == 64) = true from hc)
      rw [if_neg h, if_pos h2, decide_eq_true (Or.inr h2)]; rfl
    · have h2 : N ≠ 64 := by simpa using (show (N == 64) = false from hc)
      rw [if_neg h, if_neg h2, decide_eq_false (by rintro (h3 | h3) <;> contradiction)]; rfl
theorem ov_in {a b N r : Int} (ha : 0 ≤ a ∧ a < 18446744073709551616) (hr : 0 ≤ r ∧ r < 18446744073709551616) : 0 ≤ ov a b N r ∧ ov a b N r < 18446744073709551616 := by
  unfold ov; (repeat' split) <;> omega
theorem one_has {a b N r n : Int} (hr : 0 ≤ r ∧ r < 18446744073709551616) (hn : 0 ≤ n ∧ n < 18446744073709551616) (h1 : ob a b N = true) (h : hA a b N r n = true) : ov a b N r = n := by
  obtain ⟨k1, k2, k3⟩ := hA_true h
  unfold ov
  by_cases e : a = b
  · rw [if_pos e]; omega
  · rw [if_neg e]
    have e2 : N = 64 := by
      rcases of_decide_eq_true h1 with h | h
      · exact absurd h e
      · exact h
    rw [if_pos e2]; subst e2
    exact (full_r hr hn k3).symm
theorem ob_const (n : Int) : ob n n 64 = true ∧ ov n n 64 n = n := by unfold ob ov; exact ⟨decide_eq_true (.inl rfl), if_pos rfl⟩

theorem truth_const (n : Int) : (sure n n 64 n && !(yes n n 64 n)) = (n == 0) := by
  unfold sure yes
  have e : ((n == 0) || ((64 : Int) == 64)) = true := by simp
  rw [e, Bool.or_true, Bool.true_and, Bool.not_not]
  by_cases h : n = 0
  · subst h; rw [hA_of (Int.le_refl _) (Int.le_refl _) (hL_self _ _)]; rfl
  · rw [show (n == 0) = false from by simpa using h]
    cases h2 : hA n n 64 n 0
    · rfl
    · have := hA_true h2; omega

theorem and_mask (r i : Nat) : r &&& (2 ^ i - 1) = r % 2 ^ i := Nat.and_two_pow_sub_one_eq_mod r i
/-- How far the first number with these low bits stands above one end, and the last below the other. -/
def up (lo N R : Nat) : Nat := (R + (2 ^ 64 - lo)) % 2 ^ N
def dn (hi N R : Nat) : Nat := (hi + (2 ^ 64 - R)) % 2 ^ N
theorem pow_split {N : Nat} (h : N ≤ 64) : ∃ e, 2 ^ 64 = 2 ^ N * e := Nat.pow_dvd_pow 2 h
theorem up_of {lo N R n : Nat} (hN : N ≤ 64) (hn : n < 2 ^ 64) (hl : lo ≤ n) (hr : n % 2 ^ N = R) : up lo N R = (n - lo) % 2 ^ N := by
  obtain ⟨e, he⟩ := pow_split hN
  unfold up
  have hq := Nat.div_add_mod n (2 ^ N)
  rw [hr] at hq
  rw [he] at hn ⊢
  have hp := pow_pos N
  generalize 2 ^ N = M at *
  have h1 : n / M < e := Nat.lt_of_mul_lt_mul_left (a := M) (by omega)
  obtain ⟨x, hx⟩ : ∃ x, e = n / M + x := ⟨e - n / M, by omega⟩
  have h2 : M * e = M * (n / M) + M * x := by rw [congrArg (M * ·) hx]; exact Nat.mul_add ..
  have h3 : R + (M * e - lo) = (n - lo) + M * x := by omega
  rw [h3, Nat.add_mul_mod_self_left]
theorem dn_of {hi N R n : Nat} (hN : N ≤ 64) (hR : R < 2 ^ 64) (hl : n ≤ hi) (hr : n % 2 ^ N = R) : dn hi N R = (hi - n) % 2 ^ N := by
  obtain ⟨e, he⟩ := pow_split hN
  unfold dn
  have hq := Nat.div_add_mod n (2 ^ N)
  rw [hr] at hq
  rw [he] at hR ⊢
  generalize 2 ^ N = M at *
  have h3 : hi + (M * e - R) = (hi - n) + M * (n / M + e) := by rw [Nat.mul_add]; omega
  rw [h3, Nat.add_mul_mod_self_left]
theorem up_mod {lo N R : Nat} (hN : N ≤ 64) (hlo : lo < 2 ^ 64) (hR : R < 2 ^ N) : (lo + up lo N R) % 2 ^ N = R := by
  obtain ⟨e, he⟩ := pow_split hN
  unfold up
  rw [Nat.add_mod, Nat.mod_mod, ← Nat.add_mod]
  have h3 : lo + (R + (2 ^ 64 - lo)) = R + 2 ^ 64 := by omega
  rw [h3, he, Nat.add_mul_mod_self_left, Nat.mod_eq_of_lt hR]
theorem dn_mod {hi N R : Nat} (hN : N ≤ 64) (hR : R < 2 ^ N) (hd : dn hi N R ≤ hi) : (hi - dn hi N R) % 2 ^ N = R := by
  obtain ⟨e, he⟩ := pow_split hN
  have hR64 : R < 2 ^ 64 := Nat.lt_of_lt_of_le hR (pow_le hN)
  have hq := Nat.div_add_mod (hi + (2 ^ 64 - R)) (2 ^ N)
  have hd2 : dn hi N R = (hi + (2 ^ 64 - R)) % 2 ^ N := rfl
  rw [← hd2] at hq
  rw [he] at hq hR64
  generalize dn hi N R = d at *
  generalize (hi + (2 ^ N * e - R)) / 2 ^ N = q at *
  generalize 2 ^ N = M at *
  have h1 : (hi - d) + M * e = R + M * q := by omega
  have h2 : ((hi - d) + M * e) % M = (R + M * q) % M := by rw [h1]
  rw [Nat.add_mul_mod_self_left, Nat.add_mul_mod_self_left, Nat.mod_eq_of_lt hR] at h2
  exact h2
/-- What is told, made tight. -/
def tg (lo hi N R : Nat) : Option (Nat × Nat × Nat × Nat) :=
  if 64 ≤ N then (if lo ≤ R ∧ R ≤ hi then some (R, R, 64, R) else none)
  else if up lo N R ≤ hi - lo ∧ dn hi N R ≤ hi - lo then (if lo + up lo N R = hi - dn hi N R then some (lo + up lo N R, lo + up lo N R, 64, lo + up lo N R) else some (lo + up lo N R, hi - dn hi N R, N, R)) else none
def Hs (lo hi N R n : Nat) : Prop := (lo ≤ n ∧ n ≤ hi) ∧ n % 2 ^ min N 64 = R % 2 ^ min N 64
/-- What being made tight means: of no number, if nothing is told; and else of the same ones, its own ends among them, and again the same. -/
theorem tight_means {lo hi N R : Nat} (hl : lo ≤ hi) (hh : hi < 2 ^ 64) (hN : N ≤ 64) (hR : R < 2 ^ N) :
    (tg lo hi N R = none ∧ ∀ n, n < 2 ^ 64 → ¬ Hs lo hi N R n) ∨
    ∃ a b c d, tg lo hi N R = some (a, b, c, d) ∧ a ≤ b ∧ b < 2 ^ 64 ∧ c ≤ 64 ∧ d < 2 ^ c ∧ tg a b c d = some (a, b, c, d) ∧ Hs lo hi N R a ∧ Hs lo hi N R b ∧
      (a = b → c = 64) ∧ (a ≠ b → c = N ∧ d = R) ∧ (∀ n, n < 2 ^ 64 → (Hs lo hi N R n ↔ Hs a b c d n)) ∧ N ≤ c ∧ d % 2 ^ N = R := by
  have hR64 : R < 2 ^ 64 := Nat.lt_of_lt_of_le hR (pow_le hN)
  have hlo : lo < 2 ^ 64 := by omega
  have hmin : min N 64 = N := Nat.min_eq_left hN
  have hRm : R % 2 ^ N = R := Nat.mod_eq_of_lt hR
  have has : ∀ n, Hs lo hi N R n ↔ (lo ≤ n ∧ n ≤ hi) ∧ n % 2 ^ N = R := fun n => by unfold Hs; rw [hmin, hRm]
  -- a single number
  have one : ∀ x, x < 2 ^ 64 → tg x x 64 x = some (x, x, 64, x) := fun x hx => by
    unfold tg
    rw [if_pos (Nat.le_refl 64), if_pos ⟨Nat.le_refl x, Nat.le_refl x⟩]
  have hone : ∀ x n, x < 2 ^ 64 → n < 2 ^ 64 → (Hs x x 64 x n ↔ n = x) := fun x n hx hn => by
    unfold Hs
    constructor
    · intro h; omega
    · intro h; subst h; exact ⟨⟨Nat.le_refl _, Nat.le_refl _⟩, rfl⟩
  by_cases h : 64 ≤ N
  · have e64 : N = 64 := by omega
    subst e64
    by_cases c : lo ≤ R ∧ R ≤ hi
    · refine Or.inr ⟨R, R, 64, R, ?_, Nat.le_refl _, hR64, Nat.le_refl _, hR, one R hR64, ?_, ?_, fun _ => rfl, fun e => absurd rfl e, fun n hn => ?_, Nat.le_refl _, hRm⟩
      · unfold tg; rw [if_pos h, if_pos c]
      · exact (has R).2 ⟨c, hRm⟩
      · exact (has R).2 ⟨c, hRm⟩
      · rw [has, hone R n hR64 hn, Nat.mod_eq_of_lt hn]
        exact ⟨fun x => x.2, fun x => ⟨by rw [x]; exact c, x⟩⟩
    · refine Or.inl ⟨by unfold tg; rw [if_pos h, if_neg c], fun n hn x => c ?_⟩
      have := (has n).1 x
      rw [Nat.mod_eq_of_lt hn] at this
      rw [← this.2]; exact this.1
  · have hu : ∀ n, n < 2 ^ 64 → lo ≤ n → n % 2 ^ N = R → up lo N R ≤ n - lo := fun n hn h1 h2 => by rw [up_of hN hn h1 h2]; exact Nat.mod_le _ _
    have hd : ∀ n, n ≤ hi → n % 2 ^ N = R → dn hi N R ≤ hi - n := fun n h1 h2 => by rw [dn_of hN hR64 h1 h2]; exact Nat.mod_le _ _
    have mu := up_mod hN hlo hR
    have md := dn_mod (hi := hi) hN hR
    have zu : ∀ x, x < 2 ^ 64 → x % 2 ^ N = R → up x N R = 0 := fun x hx h2 => by rw [up_of hN hx (Nat.le_refl _) h2, Nat.sub_self, Nat.zero_mod]
    have zd : ∀ x, x % 2 ^ N = R → dn x N R = 0 := fun x h2 => by rw [dn_of hN hR64 (Nat.le_refl _) h2, Nat.sub_self, Nat.zero_mod]
    by_cases c : up lo N R ≤ hi - lo ∧ dn hi N R ≤ hi - lo
    · have md' := md (by omega)
      generalize hU : up lo N R = u at *
      generalize hD : dn hi N R = d at *
      have ha : Hs lo hi N R (lo + u) := (has _).2 ⟨by omega, mu⟩
      have hb : Hs lo hi N R (hi - d) := (has _).2 ⟨by omega, md'⟩
      have hab : lo + u ≤ hi - d := by
        have := hd (lo + u) (by omega) mu
        omega
      have hrange : ∀ n, n < 2 ^ 64 → Hs lo hi N R n → lo + u ≤ n ∧ n ≤ hi - d := fun n hn x => by
        have hx := (has n).1 x
        have h1 := hu n hn hx.1.1 hx.2
        have h2 := hd n hx.1.2 hx.2
        omega
      by_cases e : lo + u = hi - d
      · have hx : lo + u < 2 ^ 64 := by omega
        refine Or.inr ⟨lo + u, lo + u, 64, lo + u, ?_, Nat.le_refl _, hx, Nat.le_refl _, hx, one _ hx, ha, ha, fun _ => rfl, fun e => absurd rfl e, fun n hn => ?_, hN, mu⟩
        · unfold tg; rw [if_neg h, hU, hD, if_pos c, if_pos e]
        · rw [hone _ n hx hn]
          refine ⟨fun x => ?_, fun x => by rw [x]; exact ha⟩
          have := hrange n hn x
          omega
      · refine Or.inr ⟨lo + u, hi - d, N, R, ?_, hab, by omega, hN, hR, ?_, ha, hb, fun e' => absurd e' e, fun _ => ⟨rfl, rfl⟩, fun n hn => ?_, Nat.le_refl _, hRm⟩
        · unfold tg; rw [if_neg h, hU, hD, if_pos c, if_neg e]
        · unfold tg
          rw [if_neg h, zu (lo + u) (by omega) mu, zd (hi - d) md', if_pos ⟨Nat.zero_le _, Nat.zero_le _⟩, if_neg (by omega)]
          rfl
        · constructor
          · intro x
            have hx := (has n).1 x
            unfold Hs
            rw [hmin, hRm]
            exact ⟨hrange n hn x, hx.2⟩
          · intro x
            unfold Hs at x
            rw [hmin, hRm] at x
            exact (has n).2 ⟨by omega, x.2⟩
    · refine Or.inl ⟨by unfold tg; rw [if_neg h, if_neg c], fun n hn x => c ?_⟩
      have hx := (has n).1 x
      have h1 := hu n hn hx.1.1 hx.2
      have h2 := hd n hx.1.2 hx.2
      omega


def mN (N r M q : Nat) : Nat := if N < M then (if hs N r q = true then M else 0) else (if hs M q r = true then N else 0)
def mR (N r M q : Nat) : Nat := if N < M then (if hs N r q = true then q else 0) else (if hs M q r = true then r else 0)
def mb (N r M q : Nat) : Bool := if N < M then hs N r q else hs M q r
def hAN (a b : Int) (N r n : Nat) : Bool := (decide (a ≤ (n : Int)) && decide ((n : Int) ≤ b)) && hs N r n
theorem meet_law (N r M q n : Nat) (hN : N ≤ 64) (hM : M ≤ 64) (hr : r < 2 ^ 64) (hq : q < 2 ^ 64) : (mN N r M q ≤ 64 ∧ mR N r M q < 2 ^ 64) ∧
    ((mb N r M q = true ∧ (decide (N ≤ mN N r M q) && hs N r (mR N r M q)) = true ∧ (decide (M ≤ mN N r M q) && hs M q (mR N r M q)) = true ∧ hs (mN N r M q) (mR N r M q) n = (hs N r n && hs M q n)) ∨
     (mb N r M q = false ∧ mN N r M q = 0 ∧ mR N r M q = 0 ∧ (hs N r n && hs M q n) = false)) := by
  unfold mN mR mb
  have key : ∀ {N r M q : Nat}, N ≤ M → hs N r q = true → hs M q n = (hs N r n && hs M q n) := by
    intro N r M q h h1
    have h1' := of_decide_eq_true h1
    by_cases h2 : hs M q n = true
    · have h2' := of_decide_eq_true h2
      have : hs N r n = true := hs_of (by rw [← mod_mod_pow n h, h2', mod_mod_pow q h, h1'])
      rw [h2, this]; rfl
    · rw [Bool.not_eq_true] at h2; rw [h2, Bool.and_false]
  have no : ∀ {N r M q : Nat}, N ≤ M → hs N r q = false → (hs N r n && hs M q n) = false := by
    intro N r M q h h1
    have h1' := of_decide_eq_false h1
    by_cases h2 : hs M q n = true
    · have h2' := of_decide_eq_true h2
      have : hs N r n = false := decide_eq_false fun h3 => h1' (by rw [← h3, ← mod_mod_pow q h, ← h2', mod_mod_pow n h])
      rw [this]; rfl
    · rw [Bool.not_eq_true] at h2; rw [h2, Bool.and_false]
  by_cases h : N < M
  · rw [if_pos h, if_pos h, if_pos h]
    cases h1 : hs N r q
    · rw [if_neg Bool.false_ne_true, if_neg Bool.false_ne_true]
      exact ⟨⟨by omega, by decide⟩, .inr ⟨rfl, rfl, rfl, no (by omega) h1⟩⟩
    · rw [if_pos rfl, if_pos rfl]
      exact ⟨⟨hM, hq⟩, .inl ⟨rfl, wt (by omega) (of_decide_eq_true h1), wt (by omega) rfl, key (by omega) h1⟩⟩
  · rw [if_neg h, if_neg h, if_neg h]
    cases h1 : hs M q r
    · rw [if_neg Bool.false_ne_true, if_neg Bool.false_ne_true]
      exact ⟨⟨by omega, by decide⟩, .inr ⟨rfl, rfl, rfl, by rw [Bool.and_comm]; exact no (by omega) h1⟩⟩
    · rw [if_pos rfl, if_pos rfl]
      exact ⟨⟨hN, hr⟩, .inl ⟨rfl, wt (by omega) rfl, wt (by omega) (of_decide_eq_true h1), by rw [Bool.and_comm (hs N r n)]; exact key (by omega) h1⟩⟩


theorem e63_37 : Tab.fn a63 37 = F37 := Tab.fn_hd
theorem e59_36 : Tab.fn a59 36 = F36 := Tab.fn_hd
theorem e59_20 : Tab.fn a59 20 = F20 := ((Tab.fn_tl rfl).trans Tab.fn_hd)
theorem e33_62 : Tab.fn a33 62 = F62 := Tab.fn_hd
theorem e33_63 : Tab.fn a33 63 = F63 := ((Tab.fn_tl rfl).trans Tab.fn_hd)
theorem e33_59 : Tab.fn a33 59 = F59 := ((Tab.fn_tl rfl).trans ((Tab.fn_tl rfl).trans Tab.fn_hd))


set_option maxHeartbeats 4000000 in
theorem qm63 (N r M q : Nat) (hN : N ≤ 64) (hr : r < 2 ^ 64) (hM : M ≤ 64) (hq : q < 2 ^ 64) : F63 [(N : Int), (r : Int), (M : Int), (q : Int)] [] = some ([((mN N r M q : Nat) : Int), ((mR N r M q : Nat) : Int)], [mb N r M q]) := by
  refine Eq.trans (Fd_of (n := 4) (m := 0) (t := t63) (C := Tab.fn a63) rfl rfl) ?_
  rw [t63]
  refine st_ite (fun hc => ?_) (fun hc => ?_)
  · replace hc : (decide ((N : Int) < (M : Int))) = true := hc
    have c1 := hc
    clear hc
    refine st_0_1 (e63_37) (g := true) rfl (l := [(N : Int), (r : Int), (q : Int)]) rfl (m := []) rfl (cl_t (q37 (N : Int) (r : Int) (q : Int))) fun b0 hb0 => ?_
    show T.den _ _ [(N : Int), (r : Int), (M : Int), (q : Int)] [b0] = _
    refine st_ite (fun hc => ?_) (fun hc => ?_)
    · replace hc : (!b0) = true := hc
      have c2 := hc
      clear hc
      refine st_ret ?_
      show some ([0, 0], [false]) = _
      rw [hb0] at c2
      simp only [decide_eq_true_eq] at c1
      have h : N < M := by omega
      unfold mN mR mb; rw [if_pos h, if_pos h, if_pos h]
      rw [hL_nat N r q hN hr hq] at c2
      have e : hs N r q = false := by simpa using c2
      rw [e]; rfl
    · replace hc : (!b0) = false := hc
      have c3 := hc
      clear hc
      refine st_ret ?_
      show some ([(M : Int), (q : Int)], [true]) = _
      rw [hb0] at c3
      simp only [decide_eq_true_eq] at c1
      have h : N < M := by omega
      unfold mN mR mb; rw [if_pos h, if_pos h, if_pos h]
      rw [hL_nat N r q hN hr hq] at c3
      have e : hs N r q = true := by simpa using c3
      rw [e]; rfl
  · replace hc : (decide ((N : Int) < (M : Int))) = false := hc
    have c4 := hc
    clear hc
    refine st_0_1 (e63_37) (g := true) rfl (l := [(M : Int), (q : Int), (r : Int)]) rfl (m := []) rfl (cl_t (q37 (M : Int) (q : Int) (r : Int))) fun b0 hb0 => ?_
    show T.den _ _ [(N : Int), (r : Int), (M : Int), (q : Int)] [b0] = _
    refine st_ite (fun hc => ?_) (fun hc => ?_)
    · replace hc : (!b0) = true := hc
      have c5 := hc
      clear hc
      refine st_ret ?_
      show some ([0, 0], [false]) = _
      rw [hb0] at c5
      simp only [decide_eq_false_iff_not] at c4
      have h : ¬ N < M := by omega
      unfold mN mR mb; rw [if_neg h, if_neg h, if_neg h]
      rw [hL_nat M q r hM hq hr] at c5
      have e : hs M q r = false := by simpa using c5
      rw [e]; rfl
    · replace hc : (!b0) = false := hc
      have c6 := hc
      clear hc
      refine st_ret ?_
      show some ([(N : Int), (r : Int)], [true]) = _
      rw [hb0] at c6
      simp only [decide_eq_false_iff_not] at c4
      have h : ¬ N < M := by omega
      unfold mN mR mb; rw [if_neg h, if_neg h, if_neg h]
      rw [hL_nat M q r hM hq hr] at c6
      have e : hs M q r = true := by simpa using c6
      rw [e]; rfl

def ok (a b c d : Int) : Bool := decide (max a c ≤ min b d)

set_option maxHeartbeats 4000000 in
theorem qm62 (a b c d : Int) : F62 [a, b, c, d] [] = some ([bif ok a b c d then max a c else 0, bif ok a b c d then min b d else 0], [ok a b c d]) := by
  refine Eq.trans (Fd_of (n := 4) (m := 0) (t := t62) (C := Tab.fn a62) rfl rfl) ?_
  rw [t62]
  refine st_0_1 (e62_29) (g := true) rfl (l := [(if c > a then c else a), (if d < b then d else b)]) rfl (m := []) rfl (cl_t (q29 (if c > a then c else a) (if d < b then d else b))) fun b0 hb0 => ?_
  show T.den _ _ [a, b, c, d] [b0] = _
  refine st_ite (fun hc => ?_) (fun hc => ?_)
  · replace hc : (!b0) = true := hc
    have c1 := hc
    clear hc
    refine st_ret ?_
    show some ([0, 0], [false]) = _
    have e : b0 = ok a b c d := by rw [hb0]; unfold ok; rw [max_, min_]
    rw [e] at c1
    have e2 : ok a b c d = false := by simpa using c1
    rw [e2]
    rfl
  · replace hc : (!b0) = false := hc
    have c2 := hc
    clear hc
    refine st_ret ?_
    show some ([(if c > a then c else a), (if d < b then d else b)], [true]) = _
    have e : b0 = ok a b c d := by rw [hb0]; unfold ok; rw [max_, min_]
    rw [e] at c2
    have e2 : ok a b c d = true := by simpa using c2
    rw [e2]
    rw [cond_true, cond_true, max_, min_]

def t0 : Option (Nat × Nat × Nat × Nat) → Int | some (a, _, _, _) => a | none => 0
def t1 : Option (Nat × Nat × Nat × Nat) → Int | some (_, b, _, _) => b | none => 0
def t2 : Option (Nat × Nat × Nat × Nat) → Int | some (_, _, c, _) => c | none => 0
def t3 : Option (Nat × Nat × Nat × Nat) → Int | some (_, _, _, d) => d | none => 0
def tb : Option (Nat × Nat × Nat × Nat) → Bool | some _ => true | none => false
theorem fin_n {x : Option (Nat × Nat × Nat × Nat)} (h : x = none) : (some ([0, 0, 0, 0], [false]) : Option (List Int × List Bool)) = some ([t0 x, t1 x, t2 x, t3 x], [tb x]) := by rw [h]; rfl
theorem fin_s {x : Option (Nat × Nat × Nat × Nat)} {a b c d : Nat} {i j k l : Int} (h : x = some (a, b, c, d)) (hi : i = a) (hj : j = b) (hk : k = c) (hl : l = d) : (some ([i, j, k, l], [true]) : Option (List Int × List Bool)) = some ([t0 x, t1 x, t2 x, t3 x], [tb x]) := by rw [h, hi, hj, hk, hl]; rfl
theorem sub_n (a b : Nat) (hb : b < 2 ^ 64) : arI .sub .u64 (a : Int) (b : Int) = (((a + (2 ^ 64 - b)) % 2 ^ 64 : Nat) : Int) := by rw [arSub]; omega
theorem mask_n {N : Nat} (h : N < 64) (i : Int) (hi : i = arI .sub .u64 (arI .shl .u64 1 (IntKind.wrap .u64 (if 0 > (N : Int) then 0 else (N : Int)))) 1) : i = ((2 ^ N - 1 : Nat) : Int) := by
  rw [hi, ← mk_nat (show N ≤ 64 by omega)]; unfold mk; rw [if_neg (show ¬ (N : Int) ≥ 64 by omega)]
theorem up_n (lo N R : Nat) (hN : N < 64) (hl : lo < 2 ^ 64) (i : Int) (hi : i = ((2 ^ N - 1 : Nat) : Int)) : arI .and .u64 (arI .sub .u64 (R : Int) (lo : Int)) i = ((up lo N R : Nat) : Int) := by
  rw [hi, sub_n _ _ hl, band _ _ (Nat.mod_lt _ (pow_pos 64)) (mask_lt (by omega)), and_mask, mod_mod_pow _ (by omega)]; rfl
theorem dn_n (hi N R : Nat) (hN : N < 64) (hr : R < 2 ^ 64) (i : Int) (h : i = ((2 ^ N - 1 : Nat) : Int)) : arI .and .u64 (arI .sub .u64 (hi : Int) (R : Int)) i = ((dn hi N R : Nat) : Int) := by
  rw [h, sub_n _ _ hr, band _ _ (Nat.mod_lt _ (pow_pos 64)) (mask_lt (by omega)), and_mask, mod_mod_pow _ (by omega)]; rfl

set_option maxHeartbeats 4000000 in
theorem qm59 (lo hi N R : Nat) (hl : lo ≤ hi) (hh : hi < 2 ^ 64) (hN : N ≤ 64) (hR : R < 2 ^ 64) : F59 [(lo : Int), (hi : Int), (N : Int), (R : Int)] [] = some ([t0 (tg lo hi N R), t1 (tg lo hi N R), t2 (tg lo hi N R), t3 (tg lo hi N R)], [tb (tg lo hi N R)]) := by
  refine Eq.trans (Fd_of (n := 4) (m := 0) (t := t59) (C := Tab.fn a59) rfl rfl) ?_
  rw [t59]
  refine st_ite (fun hc => ?_) (fun hc => ?_)
  · replace hc : (decide ((N : Int) ≥ 64)) = true := hc
    have c1 := hc
    clear hc
    refine st_0_1 (e59_36) (g := true) rfl (l := [(lo : Int), (hi : Int), (R : Int)]) rfl (m := []) rfl (cl_t (q36 (lo : Int) (hi : Int) (R : Int))) fun b0 hb0 => ?_
    show T.den _ _ [(lo : Int), (hi : Int), (N : Int), (R : Int)] [b0] = _
    refine st_ite (fun hc => ?_) (fun hc => ?_)
    · replace hc : (!b0) = true := hc
      have c2 := hc
      clear hc
      refine st_ret ?_
      show some ([0, 0, 0, 0], [false]) = _
      simp only [decide_eq_true_eq] at c1
      rw [hb0] at c2
      simp only [Bool.not_eq_true', Bool.not_eq_false', Bool.and_eq_false_iff, Bool.and_eq_true, decide_eq_true_eq, decide_eq_false_iff_not] at c2
      exact fin_n (by unfold tg; rw [if_pos (by omega), if_neg (by omega)])
    · replace hc : (!b0) = false := hc
      have c3 := hc
      clear hc
      refine st_4_0 (e59_20) (g := true) rfl (l := [(R : Int)]) rfl (m := []) rfl (cl_t (q20 (R : Int))) fun i4 i5 i6 i7 hi4 hi5 hi6 hi7 => ?_
      show T.den _ _ [(lo : Int), (hi : Int), (N : Int), (R : Int), i4, i5, i6, i7] [b0] = _
      refine st_ret ?_
      show some ([i4, i5, i6, i7], [true]) = _
      simp only [decide_eq_true_eq] at c1
      rw [hb0] at c3
      simp only [Bool.not_eq_true', Bool.not_eq_false', Bool.and_eq_false_iff, Bool.and_eq_true, decide_eq_true_eq, decide_eq_false_iff_not] at c3
      exact fin_s (a := R) (b := R) (c := 64) (d := R) (by unfold tg; rw [if_pos (by omega), if_pos (by omega)]) hi4 hi5 hi6 hi7
  · replace hc : (decide ((N : Int) ≥ 64)) = false := hc
    have c4 := hc
    clear hc
    refine st_rq (show (decide ((IntKind.wrap .u64 (if 0 > (N : Int) then 0 else (N : Int))) ≥ 0)) = true from ?_) ?_
    · rw [decide_eq_true_eq, wrap_u64]
      exact Int.emod_nonneg _ (by decide)
    refine st_li fun i4 hi4 => ?_
    replace hi4 : i4 = (arI .sub .u64 (arI .shl .u64 1 (IntKind.wrap .u64 (if 0 > (N : Int) then 0 else (N : Int)))) 1) := hi4
    show T.den _ _ [(lo : Int), (hi : Int), (N : Int), (R : Int), i4] [] = _
    refine st_li fun i5 hi5 => ?_
    replace hi5 : i5 = (arI .sub .u64 (arI .shl .u64 1 (IntKind.wrap .u64 (if 0 > (N : Int) then 0 else (N : Int)))) 1) := hi5
    show T.den _ _ [(lo : Int), (hi : Int), (N : Int), (R : Int), i4, i5] [] = _
    refine st_lb fun b0 hb0 => ?_
    replace hb0 : b0 = (decide ((arI .and .u64 (arI .sub .u64 (R : Int) (lo : Int)) i4) > (arI .sub .u64 (hi : Int) (lo : Int)))) := hb0
    show T.den _ _ [(lo : Int), (hi : Int), (N : Int), (R : Int), i4, i5] [b0] = _
    refine st_lb fun b1 hb1 => ?_
    replace hb1 : b1 = (decide ((arI .and .u64 (arI .sub .u64 (hi : Int) (R : Int)) i5) > (arI .sub .u64 (hi : Int) (lo : Int)))) := hb1
    show T.den _ _ [(lo : Int), (hi : Int), (N : Int), (R : Int), i4, i5] [b0, b1] = _
    refine st_ite (fun hc => ?_) (fun hc => ?_)
    · replace hc : (b0 || b1) = true := hc
      have c5 := hc
      clear hc
      refine st_ret ?_
      show some ([0, 0, 0, 0], [false]) = _
      have c0 : N < 64 := by simp only [decide_eq_false_iff_not] at c4; omega
      have e4 := mask_n c0 i4 hi4
      have e5 := mask_n c0 i5 hi5
      have eu := up_n lo N R c0 (by omega) i4 e4
      have ed := dn_n hi N R c0 hR i5 e5
      have es : arI .sub .u64 (hi : Int) (lo : Int) = ((hi - lo : Nat) : Int) := by rw [arSub]; omega
      rw [eu, es] at hb0
      rw [ed, es] at hb1
      rw [hb0, hb1] at c5
      simp only [Bool.or_eq_true, Bool.or_eq_false_iff, decide_eq_true_eq, decide_eq_false_iff_not] at c5
      exact fin_n (by unfold tg; rw [if_neg (by omega), if_neg (by omega)])
    · replace hc : (b0 || b1) = false := hc
      have c6 := hc
      clear hc
      refine st_li fun i6 hi6 => ?_
      replace hi6 : i6 = (arI .add .u64 (lo : Int) (arI .and .u64 (arI .sub .u64 (R : Int) (lo : Int)) i4)) := hi6
      show T.den _ _ [(lo : Int), (hi : Int), (N : Int), (R : Int), i4, i5, i6] [b0, b1] = _
      refine st_li fun i7 hi7 => ?_
      replace hi7 : i7 = (arI .sub .u64 (hi : Int) (arI .and .u64 (arI .sub .u64 (hi : Int) (R : Int)) i5)) := hi7
      show T.den _ _ [(lo : Int), (hi : Int), (N : Int), (R : Int), i4, i5, i6, i7] [b0, b1] = _
      refine st_ite (fun hc => ?_) (fun hc => ?_)
      · replace hc : (i6 == i7) = true := hc
        have c7 := hc
        clear hc
        refine st_4_0 (e59_20) (g := true) rfl (l := [i6]) rfl (m := []) rfl (cl_t (q20 i6)) fun i8 i9 i10 i11 hi8 hi9 hi10 hi11 => ?_
        show T.den _ _ [(lo : Int), (hi : Int), (N : Int), (R : Int), i4, i5, i6, i7, i8, i9, i10, i11] [b0, b1] = _
        refine st_ret ?_
        show some ([i8, i9, i10, i11], [true]) = _
        have c0 : N < 64 := by simp only [decide_eq_false_iff_not] at c4; omega
        have e4 := mask_n c0 i4 hi4
        have e5 := mask_n c0 i5 hi5
        have eu := up_n lo N R c0 (by omega) i4 e4
        have ed := dn_n hi N R c0 hR i5 e5
        have es : arI .sub .u64 (hi : Int) (lo : Int) = ((hi - lo : Nat) : Int) := by rw [arSub]; omega
        rw [eu, es] at hb0
        rw [ed, es] at hb1
        rw [hb0, hb1] at c6
        simp only [Bool.or_eq_true, Bool.or_eq_false_iff, decide_eq_true_eq, decide_eq_false_iff_not] at c6
        rw [eu, arAdd] at hi6
        rw [ed, arSub] at hi7
        have g1 : up lo N R ≤ hi - lo ∧ dn hi N R ≤ hi - lo := by omega
        have e6 : i6 = ((lo + up lo N R : Nat) : Int) := by rw [hi6]; omega
        have e7 : i7 = ((hi - dn hi N R : Nat) : Int) := by rw [hi7]; omega
        rw [e6, e7] at c7
        rw [beq_iff_eq] at c7
        exact fin_s (by unfold tg; rw [if_neg (by omega), if_pos g1, if_pos (by omega)]) (hi8.trans e6) (hi9.trans e6) hi10 (hi11.trans e6)
      · replace hc : (i6 == i7) = false := hc
        have c8 := hc
        clear hc
        refine st_ret ?_
        show some ([i6, i7, (N : Int), (R : Int)], [true]) = _
        have c0 : N < 64 := by simp only [decide_eq_false_iff_not] at c4; omega
        have e4 := mask_n c0 i4 hi4
        have e5 := mask_n c0 i5 hi5
        have eu := up_n lo N R c0 (by omega) i4 e4
        have ed := dn_n hi N R c0 hR i5 e5
        have es : arI .sub .u64 (hi : Int) (lo : Int) = ((hi - lo : Nat) : Int) := by rw [arSub]; omega
        rw [eu, es] at hb0
        rw [ed, es] at hb1
        rw [hb0, hb1] at c6
        simp only [Bool.or_eq_true, Bool.or_eq_false_iff, decide_eq_true_eq, decide_eq_false_iff_not] at c6
        rw [eu, arAdd] at hi6
        rw [ed, arSub] at hi7
        have g1 : up lo N R ≤ hi - lo ∧ dn hi N R ≤ hi - lo := by omega
        have e6 : i6 = ((lo + up lo N R : Nat) : Int) := by rw [hi6]; omega
        have e7 : i7 = ((hi - dn hi N R : Nat) : Int) := by rw [hi7]; omega
        rw [e6, e7] at c8
        rw [beq_eq_false_iff_ne] at c8
        exact fin_s (by unfold tg; rw [if_neg (by omega), if_pos g1, if_neg (by omega)]) e6 e7 rfl rfl

def mt (lo hi N r lo2 hi2 M q : Nat) : Option (Nat × Nat × Nat × Nat) := if (ok lo hi lo2 hi2 && mb N r M q) = true then tg (max lo lo2) (min hi hi2) (mN N r M q) (mR N r M q) else none

set_option maxHeartbeats 4000000 in
theorem qm33 (lo hi N r lo2 hi2 M q : Nat) (hN : N ≤ 64) (hr : r < 2 ^ 64) (hM : M ≤ 64) (hq : q < 2 ^ 64) (h1 : hi < 2 ^ 64) (h2 : hi2 < 2 ^ 64) : F33 [(lo : Int), (hi : Int), (N : Int), (r : Int), (lo2 : Int), (hi2 : Int), (M : Int), (q : Int)] [] = some ([t0 (mt lo hi N r lo2 hi2 M q), t1 (mt lo hi N r lo2 hi2 M q), t2 (mt lo hi N r lo2 hi2 M q), t3 (mt lo hi N r lo2 hi2 M q)], [tb (mt lo hi N r lo2 hi2 M q)]) := by
  refine Eq.trans (Fd_of (n := 8) (m := 0) (t := t33) (C := Tab.fn a33) rfl rfl) ?_
  rw [t33]
  refine st_2_1 (e33_62) (g := true) rfl (l := [(lo : Int), (hi : Int), (lo2 : Int), (hi2 : Int)]) rfl (m := []) rfl (cl_t (qm62 (lo : Int) (hi : Int) (lo2 : Int) (hi2 : Int))) fun i8 i9 b0 hi8 hi9 hb0 => ?_
  show T.den _ _ [(lo : Int), (hi : Int), (N : Int), (r : Int), (lo2 : Int), (hi2 : Int), (M : Int), (q : Int), i8, i9] [b0] = _
  refine st_2_1 (e33_63) (g := true) rfl (l := [(N : Int), (r : Int), (M : Int), (q : Int)]) rfl (m := []) rfl (cl_t (qm63 N r M q hN hr hM hq)) fun i10 i11 b1 hi10 hi11 hb1 => ?_
  show T.den _ _ [(lo : Int), (hi : Int), (N : Int), (r : Int), (lo2 : Int), (hi2 : Int), (M : Int), (q : Int), i8, i9, i10, i11] [b0, b1] = _
  refine st_ite (fun hc => ?_) (fun hc => ?_)
  · replace hc : ((!b0) || (!b1)) = true := hc
    have c1 := hc
    clear hc
    refine st_ret ?_
    show some ([0, 0, 0, 0], [false]) = _
    refine fin_n ?_
    unfold mt
    rw [hb0, hb1] at c1
    rw [if_neg (fun h => ?_)]
    rw [Bool.and_eq_true] at h; rw [h.1, h.2] at c1; cases c1
  · replace hc : ((!b0) || (!b1)) = false := hc
    have c2 := hc
    clear hc
    simp only [hb0, hb1, Bool.or_eq_false_iff, Bool.not_eq_false'] at c2
    rw [c2.1, cond_true] at hi8 hi9
    have e8 : i8 = ((max lo lo2 : Nat) : Int) := by rw [hi8]; omega
    have e9 : i9 = ((min hi hi2 : Nat) : Int) := by rw [hi9]; omega
    have hle : max lo lo2 ≤ min hi hi2 := by have := of_decide_eq_true (show decide _ = true from c2.1); omega
    have hml := meet_law N r M q 0 hN hM hr hq
    refine st_4_1 (e33_59) (g := true) rfl (l := [i8, i9, i10, i11]) rfl (m := []) rfl (cl_t ((show F59 [i8, i9, i10, i11] [] = F59 [((max lo lo2 : Nat) : Int), ((min hi hi2 : Nat) : Int), ((mN N r M q : Nat) : Int), ((mR N r M q : Nat) : Int)] [] from by rw [e8, e9, hi10, hi11]).trans (qm59 _ _ _ _ hle (by omega) hml.1.1 hml.1.2))) fun i12 i13 i14 i15 b2 hi12 hi13 hi14 hi15 hb2 => ?_
    show T.den _ _ [(lo : Int), (hi : Int), (N : Int), (r : Int), (lo2 : Int), (hi2 : Int), (M : Int), (q : Int), i8, i9, i10, i11, i12, i13, i14, i15] [b0, b1, b2] = _
    refine st_ret ?_
    show some ([i12, i13, i14, i15], [b2]) = _
    rw [hi12, hi13, hi14, hi15, hb2]; unfold mt; rw [if_pos (by rw [c2.1, c2.2]; rfl)]

theorem hAN_Hs (lo hi N R n : Nat) (hN : N ≤ 64) : hAN lo hi N R n = true ↔ Hs lo hi N R n := by
  unfold hAN hs Hs
  rw [Nat.min_eq_left hN]
  simp only [Bool.and_eq_true, decide_eq_true_eq]
  omega
theorem hAN_meet (lo hi N r lo2 hi2 M q n : Nat) (hN : N ≤ 64) (hr : r < 2 ^ 64) (hM : M ≤ 64) (hq : q < 2 ^ 64) (hm : mb N r M q = true) : hAN (max lo lo2 : Nat) (min hi hi2 : Nat) (mN N r M q) (mR N r M q) n = (hAN lo hi N r n && hAN lo2 hi2 M q n) := by
  rcases (meet_law N r M q n hN hM hr hq).2 with ⟨_, _, _, e⟩ | ⟨h, _⟩
  · unfold hAN
    rw [e, show decide (((max lo lo2 : Nat) : Int) ≤ (n : Int)) = (decide ((lo : Int) ≤ n) && decide ((lo2 : Int) ≤ n)) from by rw [Bool.eq_iff_iff, Bool.and_eq_true, decide_eq_true_iff, decide_eq_true_iff, decide_eq_true_iff]; omega,
      show decide ((n : Int) ≤ ((min hi hi2 : Nat) : Int)) = (decide ((n : Int) ≤ hi) && decide ((n : Int) ≤ hi2)) from by rw [Bool.eq_iff_iff, Bool.and_eq_true, decide_eq_true_iff, decide_eq_true_iff, decide_eq_true_iff]; omega]
    cases decide ((lo : Int) ≤ n) <;> cases decide ((lo2 : Int) ≤ n) <;> cases decide ((n : Int) ≤ hi) <;> cases decide ((n : Int) ≤ hi2) <;> cases hs N r n <;> cases hs M q n <;> rfl
  · rw [hm] at h; cases h
theorem mR_right (N r M q : Nat) (rl : r < 2 ^ N) (ql : q < 2 ^ M) : mR N r M q < 2 ^ mN N r M q := by
  unfold mR mN
  split <;> split <;> first | assumption | decide
theorem mt_law (lo hi N r lo2 hi2 M q n : Nat) (hN : N ≤ 64) (hr : r < 2 ^ 64) (hM : M ≤ 64) (hq : q < 2 ^ 64) (rl : r < 2 ^ N) (ql : q < 2 ^ M) (h1 : hi < 2 ^ 64) (h2 : hi2 < 2 ^ 64) (hn : n < 2 ^ 64) :
    (mt lo hi N r lo2 hi2 M q = none ∧ (hAN lo hi N r n && hAN lo2 hi2 M q n) = false) ∨
    ∃ a b c d : Nat, mt lo hi N r lo2 hi2 M q = some (a, b, c, d) ∧ a ≤ b ∧ c ≤ 64 ∧ d < 2 ^ 64 ∧ d < 2 ^ c ∧ hAN a b c d n = (hAN lo hi N r n && hAN lo2 hi2 M q n) := by
  have hml := meet_law N r M q n hN hM hr hq
  unfold mt
  by_cases h : (ok lo hi lo2 hi2 && mb N r M q) = true
  · rw [if_pos h]
    rw [Bool.and_eq_true] at h
    have hle : max lo lo2 ≤ min hi hi2 := by have := of_decide_eq_true (show decide _ = true from h.1); omega
    rcases tight_means hle (by omega) hml.1.1 (mR_right N r M q rl ql) with ⟨e, hno⟩ | ⟨a, b, c, d, e, hab, hb, hc, hd, _, _, _, _, _, hiff, _⟩
    · refine .inl ⟨e, ?_⟩
      rw [← hAN_meet lo hi N r lo2 hi2 M q n hN hr hM hq h.2]
      have := hno n hn
      rw [← hAN_Hs _ _ _ _ _ hml.1.1, Bool.not_eq_true] at this
      exact this
    · refine .inr ⟨a, b, c, d, e, hab, hc, Nat.lt_of_lt_of_le hd (pow_le hc), hd, ?_⟩
      rw [← hAN_meet lo hi N r lo2 hi2 M q n hN hr hM hq h.2, Bool.eq_iff_iff, hAN_Hs _ _ _ _ _ hc, hAN_Hs _ _ _ _ _ hml.1.1]
      exact (hiff n hn).symm
  · rw [if_neg h]
    refine .inl ⟨rfl, ?_⟩
    rw [Bool.not_eq_true, Bool.and_eq_false_iff] at h
    rcases h with h | h
    · have h3 := of_decide_eq_false (show decide _ = false from h)
      cases hx : (hAN lo hi N r n && hAN lo2 hi2 M q n)
      · rfl
      · exfalso
        rw [Bool.and_eq_true, hAN_Hs _ _ _ _ _ hN, hAN_Hs _ _ _ _ _ hM] at hx
        unfold Hs at hx
        omega
    · rcases hml.2 with ⟨h3, _⟩ | ⟨_, _, _, h3⟩
      · rw [h] at h3; cases h3
      · unfold hAN
        cases (decide ((lo : Int) ≤ n) && decide ((n : Int) ≤ hi)) <;> cases (decide ((lo2 : Int) ≤ n) && decide ((n : Int) ≤ hi2)) <;> revert h3 <;> cases hs N r n <;> cases hs M q n <;> intro h3 <;> first | rfl | cases h3


/-- What is met lies, by its low bits, in the first. -/
theorem mt_in {lo hi N r lo2 hi2 M q a b c d : Nat} (hN' : N ≤ 64) (hr : r < 2 ^ 64) (hM : M ≤ 64) (hq : q < 2 ^ 64) (rl : r < 2 ^ N) (ql : q < 2 ^ M) (h1 : hi < 2 ^ 64) (h : mt lo hi N r lo2 hi2 M q = some (a, b, c, d)) : N ≤ c ∧ hs N r d = true ∧ a ≤ b ∧ b < 2 ^ 64 ∧ c ≤ 64 ∧ d < 2 ^ c := by
  have hml := meet_law N r M q 0 hN' hM hr hq
  unfold mt at h
  split at h
  · rename_i hk
    rw [Bool.and_eq_true] at hk
    have hle : max lo lo2 ≤ min hi hi2 := by have := of_decide_eq_true (show decide _ = true from hk.1); omega
    rcases tight_means hle (by omega) hml.1.1 (mR_right N r M q rl ql) with ⟨e, _⟩ | ⟨a', b', c', d', e, hab, hb, hc, hd, _, _, _, _, _, _, hw1, hw2⟩
    · rw [e] at h; cases h
    · rw [e] at h; cases h
      rcases hml.2 with ⟨_, hw, _⟩ | ⟨h3, _⟩
      · rw [Bool.and_eq_true, decide_eq_true_iff] at hw
        refine ⟨Nat.le_trans hw.1 hw1, ?_, hab, hb, hc, hd⟩
        have e1 := of_decide_eq_true hw.2
        refine hs_of ?_
        rw [← mod_mod_pow d hw.1, hw2]; exact e1
      · rw [hk.2] at h3; cases h3
  · cases h

theorem r41 {a b c d a' b' c' d' : Int} {u v : Bool} (h1 : a = a') (h2 : b = b') (h3 : c = c') (h4 : d = d') (h5 : u = v) : (some ([a, b, c, d], [u]) : Option (List Int × List Bool)) = some ([a', b', c', d'], [v]) := by rw [h1, h2, h3, h4, h5]
/-! What is known, right: of natural numbers. -/
def Rt (lo hi N r : Nat) : Prop := lo ≤ hi ∧ hi < 2 ^ 64 ∧ N ≤ 64 ∧ r < 2 ^ N
def RtI (i j k l : Int) : Prop := ∃ a b c d : Nat, i = a ∧ j = b ∧ k = c ∧ l = d ∧ Rt a b c d
/-- n is in what is told, and that lies in the low bits N, r. -/
def In (N r : Nat) (i j k l : Int) (n : Nat) : Prop := ∃ a b c d : Nat, i = a ∧ j = b ∧ k = c ∧ l = d ∧ hAN a b c d n = true ∧ N ≤ c ∧ hs N r d = true ∧ Rt a b c d
def Res (lo hi N r : Nat) (P : Nat → Prop) (i j k l : Int) (u : Bool) : Prop := (u = true → RtI i j k l) ∧ ∀ n, n < 2 ^ 64 → hAN lo hi N r n = true → P n → u = true ∧ In N r i j k l n
theorem Rt.r64 {lo hi N r : Nat} (h : Rt lo hi N r) : r < 2 ^ 64 := Nat.lt_of_lt_of_le h.2.2.2 (pow_le h.2.2.1)
theorem self_res {lo hi N r : Nat} (h : Rt lo hi N r) (P : Nat → Prop) : Res lo hi N r P lo hi N r true :=
  ⟨fun _ => ⟨lo, hi, N, r, rfl, rfl, rfl, rfl, h⟩, fun n _ hA _ => ⟨rfl, lo, hi, N, r, rfl, rfl, rfl, rfl, hA, Nat.le_refl _, hs_of rfl, h⟩⟩
theorem hAN_true {lo hi N r n : Nat} (h : hAN lo hi N r n = true) : lo ≤ n ∧ n ≤ hi ∧ hs N r n = true := by
  unfold hAN at h
  simp only [Bool.and_eq_true, decide_eq_true_eq] at h
  exact ⟨by omega, by omega, h.2⟩
theorem hAN_of {lo hi N r n : Nat} (h1 : lo ≤ n) (h2 : n ≤ hi) (h3 : hs N r n = true) : hAN lo hi N r n = true := by
  unfold hAN; rw [h3, decide_eq_true (by omega), decide_eq_true (by omega)]; rfl
theorem hA_hAN {lo hi N r n : Nat} (hN : N ≤ 64) (hr : r < 2 ^ 64) (hn : n < 2 ^ 64) : hA lo hi N r n = hAN lo hi N r n := by
  unfold hA hAN; rw [hL_nat N r n hN hr hn]
theorem tight_res {lo hi N r : Nat} (h : Rt lo hi N r) (P : Nat → Prop) : Res lo hi N r P (t0 (tg lo hi N r)) (t1 (tg lo hi N r)) (t2 (tg lo hi N r)) (t3 (tg lo hi N r)) (tb (tg lo hi N r)) := by
  rcases tight_means h.1 h.2.1 h.2.2.1 h.2.2.2 with ⟨e, hno⟩ | ⟨a, b, c, d, e, hab, hb, hc, hd, _, _, _, _, _, hiff, hw1, hw2⟩
  · rw [e]
    refine ⟨(fun h => by cases h), fun n hn hA _ => ?_⟩
    exact absurd ((hAN_Hs _ _ _ _ _ h.2.2.1).1 hA) (hno n hn)
  · rw [e]
    refine ⟨fun _ => ⟨a, b, c, d, rfl, rfl, rfl, rfl, hab, hb, hc, hd⟩, fun n hn hA _ => ⟨rfl, a, b, c, d, rfl, rfl, rfl, rfl, ?_, hw1, ?_, hab, hb, hc, hd⟩⟩
    · exact (hAN_Hs _ _ _ _ _ hc).2 ((hiff n hn).1 ((hAN_Hs _ _ _ _ _ h.2.2.1).1 hA))
    · exact hs_of (by rw [hw2, Nat.mod_eq_of_lt h.2.2.2])
theorem meet_res {lo hi N r lo2 hi2 M q : Nat} (h : Rt lo hi N r) (h2 : Rt lo2 hi2 M q) :
    Res lo hi N r (fun n => hAN lo2 hi2 M q n = true) (t0 (mt lo hi N r lo2 hi2 M q)) (t1 (mt lo hi N r lo2 hi2 M q)) (t2 (mt lo hi N r lo2 hi2 M q)) (t3 (mt lo hi N r lo2 hi2 M q)) (tb (mt lo hi N r lo2 hi2 M q)) := by
  have key := fun n hn => mt_law lo hi N r lo2 hi2 M q n h.2.2.1 h.r64 h2.2.2.1 h2.r64 h.2.2.2 h2.2.2.2 h.2.1 h2.2.1 hn
  cases e : mt lo hi N r lo2 hi2 M q with
  | none =>
    refine ⟨(fun h => by cases h), fun n hn hA hB => ?_⟩
    rcases key n hn with ⟨_, h3⟩ | ⟨a, b, c, d, h3, _⟩
    · rw [hA, hB] at h3; cases h3
    · rw [e] at h3; cases h3
  | some x =>
    obtain ⟨a, b, c, d⟩ := x
    obtain ⟨w1, w2, g1, g2, g3, g4⟩ := mt_in h.2.2.1 h.r64 h2.2.2.1 h2.r64 h.2.2.2 h2.2.2.2 h.2.1 e
    refine ⟨fun _ => ⟨a, b, c, d, rfl, rfl, rfl, rfl, g1, g2, g3, g4⟩, fun n hn hA hB => ⟨rfl, a, b, c, d, rfl, rfl, rfl, rfl, ?_, w1, w2, g1, g2, g3, g4⟩⟩
    rcases key n hn with ⟨h3, _⟩ | ⟨a', b', c', d', h3, _, _, _, _, h4⟩
    · rw [e] at h3; cases h3
    · rw [e] at h3; cases h3; rw [h4, hA, hB]; rfl
theorem zero_t (x : Option (Nat × Nat × Nat × Nat)) (h : tb x = false) : t0 x = 0 ∧ t1 x = 0 ∧ t2 x = 0 ∧ t3 x = 0 := by cases x with
  | none => exact ⟨rfl, rfl, rfl, rfl⟩
  | some x => cases h
theorem q59 {lo hi N r : Nat} (h : Rt lo hi N r) : F59 [(lo : Int), (hi : Int), (N : Int), (r : Int)] [] = some ([t0 (tg lo hi N r), t1 (tg lo hi N r), t2 (tg lo hi N r), t3 (tg lo hi N r)], [tb (tg lo hi N r)]) := qm59 lo hi N r h.1 h.2.1 h.2.2.1 h.r64
theorem Rt.inr {lo hi N r : Nat} (h : Rt lo hi N r) : (0 ≤ (lo : Int) ∧ (lo : Int) < 18446744073709551616) ∧ (0 ≤ (hi : Int) ∧ (hi : Int) < 18446744073709551616) ∧ (0 ≤ (r : Int) ∧ (r : Int) < 18446744073709551616) := by
  have h1 := h.r64
  have h2 := h.1
  have h3 := h.2.1
  exact ⟨by omega, by omega, by omega⟩
theorem one_N {lo hi N r n : Nat} (h : Rt lo hi N r) (hn : n < 2 ^ 64) (h1 : ob lo hi N = true) (hA' : hAN lo hi N r n = true) : ov lo hi N r = n := by
  rw [← hA_hAN h.2.2.1 h.r64 hn] at hA'
  exact one_has h.inr.2.2 ⟨by omega, by omega⟩ h1 hA'

theorem xor_le_or (a b : Nat) : a ^^^ b ≤ a ||| b := by
  have h : (a ^^^ b) &&& (a ||| b) = a ^^^ b := by
    refine Nat.eq_of_testBit_eq fun j => ?_
    rw [Nat.testBit_and, Nat.testBit_xor, Nat.testBit_or]
    cases a.testBit j <;> cases b.testBit j <;> rfl
  rw [← h]; exact Nat.and_le_right

theorem hAN_hs {lo hi N r n : Nat} (h : hAN lo hi N r n = true) : hs N r n = true := (hAN_true h).2.2
/-- What is told of all numbers with S: right, and not beyond T. -/
def Ok (T : Nat) (S : Nat → Prop) (i j k l : Int) : Prop := ∃ a b c d : Nat, i = a ∧ j = b ∧ k = c ∧ l = d ∧ Rt a b c d ∧ b ≤ T ∧ ∀ v, S v → hAN a b c d v = true
def Iv (T : Nat) (S : Nat → Prop) (i j : Int) : Prop := ∃ a b : Nat, i = a ∧ j = b ∧ a ≤ b ∧ b ≤ T ∧ ∀ v, S v → a ≤ v ∧ v ≤ b
theorem ok_mk {T : Nat} {S : Nat → Prop} {i j k l : Int} (hT : T < 2 ^ 64) (h1 : Iv T S i j) (h2 : Lo S k l) : Ok T S i j k l := by
  obtain ⟨a, b, rfl, rfl, h3, h4, h5⟩ := h1
  obtain ⟨c, d, rfl, rfl, h6, h7, h8⟩ := h2
  exact ⟨a, b, c, d, rfl, rfl, rfl, rfl, ⟨h3, by omega, h6, h7⟩, h4, fun v hv => hAN_of (h5 v hv).1 (h5 v hv).2 (h8 v hv)⟩
theorem lo_00 (S : Nat → Prop) : Lo S 0 0 := ⟨0, 0, rfl, rfl, by decide, by decide, fun v _ => hs_of (by rw [Nat.pow_zero, Nat.mod_one, Nat.mod_one])⟩
theorem lo_mono {S S' : Nat → Prop} {N r : Int} (h : Lo S N r) (hs : ∀ v, S' v → S v) : Lo S' N r := by
  obtain ⟨a, b, e1, e2, e3, e4, e5⟩ := h; exact ⟨a, b, e1, e2, e3, e4, fun v hv => e5 v (hs v hv)⟩
/-- The numbers that a relation R tells of two numbers that are known. -/
def SS (lo hi N r lo2 hi2 M q : Nat) (R : Nat → Nat → Nat → Prop) (v : Nat) : Prop := ∃ n m, n < 2 ^ 64 ∧ m < 2 ^ 64 ∧ hAN lo hi N r n = true ∧ hAN lo2 hi2 M q m = true ∧ R n m v
theorem tp32 : tp 32 = 4294967295 := rfl
theorem tp64 : tp 64 = 18446744073709551615 := rfl
section
variable {lo hi N r lo2 hi2 M q : Nat} (h : Rt lo hi N r) (h2 : Rt lo2 hi2 M q)
include h h2

theorem iv_add32 (hT : hi ≤ 4294967295) (hT2 : hi2 ≤ 4294967295) : Iv 4294967295 (SS lo hi N r lo2 hi2 M q fun n m v => (v : Int) = ((n : Int) + m) % 2 ^ 32) (if (hi : Int) + hi2 ≤ tp 32 then (lo : Int) + lo2 else 0) (if (hi : Int) + hi2 ≤ tp 32 then (hi : Int) + hi2 else tp 32) := by
  rw [tp32]
  have g1 := h.1
  have g2 := h2.1
  by_cases hc : (hi : Int) + hi2 ≤ 4294967295
  · rw [if_pos hc, if_pos hc]
    refine ⟨lo + lo2, hi + hi2, by omega, by omega, by omega, by omega, ?_⟩
    rintro v ⟨n, m, hn, hm, hA, hB, hv⟩
    have k1 := hAN_true hA
    have k2 := hAN_true hB
    omega
  · rw [if_neg hc, if_neg hc]
    refine ⟨0, 4294967295, rfl, rfl, by omega, by omega, ?_⟩
    rintro v ⟨n, m, hn, hm, hA, hB, hv⟩
    omega
theorem iv_sub32 (hT : hi ≤ 4294967295) (hT2 : hi2 ≤ 4294967295) : Iv 4294967295 (SS lo hi N r lo2 hi2 M q fun n m v => (v : Int) = ((n : Int) - m) % 2 ^ 32) (if (lo : Int) < hi2 then 0 else (lo : Int) - hi2) (if (lo : Int) < hi2 then tp 32 else (hi : Int) - lo2) := by
  rw [tp32]
  have g1 := h.1
  have g2 := h2.1
  by_cases hc : (lo : Int) < hi2
  · rw [if_pos hc, if_pos hc]
    refine ⟨0, 4294967295, rfl, rfl, by omega, by omega, ?_⟩
    rintro v ⟨n, m, hn, hm, hA, hB, hv⟩
    omega
  · rw [if_neg hc, if_neg hc]
    refine ⟨lo - hi2, hi - lo2, by omega, by omega, by omega, by omega, ?_⟩
    rintro v ⟨n, m, hn, hm, hA, hB, hv⟩
    have k1 := hAN_true hA
    have k2 := hAN_true hB
    omega
theorem iv_mul32 (hT : hi ≤ 4294967295) (hT2 : hi2 ≤ 4294967295) : Iv 4294967295 (SS lo hi N r lo2 hi2 M q fun n m v => (v : Int) = ((n : Int) * m) % 2 ^ 32) (if (hi : Int) * hi2 ≤ tp 32 then (lo : Int) * lo2 else 0) (if (hi : Int) * hi2 ≤ tp 32 then (hi : Int) * hi2 else tp 32) := by
  rw [tp32, ← Int.natCast_mul, ← Int.natCast_mul]
  have g := Nat.mul_le_mul h.1 h2.1
  by_cases hc : ((hi * hi2 : Nat) : Int) ≤ 4294967295
  · rw [if_pos hc, if_pos hc]
    refine ⟨lo * lo2, hi * hi2, rfl, rfl, g, by omega, ?_⟩
    rintro v ⟨n, m, hn, hm, hA, hB, hv⟩
    have k1 := hAN_true hA
    have k2 := hAN_true hB
    have k3 := Nat.mul_le_mul k1.1 k2.1
    have k4 := Nat.mul_le_mul k1.2.1 k2.2.1
    rw [← Int.natCast_mul] at hv
    generalize n * m = x at *
    generalize lo * lo2 = y at *
    generalize hi * hi2 = z at *
    omega
  · rw [if_neg hc, if_neg hc]
    refine ⟨0, 4294967295, rfl, rfl, by omega, by omega, ?_⟩
    rintro v ⟨n, m, hn, hm, hA, hB, hv⟩
    rw [← Int.natCast_mul] at hv
    generalize n * m = x at *
    omega

theorem iv_add64 (hT : hi ≤ 18446744073709551615) (hT2 : hi2 ≤ 18446744073709551615) : Iv 18446744073709551615 (SS lo hi N r lo2 hi2 M q fun n m v => (v : Int) = ((n : Int) + m) % 2 ^ 64) (if (hi : Int) + hi2 ≤ tp 64 then (lo : Int) + lo2 else 0) (if (hi : Int) + hi2 ≤ tp 64 then (hi : Int) + hi2 else tp 64) := by
  rw [tp64]
  have g1 := h.1
  have g2 := h2.1
  by_cases hc : (hi : Int) + hi2 ≤ 18446744073709551615
  · rw [if_pos hc, if_pos hc]
    refine ⟨lo + lo2, hi + hi2, by omega, by omega, by omega, by omega, ?_⟩
    rintro v ⟨n, m, hn, hm, hA, hB, hv⟩
    have k1 := hAN_true hA
    have k2 := hAN_true hB
    omega
  · rw [if_neg hc, if_neg hc]
    refine ⟨0, 18446744073709551615, rfl, rfl, by omega, by omega, ?_⟩
    rintro v ⟨n, m, hn, hm, hA, hB, hv⟩
    omega
theorem iv_sub64 (hT : hi ≤ 18446744073709551615) (hT2 : hi2 ≤ 18446744073709551615) : Iv 18446744073709551615 (SS lo hi N r lo2 hi2 M q fun n m v => (v : Int) = ((n : Int) - m) % 2 ^ 64) (if (lo : Int) < hi2 then 0 else (lo : Int) - hi2) (if (lo : Int) < hi2 then tp 64 else (hi : Int) - lo2) := by
  rw [tp64]
  have g1 := h.1
  have g2 := h2.1
  by_cases hc : (lo : Int) < hi2
  · rw [if_pos hc, if_pos hc]
    refine ⟨0, 18446744073709551615, rfl, rfl, by omega, by omega, ?_⟩
    rintro v ⟨n, m, hn, hm, hA, hB, hv⟩
    omega
  · rw [if_neg hc, if_neg hc]
    refine ⟨lo - hi2, hi - lo2, by omega, by omega, by omega, by omega, ?_⟩
    rintro v ⟨n, m, hn, hm, hA, hB, hv⟩
    have k1 := hAN_true hA
    have k2 := hAN_true hB
    omega
theorem iv_mul64 (hT : hi ≤ 18446744073709551615) (hT2 : hi2 ≤ 18446744073709551615) : Iv 18446744073709551615 (SS lo hi N r lo2 hi2 M q fun n m v => (v : Int) = ((n : Int) * m) % 2 ^ 64) (if (hi : Int) * hi2 ≤ tp 64 then (lo : Int) * lo2 else 0) (if (hi : Int) * hi2 ≤ tp 64 then (hi : Int) * hi2 else tp 64) := by
  rw [tp64, ← Int.natCast_mul, ← Int.natCast_mul]
  have g := Nat.mul_le_mul h.1 h2.1
  by_cases hc : ((hi * hi2 : Nat) : Int) ≤ 18446744073709551615
  · rw [if_pos hc, if_pos hc]
    refine ⟨lo * lo2, hi * hi2, rfl, rfl, g, by omega, ?_⟩
    rintro v ⟨n, m, hn, hm, hA, hB, hv⟩
    have k1 := hAN_true hA
    have k2 := hAN_true hB
    have k3 := Nat.mul_le_mul k1.1 k2.1
    have k4 := Nat.mul_le_mul k1.2.1 k2.2.1
    rw [← Int.natCast_mul] at hv
    generalize n * m = x at *
    generalize lo * lo2 = y at *
    generalize hi * hi2 = z at *
    omega
  · rw [if_neg hc, if_neg hc]
    refine ⟨0, 18446744073709551615, rfl, rfl, by omega, by omega, ?_⟩
    rintro v ⟨n, m, hn, hm, hA, hB, hv⟩
    rw [← Int.natCast_mul] at hv
    generalize n * m = x at *
    omega

theorem iv_div {T : Nat} (hT : hi ≤ T) (hz : ¬ (hi2 : Int) = 0) : Iv T (SS lo hi N r lo2 hi2 M q fun n m v => m ≠ 0 ∧ v = n / m) (arI .quo .u64 (lo : Int) hi2) (arI .quo .u64 (hi : Int) (max (lo2 : Int) 1)) := by
  have g1 := h.1
  have g2 := h2.1
  have g3 := h.2.1
  have g4 := h2.2.1
  rw [show max (lo2 : Int) 1 = ((max lo2 1 : Nat) : Int) from by omega, arQuo _ _ (by omega) (by omega) (by omega), arQuo _ _ (by omega) (by omega) (by omega)]
  refine ⟨lo / hi2, hi / max lo2 1, by rw [Int.natCast_ediv], by rw [Int.natCast_ediv], ?_, ?_, ?_⟩
  · exact Nat.le_trans (Nat.div_le_div_right g1) (Nat.div_le_div_left (by omega) (by omega))
  · exact Nat.le_trans (Nat.div_le_self _ _) hT
  · rintro v ⟨n, m, hn, hm, hA, hB, hm0, rfl⟩
    have k1 := hAN_true hA
    have k2 := hAN_true hB
    exact ⟨Nat.le_trans (Nat.div_le_div_right k1.1) (Nat.div_le_div_left k2.2.1 (by omega)), Nat.le_trans (Nat.div_le_div_right k1.2.1) (Nat.div_le_div_left (by omega) (by omega))⟩
theorem iv_rem {T : Nat} (hT : hi ≤ T) (hz : ¬ (hi2 : Int) = 0) : Iv T (SS lo hi N r lo2 hi2 M q fun n m v => m ≠ 0 ∧ v = n % m) (if (hi : Int) < lo2 then (lo : Int) else 0) (if (hi : Int) < lo2 then (hi : Int) else min (hi : Int) (arI .sub .u64 (hi2 : Int) 1)) := by
  have g1 := h.1
  have g2 := h2.1
  have g3 := h.2.1
  have g4 := h2.2.1
  by_cases hc : (hi : Int) < lo2
  · rw [if_pos hc, if_pos hc]
    refine ⟨lo, hi, rfl, rfl, g1, hT, ?_⟩
    rintro v ⟨n, m, hn, hm, hA, hB, hm0, rfl⟩
    have k1 := hAN_true hA
    have k2 := hAN_true hB
    rw [Nat.mod_eq_of_lt (by omega)]; exact ⟨k1.1, k1.2.1⟩
  · rw [if_neg hc, if_neg hc]
    refine ⟨0, min hi (hi2 - 1), rfl, by rw [arSub]; omega, by omega, by omega, ?_⟩
    rintro v ⟨n, m, hn, hm, hA, hB, hm0, rfl⟩
    have k1 := hAN_true hA
    have k2 := hAN_true hB
    have k3 := Nat.mod_le n m
    have k4 := Nat.mod_lt n (show 0 < m by omega)
    omega
theorem iv_and {T : Nat} (hT : hi ≤ T) : Iv T (SS lo hi N r lo2 hi2 M q fun n m v => v = n &&& m) (anL (lo : Int) hi lo2 hi2) (anH (lo : Int) hi lo2 hi2) := by
  have g3 := h.2.1
  have g4 := h2.2.1
  have g1 := h.1
  have g2 := h2.1
  unfold anL anH
  by_cases hc : (lo : Int) = hi ∧ (lo2 : Int) = hi2
  · rw [if_pos hc, if_pos hc, band lo lo2 (by omega) (by omega)]
    have k0 : lo &&& lo2 ≤ lo := Nat.and_le_left
    refine ⟨lo &&& lo2, lo &&& lo2, rfl, rfl, Nat.le_refl _, by omega, ?_⟩
    rintro v ⟨n, m, hn, hm, hA, hB, rfl⟩
    have k1 := hAN_true hA
    have k2 := hAN_true hB
    rw [show n = lo by omega, show m = lo2 by omega]; exact ⟨Nat.le_refl _, Nat.le_refl _⟩
  · rw [if_neg hc, if_neg hc]
    refine ⟨0, min hi hi2, rfl, by omega, by omega, by omega, ?_⟩
    rintro v ⟨n, m, hn, hm, hA, hB, rfl⟩
    have k1 := hAN_true hA
    have k2 := hAN_true hB
    have e1 : n &&& m ≤ n := Nat.and_le_left
    have e2 : n &&& m ≤ m := Nat.and_le_right
    omega
end



theorem len_lt (x : Nat) (hx : x < 2 ^ 64) : x < 2 ^ Go.Lib.bitLen x := by
  by_cases h0 : x = 0
  · subst h0; exact pow_pos _
  · obtain ⟨h1, h2⟩ := len_top 64 x hx h0 (by decide)
    have h3 := Nat.div_add_mod x (2 ^ (Go.Lib.bitLen x - 1))
    have h4 := Nat.mod_lt x (pow_pos (Go.Lib.bitLen x - 1))
    rw [h2, Nat.mul_one] at h3
    have h5 : 2 ^ Go.Lib.bitLen x = 2 ^ (Go.Lib.bitLen x - 1) * 2 := by rw [← Nat.pow_succ]; congr 1; omega
    omega
theorem orT_nat (x : Nat) (hx : x < 2 ^ 64) : orT (x : Int) = ((2 ^ Go.Lib.bitLen x - 1 : Nat) : Int) := by
  have hl := Go.Lib.bitLen_le x 64 (by decide) hx
  unfold orT len
  rw [Int.toNat_natCast, show (64 : Int) - (Go.Lib.bitLen x : Int) = ((64 - Go.Lib.bitLen x : Nat) : Int) from by omega, show (18446744073709551615 : Int) = ((2 ^ 64 - 1 : Nat) : Int) from rfl, shr_nat _ _ (by omega)]
  congr 1
  have e : 2 ^ 64 = 2 ^ Go.Lib.bitLen x * 2 ^ (64 - Go.Lib.bitLen x) := by rw [← Nat.pow_add]; congr 1; omega
  have hp := pow_pos (64 - Go.Lib.bitLen x)
  have hp2 := pow_pos (Go.Lib.bitLen x)
  generalize 2 ^ (64 - Go.Lib.bitLen x) = P at *
  generalize 2 ^ Go.Lib.bitLen x = Q at *
  rw [e]
  refine Nat.div_eq_of_lt_le ?_ ?_
  · rw [Nat.sub_mul, Nat.one_mul]; have : P ≤ Q * P := Nat.le_mul_of_pos_left _ hp2; omega
  · rw [show Q - 1 + 1 = Q from by omega]; have : 0 < Q * P := Nat.mul_pos hp2 hp; omega
section
variable {lo hi N r lo2 hi2 M q : Nat} (h : Rt lo hi N r) (h2 : Rt lo2 hi2 M q)
include h h2
theorem or_up {w : Nat} (hw : w ≤ 64) (hT : hi < 2 ^ w) (hT2 : hi2 < 2 ^ w) : ∃ b : Nat, orH (lo : Int) hi lo2 hi2 = b ∧ b < 2 ^ w ∧ (∀ v, (SS lo hi N r lo2 hi2 M q fun n m v => v = n ||| m) v → v ≤ b) ∧ (∀ v, (SS lo hi N r lo2 hi2 M q fun n m v => v = n ^^^ m) v → v ≤ b) := by
  have g1 := h.1
  have g2 := h2.1
  have g3 := h.2.1
  have g4 := h2.2.1
  unfold orH
  by_cases hc : (lo : Int) = hi ∧ (lo2 : Int) = hi2
  · rw [if_pos hc, bor lo lo2 (by omega) (by omega)]
    refine ⟨_, rfl, Nat.or_lt_two_pow (by omega) (by omega), ?_, ?_⟩
    · rintro v ⟨n, m, hn, hm, hA, hB, rfl⟩
      have k1 := hAN_true hA
      have k2 := hAN_true hB
      rw [show n = lo by omega, show m = lo2 by omega]; exact Nat.le_refl _
    · rintro v ⟨n, m, hn, hm, hA, hB, rfl⟩
      have k1 := hAN_true hA
      have k2 := hAN_true hB
      rw [show n = lo by omega, show m = lo2 by omega]
      exact xor_le_or lo lo2
  · have hm : max hi hi2 < 2 ^ 64 := by omega
    have hmw : max hi hi2 < 2 ^ w := by omega
    rw [if_neg hc, show max (hi : Int) hi2 = ((max hi hi2 : Nat) : Int) from by omega, orT_nat _ hm]
    have hl := len_lt _ hm
    have hlw := Go.Lib.bitLen_le (max hi hi2) w hw hmw
    have hpw := pow_le hlw
    have hp := pow_pos (Go.Lib.bitLen (max hi hi2))
    refine ⟨_, rfl, by omega, ?_, ?_⟩
    · rintro v ⟨n, m, hn, hm, hA, hB, rfl⟩
      have k1 := hAN_true hA
      have k2 := hAN_true hB
      have := Nat.or_lt_two_pow (x := n) (y := m) (n := Go.Lib.bitLen (max hi hi2)) (by omega) (by omega)
      omega
    · rintro v ⟨n, m, hn, hm, hA, hB, rfl⟩
      have k1 := hAN_true hA
      have k2 := hAN_true hB
      have := Nat.xor_lt_two_pow (x := n) (y := m) (n := Go.Lib.bitLen (max hi hi2)) (by omega) (by omega)
      omega
theorem iv_or {w T : Nat} (hw : w ≤ 64) (hTw : T + 1 = 2 ^ w) (hT : hi ≤ T) (hT2 : hi2 ≤ T) : Iv T (SS lo hi N r lo2 hi2 M q fun n m v => v = n ||| m) (orL (lo : Int) hi lo2 hi2) (orH (lo : Int) hi lo2 hi2) := by
  obtain ⟨b, e, hb, hv, _⟩ := or_up h h2 hw (by omega) (by omega)
  have g1 := h.1
  have g2 := h2.1
  have g3 := h.2.1
  have g4 := h2.2.1
  rw [e]
  unfold orL
  by_cases hc : (lo : Int) = hi ∧ (lo2 : Int) = hi2
  · have hS : (SS lo hi N r lo2 hi2 M q fun n m v => v = n ||| m) = (SS lo hi N r lo2 hi2 M q fun n m v => v = n ||| m) := rfl
    rw [if_pos hc, bor lo lo2 (by omega) (by omega)]
    refine ⟨lo ||| lo2, b, rfl, rfl, ?_, by omega, fun v hs => ⟨?_, hv v hs⟩⟩
    · have : orH (lo : Int) hi lo2 hi2 = ((lo ||| lo2 : Nat) : Int) := by unfold orH; rw [if_pos hc, bor lo lo2 (by omega) (by omega)]
      rw [this] at e; omega
    · obtain ⟨n, m, hn, hm, hA, hB, rfl⟩ := hs
      have k1 := hAN_true hA
      have k2 := hAN_true hB
      rw [show n = lo by omega, show m = lo2 by omega]; exact Nat.le_refl _
  · rw [if_neg hc]
    refine ⟨max lo lo2, b, by omega, rfl, ?_, by omega, fun v hs => ⟨?_, hv v hs⟩⟩
    · have e2 : orH (lo : Int) hi lo2 hi2 = ((2 ^ Go.Lib.bitLen (max hi hi2) - 1 : Nat) : Int) := by unfold orH; rw [if_neg hc, show max (hi : Int) hi2 = ((max hi hi2 : Nat) : Int) from by omega, orT_nat _ (by omega)]
      have := len_lt (max hi hi2) (by omega)
      rw [e2] at e; omega
    · obtain ⟨n, m, hn, hm, hA, hB, rfl⟩ := hs
      have k1 := hAN_true hA
      have k2 := hAN_true hB
      have e1 : n ≤ n ||| m := Nat.left_le_or
      have e2 : m ≤ n ||| m := Nat.right_le_or
      omega
theorem iv_xor {w T : Nat} (hw : w ≤ 64) (hTw : T + 1 = 2 ^ w) (hT : hi ≤ T) (hT2 : hi2 ≤ T) : Iv T (SS lo hi N r lo2 hi2 M q fun n m v => v = n ^^^ m) 0 (orH (lo : Int) hi lo2 hi2) := by
  obtain ⟨b, e, hb, _, hv⟩ := or_up h h2 hw (by omega) (by omega)
  exact ⟨0, b, rfl, e, Nat.zero_le _, by omega, fun v hs => ⟨Nat.zero_le _, hv v hs⟩⟩
end
theorem pow2_of {x : Nat} (h0 : x ≠ 0) (hx : x < 2 ^ 64) (h : x &&& (x - 1) = 0) : x = 2 ^ Go.Lib.ctz 64 x := by
  unfold Go.Lib.ctz
  rw [if_neg h0]
  obtain ⟨m, e, hk⟩ := Go.Lib.ctzFrom_spec 64 x (by omega) hx
  generalize Go.Lib.ctzFrom 64 x = k at *
  have hp := pow_pos k
  have h1 : x / 2 ^ k = 2 * m + 1 := by rw [e, Nat.mul_div_cancel_left _ hp]
  have h2 : (x - 1) / 2 ^ k = 2 * m := by
    refine Nat.div_eq_of_lt_le ?_ ?_
    · rw [e, Nat.mul_comm (2 ^ k)]; have : 2 * m * 2 ^ k + 2 ^ k = (2 * m + 1) * 2 ^ k := by rw [Nat.add_mul, Nat.one_mul]
      omega
    · rw [e, Nat.mul_comm (2 ^ k)]; have : 0 < (2 * m + 1) * 2 ^ k := Nat.mul_pos (by omega) hp
      omega
  have h3 : (x &&& (x - 1)) / 2 ^ k / 2 = m := by
    rw [Nat.and_div_two_pow, h1, h2]
    have := Nat.and_div_two_pow (a := 2 * m + 1) (b := 2 * m) (n := 1)
    rw [Nat.pow_one] at this
    rw [this, show (2 * m + 1) / 2 = m from by omega, show 2 * m / 2 = m from by omega, Nat.and_self]
  rw [h, Nat.zero_div, Nat.zero_div] at h3
  rw [e, ← h3]; simp
end Go.Proofs.YtlnikilodakjmaaDoor.ZTransTight
