/-
  Un of layer 19, each operation.
-/
import Derived.Test.YtlnikilodakjmaaDoorXTransTight
import Derived.Test.YtlnikilodakjmaaDoorSn
import Derived.Test.YtlnikilodakjmaaDoorNTransTight
import Derived.Test.YtlnikilodakjmaaDoorITransTight
import Derived.Test.YtlnikilodakjmaaDoorZTransTight
import Derived.Test.YtlnikilodakjmaaDoorRTransTight
import Derived.Test.YtlnikilodakjmaaDoorBTransTight
import Derived.Test.YtlnikilodakjmaaDoorCTransTight
import Derived.Test.YtlnikilodakjmaaDoorDTransTight
import Derived.Lib.BitFns
import Derived.Lib.TrailingZeros
namespace Go.Proofs.YtlnikilodakjmaaDoor.UTransTight
open Go.Proofs.YtlnikilodakjmaaDoor.NTransTight Go.Proofs.YtlnikilodakjmaaDoor.ITransTight Go.Proofs.YtlnikilodakjmaaDoor.ZTransTight Go.Proofs.YtlnikilodakjmaaDoor.RTransTight Go.Proofs.YtlnikilodakjmaaDoor.BTransTight Go.Proofs.YtlnikilodakjmaaDoor.CTransTight Go.Proofs.YtlnikilodakjmaaDoor.DTransTight Go.Proofs.YtlnikilodakjmaaDoor.Sx Go.Proofs.YtlnikilodakjmaaDoor.Sn Go.Proofs.YtlnikilodakjmaaDoor.XTransTight Go.Proofs.YtlnikilodakjmaaDoor.ETransTight
set_option linter.unusedSimpArgs false
set_option linter.unusedVariables false
def UnFin (op i o : Int) (f : Int → Int) : Prop := ∀ lo hi N r : Nat, Rt lo hi N r → ∃ x0 x1 x2 x3, F23 [op, (lo : Int), (hi : Int), (N : Int), (r : Int)] [] = some ([x0, x1, x2, x3], [true]) ∧
  FH (Tn o) (fun v => ∃ n : Nat, n < 2 ^ 64 ∧ Fit i n ∧ hAN lo hi N r n = true ∧ (v : Int) = f n) x0 x1 x2 x3
def ValU (op o : Int) (f : Int → Int) : Prop := (∀ a, InR a → F24 [op, a] [] = some ([f a], [true])) ∧ ∀ a, InR a → ∃ v : Nat, f a = v ∧ v ≤ Tn o
theorem unc_fin {op i o : Int} {f : Int → Int} (hv : ValU op o f) {lo hi N r a b c d : Nat} (hR : Rt a b c d) (hA : ∀ n, n < 2 ^ 64 → Fit i n → hAN lo hi N r n = true → hAN a b c d n = true) (hbo : ob (a : Int) b c = true) :
    ∃ v, F24 [op, ov (a : Int) b c d] [] = some ([v], [true]) ∧ FH (Tn o) (fun v => ∃ n : Nat, n < 2 ^ 64 ∧ Fit i n ∧ hAN lo hi N r n = true ∧ (v : Int) = f n) v v 64 v := by
  have i1 := ov_in (a := (a : Int)) (b := b) (N := c) hR.inr.1 hR.inr.2.2
  obtain ⟨v, e, hvT⟩ := hv.2 _ i1
  refine ⟨v, by rw [← e]; exact hv.1 _ i1, fh_mono (fin_const v hvT (Tn_lt o).1) ?_⟩
  rintro x ⟨n, hn, fn, h1, e1⟩
  have k1 := one_N hR hn hbo (hA n hn fn h1)
  rw [k1] at e; omega
theorem unt_fin {op i o : Int} {f : Int → Int} (hv : ValU op o f) (lo hi N r : Nat) : FH (Tn o) (fun v => ∃ n : Nat, n < 2 ^ 64 ∧ Fit i n ∧ hAN lo hi N r n = true ∧ (v : Int) = f n) 0 (Tn o : Nat) 0 0 := by
  refine fin_top o ?_
  rintro v ⟨n, hn, _, _, e⟩
  obtain ⟨v', e', h'⟩ := hv.2 n ⟨by omega, by omega⟩
  omega
theorem pop32_le (x : Nat) (h : x < 4294967296) : pop x ≤ 32 := by
  have hb : ∀ a ∈ NTransTight.bytes x, pop8 a ≤ 8 := fun a ha => (p1 a (bytes_lt x a ha)).2.2.2.1
  have z : pop8 0 = 0 := by decide
  simp only [NTransTight.bytes, List.mem_cons, List.not_mem_nil, or_false, forall_eq_or_imp, forall_eq] at hb
  simp only [pop, NTransTight.bytes, List.map_cons, List.map_nil, List.sum_cons, List.sum_nil]
  rw [show x / 4294967296 % 256 = 0 from by omega, show x / 1099511627776 % 256 = 0 from by omega, show x / 281474976710656 % 256 = 0 from by omega, show x / 72057594037927936 % 256 = 0 from by omega, z]
  omega
theorem w64n {n : Nat} (h : n ≤ 64) : IntKind.wrap .u64 (n : Int) = (n : Int) := by rw [wrap_u64]; omega
theorem q49_lo {N r : Nat} (hN : N ≤ 64) (hr : r < 2 ^ 64) : F49 [(N : Int), (r : Int), 32] [] = some ([((cN N 32 : Nat) : Int), ((cR N r 32 : Nat) : Int)], []) := q49 N r 32 hN hr
theorem truth_f {a b c d n : Nat} (hR : Rt a b c d) (hn : n < 2 ^ 64) (hs : sure (a : Int) b c d = true) (hA : hAN a b c d n = true) : (!(yes (a : Int) b c d)) = decide (n = 0) := by
  have h := key (a : Int) b c d n hR.inr.2.1 hR.inr.2.2 ⟨by omega, by omega⟩ (by rw [hs]; rfl)
  rw [hA_hAN hR.2.2.1 hR.r64 hn, hA, Bool.not_true, Bool.false_or, beq_iff_eq] at h
  rw [h, Bool.eq_iff_iff, Bool.not_eq_true', bne_eq_false_iff_eq, decide_eq_true_iff]; omega

set_option maxHeartbeats 4000000 in
theorem q23_69_c (a1 a2 a3 a4 : Int) (lo hi N r : Nat) (hc1 : F32 [(lo : Int), (hi : Int), (N : Int), (r : Int), 127] [] = some ([a1, a2, a3, a4], [])) (v : Int) (hbo : ob a1 a2 a3 = true) (h24 : F24 [69, ov a1 a2 a3 a4] [] = some ([v], [true])) : F23 [69, (lo : Int), (hi : Int), (N : Int), (r : Int)] [] = some ([v, v, 64, v], [true]) := by
  refine Eq.trans (Fd_of (n := 5) (m := 0) (t := XTransTight.t23) (C := Tab.fn a23) rfl rfl) ?_
  rw [XTransTight.t23]
  refine st_4_1 (e23_13) (g := true) rfl (l := [69]) rfl (m := []) rfl (cl_t q14_69) fun i5 i6 i7 i8 b0 hi5 hi6 hi7 hi8 hb0 => ?_
  show T.den _ _ [(69 : Int), (lo : Int), (hi : Int), (N : Int), (r : Int), i5, i6, i7, i8] [b0] = _
  refine st_ite (fun hc => ?_) (fun hc => ?_)
  · replace hc : (i5 == 0) = true := hc
    have c1 := hc
    clear hc
    rw [hi5] at c1; exact absurd c1 (by decide)
  · replace hc : (i5 == 0) = false := hc
    have c2 := hc
    clear hc
    refine st_ite (fun hc => ?_) (fun hc => ?_)
    · replace hc : (i5 == 1) = true := hc
      have c3 := hc
      clear hc
      refine st_ite (fun hc => ?_) (fun hc => ?_)
      · replace hc : (!b0) = true := hc
        have c4 := hc
        clear hc
        rw [hb0] at c4; cases c4
      · replace hc : (!b0) = false := hc
        have c5 := hc
        clear hc
        refine st_4_0 (e23_32) (g := true) rfl (l := [(lo : Int), (hi : Int), (N : Int), (r : Int), i6]) rfl (m := []) rfl (cl_t ((show F32 [(lo : Int), (hi : Int), (N : Int), (r : Int), i6] [] = F32 [(lo : Int), (hi : Int), (N : Int), (r : Int), 127] [] from by rw [hi6]).trans hc1)) fun i9 i10 i11 i12 hi9 hi10 hi11 hi12 => ?_
        show T.den _ _ [(69 : Int), (lo : Int), (hi : Int), (N : Int), (r : Int), i5, i6, i7, i8, i9, i10, i11, i12] [b0] = _
        refine st_1_1 (e23_42) (g := true) rfl (l := [i9, i10, i11, i12]) rfl (m := []) rfl (cl_t (q42 i9 i10 i11 i12)) fun i13 b1 hi13 hb1 => ?_
        show T.den _ _ [(69 : Int), (lo : Int), (hi : Int), (N : Int), (r : Int), i5, i6, i7, i8, i9, i10, i11, i12, i13] [b0, b1] = _
        refine st_ite (fun hc => ?_) (fun hc => ?_)
        · replace hc : b1 = true := hc
          have c6 := hc
          clear hc
          refine st_1_1 (e23_24) (g := true) rfl (l := [69, i13]) rfl (m := []) rfl (cl_t ((show F24 [69, i13] [] = F24 [69, ov a1 a2 a3 a4] [] from by rw [hi13, hi9, hi10, hi11, hi12]).trans h24)) fun i14 b2 hi14 hb2 => ?_
          show T.den _ _ [(69 : Int), (lo : Int), (hi : Int), (N : Int), (r : Int), i5, i6, i7, i8, i9, i10, i11, i12, i13, i14] [b0, b1, b2] = _
          refine st_4_0 (e23_20) (g := true) rfl (l := [i14]) rfl (m := []) rfl (cl_t (q20 i14)) fun i15 i16 i17 i18 hi15 hi16 hi17 hi18 => ?_
          show T.den _ _ [(69 : Int), (lo : Int), (hi : Int), (N : Int), (r : Int), i5, i6, i7, i8, i9, i10, i11, i12, i13, i14, i15, i16, i17, i18] [b0, b1, b2] = _
          refine st_ret ?_
          show some ([i15, i16, i17, i18], [true]) = _
          rw [hi15, hi16, hi17, hi18]
          rw [hi14]
        · replace hc : b1 = false := hc
          have c7 := hc
          clear hc
          rw [hb1, hi9, hi10, hi11, hbo] at c7; cases c7
    · replace hc : (i5 == 1) = false := hc
      have c8 := hc
      clear hc
      rw [hi5] at c8; exact absurd c8 (by decide)

def u69_ : Int → Int := fun a => (bif ((IntKind.wrap .u32 a) == 0) then 1 else 0)

theorem valu_69 : ValU 69 127 u69_ := ⟨fun a _ => q11_69 a, fun a h => finb _⟩

set_option maxHeartbeats 4000000 in
theorem q23_69_s (a1 a2 a3 a4 : Int) (lo hi N r : Nat) (hc1 : F32 [(lo : Int), (hi : Int), (N : Int), (r : Int), 127] [] = some ([a1, a2, a3, a4], [])) (hbo : ob a1 a2 a3 = false) (hs' : sure a1 a2 a3 a4 = true) : F23 [69, (lo : Int), (hi : Int), (N : Int), (r : Int)] [] = some ([bif !(yes a1 a2 a3 a4) then 1 else 0, bif !(yes a1 a2 a3 a4) then 1 else 0, 64, bif !(yes a1 a2 a3 a4) then 1 else 0], [true]) := by
  refine Eq.trans (Fd_of (n := 5) (m := 0) (t := XTransTight.t23) (C := Tab.fn a23) rfl rfl) ?_
  rw [XTransTight.t23]
  refine st_4_1 (e23_13) (g := true) rfl (l := [69]) rfl (m := []) rfl (cl_t q14_69) fun i5 i6 i7 i8 b0 hi5 hi6 hi7 hi8 hb0 => ?_
  show T.den _ _ [(69 : Int), (lo : Int), (hi : Int), (N : Int), (r : Int), i5, i6, i7, i8] [b0] = _
  refine st_ite (fun hc => ?_) (fun hc => ?_)
  · replace hc : (i5 == 0) = true := hc
    have c1 := hc
    clear hc
    rw [hi5] at c1; exact absurd c1 (by decide)
  · replace hc : (i5 == 0) = false := hc
    have c2 := hc
    clear hc
    refine st_ite (fun hc => ?_) (fun hc => ?_)
    · replace hc : (i5 == 1) = true := hc
      have c3 := hc
      clear hc
      refine st_ite (fun hc => ?_) (fun hc => ?_)
      · replace hc : (!b0) = true := hc
        have c4 := hc
        clear hc
        rw [hb0] at c4; cases c4
      · replace hc : (!b0) = false := hc
        have c5 := hc
        clear hc
        refine st_4_0 (e23_32) (g := true) rfl (l := [(lo : Int), (hi : Int), (N : Int), (r : Int), i6]) rfl (m := []) rfl (cl_t ((show F32 [(lo : Int), (hi : Int), (N : Int), (r : Int), i6] [] = F32 [(lo : Int), (hi : Int), (N : Int), (r : Int), 127] [] from by rw [hi6]).trans hc1)) fun i9 i10 i11 i12 hi9 hi10 hi11 hi12 => ?_
        show T.den _ _ [(69 : Int), (lo : Int), (hi : Int), (N : Int), (r : Int), i5, i6, i7, i8, i9, i10, i11, i12] [b0] = _
        refine st_1_1 (e23_42) (g := true) rfl (l := [i9, i10, i11, i12]) rfl (m := []) rfl (cl_t (q42 i9 i10 i11 i12)) fun i13 b1 hi13 hb1 => ?_
        show T.den _ _ [(69 : Int), (lo : Int), (hi : Int), (N : Int), (r : Int), i5, i6, i7, i8, i9, i10, i11, i12, i13] [b0, b1] = _
        refine st_ite (fun hc => ?_) (fun hc => ?_)
        · replace hc : b1 = true := hc
          have c6 := hc
          clear hc
          rw [hb1, hi9, hi10, hi11, hbo] at c6; cases c6
        · replace hc : b1 = false := hc
          have c7 := hc
          clear hc
          refine st_itt (show ((69 : Int) == 69) = true from by kernel_rfl) ?_
          refine st_itt (show ((69 : Int) == 69) = true from by kernel_rfl) ?_
          refine st_0_2 (e23_18) (g := true) rfl (l := [i9, i10, i11, i12]) rfl (m := []) rfl (cl_t (q18 i9 i10 i11 i12)) fun b2 b3 hb2 hb3 => ?_
          show T.den _ _ [(69 : Int), (lo : Int), (hi : Int), (N : Int), (r : Int), i5, i6, i7, i8, i9, i10, i11, i12, i13] [b0, b1, b2, b3] = _
          refine st_ite (fun hc => ?_) (fun hc => ?_)
          · replace hc : b3 = true := hc
            have c8 := hc
            clear hc
            refine st_4_0 (e23_45) (g := true) rfl (l := []) rfl (m := [(!b2)]) rfl (cl_t (q45 (!b2))) fun i14 i15 i16 i17 hi14 hi15 hi16 hi17 => ?_
            show T.den _ _ [(69 : Int), (lo : Int), (hi : Int), (N : Int), (r : Int), i5, i6, i7, i8, i9, i10, i11, i12, i13, i14, i15, i16, i17] [b0, b1, b2, b3] = _
            refine st_ret ?_
            show some ([i14, i15, i16, i17], [true]) = _
            rw [hi14, hi15, hi16, hi17]
            rw [hb2, hi9, hi10, hi11, hi12]
          · replace hc : b3 = false := hc
            have c9 := hc
            clear hc
            rw [hb3, hi9, hi10, hi11, hi12, hs'] at c9; cases c9
    · replace hc : (i5 == 1) = false := hc
      have c10 := hc
      clear hc
      rw [hi5] at c10; exact absurd c10 (by decide)

set_option maxHeartbeats 4000000 in
theorem q23_69_n (a1 a2 a3 a4 : Int) (lo hi N r : Nat) (hc1 : F32 [(lo : Int), (hi : Int), (N : Int), (r : Int), 127] [] = some ([a1, a2, a3, a4], [])) (hbo : ob a1 a2 a3 = false) (hs' : sure a1 a2 a3 a4 = false) : F23 [69, (lo : Int), (hi : Int), (N : Int), (r : Int)] [] = some ([0, 1, 0, 0], [true]) := by
  refine Eq.trans (Fd_of (n := 5) (m := 0) (t := XTransTight.t23) (C := Tab.fn a23) rfl rfl) ?_
  rw [XTransTight.t23]
  refine st_4_1 (e23_13) (g := true) rfl (l := [69]) rfl (m := []) rfl (cl_t q14_69) fun i5 i6 i7 i8 b0 hi5 hi6 hi7 hi8 hb0 => ?_
  show T.den _ _ [(69 : Int), (lo : Int), (hi : Int), (N : Int), (r : Int), i5, i6, i7, i8] [b0] = _
  refine st_ite (fun hc => ?_) (fun hc => ?_)
  · replace hc : (i5 == 0) = true := hc
    have c1 := hc
    clear hc
    rw [hi5] at c1; exact absurd c1 (by decide)
  · replace hc : (i5 == 0) = false := hc
    have c2 := hc
    clear hc
    refine st_ite (fun hc => ?_) (fun hc => ?_)
    · replace hc : (i5 == 1) = true := hc
      have c3 := hc
      clear hc
      refine st_ite (fun hc => ?_) (fun hc => ?_)
      · replace hc : (!b0) = true := hc
        have c4 := hc
        clear hc
        rw [hb0] at c4; cases c4
      · replace hc : (!b0) = false := hc
        have c5 := hc
        clear hc
        refine st_4_0 (e23_32) (g := true) rfl (l := [(lo : Int), (hi : Int), (N : Int), (r : Int), i6]) rfl (m := []) rfl (cl_t ((show F32 [(lo : Int), (hi : Int), (N : Int), (r : Int), i6] [] = F32 [(lo : Int), (hi : Int), (N : Int), (r : Int), 127] [] from by rw [hi6]).trans hc1)) fun i9 i10 i11 i12 hi9 hi10 hi11 hi12 => ?_
        show T.den _ _ [(69 : Int), (lo : Int), (hi : Int), (N : Int), (r : Int), i5, i6, i7, i8, i9, i10, i11, i12] [b0] = _
        refine st_1_1 (e23_42) (g := true) rfl (l := [i9, i10, i11, i12]) rfl (m := []) rfl (cl_t (q42 i9 i10 i11 i12)) fun i13 b1 hi13 hb1 => ?_
        show T.den _ _ [(69 : Int), (lo : Int), (hi : Int), (N : Int), (r : Int), i5, i6, i7, i8, i9, i10, i11, i12, i13] [b0, b1] = _
        refine st_ite (fun hc => ?_) (fun hc => ?_)
        · replace hc : b1 = true := hc
          have c6 := hc
          clear hc
          rw [hb1, hi9, hi10, hi11, hbo] at c6; cases c6
        · replace hc : b1 = false := hc
          have c7 := hc
          clear hc
          refine st_itt (show ((69 : Int) == 69) = true from by kernel_rfl) ?_
          refine st_itt (show ((69 : Int) == 69) = true from by kernel_rfl) ?_
          refine st_0_2 (e23_18) (g := true) rfl (l := [i9, i10, i11, i12]) rfl (m := []) rfl (cl_t (q18 i9 i10 i11 i12)) fun b2 b3 hb2 hb3 => ?_
          show T.den _ _ [(69 : Int), (lo : Int), (hi : Int), (N : Int), (r : Int), i5, i6, i7, i8, i9, i10, i11, i12, i13] [b0, b1, b2, b3] = _
          refine st_ite (fun hc => ?_) (fun hc => ?_)
          · replace hc : b3 = true := hc
            have c8 := hc
            clear hc
            rw [hb3, hi9, hi10, hi11, hi12, hs'] at c8; cases c8
          · replace hc : b3 = false := hc
            have c9 := hc
            clear hc
            refine st_4_0 (e23_46) (g := true) rfl (l := []) rfl (m := []) rfl (cl_t q46) fun i14 i15 i16 i17 hi14 hi15 hi16 hi17 => ?_
            show T.den _ _ [(69 : Int), (lo : Int), (hi : Int), (N : Int), (r : Int), i5, i6, i7, i8, i9, i10, i11, i12, i13, i14, i15, i16, i17] [b0, b1, b2, b3] = _
            refine st_ret ?_
            show some ([i14, i15, i16, i17], [true]) = _
            rw [hi14, hi15, hi16, hi17]
    · replace hc : (i5 == 1) = false := hc
      have c10 := hc
      clear hc
      rw [hi5] at c10; exact absurd c10 (by decide)

theorem un_69 : UnFin 69 127 127 u69_ := by
  intro lo hi N r h
  obtain ⟨a, b, c, d, hR, hc1, hb, hA⟩ := cut_nat 127 h
  cases hbo : ob (a : Int) b c
  · have hf : ∀ v n : Nat, n < 2 ^ 64 → Fit 127 n → (v : Int) = u69_ n → v = if n = 0 then 1 else 0 := fun v n hn fn e => by
      unfold u69_ at e
      rw [show (IntKind.wrap .u32 (n : Int) == 0) = decide (n = 0) from by rw [Bool.eq_iff_iff, beq_iff_eq, decide_eq_true_iff]; rw [wrap_u32]; have := fn rfl; omega] at e
      by_cases h0 : n = 0
      · rw [decide_eq_true h0] at e; rw [if_pos h0]; simp only [cond_true] at e; omega
      · rw [decide_eq_false h0] at e; rw [if_neg h0]; simp only [cond_false] at e; omega
    cases hs' : sure (a : Int) b c d
    · refine ⟨_, _, _, _, q23_69_n _ _ _ _ lo hi N r hc1 hbo hs', fh_mono (fin_0 (T := Tn 127) 1 (by decide) (by decide) (by decide)) ?_⟩
      rintro v ⟨n, hn, fn, h1, e⟩
      have := hf v n hn fn e
      show v ≤ 1
      split at this <;> omega
    · have hq := q23_69_s _ _ _ _ lo hi N r hc1 hbo hs'
      have ht := fun n hn hA' => truth_f hR (n := n) hn hs' hA'
      cases hy : (!(yes (a : Int) b c d))
      · rw [hy] at hq
        refine ⟨_, _, _, _, hq, fh_mono (fin_const (T := Tn 127) 0 (by decide) (by decide)) ?_⟩
        rintro v ⟨n, hn, fn, h1, e⟩
        have h3 := ht n hn (hA n hn fn h1)
        rw [hy] at h3
        have h4 := of_decide_eq_false h3.symm
        have := hf v n hn fn e
        rw [if_neg h4] at this; exact this
      · rw [hy] at hq
        refine ⟨_, _, _, _, hq, fh_mono (fin_const (T := Tn 127) 1 (by decide) (by decide)) ?_⟩
        rintro v ⟨n, hn, fn, h1, e⟩
        have h3 := ht n hn (hA n hn fn h1)
        rw [hy] at h3
        have h4 := of_decide_eq_true h3.symm
        have := hf v n hn fn e
        rw [if_pos h4] at this; exact this
  · obtain ⟨v, h24, hf⟩ := unc_fin (op := 69) (i := 127) valu_69 hR hA hbo
    exact ⟨_, _, _, _, q23_69_c _ _ _ _ lo hi N r hc1 _ hbo h24, hf⟩

set_option maxHeartbeats 4000000 in
theorem q23_103_c (a1 a2 a3 a4 : Int) (lo hi N r : Nat) (hc1 : F32 [(lo : Int), (hi : Int), (N : Int), (r : Int), 127] [] = some ([a1, a2, a3, a4], [])) (v : Int) (hbo : ob a1 a2 a3 = true) (h24 : F24 [103, ov a1 a2 a3 a4] [] = some ([v], [true])) : F23 [103, (lo : Int), (hi : Int), (N : Int), (r : Int)] [] = some ([v, v, 64, v], [true]) := by
  refine Eq.trans (Fd_of (n := 5) (m := 0) (t := XTransTight.t23) (C := Tab.fn a23) rfl rfl) ?_
  rw [XTransTight.t23]
  refine st_4_1 (e23_13) (g := true) rfl (l := [103]) rfl (m := []) rfl (cl_t q14_103) fun i5 i6 i7 i8 b0 hi5 hi6 hi7 hi8 hb0 => ?_
  show T.den _ _ [(103 : Int), (lo : Int), (hi : Int), (N : Int), (r : Int), i5, i6, i7, i8] [b0] = _
  refine st_ite (fun hc => ?_) (fun hc => ?_)
  · replace hc : (i5 == 0) = true := hc
    have c1 := hc
    clear hc
    rw [hi5] at c1; exact absurd c1 (by decide)
  · replace hc : (i5 == 0) = false := hc
    have c2 := hc
    clear hc
    refine st_ite (fun hc => ?_) (fun hc => ?_)
    · replace hc : (i5 == 1) = true := hc
      have c3 := hc
      clear hc
      refine st_ite (fun hc => ?_) (fun hc => ?_)
      · replace hc : (!b0) = true := hc
        have c4 := hc
        clear hc
        rw [hb0] at c4; cases c4
      · replace hc : (!b0) = false := hc
        have c5 := hc
        clear hc
        refine st_4_0 (e23_32) (g := true) rfl (l := [(lo : Int), (hi : Int), (N : Int), (r : Int), i6]) rfl (m := []) rfl (cl_t ((show F32 [(lo : Int), (hi : Int), (N : Int), (r : Int), i6] [] = F32 [(lo : Int), (hi : Int), (N : Int), (r : Int), 127] [] from by rw [hi6]).trans hc1)) fun i9 i10 i11 i12 hi9 hi10 hi11 hi12 => ?_
        show T.den _ _ [(103 : Int), (lo : Int), (hi : Int), (N : Int), (r : Int), i5, i6, i7, i8, i9, i10, i11, i12] [b0] = _
        refine st_1_1 (e23_42) (g := true) rfl (l := [i9, i10, i11, i12]) rfl (m := []) rfl (cl_t (q42 i9 i10 i11 i12)) fun i13 b1 hi13 hb1 => ?_
        show T.den _ _ [(103 : Int), (lo : Int), (hi : Int), (N : Int), (r : Int), i5, i6, i7, i8, i9, i10, i11, i12, i13] [b0, b1] = _
        refine st_ite (fun hc => ?_) (fun hc => ?_)
        · replace hc : b1 = true := hc
          have c6 := hc
          clear hc
          refine st_1_1 (e23_24) (g := true) rfl (l := [103, i13]) rfl (m := []) rfl (cl_t ((show F24 [103, i13] [] = F24 [103, ov a1 a2 a3 a4] [] from by rw [hi13, hi9, hi10, hi11, hi12]).trans h24)) fun i14 b2 hi14 hb2 => ?_
          show T.den _ _ [(103 : Int), (lo : Int), (hi : Int), (N : Int), (r : Int), i5, i6, i7, i8, i9, i10, i11, i12, i13, i14] [b0, b1, b2] = _
          refine st_4_0 (e23_20) (g := true) rfl (l := [i14]) rfl (m := []) rfl (cl_t (q20 i14)) fun i15 i16 i17 i18 hi15 hi16 hi17 hi18 => ?_
          show T.den _ _ [(103 : Int), (lo : Int), (hi : Int), (N : Int), (r : Int), i5, i6, i7, i8, i9, i10, i11, i12, i13, i14, i15, i16, i17, i18] [b0, b1, b2] = _
          refine st_ret ?_
          show some ([i15, i16, i17, i18], [true]) = _
          rw [hi15, hi16, hi17, hi18]
          rw [hi14]
        · replace hc : b1 = false := hc
          have c7 := hc
          clear hc
          rw [hb1, hi9, hi10, hi11, hbo] at c7; cases c7
    · replace hc : (i5 == 1) = false := hc
      have c8 := hc
      clear hc
      rw [hi5] at c8; exact absurd c8 (by decide)

def u103_ : Int → Int := fun a => IntKind.wrap .u64 (((32 - Lib.bitLen (IntKind.wrap .u32 a).toNat) : Nat) : Int)

theorem le_103 (a : Int) (h : InR a) : ∃ A : Nat, IntKind.wrap .u32 a = A ∧ A < 4294967296 ∧ ∃ v : Nat, u103_ a = v ∧ v ≤ 32 := by
  obtain ⟨A, h1, h2, h3⟩ := nat32 a
  have hl := (by omega : 32 - Lib.bitLen A ≤ 32)
  refine ⟨A, h1, h2, _, ?_, hl⟩
  unfold u103_
  rw [h3]; exact w64n (by omega)

theorem valu_103 : ValU 103 127 u103_ := by
  refine ⟨fun a h => ?_, fun a h => ?_⟩
  · obtain ⟨A, h1, h2, h3⟩ := nat32 a
    have := q11_103 a A h1 h2
    unfold u103_; rw [this]; simp only [h3]
  · obtain ⟨_, _, _, v, e, hl⟩ := le_103 a h
    exact ⟨v, e, Nat.le_trans hl (by decide)⟩

set_option maxHeartbeats 4000000 in
theorem q23_103_n (a1 a2 a3 a4 : Int) (lo hi N r : Nat) (hc1 : F32 [(lo : Int), (hi : Int), (N : Int), (r : Int), 127] [] = some ([a1, a2, a3, a4], [])) (hbo : ob a1 a2 a3 = false) : F23 [103, (lo : Int), (hi : Int), (N : Int), (r : Int)] [] = some ([0, 32, 0, 0], [true]) := by
  refine Eq.trans (Fd_of (n := 5) (m := 0) (t := XTransTight.t23) (C := Tab.fn a23) rfl rfl) ?_
  rw [XTransTight.t23]
  refine st_4_1 (e23_13) (g := true) rfl (l := [103]) rfl (m := []) rfl (cl_t q14_103) fun i5 i6 i7 i8 b0 hi5 hi6 hi7 hi8 hb0 => ?_
  show T.den _ _ [(103 : Int), (lo : Int), (hi : Int), (N : Int), (r : Int), i5, i6, i7, i8] [b0] = _
  refine st_ite (fun hc => ?_) (fun hc => ?_)
  · replace hc : (i5 == 0) = true := hc
    have c1 := hc
    clear hc
    rw [hi5] at c1; exact absurd c1 (by decide)
  · replace hc : (i5 == 0) = false := hc
    have c2 := hc
    clear hc
    refine st_ite (fun hc => ?_) (fun hc => ?_)
    · replace hc : (i5 == 1) = true := hc
      have c3 := hc
      clear hc
      refine st_ite (fun hc => ?_) (fun hc => ?_)
      · replace hc : (!b0) = true := hc
        have c4 := hc
        clear hc
        rw [hb0] at c4; cases c4
      · replace hc : (!b0) = false := hc
        have c5 := hc
        clear hc
        refine st_4_0 (e23_32) (g := true) rfl (l := [(lo : Int), (hi : Int), (N : Int), (r : Int), i6]) rfl (m := []) rfl (cl_t ((show F32 [(lo : Int), (hi : Int), (N : Int), (r : Int), i6] [] = F32 [(lo : Int), (hi : Int), (N : Int), (r : Int), 127] [] from by rw [hi6]).trans hc1)) fun i9 i10 i11 i12 hi9 hi10 hi11 hi12 => ?_
        show T.den _ _ [(103 : Int), (lo : Int), (hi : Int), (N : Int), (r : Int), i5, i6, i7, i8, i9, i10, i11, i12] [b0] = _
        refine st_1_1 (e23_42) (g := true) rfl (l := [i9, i10, i11, i12]) rfl (m := []) rfl (cl_t (q42 i9 i10 i11 i12)) fun i13 b1 hi13 hb1 => ?_
        show T.den _ _ [(103 : Int), (lo : Int), (hi : Int), (N : Int), (r : Int), i5, i6, i7, i8, i9, i10, i11, i12, i13] [b0, b1] = _
        refine st_ite (fun hc => ?_) (fun hc => ?_)
        · replace hc : b1 = true := hc
          have c6 := hc
          clear hc
          rw [hb1, hi9, hi10, hi11, hbo] at c6; cases c6
        · replace hc : b1 = false := hc
          have c7 := hc
          clear hc
          refine st_itf (show ((103 : Int) == 69) = false from by kernel_rfl) ?_
          refine st_itf (show ((103 : Int) == 80) = false from by kernel_rfl) ?_
          refine st_itt (show ((103 : Int) == 103) = true from by kernel_rfl) ?_
          refine st_itt (show ((103 : Int) == 103) = true from by kernel_rfl) ?_
          refine st_ret ?_
          show some ([0, 32, 0, 0], [true]) = _
          rfl
    · replace hc : (i5 == 1) = false := hc
      have c8 := hc
      clear hc
      rw [hi5] at c8; exact absurd c8 (by decide)

theorem un_103 : UnFin 103 127 127 u103_ := by
  intro lo hi N r h
  obtain ⟨a, b, c, d, hR, hc1, hb, hA⟩ := cut_nat 127 h
  cases hbo : ob (a : Int) b c
  · refine ⟨_, _, _, _, q23_103_n _ _ _ _ lo hi N r hc1 hbo, fh_mono (fin_0 (T := Tn 127) 32 (by decide) (by decide) (by decide)) ?_⟩
    rintro v ⟨n, hn, fn, h1, e⟩
    obtain ⟨_, _, _, v', e', hl⟩ := le_103 n ⟨by omega, by omega⟩
    show v ≤ 32
    omega
  · obtain ⟨v, h24, hf⟩ := unc_fin (op := 103) (i := 127) valu_103 hR hA hbo
    exact ⟨_, _, _, _, q23_103_c _ _ _ _ lo hi N r hc1 _ hbo h24, hf⟩

set_option maxHeartbeats 4000000 in
theorem q23_104_c (a1 a2 a3 a4 : Int) (lo hi N r : Nat) (hc1 : F32 [(lo : Int), (hi : Int), (N : Int), (r : Int), 127] [] = some ([a1, a2, a3, a4], [])) (v : Int) (hbo : ob a1 a2 a3 = true) (h24 : F24 [104, ov a1 a2 a3 a4] [] = some ([v], [true])) : F23 [104, (lo : Int), (hi : Int), (N : Int), (r : Int)] [] = some ([v, v, 64, v], [true]) := by
  refine Eq.trans (Fd_of (n := 5) (m := 0) (t := XTransTight.t23) (C := Tab.fn a23) rfl rfl) ?_
  rw [XTransTight.t23]
  refine st_4_1 (e23_13) (g := true) rfl (l := [104]) rfl (m := []) rfl (cl_t q14_104) fun i5 i6 i7 i8 b0 hi5 hi6 hi7 hi8 hb0 => ?_
  show T.den _ _ [(104 : Int), (lo : Int), (hi : Int), (N : Int), (r : Int), i5, i6, i7, i8] [b0] = _
  refine st_ite (fun hc => ?_) (fun hc => ?_)
  · replace hc : (i5 == 0) = true := hc
    have c1 := hc
    clear hc
    rw [hi5] at c1; exact absurd c1 (by decide)
  · replace hc : (i5 == 0) = false := hc
    have c2 := hc
    clear hc
    refine st_ite (fun hc => ?_) (fun hc => ?_)
    · replace hc : (i5 == 1) = true := hc
      have c3 := hc
      clear hc
      refine st_ite (fun hc => ?_) (fun hc => ?_)
      · replace hc : (!b0) = true := hc
        have c4 := hc
        clear hc
        rw [hb0] at c4; cases c4
      · replace hc : (!b0) = false := hc
        have c5 := hc
        clear hc
        refine st_4_0 (e23_32) (g := true) rfl (l := [(lo : Int), (hi : Int), (N : Int), (r : Int), i6]) rfl (m := []) rfl (cl_t ((show F32 [(lo : Int), (hi : Int), (N : Int), (r : Int), i6] [] = F32 [(lo : Int), (hi : Int), (N : Int), (r : Int), 127] [] from by rw [hi6]).trans hc1)) fun i9 i10 i11 i12 hi9 hi10 hi11 hi12 => ?_
        show T.den _ _ [(104 : Int), (lo : Int), (hi : Int), (N : Int), (r : Int), i5, i6, i7, i8, i9, i10, i11, i12] [b0] = _
        refine st_1_1 (e23_42) (g := true) rfl (l := [i9, i10, i11, i12]) rfl (m := []) rfl (cl_t (q42 i9 i10 i11 i12)) fun i13 b1 hi13 hb1 => ?_
        show T.den _ _ [(104 : Int), (lo : Int), (hi : Int), (N : Int), (r : Int), i5, i6, i7, i8, i9, i10, i11, i12, i13] [b0, b1] = _
        refine st_ite (fun hc => ?_) (fun hc => ?_)
        · replace hc : b1 = true := hc
          have c6 := hc
          clear hc
          refine st_1_1 (e23_24) (g := true) rfl (l := [104, i13]) rfl (m := []) rfl (cl_t ((show F24 [104, i13] [] = F24 [104, ov a1 a2 a3 a4] [] from by rw [hi13, hi9, hi10, hi11, hi12]).trans h24)) fun i14 b2 hi14 hb2 => ?_
          show T.den _ _ [(104 : Int), (lo : Int), (hi : Int), (N : Int), (r : Int), i5, i6, i7, i8, i9, i10, i11, i12, i13, i14] [b0, b1, b2] = _
          refine st_4_0 (e23_20) (g := true) rfl (l := [i14]) rfl (m := []) rfl (cl_t (q20 i14)) fun i15 i16 i17 i18 hi15 hi16 hi17 hi18 => ?_
          show T.den _ _ [(104 : Int), (lo : Int), (hi : Int), (N : Int), (r : Int), i5, i6, i7, i8, i9, i10, i11, i12, i13, i14, i15, i16, i17, i18] [b0, b1, b2] = _
          refine st_ret ?_
          show some ([i15, i16, i17, i18], [true]) = _
          rw [hi15, hi16, hi17, hi18]
          rw [hi14]
        · replace hc : b1 = false := hc
          have c7 := hc
          clear hc
          rw [hb1, hi9, hi10, hi11, hbo] at c7; cases c7
    · replace hc : (i5 == 1) = false := hc
      have c8 := hc
      clear hc
      rw [hi5] at c8; exact absurd c8 (by decide)

def u104_ : Int → Int := fun a => IntKind.wrap .u64 (((Lib.ctz 32 (IntKind.wrap .u32 a).toNat) : Nat) : Int)

theorem le_104 (a : Int) (h : InR a) : ∃ A : Nat, IntKind.wrap .u32 a = A ∧ A < 4294967296 ∧ ∃ v : Nat, u104_ a = v ∧ v ≤ 32 := by
  obtain ⟨A, h1, h2, h3⟩ := nat32 a
  have hl := ctz_le 32 A h2
  refine ⟨A, h1, h2, _, ?_, hl⟩
  unfold u104_
  rw [h3]; exact w64n (by omega)

theorem valu_104 : ValU 104 127 u104_ := by
  refine ⟨fun a h => ?_, fun a h => ?_⟩
  · obtain ⟨A, h1, h2, h3⟩ := nat32 a
    have := q11_104 a A h1 h2
    unfold u104_; rw [this]; simp only [h3]
  · obtain ⟨_, _, _, v, e, hl⟩ := le_104 a h
    exact ⟨v, e, Nat.le_trans hl (by decide)⟩

set_option maxHeartbeats 4000000 in
theorem q23_104_n (a1 a2 a3 a4 : Int) (lo hi N r : Nat) (hc1 : F32 [(lo : Int), (hi : Int), (N : Int), (r : Int), 127] [] = some ([a1, a2, a3, a4], [])) (hbo : ob a1 a2 a3 = false) : F23 [104, (lo : Int), (hi : Int), (N : Int), (r : Int)] [] = some ([0, 32, 0, 0], [true]) := by
  refine Eq.trans (Fd_of (n := 5) (m := 0) (t := XTransTight.t23) (C := Tab.fn a23) rfl rfl) ?_
  rw [XTransTight.t23]
  refine st_4_1 (e23_13) (g := true) rfl (l := [104]) rfl (m := []) rfl (cl_t q14_104) fun i5 i6 i7 i8 b0 hi5 hi6 hi7 hi8 hb0 => ?_
  show T.den _ _ [(104 : Int), (lo : Int), (hi : Int), (N : Int), (r : Int), i5, i6, i7, i8] [b0] = _
  refine st_ite (fun hc => ?_) (fun hc => ?_)
  · replace hc : (i5 == 0) = true := hc
    have c1 := hc
    clear hc
    rw [hi5] at c1; exact absurd c1 (by decide)
  · replace hc : (i5 == 0) = false := hc
    have c2 := hc
    clear hc
    refine st_ite (fun hc => ?_) (fun hc => ?_)
    · replace hc : (i5 == 1) = true := hc
      have c3 := hc
      clear hc
      refine st_ite (fun hc => ?_) (fun hc => ?_)
      · replace hc : (!b0) = true := hc
        have c4 := hc
        clear hc
        rw [hb0] at c4; cases c4
      · replace hc : (!b0) = false := hc
        have c5 := hc
        clear hc
        refine st_4_0 (e23_32) (g := true) rfl (l := [(lo : Int), (hi : Int), (N : Int), (r : Int), i6]) rfl (m := []) rfl (cl_t ((show F32 [(lo : Int), (hi : Int), (N : Int), (r : Int), i6] [] = F32 [(lo : Int), (hi : Int), (N : Int), (r : Int), 127] [] from by rw [hi6]).trans hc1)) fun i9 i10 i11 i12 hi9 hi10 hi11 hi12 => ?_
        show T.den _ _ [(104 : Int), (lo : Int), (hi : Int), (N : Int), (r : Int), i5, i6, i7, i8, i9, i10, i11, i12] [b0] = _
        refine st_1_1 (e23_42) (g := true) rfl (l := [i9, i10, i11, i12]) rfl (m := []) rfl (cl_t (q42 i9 i10 i11 i12)) fun i13 b1 hi13 hb1 => ?_
        show T.den _ _ [(104 : Int), (lo : Int), (hi : Int), (N : Int), (r : Int), i5, i6, i7, i8, i9, i10, i11, i12, i13] [b0, b1] = _
        refine st_ite (fun hc => ?_) (fun hc => ?_)
        · replace hc : b1 = true := hc
          have c6 := hc
          clear hc
          rw [hb1, hi9, hi10, hi11, hbo] at c6; cases c6
        · replace hc : b1 = false := hc
          have c7 := hc
          clear hc
          refine st_itf (show ((104 : Int) == 69) = false from by kernel_rfl) ?_
          refine st_itf (show ((104 : Int) == 80) = false from by kernel_rfl) ?_
          refine st_itf (show ((104 : Int) == 103) = false from by kernel_rfl) ?_
          refine st_itt (show ((104 : Int) == 104) = true from by kernel_rfl) ?_
          refine st_itt (show ((104 : Int) == 104) = true from by kernel_rfl) ?_
          refine st_ret ?_
          show some ([0, 32, 0, 0], [true]) = _
          rfl
    · replace hc : (i5 == 1) = false := hc
      have c8 := hc
      clear hc
      rw [hi5] at c8; exact absurd c8 (by decide)

theorem un_104 : UnFin 104 127 127 u104_ := by
  intro lo hi N r h
  obtain ⟨a, b, c, d, hR, hc1, hb, hA⟩ := cut_nat 127 h
  cases hbo : ob (a : Int) b c
  · refine ⟨_, _, _, _, q23_104_n _ _ _ _ lo hi N r hc1 hbo, fh_mono (fin_0 (T := Tn 127) 32 (by decide) (by decide) (by decide)) ?_⟩
    rintro v ⟨n, hn, fn, h1, e⟩
    obtain ⟨_, _, _, v', e', hl⟩ := le_104 n ⟨by omega, by omega⟩
    show v ≤ 32
    omega
  · obtain ⟨v, h24, hf⟩ := unc_fin (op := 104) (i := 127) valu_104 hR hA hbo
    exact ⟨_, _, _, _, q23_104_c _ _ _ _ lo hi N r hc1 _ hbo h24, hf⟩

set_option maxHeartbeats 4000000 in
theorem q23_105_c (a1 a2 a3 a4 : Int) (lo hi N r : Nat) (hc1 : F32 [(lo : Int), (hi : Int), (N : Int), (r : Int), 127] [] = some ([a1, a2, a3, a4], [])) (v : Int) (hbo : ob a1 a2 a3 = true) (h24 : F24 [105, ov a1 a2 a3 a4] [] = some ([v], [true])) : F23 [105, (lo : Int), (hi : Int), (N : Int), (r : Int)] [] = some ([v, v, 64, v], [true]) := by
  refine Eq.trans (Fd_of (n := 5) (m := 0) (t := XTransTight.t23) (C := Tab.fn a23) rfl rfl) ?_
  rw [XTransTight.t23]
  refine st_4_1 (e23_13) (g := true) rfl (l := [105]) rfl (m := []) rfl (cl_t q14_105) fun i5 i6 i7 i8 b0 hi5 hi6 hi7 hi8 hb0 => ?_
  show T.den _ _ [(105 : Int), (lo : Int), (hi : Int), (N : Int), (r : Int), i5, i6, i7, i8] [b0] = _
  refine st_ite (fun hc => ?_) (fun hc => ?_)
  · replace hc : (i5 == 0) = true := hc
    have c1 := hc
    clear hc
    rw [hi5] at c1; exact absurd c1 (by decide)
  · replace hc : (i5 == 0) = false := hc
    have c2 := hc
    clear hc
    refine st_ite (fun hc => ?_) (fun hc => ?_)
    · replace hc : (i5 == 1) = true := hc
      have c3 := hc
      clear hc
      refine st_ite (fun hc => ?_) (fun hc => ?_)
      · replace hc : (!b0) = true := hc
        have c4 := hc
        clear hc
        rw [hb0] at c4; cases c4
      · replace hc : (!b0) = false := hc
        have c5 := hc
        clear hc
        refine st_4_0 (e23_32) (g := true) rfl (l := [(lo : Int), (hi : Int), (N : Int), (r : Int), i6]) rfl (m := []) rfl (cl_t ((show F32 [(lo : Int), (hi : Int), (N : Int), (r : Int), i6] [] = F32 [(lo : Int), (hi : Int), (N : Int), (r : Int), 127] [] from by rw [hi6]).trans hc1)) fun i9 i10 i11 i12 hi9 hi10 hi11 hi12 => ?_
        show T.den _ _ [(105 : Int), (lo : Int), (hi : Int), (N : Int), (r : Int), i5, i6, i7, i8, i9, i10, i11, i12] [b0] = _
        refine st_1_1 (e23_42) (g := true) rfl (l := [i9, i10, i11, i12]) rfl (m := []) rfl (cl_t (q42 i9 i10 i11 i12)) fun i13 b1 hi13 hb1 => ?_
        show T.den _ _ [(105 : Int), (lo : Int), (hi : Int), (N : Int), (r : Int), i5, i6, i7, i8, i9, i10, i11, i12, i13] [b0, b1] = _
        refine st_ite (fun hc => ?_) (fun hc => ?_)
        · replace hc : b1 = true := hc
          have c6 := hc
          clear hc
          refine st_1_1 (e23_24) (g := true) rfl (l := [105, i13]) rfl (m := []) rfl (cl_t ((show F24 [105, i13] [] = F24 [105, ov a1 a2 a3 a4] [] from by rw [hi13, hi9, hi10, hi11, hi12]).trans h24)) fun i14 b2 hi14 hb2 => ?_
          show T.den _ _ [(105 : Int), (lo : Int), (hi : Int), (N : Int), (r : Int), i5, i6, i7, i8, i9, i10, i11, i12, i13, i14] [b0, b1, b2] = _
          refine st_4_0 (e23_20) (g := true) rfl (l := [i14]) rfl (m := []) rfl (cl_t (q20 i14)) fun i15 i16 i17 i18 hi15 hi16 hi17 hi18 => ?_
          show T.den _ _ [(105 : Int), (lo : Int), (hi : Int), (N : Int), (r : Int), i5, i6, i7, i8, i9, i10, i11, i12, i13, i14, i15, i16, i17, i18] [b0, b1, b2] = _
          refine st_ret ?_
          show some ([i15, i16, i17, i18], [true]) = _
          rw [hi15, hi16, hi17, hi18]
          rw [hi14]
        · replace hc : b1 = false := hc
          have c7 := hc
          clear hc
          rw [hb1, hi9, hi10, hi11, hbo] at c7; cases c7
    · replace hc : (i5 == 1) = false := hc
      have c8 := hc
      clear hc
      rw [hi5] at c8; exact absurd c8 (by decide)

def u105_ : Int → Int := fun a => IntKind.wrap .u64 (((pop (IntKind.wrap .u32 a).toNat) : Nat) : Int)

theorem le_105 (a : Int) (h : InR a) : ∃ A : Nat, IntKind.wrap .u32 a = A ∧ A < 4294967296 ∧ ∃ v : Nat, u105_ a = v ∧ v ≤ 32 := by
  obtain ⟨A, h1, h2, h3⟩ := nat32 a
  have hl := pop32_le A h2
  refine ⟨A, h1, h2, _, ?_, hl⟩
  unfold u105_
  rw [h3]; exact w64n (by omega)

theorem valu_105 : ValU 105 127 u105_ := by
  refine ⟨fun a h => ?_, fun a h => ?_⟩
  · obtain ⟨A, h1, h2, h3⟩ := nat32 a
    have := q11_105 a A h1 h2
    unfold u105_; rw [this]; simp only [h3]
  · obtain ⟨_, _, _, v, e, hl⟩ := le_105 a h
    exact ⟨v, e, Nat.le_trans hl (by decide)⟩

set_option maxHeartbeats 4000000 in
theorem q23_105_n (a1 a2 a3 a4 : Int) (lo hi N r : Nat) (hc1 : F32 [(lo : Int), (hi : Int), (N : Int), (r : Int), 127] [] = some ([a1, a2, a3, a4], [])) (hbo : ob a1 a2 a3 = false) : F23 [105, (lo : Int), (hi : Int), (N : Int), (r : Int)] [] = some ([0, 32, 0, 0], [true]) := by
  refine Eq.trans (Fd_of (n := 5) (m := 0) (t := XTransTight.t23) (C := Tab.fn a23) rfl rfl) ?_
  rw [XTransTight.t23]
  refine st_4_1 (e23_13) (g := true) rfl (l := [105]) rfl (m := []) rfl (cl_t q14_105) fun i5 i6 i7 i8 b0 hi5 hi6 hi7 hi8 hb0 => ?_
  show T.den _ _ [(105 : Int), (lo : Int), (hi : Int), (N : Int), (r : Int), i5, i6, i7, i8] [b0] = _
  refine st_ite (fun hc => ?_) (fun hc => ?_)
  · replace hc : (i5 == 0) = true := hc
    have c1 := hc
    clear hc
    rw [hi5] at c1; exact absurd c1 (by decide)
  · replace hc : (i5 == 0) = false := hc
    have c2 := hc
    clear hc
    refine st_ite (fun hc => ?_) (fun hc => ?_)
    · replace hc : (i5 == 1) = true := hc
      have c3 := hc
      clear hc
      refine st_ite (fun hc => ?_) (fun hc => ?_)
      · replace hc : (!b0) = true := hc
        have c4 := hc
        clear hc
        rw [hb0] at c4; cases c4
      · replace hc : (!b0) = false := hc
        have c5 := hc
        clear hc
        refine st_4_0 (e23_32) (g := true) rfl (l := [(lo : Int), (hi : Int), (N : Int), (r : Int), i6]) rfl (m := []) rfl (cl_t ((show F32 [(lo : Int), (hi : Int), (N : Int), (r : Int), i6] [] = F32 [(lo : Int), (hi : Int), (N : Int), (r : Int), 127] [] from by rw [hi6]).trans hc1)) fun i9 i10 i11 i12 hi9 hi10 hi11 hi12 => ?_
        show T.den _ _ [(105 : Int), (lo : Int), (hi : Int), (N : Int), (r : Int), i5, i6, i7, i8, i9, i10, i11, i12] [b0] = _
        refine st_1_1 (e23_42) (g := true) rfl (l := [i9, i10, i11, i12]) rfl (m := []) rfl (cl_t (q42 i9 i10 i11 i12)) fun i13 b1 hi13 hb1 => ?_
        show T.den _ _ [(105 : Int), (lo : Int), (hi : Int), (N : Int), (r : Int), i5, i6, i7, i8, i9, i10, i11, i12, i13] [b0, b1] = _
        refine st_ite (fun hc => ?_) (fun hc => ?_)
        · replace hc : b1 = true := hc
          have c6 := hc
          clear hc
          rw [hb1, hi9, hi10, hi11, hbo] at c6; cases c6
        · replace hc : b1 = false := hc
          have c7 := hc
          clear hc
          refine st_itf (show ((105 : Int) == 69) = false from by kernel_rfl) ?_
          refine st_itf (show ((105 : Int) == 80) = false from by kernel_rfl) ?_
          refine st_itf (show ((105 : Int) == 103) = false from by kernel_rfl) ?_
          refine st_itf (show ((105 : Int) == 104) = false from by kernel_rfl) ?_
          refine st_itt (show ((105 : Int) == 105) = true from by kernel_rfl) ?_
          refine st_ret ?_
          show some ([0, 32, 0, 0], [true]) = _
          rfl
    · replace hc : (i5 == 1) = false := hc
      have c8 := hc
      clear hc
      rw [hi5] at c8; exact absurd c8 (by decide)

theorem un_105 : UnFin 105 127 127 u105_ := by
  intro lo hi N r h
  obtain ⟨a, b, c, d, hR, hc1, hb, hA⟩ := cut_nat 127 h
  cases hbo : ob (a : Int) b c
  · refine ⟨_, _, _, _, q23_105_n _ _ _ _ lo hi N r hc1 hbo, fh_mono (fin_0 (T := Tn 127) 32 (by decide) (by decide) (by decide)) ?_⟩
    rintro v ⟨n, hn, fn, h1, e⟩
    obtain ⟨_, _, _, v', e', hl⟩ := le_105 n ⟨by omega, by omega⟩
    show v ≤ 32
    omega
  · obtain ⟨v, h24, hf⟩ := unc_fin (op := 105) (i := 127) valu_105 hR hA hbo
    exact ⟨_, _, _, _, q23_105_c _ _ _ _ lo hi N r hc1 _ hbo h24, hf⟩

set_option maxHeartbeats 4000000 in
theorem q23_192_c (a1 a2 a3 a4 : Int) (lo hi N r : Nat) (hc1 : F32 [(lo : Int), (hi : Int), (N : Int), (r : Int), 127] [] = some ([a1, a2, a3, a4], [])) (v : Int) (hbo : ob a1 a2 a3 = true) (h24 : F24 [192, ov a1 a2 a3 a4] [] = some ([v], [true])) : F23 [192, (lo : Int), (hi : Int), (N : Int), (r : Int)] [] = some ([v, v, 64, v], [true]) := by
  refine Eq.trans (Fd_of (n := 5) (m := 0) (t := XTransTight.t23) (C := Tab.fn a23) rfl rfl) ?_
  rw [XTransTight.t23]
  refine st_4_1 (e23_13) (g := true) rfl (l := [192]) rfl (m := []) rfl (cl_t q14_192) fun i5 i6 i7 i8 b0 hi5 hi6 hi7 hi8 hb0 => ?_
  show T.den _ _ [(192 : Int), (lo : Int), (hi : Int), (N : Int), (r : Int), i5, i6, i7, i8] [b0] = _
  refine st_ite (fun hc => ?_) (fun hc => ?_)
  · replace hc : (i5 == 0) = true := hc
    have c1 := hc
    clear hc
    rw [hi5] at c1; exact absurd c1 (by decide)
  · replace hc : (i5 == 0) = false := hc
    have c2 := hc
    clear hc
    refine st_ite (fun hc => ?_) (fun hc => ?_)
    · replace hc : (i5 == 1) = true := hc
      have c3 := hc
      clear hc
      refine st_ite (fun hc => ?_) (fun hc => ?_)
      · replace hc : (!b0) = true := hc
        have c4 := hc
        clear hc
        rw [hb0] at c4; cases c4
      · replace hc : (!b0) = false := hc
        have c5 := hc
        clear hc
        refine st_4_0 (e23_32) (g := true) rfl (l := [(lo : Int), (hi : Int), (N : Int), (r : Int), i6]) rfl (m := []) rfl (cl_t ((show F32 [(lo : Int), (hi : Int), (N : Int), (r : Int), i6] [] = F32 [(lo : Int), (hi : Int), (N : Int), (r : Int), 127] [] from by rw [hi6]).trans hc1)) fun i9 i10 i11 i12 hi9 hi10 hi11 hi12 => ?_
        show T.den _ _ [(192 : Int), (lo : Int), (hi : Int), (N : Int), (r : Int), i5, i6, i7, i8, i9, i10, i11, i12] [b0] = _
        refine st_1_1 (e23_42) (g := true) rfl (l := [i9, i10, i11, i12]) rfl (m := []) rfl (cl_t (q42 i9 i10 i11 i12)) fun i13 b1 hi13 hb1 => ?_
        show T.den _ _ [(192 : Int), (lo : Int), (hi : Int), (N : Int), (r : Int), i5, i6, i7, i8, i9, i10, i11, i12, i13] [b0, b1] = _
        refine st_ite (fun hc => ?_) (fun hc => ?_)
        · replace hc : b1 = true := hc
          have c6 := hc
          clear hc
          refine st_1_1 (e23_24) (g := true) rfl (l := [192, i13]) rfl (m := []) rfl (cl_t ((show F24 [192, i13] [] = F24 [192, ov a1 a2 a3 a4] [] from by rw [hi13, hi9, hi10, hi11, hi12]).trans h24)) fun i14 b2 hi14 hb2 => ?_
          show T.den _ _ [(192 : Int), (lo : Int), (hi : Int), (N : Int), (r : Int), i5, i6, i7, i8, i9, i10, i11, i12, i13, i14] [b0, b1, b2] = _
          refine st_4_0 (e23_20) (g := true) rfl (l := [i14]) rfl (m := []) rfl (cl_t (q20 i14)) fun i15 i16 i17 i18 hi15 hi16 hi17 hi18 => ?_
          show T.den _ _ [(192 : Int), (lo : Int), (hi : Int), (N : Int), (r : Int), i5, i6, i7, i8, i9, i10, i11, i12, i13, i14, i15, i16, i17, i18] [b0, b1, b2] = _
          refine st_ret ?_
          show some ([i15, i16, i17, i18], [true]) = _
          rw [hi15, hi16, hi17, hi18]
          rw [hi14]
        · replace hc : b1 = false := hc
          have c7 := hc
          clear hc
          rw [hb1, hi9, hi10, hi11, hbo] at c7; cases c7
    · replace hc : (i5 == 1) = false := hc
      have c8 := hc
      clear hc
      rw [hi5] at c8; exact absurd c8 (by decide)

def u192_ : Int → Int := fun a => (IntKind.wrap .u64 (IntKind.wrap .u32 (IntKind.wrap .i32 (IntKind.wrap .i8 a))))

theorem valu_192 : ValU 192 127 u192_ := ⟨fun a _ => q11_192 a, fun a h => fin32 _⟩

set_option maxHeartbeats 4000000 in
theorem q23_192_n (a1 a2 a3 a4 : Int) (lo hi N r : Nat) (hc1 : F32 [(lo : Int), (hi : Int), (N : Int), (r : Int), 127] [] = some ([a1, a2, a3, a4], [])) (hbo : ob a1 a2 a3 = false) : F23 [192, (lo : Int), (hi : Int), (N : Int), (r : Int)] [] = some ([0, ((Tn 127 : Nat) : Int), 0, 0], [true]) := by
  refine Eq.trans (Fd_of (n := 5) (m := 0) (t := XTransTight.t23) (C := Tab.fn a23) rfl rfl) ?_
  rw [XTransTight.t23]
  refine st_4_1 (e23_13) (g := true) rfl (l := [192]) rfl (m := []) rfl (cl_t q14_192) fun i5 i6 i7 i8 b0 hi5 hi6 hi7 hi8 hb0 => ?_
  show T.den _ _ [(192 : Int), (lo : Int), (hi : Int), (N : Int), (r : Int), i5, i6, i7, i8] [b0] = _
  refine st_ite (fun hc => ?_) (fun hc => ?_)
  · replace hc : (i5 == 0) = true := hc
    have c1 := hc
    clear hc
    rw [hi5] at c1; exact absurd c1 (by decide)
  · replace hc : (i5 == 0) = false := hc
    have c2 := hc
    clear hc
    refine st_ite (fun hc => ?_) (fun hc => ?_)
    · replace hc : (i5 == 1) = true := hc
      have c3 := hc
      clear hc
      refine st_ite (fun hc => ?_) (fun hc => ?_)
      · replace hc : (!b0) = true := hc
        have c4 := hc
        clear hc
        rw [hb0] at c4; cases c4
      · replace hc : (!b0) = false := hc
        have c5 := hc
        clear hc
        refine st_4_0 (e23_32) (g := true) rfl (l := [(lo : Int), (hi : Int), (N : Int), (r : Int), i6]) rfl (m := []) rfl (cl_t ((show F32 [(lo : Int), (hi : Int), (N : Int), (r : Int), i6] [] = F32 [(lo : Int), (hi : Int), (N : Int), (r : Int), 127] [] from by rw [hi6]).trans hc1)) fun i9 i10 i11 i12 hi9 hi10 hi11 hi12 => ?_
        show T.den _ _ [(192 : Int), (lo : Int), (hi : Int), (N : Int), (r : Int), i5, i6, i7, i8, i9, i10, i11, i12] [b0] = _
        refine st_1_1 (e23_42) (g := true) rfl (l := [i9, i10, i11, i12]) rfl (m := []) rfl (cl_t (q42 i9 i10 i11 i12)) fun i13 b1 hi13 hb1 => ?_
        show T.den _ _ [(192 : Int), (lo : Int), (hi : Int), (N : Int), (r : Int), i5, i6, i7, i8, i9, i10, i11, i12, i13] [b0, b1] = _
        refine st_ite (fun hc => ?_) (fun hc => ?_)
        · replace hc : b1 = true := hc
          have c6 := hc
          clear hc
          rw [hb1, hi9, hi10, hi11, hbo] at c6; cases c6
        · replace hc : b1 = false := hc
          have c7 := hc
          clear hc
          refine st_itf (show ((192 : Int) == 69) = false from by kernel_rfl) ?_
          refine st_itf (show ((192 : Int) == 80) = false from by kernel_rfl) ?_
          refine st_itf (show ((192 : Int) == 103) = false from by kernel_rfl) ?_
          refine st_itf (show ((192 : Int) == 104) = false from by kernel_rfl) ?_
          refine st_itf (show ((192 : Int) == 105) = false from by kernel_rfl) ?_
          refine st_itf (show ((192 : Int) == 121) = false from by kernel_rfl) ?_
          refine st_itf (show ((192 : Int) == 122) = false from by kernel_rfl) ?_
          refine st_itf (show ((192 : Int) == 123) = false from by kernel_rfl) ?_
          refine st_itf (show ((192 : Int) == 167) = false from by kernel_rfl) ?_
          refine st_itf (show ((192 : Int) == 173) = false from by kernel_rfl) ?_
          refine st_4_0 (e23_26) (g := true) rfl (l := [i8]) rfl (m := []) rfl (cl_t (q26_t i8)) fun i14 i15 i16 i17 hi14 hi15 hi16 hi17 => ?_
          show T.den _ _ [(192 : Int), (lo : Int), (hi : Int), (N : Int), (r : Int), i5, i6, i7, i8, i9, i10, i11, i12, i13, i14, i15, i16, i17] [b0, b1] = _
          refine st_ret ?_
          show some ([i14, i15, i16, i17], [true]) = _
          rw [hi14, hi15, hi16, hi17]
          rw [hi8]
    · replace hc : (i5 == 1) = false := hc
      have c8 := hc
      clear hc
      rw [hi5] at c8; exact absurd c8 (by decide)

theorem un_192 : UnFin 192 127 127 u192_ := by
  intro lo hi N r h
  obtain ⟨a, b, c, d, hR, hc1, hb, hA⟩ := cut_nat 127 h
  cases hbo : ob (a : Int) b c
  · exact ⟨_, _, _, _, q23_192_n _ _ _ _ lo hi N r hc1 hbo, unt_fin valu_192 lo hi N r⟩
  · obtain ⟨v, h24, hf⟩ := unc_fin (op := 192) (i := 127) valu_192 hR hA hbo
    exact ⟨_, _, _, _, q23_192_c _ _ _ _ lo hi N r hc1 _ hbo h24, hf⟩

set_option maxHeartbeats 4000000 in
theorem q23_193_c (a1 a2 a3 a4 : Int) (lo hi N r : Nat) (hc1 : F32 [(lo : Int), (hi : Int), (N : Int), (r : Int), 127] [] = some ([a1, a2, a3, a4], [])) (v : Int) (hbo : ob a1 a2 a3 = true) (h24 : F24 [193, ov a1 a2 a3 a4] [] = some ([v], [true])) : F23 [193, (lo : Int), (hi : Int), (N : Int), (r : Int)] [] = some ([v, v, 64, v], [true]) := by
  refine Eq.trans (Fd_of (n := 5) (m := 0) (t := XTransTight.t23) (C := Tab.fn a23) rfl rfl) ?_
  rw [XTransTight.t23]
  refine st_4_1 (e23_13) (g := true) rfl (l := [193]) rfl (m := []) rfl (cl_t q14_193) fun i5 i6 i7 i8 b0 hi5 hi6 hi7 hi8 hb0 => ?_
  show T.den _ _ [(193 : Int), (lo : Int), (hi : Int), (N : Int), (r : Int), i5, i6, i7, i8] [b0] = _
  refine st_ite (fun hc => ?_) (fun hc => ?_)
  · replace hc : (i5 == 0) = true := hc
    have c1 := hc
    clear hc
    rw [hi5] at c1; exact absurd c1 (by decide)
  · replace hc : (i5 == 0) = false := hc
    have c2 := hc
    clear hc
    refine st_ite (fun hc => ?_) (fun hc => ?_)
    · replace hc : (i5 == 1) = true := hc
      have c3 := hc
      clear hc
      refine st_ite (fun hc => ?_) (fun hc => ?_)
      · replace hc : (!b0) = true := hc
        have c4 := hc
        clear hc
        rw [hb0] at c4; cases c4
      · replace hc : (!b0) = false := hc
        have c5 := hc
        clear hc
        refine st_4_0 (e23_32) (g := true) rfl (l := [(lo : Int), (hi : Int), (N : Int), (r : Int), i6]) rfl (m := []) rfl (cl_t ((show F32 [(lo : Int), (hi : Int), (N : Int), (r : Int), i6] [] = F32 [(lo : Int), (hi : Int), (N : Int), (r : Int), 127] [] from by rw [hi6]).trans hc1)) fun i9 i10 i11 i12 hi9 hi10 hi11 hi12 => ?_
        show T.den _ _ [(193 : Int), (lo : Int), (hi : Int), (N : Int), (r : Int), i5, i6, i7, i8, i9, i10, i11, i12] [b0] = _
        refine st_1_1 (e23_42) (g := true) rfl (l := [i9, i10, i11, i12]) rfl (m := []) rfl (cl_t (q42 i9 i10 i11 i12)) fun i13 b1 hi13 hb1 => ?_
        show T.den _ _ [(193 : Int), (lo : Int), (hi : Int), (N : Int), (r : Int), i5, i6, i7, i8, i9, i10, i11, i12, i13] [b0, b1] = _
        refine st_ite (fun hc => ?_) (fun hc => ?_)
        · replace hc : b1 = true := hc
          have c6 := hc
          clear hc
          refine st_1_1 (e23_24) (g := true) rfl (l := [193, i13]) rfl (m := []) rfl (cl_t ((show F24 [193, i13] [] = F24 [193, ov a1 a2 a3 a4] [] from by rw [hi13, hi9, hi10, hi11, hi12]).trans h24)) fun i14 b2 hi14 hb2 => ?_
          show T.den _ _ [(193 : Int), (lo : Int), (hi : Int), (N : Int), (r : Int), i5, i6, i7, i8, i9, i10, i11, i12, i13, i14] [b0, b1, b2] = _
          refine st_4_0 (e23_20) (g := true) rfl (l := [i14]) rfl (m := []) rfl (cl_t (q20 i14)) fun i15 i16 i17 i18 hi15 hi16 hi17 hi18 => ?_
          show T.den _ _ [(193 : Int), (lo : Int), (hi : Int), (N : Int), (r : Int), i5, i6, i7, i8, i9, i10, i11, i12, i13, i14, i15, i16, i17, i18] [b0, b1, b2] = _
          refine st_ret ?_
          show some ([i15, i16, i17, i18], [true]) = _
          rw [hi15, hi16, hi17, hi18]
          rw [hi14]
        · replace hc : b1 = false := hc
          have c7 := hc
          clear hc
          rw [hb1, hi9, hi10, hi11, hbo] at c7; cases c7
    · replace hc : (i5 == 1) = false := hc
      have c8 := hc
      clear hc
      rw [hi5] at c8; exact absurd c8 (by decide)

def u193_ : Int → Int := fun a => (IntKind.wrap .u64 (IntKind.wrap .u32 (IntKind.wrap .i32 (IntKind.wrap .i16 a))))

theorem valu_193 : ValU 193 127 u193_ := ⟨fun a _ => q11_193 a, fun a h => fin32 _⟩

set_option maxHeartbeats 4000000 in
theorem q23_193_n (a1 a2 a3 a4 : Int) (lo hi N r : Nat) (hc1 : F32 [(lo : Int), (hi : Int), (N : Int), (r : Int), 127] [] = some ([a1, a2, a3, a4], [])) (hbo : ob a1 a2 a3 = false) : F23 [193, (lo : Int), (hi : Int), (N : Int), (r : Int)] [] = some ([0, ((Tn 127 : Nat) : Int), 0, 0], [true]) := by
  refine Eq.trans (Fd_of (n := 5) (m := 0) (t := XTransTight.t23) (C := Tab.fn a23) rfl rfl) ?_
  rw [XTransTight.t23]
  refine st_4_1 (e23_13) (g := true) rfl (l := [193]) rfl (m := []) rfl (cl_t q14_193) fun i5 i6 i7 i8 b0 hi5 hi6 hi7 hi8 hb0 => ?_
  show T.den _ _ [(193 : Int), (lo : Int), (hi : Int), (N : Int), (r : Int), i5, i6, i7, i8] [b0] = _
  refine st_ite (fun hc => ?_) (fun hc => ?_)
  · replace hc : (i5 == 0) = true := hc
    have c1 := hc
    clear hc
    rw [hi5] at c1; exact absurd c1 (by decide)
  · replace hc : (i5 == 0) = false := hc
    have c2 := hc
    clear hc
    refine st_ite (fun hc => ?_) (fun hc => ?_)
    · replace hc : (i5 == 1) = true := hc
      have c3 := hc
      clear hc
      refine st_ite (fun hc => ?_) (fun hc => ?_)
      · replace hc : (!b0) = true := hc
        have c4 := hc
        clear hc
        rw [hb0] at c4; cases c4
      · replace hc : (!b0) = false := hc
        have c5 := hc
        clear hc
        refine st_4_0 (e23_32) (g := true) rfl (l := [(lo : Int), (hi : Int), (N : Int), (r : Int), i6]) rfl (m := []) rfl (cl_t ((show F32 [(lo : Int), (hi : Int), (N : Int), (r : Int), i6] [] = F32 [(lo : Int), (hi : Int), (N : Int), (r : Int), 127] [] from by rw [hi6]).trans hc1)) fun i9 i10 i11 i12 hi9 hi10 hi11 hi12 => ?_
        show T.den _ _ [(193 : Int), (lo : Int), (hi : Int), (N : Int), (r : Int), i5, i6, i7, i8, i9, i10, i11, i12] [b0] = _
        refine st_1_1 (e23_42) (g := true) rfl (l := [i9, i10, i11, i12]) rfl (m := []) rfl (cl_t (q42 i9 i10 i11 i12)) fun i13 b1 hi13 hb1 => ?_
        show T.den _ _ [(193 : Int), (lo : Int), (hi : Int), (N : Int), (r : Int), i5, i6, i7, i8, i9, i10, i11, i12, i13] [b0, b1] = _
        refine st_ite (fun hc => ?_) (fun hc => ?_)
        · replace hc : b1 = true := hc
          have c6 := hc
          clear hc
          rw [hb1, hi9, hi10, hi11, hbo] at c6; cases c6
        · replace hc : b1 = false := hc
          have c7 := hc
          clear hc
          refine st_itf (show ((193 : Int) == 69) = false from by kernel_rfl) ?_
          refine st_itf (show ((193 : Int) == 80) = false from by kernel_rfl) ?_
          refine st_itf (show ((193 : Int) == 103) = false from by kernel_rfl) ?_
          refine st_itf (show ((193 : Int) == 104) = false from by kernel_rfl) ?_
          refine st_itf (show ((193 : Int) == 105) = false from by kernel_rfl) ?_
          refine st_itf (show ((193 : Int) == 121) = false from by kernel_rfl) ?_
          refine st_itf (show ((193 : Int) == 122) = false from by kernel_rfl) ?_
          refine st_itf (show ((193 : Int) == 123) = false from by kernel_rfl) ?_
          refine st_itf (show ((193 : Int) == 167) = false from by kernel_rfl) ?_
          refine st_itf (show ((193 : Int) == 173) = false from by kernel_rfl) ?_
          refine st_4_0 (e23_26) (g := true) rfl (l := [i8]) rfl (m := []) rfl (cl_t (q26_t i8)) fun i14 i15 i16 i17 hi14 hi15 hi16 hi17 => ?_
          show T.den _ _ [(193 : Int), (lo : Int), (hi : Int), (N : Int), (r : Int), i5, i6, i7, i8, i9, i10, i11, i12, i13, i14, i15, i16, i17] [b0, b1] = _
          refine st_ret ?_
          show some ([i14, i15, i16, i17], [true]) = _
          rw [hi14, hi15, hi16, hi17]
          rw [hi8]
    · replace hc : (i5 == 1) = false := hc
      have c8 := hc
      clear hc
      rw [hi5] at c8; exact absurd c8 (by decide)

theorem un_193 : UnFin 193 127 127 u193_ := by
  intro lo hi N r h
  obtain ⟨a, b, c, d, hR, hc1, hb, hA⟩ := cut_nat 127 h
  cases hbo : ob (a : Int) b c
  · exact ⟨_, _, _, _, q23_193_n _ _ _ _ lo hi N r hc1 hbo, unt_fin valu_193 lo hi N r⟩
  · obtain ⟨v, h24, hf⟩ := unc_fin (op := 193) (i := 127) valu_193 hR hA hbo
    exact ⟨_, _, _, _, q23_193_c _ _ _ _ lo hi N r hc1 _ hbo h24, hf⟩

set_option maxHeartbeats 4000000 in
theorem q23_80_c (a1 a2 a3 a4 : Int) (lo hi N r : Nat) (hc1 : F32 [(lo : Int), (hi : Int), (N : Int), (r : Int), 126] [] = some ([a1, a2, a3, a4], [])) (v : Int) (hbo : ob a1 a2 a3 = true) (h24 : F24 [80, ov a1 a2 a3 a4] [] = some ([v], [true])) : F23 [80, (lo : Int), (hi : Int), (N : Int), (r : Int)] [] = some ([v, v, 64, v], [true]) := by
  refine Eq.trans (Fd_of (n := 5) (m := 0) (t := XTransTight.t23) (C := Tab.fn a23) rfl rfl) ?_
  rw [XTransTight.t23]
  refine st_4_1 (e23_13) (g := true) rfl (l := [80]) rfl (m := []) rfl (cl_t q14_80) fun i5 i6 i7 i8 b0 hi5 hi6 hi7 hi8 hb0 => ?_
  show T.den _ _ [(80 : Int), (lo : Int), (hi : Int), (N : Int), (r : Int), i5, i6, i7, i8] [b0] = _
  refine st_ite (fun hc => ?_) (fun hc => ?_)
  · replace hc : (i5 == 0) = true := hc
    have c1 := hc
    clear hc
    rw [hi5] at c1; exact absurd c1 (by decide)
  · replace hc : (i5 == 0) = false := hc
    have c2 := hc
    clear hc
    refine st_ite (fun hc => ?_) (fun hc => ?_)
    · replace hc : (i5 == 1) = true := hc
      have c3 := hc
      clear hc
      refine st_ite (fun hc => ?_) (fun hc => ?_)
      · replace hc : (!b0) = true := hc
        have c4 := hc
        clear hc
        rw [hb0] at c4; cases c4
      · replace hc : (!b0) = false := hc
        have c5 := hc
        clear hc
        refine st_4_0 (e23_32) (g := true) rfl (l := [(lo : Int), (hi : Int), (N : Int), (r : Int), i6]) rfl (m := []) rfl (cl_t ((show F32 [(lo : Int), (hi : Int), (N : Int), (r : Int), i6] [] = F32 [(lo : Int), (hi : Int), (N : Int), (r : Int), 126] [] from by rw [hi6]).trans hc1)) fun i9 i10 i11 i12 hi9 hi10 hi11 hi12 => ?_
        show T.den _ _ [(80 : Int), (lo : Int), (hi : Int), (N : Int), (r : Int), i5, i6, i7, i8, i9, i10, i11, i12] [b0] = _
        refine st_1_1 (e23_42) (g := true) rfl (l := [i9, i10, i11, i12]) rfl (m := []) rfl (cl_t (q42 i9 i10 i11 i12)) fun i13 b1 hi13 hb1 => ?_
        show T.den _ _ [(80 : Int), (lo : Int), (hi : Int), (N : Int), (r : Int), i5, i6, i7, i8, i9, i10, i11, i12, i13] [b0, b1] = _
        refine st_ite (fun hc => ?_) (fun hc => ?_)
        · replace hc : b1 = true := hc
          have c6 := hc
          clear hc
          refine st_1_1 (e23_24) (g := true) rfl (l := [80, i13]) rfl (m := []) rfl (cl_t ((show F24 [80, i13] [] = F24 [80, ov a1 a2 a3 a4] [] from by rw [hi13, hi9, hi10, hi11, hi12]).trans h24)) fun i14 b2 hi14 hb2 => ?_
          show T.den _ _ [(80 : Int), (lo : Int), (hi : Int), (N : Int), (r : Int), i5, i6, i7, i8, i9, i10, i11, i12, i13, i14] [b0, b1, b2] = _
          refine st_4_0 (e23_20) (g := true) rfl (l := [i14]) rfl (m := []) rfl (cl_t (q20 i14)) fun i15 i16 i17 i18 hi15 hi16 hi17 hi18 => ?_
          show T.den _ _ [(80 : Int), (lo : Int), (hi : Int), (N : Int), (r : Int), i5, i6, i7, i8, i9, i10, i11, i12, i13, i14, i15, i16, i17, i18] [b0, b1, b2] = _
          refine st_ret ?_
          show some ([i15, i16, i17, i18], [true]) = _
          rw [hi15, hi16, hi17, hi18]
          rw [hi14]
        · replace hc : b1 = false := hc
          have c7 := hc
          clear hc
          rw [hb1, hi9, hi10, hi11, hbo] at c7; cases c7
    · replace hc : (i5 == 1) = false := hc
      have c8 := hc
      clear hc
      rw [hi5] at c8; exact absurd c8 (by decide)

def u80_ : Int → Int := fun a => (bif (a == 0) then 1 else 0)

theorem valu_80 : ValU 80 127 u80_ := ⟨fun a _ => q11_80 a, fun a h => finb _⟩

set_option maxHeartbeats 4000000 in
theorem q23_80_s (a1 a2 a3 a4 : Int) (lo hi N r : Nat) (hc1 : F32 [(lo : Int), (hi : Int), (N : Int), (r : Int), 126] [] = some ([a1, a2, a3, a4], [])) (hbo : ob a1 a2 a3 = false) (hs' : sure a1 a2 a3 a4 = true) : F23 [80, (lo : Int), (hi : Int), (N : Int), (r : Int)] [] = some ([bif !(yes a1 a2 a3 a4) then 1 else 0, bif !(yes a1 a2 a3 a4) then 1 else 0, 64, bif !(yes a1 a2 a3 a4) then 1 else 0], [true]) := by
  refine Eq.trans (Fd_of (n := 5) (m := 0) (t := XTransTight.t23) (C := Tab.fn a23) rfl rfl) ?_
  rw [XTransTight.t23]
  refine st_4_1 (e23_13) (g := true) rfl (l := [80]) rfl (m := []) rfl (cl_t q14_80) fun i5 i6 i7 i8 b0 hi5 hi6 hi7 hi8 hb0 => ?_
  show T.den _ _ [(80 : Int), (lo : Int), (hi : Int), (N : Int), (r : Int), i5, i6, i7, i8] [b0] = _
  refine st_ite (fun hc => ?_) (fun hc => ?_)
  · replace hc : (i5 == 0) = true := hc
    have c1 := hc
    clear hc
    rw [hi5] at c1; exact absurd c1 (by decide)
  · replace hc : (i5 == 0) = false := hc
    have c2 := hc
    clear hc
    refine st_ite (fun hc => ?_) (fun hc => ?_)
    · replace hc : (i5 == 1) = true := hc
      have c3 := hc
      clear hc
      refine st_ite (fun hc => ?_) (fun hc => ?_)
      · replace hc : (!b0) = true := hc
        have c4 := hc
        clear hc
        rw [hb0] at c4; cases c4
      · replace hc : (!b0) = false := hc
        have c5 := hc
        clear hc
        refine st_4_0 (e23_32) (g := true) rfl (l := [(lo : Int), (hi : Int), (N : Int), (r : Int), i6]) rfl (m := []) rfl (cl_t ((show F32 [(lo : Int), (hi : Int), (N : Int), (r : Int), i6] [] = F32 [(lo : Int), (hi : Int), (N : Int), (r : Int), 126] [] from by rw [hi6]).trans hc1)) fun i9 i10 i11 i12 hi9 hi10 hi11 hi12 => ?_
        show T.den _ _ [(80 : Int), (lo : Int), (hi : Int), (N : Int), (r : Int), i5, i6, i7, i8, i9, i10, i11, i12] [b0] = _
        refine st_1_1 (e23_42) (g := true) rfl (l := [i9, i10, i11, i12]) rfl (m := []) rfl (cl_t (q42 i9 i10 i11 i12)) fun i13 b1 hi13 hb1 => ?_
        show T.den _ _ [(80 : Int), (lo : Int), (hi : Int), (N : Int), (r : Int), i5, i6, i7, i8, i9, i10, i11, i12, i13] [b0, b1] = _
        refine st_ite (fun hc => ?_) (fun hc => ?_)
        · replace hc : b1 = true := hc
          have c6 := hc
          clear hc
          rw [hb1, hi9, hi10, hi11, hbo] at c6; cases c6
        · replace hc : b1 = false := hc
          have c7 := hc
          clear hc
          refine st_itf (show ((80 : Int) == 69) = false from by kernel_rfl) ?_
          refine st_itt (show ((80 : Int) == 80) = true from by kernel_rfl) ?_
          refine st_0_2 (e23_18) (g := true) rfl (l := [i9, i10, i11, i12]) rfl (m := []) rfl (cl_t (q18 i9 i10 i11 i12)) fun b2 b3 hb2 hb3 => ?_
          show T.den _ _ [(80 : Int), (lo : Int), (hi : Int), (N : Int), (r : Int), i5, i6, i7, i8, i9, i10, i11, i12, i13] [b0, b1, b2, b3] = _
          refine st_ite (fun hc => ?_) (fun hc => ?_)
          · replace hc : b3 = true := hc
            have c8 := hc
            clear hc
            refine st_4_0 (e23_45) (g := true) rfl (l := []) rfl (m := [(!b2)]) rfl (cl_t (q45 (!b2))) fun i14 i15 i16 i17 hi14 hi15 hi16 hi17 => ?_
            show T.den _ _ [(80 : Int), (lo : Int), (hi : Int), (N : Int), (r : Int), i5, i6, i7, i8, i9, i10, i11, i12, i13, i14, i15, i16, i17] [b0, b1, b2, b3] = _
            refine st_ret ?_
            show some ([i14, i15, i16, i17], [true]) = _
            rw [hi14, hi15, hi16, hi17]
            rw [hb2, hi9, hi10, hi11, hi12]
          · replace hc : b3 = false := hc
            have c9 := hc
            clear hc
            rw [hb3, hi9, hi10, hi11, hi12, hs'] at c9; cases c9
    · replace hc : (i5 == 1) = false := hc
      have c10 := hc
      clear hc
      rw [hi5] at c10; exact absurd c10 (by decide)

set_option maxHeartbeats 4000000 in
theorem q23_80_n (a1 a2 a3 a4 : Int) (lo hi N r : Nat) (hc1 : F32 [(lo : Int), (hi : Int), (N : Int), (r : Int), 126] [] = some ([a1, a2, a3, a4], [])) (hbo : ob a1 a2 a3 = false) (hs' : sure a1 a2 a3 a4 = false) : F23 [80, (lo : Int), (hi : Int), (N : Int), (r : Int)] [] = some ([0, 1, 0, 0], [true]) := by
  refine Eq.trans (Fd_of (n := 5) (m := 0) (t := XTransTight.t23) (C := Tab.fn a23) rfl rfl) ?_
  rw [XTransTight.t23]
  refine st_4_1 (e23_13) (g := true) rfl (l := [80]) rfl (m := []) rfl (cl_t q14_80) fun i5 i6 i7 i8 b0 hi5 hi6 hi7 hi8 hb0 => ?_
  show T.den _ _ [(80 : Int), (lo : Int), (hi : Int), (N : Int), (r : Int), i5, i6, i7, i8] [b0] = _
  refine st_ite (fun hc => ?_) (fun hc => ?_)
  · replace hc : (i5 == 0) = true := hc
    have c1 := hc
    clear hc
    rw [hi5] at c1; exact absurd c1 (by decide)
  · replace hc : (i5 == 0) = false := hc
    have c2 := hc
    clear hc
    refine st_ite (fun hc => ?_) (fun hc => ?_)
    · replace hc : (i5 == 1) = true := hc
      have c3 := hc
      clear hc
      refine st_ite (fun hc => ?_) (fun hc => ?_)
      · replace hc : (!b0) = true := hc
        have c4 := hc
        clear hc
        rw [hb0] at c4; cases c4
      · replace hc : (!b0) = false := hc
        have c5 := hc
        clear hc
        refine st_4_0 (e23_32) (g := true) rfl (l := [(lo : Int), (hi : Int), (N : Int), (r : Int), i6]) rfl (m := []) rfl (cl_t ((show F32 [(lo : Int), (hi : Int), (N : Int), (r : Int), i6] [] = F32 [(lo : Int), (hi : Int), (N : Int), (r : Int), 126] [] from by rw [hi6]).trans hc1)) fun i9 i10 i11 i12 hi9 hi10 hi11 hi12 => ?_
        show T.den _ _ [(80 : Int), (lo : Int), (hi : Int), (N : Int), (r : Int), i5, i6, i7, i8, i9, i10, i11, i12] [b0] = _
        refine st_1_1 (e23_42) (g := true) rfl (l := [i9, i10, i11, i12]) rfl (m := []) rfl (cl_t (q42 i9 i10 i11 i12)) fun i13 b1 hi13 hb1 => ?_
        show T.den _ _ [(80 : Int), (lo : Int), (hi : Int), (N : Int), (r : Int), i5, i6, i7, i8, i9, i10, i11, i12, i13] [b0, b1] = _
        refine st_ite (fun hc => ?_) (fun hc => ?_)
        · replace hc : b1 = true := hc
          have c6 := hc
          clear hc
          rw [hb1, hi9, hi10, hi11, hbo] at c6; cases c6
        · replace hc : b1 = false := hc
          have c7 := hc
          clear hc
          refine st_itf (show ((80 : Int) == 69) = false from by kernel_rfl) ?_
          refine st_itt (show ((80 : Int) == 80) = true from by kernel_rfl) ?_
          refine st_0_2 (e23_18) (g := true) rfl (l := [i9, i10, i11, i12]) rfl (m := []) rfl (cl_t (q18 i9 i10 i11 i12)) fun b2 b3 hb2 hb3 => ?_
          show T.den _ _ [(80 : Int), (lo : Int), (hi : Int), (N : Int), (r : Int), i5, i6, i7, i8, i9, i10, i11, i12, i13] [b0, b1, b2, b3] = _
          refine st_ite (fun hc => ?_) (fun hc => ?_)
          · replace hc : b3 = true := hc
            have c8 := hc
            clear hc
            rw [hb3, hi9, hi10, hi11, hi12, hs'] at c8; cases c8
          · replace hc : b3 = false := hc
            have c9 := hc
            clear hc
            refine st_4_0 (e23_46) (g := true) rfl (l := []) rfl (m := []) rfl (cl_t q46) fun i14 i15 i16 i17 hi14 hi15 hi16 hi17 => ?_
            show T.den _ _ [(80 : Int), (lo : Int), (hi : Int), (N : Int), (r : Int), i5, i6, i7, i8, i9, i10, i11, i12, i13, i14, i15, i16, i17] [b0, b1, b2, b3] = _
            refine st_ret ?_
            show some ([i14, i15, i16, i17], [true]) = _
            rw [hi14, hi15, hi16, hi17]
    · replace hc : (i5 == 1) = false := hc
      have c10 := hc
      clear hc
      rw [hi5] at c10; exact absurd c10 (by decide)

theorem un_80 : UnFin 80 126 127 u80_ := by
  intro lo hi N r h
  obtain ⟨a, b, c, d, hR, hc1, hb, hA⟩ := cut_nat 126 h
  cases hbo : ob (a : Int) b c
  · have hf : ∀ v n : Nat, n < 2 ^ 64 → Fit 126 n → (v : Int) = u80_ n → v = if n = 0 then 1 else 0 := fun v n hn fn e => by
      unfold u80_ at e
      rw [show ((n : Int) == 0) = decide (n = 0) from by rw [Bool.eq_iff_iff, beq_iff_eq, decide_eq_true_iff]; omega] at e
      by_cases h0 : n = 0
      · rw [decide_eq_true h0] at e; rw [if_pos h0]; simp only [cond_true] at e; omega
      · rw [decide_eq_false h0] at e; rw [if_neg h0]; simp only [cond_false] at e; omega
    cases hs' : sure (a : Int) b c d
    · refine ⟨_, _, _, _, q23_80_n _ _ _ _ lo hi N r hc1 hbo hs', fh_mono (fin_0 (T := Tn 127) 1 (by decide) (by decide) (by decide)) ?_⟩
      rintro v ⟨n, hn, fn, h1, e⟩
      have := hf v n hn fn e
      show v ≤ 1
      split at this <;> omega
    · have hq := q23_80_s _ _ _ _ lo hi N r hc1 hbo hs'
      have ht := fun n hn hA' => truth_f hR (n := n) hn hs' hA'
      cases hy : (!(yes (a : Int) b c d))
      · rw [hy] at hq
        refine ⟨_, _, _, _, hq, fh_mono (fin_const (T := Tn 127) 0 (by decide) (by decide)) ?_⟩
        rintro v ⟨n, hn, fn, h1, e⟩
        have h3 := ht n hn (hA n hn fn h1)
        rw [hy] at h3
        have h4 := of_decide_eq_false h3.symm
        have := hf v n hn fn e
        rw [if_neg h4] at this; exact this
      · rw [hy] at hq
        refine ⟨_, _, _, _, hq, fh_mono (fin_const (T := Tn 127) 1 (by decide) (by decide)) ?_⟩
        rintro v ⟨n, hn, fn, h1, e⟩
        have h3 := ht n hn (hA n hn fn h1)
        rw [hy] at h3
        have h4 := of_decide_eq_true h3.symm
        have := hf v n hn fn e
        rw [if_pos h4] at this; exact this
  · obtain ⟨v, h24, hf⟩ := unc_fin (op := 80) (i := 126) valu_80 hR hA hbo
    exact ⟨_, _, _, _, q23_80_c _ _ _ _ lo hi N r hc1 _ hbo h24, hf⟩

set_option maxHeartbeats 4000000 in
theorem q23_167_c (a1 a2 a3 a4 : Int) (lo hi N r : Nat) (hc1 : F32 [(lo : Int), (hi : Int), (N : Int), (r : Int), 126] [] = some ([a1, a2, a3, a4], [])) (v : Int) (hbo : ob a1 a2 a3 = true) (h24 : F24 [167, ov a1 a2 a3 a4] [] = some ([v], [true])) : F23 [167, (lo : Int), (hi : Int), (N : Int), (r : Int)] [] = some ([v, v, 64, v], [true]) := by
  refine Eq.trans (Fd_of (n := 5) (m := 0) (t := XTransTight.t23) (C := Tab.fn a23) rfl rfl) ?_
  rw [XTransTight.t23]
  refine st_4_1 (e23_13) (g := true) rfl (l := [167]) rfl (m := []) rfl (cl_t q14_167) fun i5 i6 i7 i8 b0 hi5 hi6 hi7 hi8 hb0 => ?_
  show T.den _ _ [(167 : Int), (lo : Int), (hi : Int), (N : Int), (r : Int), i5, i6, i7, i8] [b0] = _
  refine st_ite (fun hc => ?_) (fun hc => ?_)
  · replace hc : (i5 == 0) = true := hc
    have c1 := hc
    clear hc
    rw [hi5] at c1; exact absurd c1 (by decide)
  · replace hc : (i5 == 0) = false := hc
    have c2 := hc
    clear hc
    refine st_ite (fun hc => ?_) (fun hc => ?_)
    · replace hc : (i5 == 1) = true := hc
      have c3 := hc
      clear hc
      refine st_ite (fun hc => ?_) (fun hc => ?_)
      · replace hc : (!b0) = true := hc
        have c4 := hc
        clear hc
        rw [hb0] at c4; cases c4
      · replace hc : (!b0) = false := hc
        have c5 := hc
        clear hc
        refine st_4_0 (e23_32) (g := true) rfl (l := [(lo : Int), (hi : Int), (N : Int), (r : Int), i6]) rfl (m := []) rfl (cl_t ((show F32 [(lo : Int), (hi : Int), (N : Int), (r : Int), i6] [] = F32 [(lo : Int), (hi : Int), (N : Int), (r : Int), 126] [] from by rw [hi6]).trans hc1)) fun i9 i10 i11 i12 hi9 hi10 hi11 hi12 => ?_
        show T.den _ _ [(167 : Int), (lo : Int), (hi : Int), (N : Int), (r : Int), i5, i6, i7, i8, i9, i10, i11, i12] [b0] = _
        refine st_1_1 (e23_42) (g := true) rfl (l := [i9, i10, i11, i12]) rfl (m := []) rfl (cl_t (q42 i9 i10 i11 i12)) fun i13 b1 hi13 hb1 => ?_
        show T.den _ _ [(167 : Int), (lo : Int), (hi : Int), (N : Int), (r : Int), i5, i6, i7, i8, i9, i10, i11, i12, i13] [b0, b1] = _
        refine st_ite (fun hc => ?_) (fun hc => ?_)
        · replace hc : b1 = true := hc
          have c6 := hc
          clear hc
          refine st_1_1 (e23_24) (g := true) rfl (l := [167, i13]) rfl (m := []) rfl (cl_t ((show F24 [167, i13] [] = F24 [167, ov a1 a2 a3 a4] [] from by rw [hi13, hi9, hi10, hi11, hi12]).trans h24)) fun i14 b2 hi14 hb2 => ?_
          show T.den _ _ [(167 : Int), (lo : Int), (hi : Int), (N : Int), (r : Int), i5, i6, i7, i8, i9, i10, i11, i12, i13, i14] [b0, b1, b2] = _
          refine st_4_0 (e23_20) (g := true) rfl (l := [i14]) rfl (m := []) rfl (cl_t (q20 i14)) fun i15 i16 i17 i18 hi15 hi16 hi17 hi18 => ?_
          show T.den _ _ [(167 : Int), (lo : Int), (hi : Int), (N : Int), (r : Int), i5, i6, i7, i8, i9, i10, i11, i12, i13, i14, i15, i16, i17, i18] [b0, b1, b2] = _
          refine st_ret ?_
          show some ([i15, i16, i17, i18], [true]) = _
          rw [hi15, hi16, hi17, hi18]
          rw [hi14]
        · replace hc : b1 = false := hc
          have c7 := hc
          clear hc
          rw [hb1, hi9, hi10, hi11, hbo] at c7; cases c7
    · replace hc : (i5 == 1) = false := hc
      have c8 := hc
      clear hc
      rw [hi5] at c8; exact absurd c8 (by decide)

def u167_ : Int → Int := fun a => (IntKind.wrap .u64 (IntKind.wrap .u32 a))

theorem valu_167 : ValU 167 127 u167_ := ⟨fun a _ => q11_167 a, fun a h => fin32 _⟩

set_option maxHeartbeats 4000000 in
theorem q23_167_a (a1 a2 a3 a4 : Int) (lo hi N r : Nat) (hc1 : F32 [(lo : Int), (hi : Int), (N : Int), (r : Int), 126] [] = some ([a1, a2, a3, a4], [])) (hbo : ob a1 a2 a3 = false) (z0 z1 z2 z3 : Int) (hh : decide (a2 < 4294967296) = true) (h47 : F47 [a1, a2, a3, a4, 127] [] = some ([z0, z1, z2, z3], [])) : F23 [167, (lo : Int), (hi : Int), (N : Int), (r : Int)] [] = some ([z0, z1, z2, z3], [true]) := by
  refine Eq.trans (Fd_of (n := 5) (m := 0) (t := XTransTight.t23) (C := Tab.fn a23) rfl rfl) ?_
  rw [XTransTight.t23]
  refine st_4_1 (e23_13) (g := true) rfl (l := [167]) rfl (m := []) rfl (cl_t q14_167) fun i5 i6 i7 i8 b0 hi5 hi6 hi7 hi8 hb0 => ?_
  show T.den _ _ [(167 : Int), (lo : Int), (hi : Int), (N : Int), (r : Int), i5, i6, i7, i8] [b0] = _
  refine st_ite (fun hc => ?_) (fun hc => ?_)
  · replace hc : (i5 == 0) = true := hc
    have c1 := hc
    clear hc
    rw [hi5] at c1; exact absurd c1 (by decide)
  · replace hc : (i5 == 0) = false := hc
    have c2 := hc
    clear hc
    refine st_ite (fun hc => ?_) (fun hc => ?_)
    · replace hc : (i5 == 1) = true := hc
      have c3 := hc
      clear hc
      refine st_ite (fun hc => ?_) (fun hc => ?_)
      · replace hc : (!b0) = true := hc
        have c4 := hc
        clear hc
        rw [hb0] at c4; cases c4
      · replace hc : (!b0) = false := hc
        have c5 := hc
        clear hc
        refine st_4_0 (e23_32) (g := true) rfl (l := [(lo : Int), (hi : Int), (N : Int), (r : Int), i6]) rfl (m := []) rfl (cl_t ((show F32 [(lo : Int), (hi : Int), (N : Int), (r : Int), i6] [] = F32 [(lo : Int), (hi : Int), (N : Int), (r : Int), 126] [] from by rw [hi6]).trans hc1)) fun i9 i10 i11 i12 hi9 hi10 hi11 hi12 => ?_
        show T.den _ _ [(167 : Int), (lo : Int), (hi : Int), (N : Int), (r : Int), i5, i6, i7, i8, i9, i10, i11, i12] [b0] = _
        refine st_1_1 (e23_42) (g := true) rfl (l := [i9, i10, i11, i12]) rfl (m := []) rfl (cl_t (q42 i9 i10 i11 i12)) fun i13 b1 hi13 hb1 => ?_
        show T.den _ _ [(167 : Int), (lo : Int), (hi : Int), (N : Int), (r : Int), i5, i6, i7, i8, i9, i10, i11, i12, i13] [b0, b1] = _
        refine st_ite (fun hc => ?_) (fun hc => ?_)
        · replace hc : b1 = true := hc
          have c6 := hc
          clear hc
          rw [hb1, hi9, hi10, hi11, hbo] at c6; cases c6
        · replace hc : b1 = false := hc
          have c7 := hc
          clear hc
          refine st_itf (show ((167 : Int) == 69) = false from by kernel_rfl) ?_
          refine st_itf (show ((167 : Int) == 80) = false from by kernel_rfl) ?_
          refine st_itf (show ((167 : Int) == 103) = false from by kernel_rfl) ?_
          refine st_itf (show ((167 : Int) == 104) = false from by kernel_rfl) ?_
          refine st_itf (show ((167 : Int) == 105) = false from by kernel_rfl) ?_
          refine st_itf (show ((167 : Int) == 121) = false from by kernel_rfl) ?_
          refine st_itf (show ((167 : Int) == 122) = false from by kernel_rfl) ?_
          refine st_itf (show ((167 : Int) == 123) = false from by kernel_rfl) ?_
          refine st_itt (show ((167 : Int) == 167) = true from by kernel_rfl) ?_
          refine st_ite (fun hc => ?_) (fun hc => ?_)
          · replace hc : (decide (i10 < 4294967296)) = true := hc
            have c8 := hc
            clear hc
            refine st_4_0 (e23_47) (g := true) rfl (l := [i9, i10, i11, i12, i8]) rfl (m := []) rfl (cl_t ((show F47 [i9, i10, i11, i12, i8] [] = F47 [a1, a2, a3, a4, 127] [] from by rw [hi9, hi10, hi11, hi12, hi8]).trans h47)) fun i14 i15 i16 i17 hi14 hi15 hi16 hi17 => ?_
            show T.den _ _ [(167 : Int), (lo : Int), (hi : Int), (N : Int), (r : Int), i5, i6, i7, i8, i9, i10, i11, i12, i13, i14, i15, i16, i17] [b0, b1] = _
            refine st_ret ?_
            show some ([i14, i15, i16, i17], [true]) = _
            rw [hi14, hi15, hi16, hi17]
          · replace hc : (decide (i10 < 4294967296)) = false := hc
            have c9 := hc
            clear hc
            rw [hi10, hh] at c9; cases c9
    · replace hc : (i5 == 1) = false := hc
      have c10 := hc
      clear hc
      rw [hi5] at c10; exact absurd c10 (by decide)

set_option maxHeartbeats 4000000 in
theorem q23_167_b (a1 a2 a3 a4 : Int) (lo hi N r : Nat) (hc1 : F32 [(lo : Int), (hi : Int), (N : Int), (r : Int), 126] [] = some ([a1, a2, a3, a4], [])) (hbo : ob a1 a2 a3 = false) (y0 y1 z0 z1 z2 z3 : Int) (hh : decide (a2 < 4294967296) = false) (h49 : F49 [a3, a4, 32] [] = some ([y0, y1], [])) (h47 : F47 [0, 4294967295, y0, y1, 127] [] = some ([z0, z1, z2, z3], [])) : F23 [167, (lo : Int), (hi : Int), (N : Int), (r : Int)] [] = some ([z0, z1, z2, z3], [true]) := by
  refine Eq.trans (Fd_of (n := 5) (m := 0) (t := XTransTight.t23) (C := Tab.fn a23) rfl rfl) ?_
  rw [XTransTight.t23]
  refine st_4_1 (e23_13) (g := true) rfl (l := [167]) rfl (m := []) rfl (cl_t q14_167) fun i5 i6 i7 i8 b0 hi5 hi6 hi7 hi8 hb0 => ?_
  show T.den _ _ [(167 : Int), (lo : Int), (hi : Int), (N : Int), (r : Int), i5, i6, i7, i8] [b0] = _
  refine st_ite (fun hc => ?_) (fun hc => ?_)
  · replace hc : (i5 == 0) = true := hc
    have c1 := hc
    clear hc
    rw [hi5] at c1; exact absurd c1 (by decide)
  · replace hc : (i5 == 0) = false := hc
    have c2 := hc
    clear hc
    refine st_ite (fun hc => ?_) (fun hc => ?_)
    · replace hc : (i5 == 1) = true := hc
      have c3 := hc
      clear hc
      refine st_ite (fun hc => ?_) (fun hc => ?_)
      · replace hc : (!b0) = true := hc
        have c4 := hc
        clear hc
        rw [hb0] at c4; cases c4
      · replace hc : (!b0) = false := hc
        have c5 := hc
        clear hc
        refine st_4_0 (e23_32) (g := true) rfl (l := [(lo : Int), (hi : Int), (N : Int), (r : Int), i6]) rfl (m := []) rfl (cl_t ((show F32 [(lo : Int), (hi : Int), (N : Int), (r : Int), i6] [] = F32 [(lo : Int), (hi : Int), (N : Int), (r : Int), 126] [] from by rw [hi6]).trans hc1)) fun i9 i10 i11 i12 hi9 hi10 hi11 hi12 => ?_
        show T.den _ _ [(167 : Int), (lo : Int), (hi : Int), (N : Int), (r : Int), i5, i6, i7, i8, i9, i10, i11, i12] [b0] = _
        refine st_1_1 (e23_42) (g := true) rfl (l := [i9, i10, i11, i12]) rfl (m := []) rfl (cl_t (q42 i9 i10 i11 i12)) fun i13 b1 hi13 hb1 => ?_
        show T.den _ _ [(167 : Int), (lo : Int), (hi : Int), (N : Int), (r : Int), i5, i6, i7, i8, i9, i10, i11, i12, i13] [b0, b1] = _
        refine st_ite (fun hc => ?_) (fun hc => ?_)
        · replace hc : b1 = true := hc
          have c6 := hc
          clear hc
          rw [hb1, hi9, hi10, hi11, hbo] at c6; cases c6
        · replace hc : b1 = false := hc
          have c7 := hc
          clear hc
          refine st_itf (show ((167 : Int) == 69) = false from by kernel_rfl) ?_
          refine st_itf (show ((167 : Int) == 80) = false from by kernel_rfl) ?_
          refine st_itf (show ((167 : Int) == 103) = false from by kernel_rfl) ?_
          refine st_itf (show ((167 : Int) == 104) = false from by kernel_rfl) ?_
          refine st_itf (show ((167 : Int) == 105) = false from by kernel_rfl) ?_
          refine st_itf (show ((167 : Int) == 121) = false from by kernel_rfl) ?_
          refine st_itf (show ((167 : Int) == 122) = false from by kernel_rfl) ?_
          refine st_itf (show ((167 : Int) == 123) = false from by kernel_rfl) ?_
          refine st_itt (show ((167 : Int) == 167) = true from by kernel_rfl) ?_
          refine st_ite (fun hc => ?_) (fun hc => ?_)
          · replace hc : (decide (i10 < 4294967296)) = true := hc
            have c8 := hc
            clear hc
            rw [hi10, hh] at c8; cases c8
          · replace hc : (decide (i10 < 4294967296)) = false := hc
            have c9 := hc
            clear hc
            refine st_2_0 (e23_48) (g := true) rfl (l := [32]) rfl (m := []) rfl (cl_t v13_32) fun i14 i15 hi14 hi15 => ?_
            show T.den _ _ [(167 : Int), (lo : Int), (hi : Int), (N : Int), (r : Int), i5, i6, i7, i8, i9, i10, i11, i12, i13, i14, i15] [b0, b1] = _
            refine st_2_0 (e23_49) (g := true) rfl (l := [i11, i12, 32]) rfl (m := []) rfl (cl_t ((show F49 [i11, i12, 32] [] = F49 [a3, a4, 32] [] from by rw [hi11, hi12]).trans h49)) fun i16 i17 hi16 hi17 => ?_
            show T.den _ _ [(167 : Int), (lo : Int), (hi : Int), (N : Int), (r : Int), i5, i6, i7, i8, i9, i10, i11, i12, i13, i14, i15, i16, i17] [b0, b1] = _
            refine st_4_0 (e23_47) (g := true) rfl (l := [i14, i15, i16, i17, i8]) rfl (m := []) rfl (cl_t ((show F47 [i14, i15, i16, i17, i8] [] = F47 [0, 4294967295, y0, y1, 127] [] from by rw [hi14, hi15, hi16, hi17, hi8]).trans h47)) fun i18 i19 i20 i21 hi18 hi19 hi20 hi21 => ?_
            show T.den _ _ [(167 : Int), (lo : Int), (hi : Int), (N : Int), (r : Int), i5, i6, i7, i8, i9, i10, i11, i12, i13, i14, i15, i16, i17, i18, i19, i20, i21] [b0, b1] = _
            refine st_ret ?_
            show some ([i18, i19, i20, i21], [true]) = _
            rw [hi18, hi19, hi20, hi21]
    · replace hc : (i5 == 1) = false := hc
      have c10 := hc
      clear hc
      rw [hi5] at c10; exact absurd c10 (by decide)

theorem un_167 : UnFin 167 126 127 u167_ := by
  intro lo hi N r h
  obtain ⟨a, b, c, d, hR, hc1, hb, hA⟩ := cut_nat 126 h
  cases hbo : ob (a : Int) b c
  · have hf : ∀ v n : Nat, (v : Int) = u167_ n → v = n % 2 ^ 32 := fun v n e => by
      unfold u167_ at e; rw [wrap_u32, wrap_u64] at e; omega
    cases hh : decide ((b : Int) < 4294967296)
    · have hO : Ok (Tn 127) (fun v => ∃ n : Nat, n < 2 ^ 64 ∧ Fit 126 n ∧ hAN lo hi N r n = true ∧ (v : Int) = u167_ n) 0 4294967295 (cN c 32 : Nat) (cR c d 32 : Nat) := by
        refine ok_mk (by decide) ⟨0, 4294967295, rfl, rfl, by decide, by decide, ?_⟩ (lo_mono (lo_cut hR.2.2.1 hR.2.2.2 32) ?_)
        · rintro v ⟨n, hn, fn, h1, e⟩
          have := hf v n e
          exact ⟨Nat.zero_le _, by omega⟩
        · rintro v ⟨n, hn, fn, h1, e⟩
          exact ⟨n, hAN_hs (hA n hn fn h1), hf v n e⟩
      obtain ⟨z0, z1, z2, z3, h47, hz⟩ := tight_fin (t := 127) hO
      exact ⟨_, _, _, _, q23_167_b _ _ _ _ lo hi N r hc1 hbo _ _ _ _ _ _ hh (q49_lo hR.2.2.1 hR.r64) h47, hz⟩
    · have hb' : b < 4294967296 := by have := of_decide_eq_true hh; omega
      have hO : Ok (Tn 127) (fun v => ∃ n : Nat, n < 2 ^ 64 ∧ Fit 126 n ∧ hAN lo hi N r n = true ∧ (v : Int) = u167_ n) a b c d := by
        refine ⟨a, b, c, d, rfl, rfl, rfl, rfl, hR, by show b ≤ 4294967295; omega, ?_⟩
        rintro v ⟨n, hn, fn, h1, e⟩
        have h3 := hA n hn fn h1
        have h4 := hAN_true h3
        have := hf v n e
        rw [show v = n from by omega]; exact h3
      obtain ⟨z0, z1, z2, z3, h47, hz⟩ := tight_fin (t := 127) hO
      exact ⟨_, _, _, _, q23_167_a _ _ _ _ lo hi N r hc1 hbo _ _ _ _ hh h47, hz⟩
  · obtain ⟨v, h24, hf⟩ := unc_fin (op := 167) (i := 126) valu_167 hR hA hbo
    exact ⟨_, _, _, _, q23_167_c _ _ _ _ lo hi N r hc1 _ hbo h24, hf⟩

set_option maxHeartbeats 4000000 in
theorem q23_121_c (a1 a2 a3 a4 : Int) (lo hi N r : Nat) (hc1 : F32 [(lo : Int), (hi : Int), (N : Int), (r : Int), 126] [] = some ([a1, a2, a3, a4], [])) (v : Int) (hbo : ob a1 a2 a3 = true) (h24 : F24 [121, ov a1 a2 a3 a4] [] = some ([v], [true])) : F23 [121, (lo : Int), (hi : Int), (N : Int), (r : Int)] [] = some ([v, v, 64, v], [true]) := by
  refine Eq.trans (Fd_of (n := 5) (m := 0) (t := XTransTight.t23) (C := Tab.fn a23) rfl rfl) ?_
  rw [XTransTight.t23]
  refine st_4_1 (e23_13) (g := true) rfl (l := [121]) rfl (m := []) rfl (cl_t q14_121) fun i5 i6 i7 i8 b0 hi5 hi6 hi7 hi8 hb0 => ?_
  show T.den _ _ [(121 : Int), (lo : Int), (hi : Int), (N : Int), (r : Int), i5, i6, i7, i8] [b0] = _
  refine st_ite (fun hc => ?_) (fun hc => ?_)
  · replace hc : (i5 == 0) = true := hc
    have c1 := hc
    clear hc
    rw [hi5] at c1; exact absurd c1 (by decide)
  · replace hc : (i5 == 0) = false := hc
    have c2 := hc
    clear hc
    refine st_ite (fun hc => ?_) (fun hc => ?_)
    · replace hc : (i5 == 1) = true := hc
      have c3 := hc
      clear hc
      refine st_ite (fun hc => ?_) (fun hc => ?_)
      · replace hc : (!b0) = true := hc
        have c4 := hc
        clear hc
        rw [hb0] at c4; cases c4
      · replace hc : (!b0) = false := hc
        have c5 := hc
        clear hc
        refine st_4_0 (e23_32) (g := true) rfl (l := [(lo : Int), (hi : Int), (N : Int), (r : Int), i6]) rfl (m := []) rfl (cl_t ((show F32 [(lo : Int), (hi : Int), (N : Int), (r : Int), i6] [] = F32 [(lo : Int), (hi : Int), (N : Int), (r : Int), 126] [] from by rw [hi6]).trans hc1)) fun i9 i10 i11 i12 hi9 hi10 hi11 hi12 => ?_
        show T.den _ _ [(121 : Int), (lo : Int), (hi : Int), (N : Int), (r : Int), i5, i6, i7, i8, i9, i10, i11, i12] [b0] = _
        refine st_1_1 (e23_42) (g := true) rfl (l := [i9, i10, i11, i12]) rfl (m := []) rfl (cl_t (q42 i9 i10 i11 i12)) fun i13 b1 hi13 hb1 => ?_
        show T.den _ _ [(121 : Int), (lo : Int), (hi : Int), (N : Int), (r : Int), i5, i6, i7, i8, i9, i10, i11, i12, i13] [b0, b1] = _
        refine st_ite (fun hc => ?_) (fun hc => ?_)
        · replace hc : b1 = true := hc
          have c6 := hc
          clear hc
          refine st_1_1 (e23_24) (g := true) rfl (l := [121, i13]) rfl (m := []) rfl (cl_t ((show F24 [121, i13] [] = F24 [121, ov a1 a2 a3 a4] [] from by rw [hi13, hi9, hi10, hi11, hi12]).trans h24)) fun i14 b2 hi14 hb2 => ?_
          show T.den _ _ [(121 : Int), (lo : Int), (hi : Int), (N : Int), (r : Int), i5, i6, i7, i8, i9, i10, i11, i12, i13, i14] [b0, b1, b2] = _
          refine st_4_0 (e23_20) (g := true) rfl (l := [i14]) rfl (m := []) rfl (cl_t (q20 i14)) fun i15 i16 i17 i18 hi15 hi16 hi17 hi18 => ?_
          show T.den _ _ [(121 : Int), (lo : Int), (hi : Int), (N : Int), (r : Int), i5, i6, i7, i8, i9, i10, i11, i12, i13, i14, i15, i16, i17, i18] [b0, b1, b2] = _
          refine st_ret ?_
          show some ([i15, i16, i17, i18], [true]) = _
          rw [hi15, hi16, hi17, hi18]
          rw [hi14]
        · replace hc : b1 = false := hc
          have c7 := hc
          clear hc
          rw [hb1, hi9, hi10, hi11, hbo] at c7; cases c7
    · replace hc : (i5 == 1) = false := hc
      have c8 := hc
      clear hc
      rw [hi5] at c8; exact absurd c8 (by decide)

def u121_ : Int → Int := fun a => IntKind.wrap .u64 (((64 - Lib.bitLen (a).toNat) : Nat) : Int)

theorem le_121 (a : Int) (h : InR a) : ∃ A : Nat, a = A ∧ A < 18446744073709551616 ∧ ∃ v : Nat, u121_ a = v ∧ v ≤ 64 := by
  obtain ⟨A, h1⟩ := nats h.1
  have h2 : A < 18446744073709551616 := by have := h.2; omega
  have hl := (by omega : 64 - Lib.bitLen A ≤ 64)
  refine ⟨A, h1, h2, _, ?_, hl⟩
  unfold u121_
  rw [h1, Int.toNat_natCast]; exact w64n (by omega)

theorem valu_121 : ValU 121 126 u121_ := by
  refine ⟨fun a h => ?_, fun a h => ?_⟩
  · obtain ⟨A, h1⟩ := nats h.1
    subst h1
    exact q11_121 _ A rfl (by have := h.2; omega)
  · obtain ⟨_, _, _, v, e, hl⟩ := le_121 a h
    exact ⟨v, e, Nat.le_trans hl (by decide)⟩

set_option maxHeartbeats 4000000 in
theorem q23_121_n (a1 a2 a3 a4 : Int) (lo hi N r : Nat) (hc1 : F32 [(lo : Int), (hi : Int), (N : Int), (r : Int), 126] [] = some ([a1, a2, a3, a4], [])) (hbo : ob a1 a2 a3 = false) : F23 [121, (lo : Int), (hi : Int), (N : Int), (r : Int)] [] = some ([0, 64, 0, 0], [true]) := by
  refine Eq.trans (Fd_of (n := 5) (m := 0) (t := XTransTight.t23) (C := Tab.fn a23) rfl rfl) ?_
  rw [XTransTight.t23]
  refine st_4_1 (e23_13) (g := true) rfl (l := [121]) rfl (m := []) rfl (cl_t q14_121) fun i5 i6 i7 i8 b0 hi5 hi6 hi7 hi8 hb0 => ?_
  show T.den _ _ [(121 : Int), (lo : Int), (hi : Int), (N : Int), (r : Int), i5, i6, i7, i8] [b0] = _
  refine st_ite (fun hc => ?_) (fun hc => ?_)
  · replace hc : (i5 == 0) = true := hc
    have c1 := hc
    clear hc
    rw [hi5] at c1; exact absurd c1 (by decide)
  · replace hc : (i5 == 0) = false := hc
    have c2 := hc
    clear hc
    refine st_ite (fun hc => ?_) (fun hc => ?_)
    · replace hc : (i5 == 1) = true := hc
      have c3 := hc
      clear hc
      refine st_ite (fun hc => ?_) (fun hc => ?_)
      · replace hc : (!b0) = true := hc
        have c4 := hc
        clear hc
        rw [hb0] at c4; cases c4
      · replace hc : (!b0) = false := hc
        have c5 := hc
        clear hc
        refine st_4_0 (e23_32) (g := true) rfl (l := [(lo : Int), (hi : Int), (N : Int), (r : Int), i6]) rfl (m := []) rfl (cl_t ((show F32 [(lo : Int), (hi : Int), (N : Int), (r : Int), i6] [] = F32 [(lo : Int), (hi : Int), (N : Int), (r : Int), 126] [] from by rw [hi6]).trans hc1)) fun i9 i10 i11 i12 hi9 hi10 hi11 hi12 => ?_
        show T.den _ _ [(121 : Int), (lo : Int), (hi : Int), (N : Int), (r : Int), i5, i6, i7, i8, i9, i10, i11, i12] [b0] = _
        refine st_1_1 (e23_42) (g := true) rfl (l := [i9, i10, i11, i12]) rfl (m := []) rfl (cl_t (q42 i9 i10 i11 i12)) fun i13 b1 hi13 hb1 => ?_
        show T.den _ _ [(121 : Int), (lo : Int), (hi : Int), (N : Int), (r : Int), i5, i6, i7, i8, i9, i10, i11, i12, i13] [b0, b1] = _
        refine st_ite (fun hc => ?_) (fun hc => ?_)
        · replace hc : b1 = true := hc
          have c6 := hc
          clear hc
          rw [hb1, hi9, hi10, hi11, hbo] at c6; cases c6
        · replace hc : b1 = false := hc
          have c7 := hc
          clear hc
          refine st_itf (show ((121 : Int) == 69) = false from by kernel_rfl) ?_
          refine st_itf (show ((121 : Int) == 80) = false from by kernel_rfl) ?_
          refine st_itf (show ((121 : Int) == 103) = false from by kernel_rfl) ?_
          refine st_itf (show ((121 : Int) == 104) = false from by kernel_rfl) ?_
          refine st_itf (show ((121 : Int) == 105) = false from by kernel_rfl) ?_
          refine st_itt (show ((121 : Int) == 121) = true from by kernel_rfl) ?_
          refine st_itt (show ((121 : Int) == 121) = true from by kernel_rfl) ?_
          refine st_ret ?_
          show some ([0, 64, 0, 0], [true]) = _
          rfl
    · replace hc : (i5 == 1) = false := hc
      have c8 := hc
      clear hc
      rw [hi5] at c8; exact absurd c8 (by decide)

theorem un_121 : UnFin 121 126 126 u121_ := by
  intro lo hi N r h
  obtain ⟨a, b, c, d, hR, hc1, hb, hA⟩ := cut_nat 126 h
  cases hbo : ob (a : Int) b c
  · refine ⟨_, _, _, _, q23_121_n _ _ _ _ lo hi N r hc1 hbo, fh_mono (fin_0 (T := Tn 126) 64 (by decide) (by decide) (by decide)) ?_⟩
    rintro v ⟨n, hn, fn, h1, e⟩
    obtain ⟨_, _, _, v', e', hl⟩ := le_121 n ⟨by omega, by omega⟩
    show v ≤ 64
    omega
  · obtain ⟨v, h24, hf⟩ := unc_fin (op := 121) (i := 126) valu_121 hR hA hbo
    exact ⟨_, _, _, _, q23_121_c _ _ _ _ lo hi N r hc1 _ hbo h24, hf⟩

set_option maxHeartbeats 4000000 in
theorem q23_122_c (a1 a2 a3 a4 : Int) (lo hi N r : Nat) (hc1 : F32 [(lo : Int), (hi : Int), (N : Int), (r : Int), 126] [] = some ([a1, a2, a3, a4], [])) (v : Int) (hbo : ob a1 a2 a3 = true) (h24 : F24 [122, ov a1 a2 a3 a4] [] = some ([v], [true])) : F23 [122, (lo : Int), (hi : Int), (N : Int), (r : Int)] [] = some ([v, v, 64, v], [true]) := by
  refine Eq.trans (Fd_of (n := 5) (m := 0) (t := XTransTight.t23) (C := Tab.fn a23) rfl rfl) ?_
  rw [XTransTight.t23]
  refine st_4_1 (e23_13) (g := true) rfl (l := [122]) rfl (m := []) rfl (cl_t q14_122) fun i5 i6 i7 i8 b0 hi5 hi6 hi7 hi8 hb0 => ?_
  show T.den _ _ [(122 : Int), (lo : Int), (hi : Int), (N : Int), (r : Int), i5, i6, i7, i8] [b0] = _
  refine st_ite (fun hc => ?_) (fun hc => ?_)
  · replace hc : (i5 == 0) = true := hc
    have c1 := hc
    clear hc
    rw [hi5] at c1; exact absurd c1 (by decide)
  · replace hc : (i5 == 0) = false := hc
    have c2 := hc
    clear hc
    refine st_ite (fun hc => ?_) (fun hc => ?_)
    · replace hc : (i5 == 1) = true := hc
      have c3 := hc
      clear hc
      refine st_ite (fun hc => ?_) (fun hc => ?_)
      · replace hc : (!b0) = true := hc
        have c4 := hc
        clear hc
        rw [hb0] at c4; cases c4
      · replace hc : (!b0) = false := hc
        have c5 := hc
        clear hc
        refine st_4_0 (e23_32) (g := true) rfl (l := [(lo : Int), (hi : Int), (N : Int), (r : Int), i6]) rfl (m := []) rfl (cl_t ((show F32 [(lo : Int), (hi : Int), (N : Int), (r : Int), i6] [] = F32 [(lo : Int), (hi : Int), (N : Int), (r : Int), 126] [] from by rw [hi6]).trans hc1)) fun i9 i10 i11 i12 hi9 hi10 hi11 hi12 => ?_
        show T.den _ _ [(122 : Int), (lo : Int), (hi : Int), (N : Int), (r : Int), i5, i6, i7, i8, i9, i10, i11, i12] [b0] = _
        refine st_1_1 (e23_42) (g := true) rfl (l := [i9, i10, i11, i12]) rfl (m := []) rfl (cl_t (q42 i9 i10 i11 i12)) fun i13 b1 hi13 hb1 => ?_
        show T.den _ _ [(122 : Int), (lo : Int), (hi : Int), (N : Int), (r : Int), i5, i6, i7, i8, i9, i10, i11, i12, i13] [b0, b1] = _
        refine st_ite (fun hc => ?_) (fun hc => ?_)
        · replace hc : b1 = true := hc
          have c6 := hc
          clear hc
          refine st_1_1 (e23_24) (g := true) rfl (l := [122, i13]) rfl (m := []) rfl (cl_t ((show F24 [122, i13] [] = F24 [122, ov a1 a2 a3 a4] [] from by rw [hi13, hi9, hi10, hi11, hi12]).trans h24)) fun i14 b2 hi14 hb2 => ?_
          show T.den _ _ [(122 : Int), (lo : Int), (hi : Int), (N : Int), (r : Int), i5, i6, i7, i8, i9, i10, i11, i12, i13, i14] [b0, b1, b2] = _
          refine st_4_0 (e23_20) (g := true) rfl (l := [i14]) rfl (m := []) rfl (cl_t (q20 i14)) fun i15 i16 i17 i18 hi15 hi16 hi17 hi18 => ?_
          show T.den _ _ [(122 : Int), (lo : Int), (hi : Int), (N : Int), (r : Int), i5, i6, i7, i8, i9, i10, i11, i12, i13, i14, i15, i16, i17, i18] [b0, b1, b2] = _
          refine st_ret ?_
          show some ([i15, i16, i17, i18], [true]) = _
          rw [hi15, hi16, hi17, hi18]
          rw [hi14]
        · replace hc : b1 = false := hc
          have c7 := hc
          clear hc
          rw [hb1, hi9, hi10, hi11, hbo] at c7; cases c7
    · replace hc : (i5 == 1) = false := hc
      have c8 := hc
      clear hc
      rw [hi5] at c8; exact absurd c8 (by decide)

def u122_ : Int → Int := fun a => IntKind.wrap .u64 (((Lib.ctz 64 (a).toNat) : Nat) : Int)

theorem le_122 (a : Int) (h : InR a) : ∃ A : Nat, a = A ∧ A < 18446744073709551616 ∧ ∃ v : Nat, u122_ a = v ∧ v ≤ 64 := by
  obtain ⟨A, h1⟩ := nats h.1
  have h2 : A < 18446744073709551616 := by have := h.2; omega
  have hl := ctz_le 64 A h2
  refine ⟨A, h1, h2, _, ?_, hl⟩
  unfold u122_
  rw [h1, Int.toNat_natCast]; exact w64n (by omega)

theorem valu_122 : ValU 122 126 u122_ := by
  refine ⟨fun a h => ?_, fun a h => ?_⟩
  · obtain ⟨A, h1⟩ := nats h.1
    subst h1
    exact q11_122 _ A rfl (by have := h.2; omega)
  · obtain ⟨_, _, _, v, e, hl⟩ := le_122 a h
    exact ⟨v, e, Nat.le_trans hl (by decide)⟩

set_option maxHeartbeats 4000000 in
theorem q23_122_n (a1 a2 a3 a4 : Int) (lo hi N r : Nat) (hc1 : F32 [(lo : Int), (hi : Int), (N : Int), (r : Int), 126] [] = some ([a1, a2, a3, a4], [])) (hbo : ob a1 a2 a3 = false) : F23 [122, (lo : Int), (hi : Int), (N : Int), (r : Int)] [] = some ([0, 64, 0, 0], [true]) := by
  refine Eq.trans (Fd_of (n := 5) (m := 0) (t := XTransTight.t23) (C := Tab.fn a23) rfl rfl) ?_
  rw [XTransTight.t23]
  refine st_4_1 (e23_13) (g := true) rfl (l := [122]) rfl (m := []) rfl (cl_t q14_122) fun i5 i6 i7 i8 b0 hi5 hi6 hi7 hi8 hb0 => ?_
  show T.den _ _ [(122 : Int), (lo : Int), (hi : Int), (N : Int), (r : Int), i5, i6, i7, i8] [b0] = _
  refine st_ite (fun hc => ?_) (fun hc => ?_)
  · replace hc : (i5 == 0) = true := hc
    have c1 := hc
    clear hc
    rw [hi5] at c1; exact absurd c1 (by decide)
  · replace hc : (i5 == 0) = false := hc
    have c2 := hc
    clear hc
    refine st_ite (fun hc => ?_) (fun hc => ?_)
    · replace hc : (i5 == 1) = true := hc
      have c3 := hc
      clear hc
      refine st_ite (fun hc => ?_) (fun hc => ?_)
      · replace hc : (!b0) = true := hc
        have c4 := hc
        clear hc
        rw [hb0] at c4; cases c4
      · replace hc : (!b0) = false := hc
        have c5 := hc
        clear hc
        refine st_4_0 (e23_32) (g := true) rfl (l := [(lo : Int), (hi : Int), (N : Int), (r : Int), i6]) rfl (m := []) rfl (cl_t ((show F32 [(lo : Int), (hi : Int), (N : Int), (r : Int), i6] [] = F32 [(lo : Int), (hi : Int), (N : Int), (r : Int), 126] [] from by rw [hi6]).trans hc1)) fun i9 i10 i11 i12 hi9 hi10 hi11 hi12 => ?_
        show T.den _ _ [(122 : Int), (lo : Int), (hi : Int), (N : Int), (r : Int), i5, i6, i7, i8, i9, i10, i11, i12] [b0] = _
        refine st_1_1 (e23_42) (g := true) rfl (l := [i9, i10, i11, i12]) rfl (m := []) rfl (cl_t (q42 i9 i10 i11 i12)) fun i13 b1 hi13 hb1 => ?_
        show T.den _ _ [(122 : Int), (lo : Int), (hi : Int), (N : Int), (r : Int), i5, i6, i7, i8, i9, i10, i11, i12, i13] [b0, b1] = _
        refine st_ite (fun hc => ?_) (fun hc => ?_)
        · replace hc : b1 = true := hc
          have c6 := hc
          clear hc
          rw [hb1, hi9, hi10, hi11, hbo] at c6; cases c6
        · replace hc : b1 = false := hc
          have c7 := hc
          clear hc
          refine st_itf (show ((122 : Int) == 69) = false from by kernel_rfl) ?_
          refine st_itf (show ((122 : Int) == 80) = false from by kernel_rfl) ?_
          refine st_itf (show ((122 : Int) == 103) = false from by kernel_rfl) ?_
          refine st_itf (show ((122 : Int) == 104) = false from by kernel_rfl) ?_
          refine st_itf (show ((122 : Int) == 105) = false from by kernel_rfl) ?_
          refine st_itf (show ((122 : Int) == 121) = false from by kernel_rfl) ?_
          refine st_itt (show ((122 : Int) == 122) = true from by kernel_rfl) ?_
          refine st_itt (show ((122 : Int) == 122) = true from by kernel_rfl) ?_
          refine st_ret ?_
          show some ([0, 64, 0, 0], [true]) = _
          rfl
    · replace hc : (i5 == 1) = false := hc
      have c8 := hc
      clear hc
      rw [hi5] at c8; exact absurd c8 (by decide)

theorem un_122 : UnFin 122 126 126 u122_ := by
  intro lo hi N r h
  obtain ⟨a, b, c, d, hR, hc1, hb, hA⟩ := cut_nat 126 h
  cases hbo : ob (a : Int) b c
  · refine ⟨_, _, _, _, q23_122_n _ _ _ _ lo hi N r hc1 hbo, fh_mono (fin_0 (T := Tn 126) 64 (by decide) (by decide) (by decide)) ?_⟩
    rintro v ⟨n, hn, fn, h1, e⟩
    obtain ⟨_, _, _, v', e', hl⟩ := le_122 n ⟨by omega, by omega⟩
    show v ≤ 64
    omega
  · obtain ⟨v, h24, hf⟩ := unc_fin (op := 122) (i := 126) valu_122 hR hA hbo
    exact ⟨_, _, _, _, q23_122_c _ _ _ _ lo hi N r hc1 _ hbo h24, hf⟩

set_option maxHeartbeats 4000000 in
theorem q23_123_c (a1 a2 a3 a4 : Int) (lo hi N r : Nat) (hc1 : F32 [(lo : Int), (hi : Int), (N : Int), (r : Int), 126] [] = some ([a1, a2, a3, a4], [])) (v : Int) (hbo : ob a1 a2 a3 = true) (h24 : F24 [123, ov a1 a2 a3 a4] [] = some ([v], [true])) : F23 [123, (lo : Int), (hi : Int), (N : Int), (r : Int)] [] = some ([v, v, 64, v], [true]) := by
  refine Eq.trans (Fd_of (n := 5) (m := 0) (t := XTransTight.t23) (C := Tab.fn a23) rfl rfl) ?_
  rw [XTransTight.t23]
  refine st_4_1 (e23_13) (g := true) rfl (l := [123]) rfl (m := []) rfl (cl_t q14_123) fun i5 i6 i7 i8 b0 hi5 hi6 hi7 hi8 hb0 => ?_
  show T.den _ _ [(123 : Int), (lo : Int), (hi : Int), (N : Int), (r : Int), i5, i6, i7, i8] [b0] = _
  refine st_ite (fun hc => ?_) (fun hc => ?_)
  · replace hc : (i5 == 0) = true := hc
    have c1 := hc
    clear hc
    rw [hi5] at c1; exact absurd c1 (by decide)
  · replace hc : (i5 == 0) = false := hc
    have c2 := hc
    clear hc
    refine st_ite (fun hc => ?_) (fun hc => ?_)
    · replace hc : (i5 == 1) = true := hc
      have c3 := hc
      clear hc
      refine st_ite (fun hc => ?_) (fun hc => ?_)
      · replace hc : (!b0) = true := hc
        have c4 := hc
        clear hc
        rw [hb0] at c4; cases c4
      · replace hc : (!b0) = false := hc
        have c5 := hc
        clear hc
        refine st_4_0 (e23_32) (g := true) rfl (l := [(lo : Int), (hi : Int), (N : Int), (r : Int), i6]) rfl (m := []) rfl (cl_t ((show F32 [(lo : Int), (hi : Int), (N : Int), (r : Int), i6] [] = F32 [(lo : Int), (hi : Int), (N : Int), (r : Int), 126] [] from by rw [hi6]).trans hc1)) fun i9 i10 i11 i12 hi9 hi10 hi11 hi12 => ?_
        show T.den _ _ [(123 : Int), (lo : Int), (hi : Int), (N : Int), (r : Int), i5, i6, i7, i8, i9, i10, i11, i12] [b0] = _
        refine st_1_1 (e23_42) (g := true) rfl (l := [i9, i10, i11, i12]) rfl (m := []) rfl (cl_t (q42 i9 i10 i11 i12)) fun i13 b1 hi13 hb1 => ?_
        show T.den _ _ [(123 : Int), (lo : Int), (hi : Int), (N : Int), (r : Int), i5, i6, i7, i8, i9, i10, i11, i12, i13] [b0, b1] = _
        refine st_ite (fun hc => ?_) (fun hc => ?_)
        · replace hc : b1 = true := hc
          have c6 := hc
          clear hc
          refine st_1_1 (e23_24) (g := true) rfl (l := [123, i13]) rfl (m := []) rfl (cl_t ((show F24 [123, i13] [] = F24 [123, ov a1 a2 a3 a4] [] from by rw [hi13, hi9, hi10, hi11, hi12]).trans h24)) fun i14 b2 hi14 hb2 => ?_
          show T.den _ _ [(123 : Int), (lo : Int), (hi : Int), (N : Int), (r : Int), i5, i6, i7, i8, i9, i10, i11, i12, i13, i14] [b0, b1, b2] = _
          refine st_4_0 (e23_20) (g := true) rfl (l := [i14]) rfl (m := []) rfl (cl_t (q20 i14)) fun i15 i16 i17 i18 hi15 hi16 hi17 hi18 => ?_
          show T.den _ _ [(123 : Int), (lo : Int), (hi : Int), (N : Int), (r : Int), i5, i6, i7, i8, i9, i10, i11, i12, i13, i14, i15, i16, i17, i18] [b0, b1, b2] = _
          refine st_ret ?_
          show some ([i15, i16, i17, i18], [true]) = _
          rw [hi15, hi16, hi17, hi18]
          rw [hi14]
        · replace hc : b1 = false := hc
          have c7 := hc
          clear hc
          rw [hb1, hi9, hi10, hi11, hbo] at c7; cases c7
    · replace hc : (i5 == 1) = false := hc
      have c8 := hc
      clear hc
      rw [hi5] at c8; exact absurd c8 (by decide)

def u123_ : Int → Int := fun a => IntKind.wrap .u64 (((pop (a).toNat) : Nat) : Int)

theorem le_123 (a : Int) (h : InR a) : ∃ A : Nat, a = A ∧ A < 18446744073709551616 ∧ ∃ v : Nat, u123_ a = v ∧ v ≤ 64 := by
  obtain ⟨A, h1⟩ := nats h.1
  have h2 : A < 18446744073709551616 := by have := h.2; omega
  have hl := pop_le A
  refine ⟨A, h1, h2, _, ?_, hl⟩
  unfold u123_
  rw [h1, Int.toNat_natCast]; exact w64n (by omega)

theorem valu_123 : ValU 123 126 u123_ := by
  refine ⟨fun a h => ?_, fun a h => ?_⟩
  · obtain ⟨A, h1⟩ := nats h.1
    subst h1
    exact q11_123 _ A rfl (by have := h.2; omega)
  · obtain ⟨_, _, _, v, e, hl⟩ := le_123 a h
    exact ⟨v, e, Nat.le_trans hl (by decide)⟩

set_option maxHeartbeats 4000000 in
theorem q23_123_n (a1 a2 a3 a4 : Int) (lo hi N r : Nat) (hc1 : F32 [(lo : Int), (hi : Int), (N : Int), (r : Int), 126] [] = some ([a1, a2, a3, a4], [])) (hbo : ob a1 a2 a3 = false) : F23 [123, (lo : Int), (hi : Int), (N : Int), (r : Int)] [] = some ([0, 64, 0, 0], [true]) := by
  refine Eq.trans (Fd_of (n := 5) (m := 0) (t := XTransTight.t23) (C := Tab.fn a23) rfl rfl) ?_
  rw [XTransTight.t23]
  refine st_4_1 (e23_13) (g := true) rfl (l := [123]) rfl (m := []) rfl (cl_t q14_123) fun i5 i6 i7 i8 b0 hi5 hi6 hi7 hi8 hb0 => ?_
  show T.den _ _ [(123 : Int), (lo : Int), (hi : Int), (N : Int), (r : Int), i5, i6, i7, i8] [b0] = _
  refine st_ite (fun hc => ?_) (fun hc => ?_)
  · replace hc : (i5 == 0) = true := hc
    have c1 := hc
    clear hc
    rw [hi5] at c1; exact absurd c1 (by decide)
  · replace hc : (i5 == 0) = false := hc
    have c2 := hc
    clear hc
    refine st_ite (fun hc => ?_) (fun hc => ?_)
    · replace hc : (i5 == 1) = true := hc
      have c3 := hc
      clear hc
      refine st_ite (fun hc => ?_) (fun hc => ?_)
      · replace hc : (!b0) = true := hc
        have c4 := hc
        clear hc
        rw [hb0] at c4; cases c4
      · replace hc : (!b0) = false := hc
        have c5 := hc
        clear hc
        refine st_4_0 (e23_32) (g := true) rfl (l := [(lo : Int), (hi : Int), (N : Int), (r : Int), i6]) rfl (m := []) rfl (cl_t ((show F32 [(lo : Int), (hi : Int), (N : Int), (r : Int), i6] [] = F32 [(lo : Int), (hi : Int), (N : Int), (r : Int), 126] [] from by rw [hi6]).trans hc1)) fun i9 i10 i11 i12 hi9 hi10 hi11 hi12 => ?_
        show T.den _ _ [(123 : Int), (lo : Int), (hi : Int), (N : Int), (r : Int), i5, i6, i7, i8, i9, i10, i11, i12] [b0] = _
        refine st_1_1 (e23_42) (g := true) rfl (l := [i9, i10, i11, i12]) rfl (m := []) rfl (cl_t (q42 i9 i10 i11 i12)) fun i13 b1 hi13 hb1 => ?_
        show T.den _ _ [(123 : Int), (lo : Int), (hi : Int), (N : Int), (r : Int), i5, i6, i7, i8, i9, i10, i11, i12, i13] [b0, b1] = _
        refine st_ite (fun hc => ?_) (fun hc => ?_)
        · replace hc : b1 = true := hc
          have c6 := hc
          clear hc
          rw [hb1, hi9, hi10, hi11, hbo] at c6; cases c6
        · replace hc : b1 = false := hc
          have c7 := hc
          clear hc
          refine st_itf (show ((123 : Int) == 69) = false from by kernel_rfl) ?_
          refine st_itf (show ((123 : Int) == 80) = false from by kernel_rfl) ?_
          refine st_itf (show ((123 : Int) == 103) = false from by kernel_rfl) ?_
          refine st_itf (show ((123 : Int) == 104) = false from by kernel_rfl) ?_
          refine st_itf (show ((123 : Int) == 105) = false from by kernel_rfl) ?_
          refine st_itf (show ((123 : Int) == 121) = false from by kernel_rfl) ?_
          refine st_itf (show ((123 : Int) == 122) = false from by kernel_rfl) ?_
          refine st_itt (show ((123 : Int) == 123) = true from by kernel_rfl) ?_
          refine st_ret ?_
          show some ([0, 64, 0, 0], [true]) = _
          rfl
    · replace hc : (i5 == 1) = false := hc
      have c8 := hc
      clear hc
      rw [hi5] at c8; exact absurd c8 (by decide)

theorem un_123 : UnFin 123 126 126 u123_ := by
  intro lo hi N r h
  obtain ⟨a, b, c, d, hR, hc1, hb, hA⟩ := cut_nat 126 h
  cases hbo : ob (a : Int) b c
  · refine ⟨_, _, _, _, q23_123_n _ _ _ _ lo hi N r hc1 hbo, fh_mono (fin_0 (T := Tn 126) 64 (by decide) (by decide) (by decide)) ?_⟩
    rintro v ⟨n, hn, fn, h1, e⟩
    obtain ⟨_, _, _, v', e', hl⟩ := le_123 n ⟨by omega, by omega⟩
    show v ≤ 64
    omega
  · obtain ⟨v, h24, hf⟩ := unc_fin (op := 123) (i := 126) valu_123 hR hA hbo
    exact ⟨_, _, _, _, q23_123_c _ _ _ _ lo hi N r hc1 _ hbo h24, hf⟩

set_option maxHeartbeats 4000000 in
theorem q23_194_c (a1 a2 a3 a4 : Int) (lo hi N r : Nat) (hc1 : F32 [(lo : Int), (hi : Int), (N : Int), (r : Int), 126] [] = some ([a1, a2, a3, a4], [])) (v : Int) (hbo : ob a1 a2 a3 = true) (h24 : F24 [194, ov a1 a2 a3 a4] [] = some ([v], [true])) : F23 [194, (lo : Int), (hi : Int), (N : Int), (r : Int)] [] = some ([v, v, 64, v], [true]) := by
  refine Eq.trans (Fd_of (n := 5) (m := 0) (t := XTransTight.t23) (C := Tab.fn a23) rfl rfl) ?_
  rw [XTransTight.t23]
  refine st_4_1 (e23_13) (g := true) rfl (l := [194]) rfl (m := []) rfl (cl_t q14_194) fun i5 i6 i7 i8 b0 hi5 hi6 hi7 hi8 hb0 => ?_
  show T.den _ _ [(194 : Int), (lo : Int), (hi : Int), (N : Int), (r : Int), i5, i6, i7, i8] [b0] = _
  refine st_ite (fun hc => ?_) (fun hc => ?_)
  · replace hc : (i5 == 0) = true := hc
    have c1 := hc
    clear hc
    rw [hi5] at c1; exact absurd c1 (by decide)
  · replace hc : (i5 == 0) = false := hc
    have c2 := hc
    clear hc
    refine st_ite (fun hc => ?_) (fun hc => ?_)
    · replace hc : (i5 == 1) = true := hc
      have c3 := hc
      clear hc
      refine st_ite (fun hc => ?_) (fun hc => ?_)
      · replace hc : (!b0) = true := hc
        have c4 := hc
        clear hc
        rw [hb0] at c4; cases c4
      · replace hc : (!b0) = false := hc
        have c5 := hc
        clear hc
        refine st_4_0 (e23_32) (g := true) rfl (l := [(lo : Int), (hi : Int), (N : Int), (r : Int), i6]) rfl (m := []) rfl (cl_t ((show F32 [(lo : Int), (hi : Int), (N : Int), (r : Int), i6] [] = F32 [(lo : Int), (hi : Int), (N : Int), (r : Int), 126] [] from by rw [hi6]).trans hc1)) fun i9 i10 i11 i12 hi9 hi10 hi11 hi12 => ?_
        show T.den _ _ [(194 : Int), (lo : Int), (hi : Int), (N : Int), (r : Int), i5, i6, i7, i8, i9, i10, i11, i12] [b0] = _
        refine st_1_1 (e23_42) (g := true) rfl (l := [i9, i10, i11, i12]) rfl (m := []) rfl (cl_t (q42 i9 i10 i11 i12)) fun i13 b1 hi13 hb1 => ?_
        show T.den _ _ [(194 : Int), (lo : Int), (hi : Int), (N : Int), (r : Int), i5, i6, i7, i8, i9, i10, i11, i12, i13] [b0, b1] = _
        refine st_ite (fun hc => ?_) (fun hc => ?_)
        · replace hc : b1 = true := hc
          have c6 := hc
          clear hc
          refine st_1_1 (e23_24) (g := true) rfl (l := [194, i13]) rfl (m := []) rfl (cl_t ((show F24 [194, i13] [] = F24 [194, ov a1 a2 a3 a4] [] from by rw [hi13, hi9, hi10, hi11, hi12]).trans h24)) fun i14 b2 hi14 hb2 => ?_
          show T.den _ _ [(194 : Int), (lo : Int), (hi : Int), (N : Int), (r : Int), i5, i6, i7, i8, i9, i10, i11, i12, i13, i14] [b0, b1, b2] = _
          refine st_4_0 (e23_20) (g := true) rfl (l := [i14]) rfl (m := []) rfl (cl_t (q20 i14)) fun i15 i16 i17 i18 hi15 hi16 hi17 hi18 => ?_
          show T.den _ _ [(194 : Int), (lo : Int), (hi : Int), (N : Int), (r : Int), i5, i6, i7, i8, i9, i10, i11, i12, i13, i14, i15, i16, i17, i18] [b0, b1, b2] = _
          refine st_ret ?_
          show some ([i15, i16, i17, i18], [true]) = _
          rw [hi15, hi16, hi17, hi18]
          rw [hi14]
        · replace hc : b1 = false := hc
          have c7 := hc
          clear hc
          rw [hb1, hi9, hi10, hi11, hbo] at c7; cases c7
    · replace hc : (i5 == 1) = false := hc
      have c8 := hc
      clear hc
      rw [hi5] at c8; exact absurd c8 (by decide)

def u194_ : Int → Int := fun a => (IntKind.wrap .u64 (IntKind.wrap .i64 (IntKind.wrap .i8 a)))

theorem valu_194 : ValU 194 126 u194_ := ⟨fun a _ => q11_194 a, fun a h => fin64 (wrap_in _)⟩

set_option maxHeartbeats 4000000 in
theorem q23_194_n (a1 a2 a3 a4 : Int) (lo hi N r : Nat) (hc1 : F32 [(lo : Int), (hi : Int), (N : Int), (r : Int), 126] [] = some ([a1, a2, a3, a4], [])) (hbo : ob a1 a2 a3 = false) : F23 [194, (lo : Int), (hi : Int), (N : Int), (r : Int)] [] = some ([0, ((Tn 126 : Nat) : Int), 0, 0], [true]) := by
  refine Eq.trans (Fd_of (n := 5) (m := 0) (t := XTransTight.t23) (C := Tab.fn a23) rfl rfl) ?_
  rw [XTransTight.t23]
  refine st_4_1 (e23_13) (g := true) rfl (l := [194]) rfl (m := []) rfl (cl_t q14_194) fun i5 i6 i7 i8 b0 hi5 hi6 hi7 hi8 hb0 => ?_
  show T.den _ _ [(194 : Int), (lo : Int), (hi : Int), (N : Int), (r : Int), i5, i6, i7, i8] [b0] = _
  refine st_ite (fun hc => ?_) (fun hc => ?_)
  · replace hc : (i5 == 0) = true := hc
    have c1 := hc
    clear hc
    rw [hi5] at c1; exact absurd c1 (by decide)
  · replace hc : (i5 == 0) = false := hc
    have c2 := hc
    clear hc
    refine st_ite (fun hc => ?_) (fun hc => ?_)
    · replace hc : (i5 == 1) = true := hc
      have c3 := hc
      clear hc
      refine st_ite (fun hc => ?_) (fun hc => ?_)
      · replace hc : (!b0) = true := hc
        have c4 := hc
        clear hc
        rw [hb0] at c4; cases c4
      · replace hc : (!b0) = false := hc
        have c5 := hc
        clear hc
        refine st_4_0 (e23_32) (g := true) rfl (l := [(lo : Int), (hi : Int), (N : Int), (r : Int), i6]) rfl (m := []) rfl (cl_t ((show F32 [(lo : Int), (hi : Int), (N : Int), (r : Int), i6] [] = F32 [(lo : Int), (hi : Int), (N : Int), (r : Int), 126] [] from by rw [hi6]).trans hc1)) fun i9 i10 i11 i12 hi9 hi10 hi11 hi12 => ?_
        show T.den _ _ [(194 : Int), (lo : Int), (hi : Int), (N : Int), (r : Int), i5, i6, i7, i8, i9, i10, i11, i12] [b0] = _
        refine st_1_1 (e23_42) (g := true) rfl (l := [i9, i10, i11, i12]) rfl (m := []) rfl (cl_t (q42 i9 i10 i11 i12)) fun i13 b1 hi13 hb1 => ?_
        show T.den _ _ [(194 : Int), (lo : Int), (hi : Int), (N : Int), (r : Int), i5, i6, i7, i8, i9, i10, i11, i12, i13] [b0, b1] = _
        refine st_ite (fun hc => ?_) (fun hc => ?_)
        · replace hc : b1 = true := hc
          have c6 := hc
          clear hc
          rw [hb1, hi9, hi10, hi11, hbo] at c6; cases c6
        · replace hc : b1 = false := hc
          have c7 := hc
          clear hc
          refine st_itf (show ((194 : Int) == 69) = false from by kernel_rfl) ?_
          refine st_itf (show ((194 : Int) == 80) = false from by kernel_rfl) ?_
          refine st_itf (show ((194 : Int) == 103) = false from by kernel_rfl) ?_
          refine st_itf (show ((194 : Int) == 104) = false from by kernel_rfl) ?_
          refine st_itf (show ((194 : Int) == 105) = false from by kernel_rfl) ?_
          refine st_itf (show ((194 : Int) == 121) = false from by kernel_rfl) ?_
          refine st_itf (show ((194 : Int) == 122) = false from by kernel_rfl) ?_
          refine st_itf (show ((194 : Int) == 123) = false from by kernel_rfl) ?_
          refine st_itf (show ((194 : Int) == 167) = false from by kernel_rfl) ?_
          refine st_itf (show ((194 : Int) == 173) = false from by kernel_rfl) ?_
          refine st_4_0 (e23_26) (g := true) rfl (l := [i8]) rfl (m := []) rfl (cl_t (q26_t i8)) fun i14 i15 i16 i17 hi14 hi15 hi16 hi17 => ?_
          show T.den _ _ [(194 : Int), (lo : Int), (hi : Int), (N : Int), (r : Int), i5, i6, i7, i8, i9, i10, i11, i12, i13, i14, i15, i16, i17] [b0, b1] = _
          refine st_ret ?_
          show some ([i14, i15, i16, i17], [true]) = _
          rw [hi14, hi15, hi16, hi17]
          rw [hi8]
    · replace hc : (i5 == 1) = false := hc
      have c8 := hc
      clear hc
      rw [hi5] at c8; exact absurd c8 (by decide)

theorem un_194 : UnFin 194 126 126 u194_ := by
  intro lo hi N r h
  obtain ⟨a, b, c, d, hR, hc1, hb, hA⟩ := cut_nat 126 h
  cases hbo : ob (a : Int) b c
  · exact ⟨_, _, _, _, q23_194_n _ _ _ _ lo hi N r hc1 hbo, unt_fin valu_194 lo hi N r⟩
  · obtain ⟨v, h24, hf⟩ := unc_fin (op := 194) (i := 126) valu_194 hR hA hbo
    exact ⟨_, _, _, _, q23_194_c _ _ _ _ lo hi N r hc1 _ hbo h24, hf⟩

set_option maxHeartbeats 4000000 in
theorem q23_195_c (a1 a2 a3 a4 : Int) (lo hi N r : Nat) (hc1 : F32 [(lo : Int), (hi : Int), (N : Int), (r : Int), 126] [] = some ([a1, a2, a3, a4], [])) (v : Int) (hbo : ob a1 a2 a3 = true) (h24 : F24 [195, ov a1 a2 a3 a4] [] = some ([v], [true])) : F23 [195, (lo : Int), (hi : Int), (N : Int), (r : Int)] [] = some ([v, v, 64, v], [true]) := by
  refine Eq.trans (Fd_of (n := 5) (m := 0) (t := XTransTight.t23) (C := Tab.fn a23) rfl rfl) ?_
  rw [XTransTight.t23]
  refine st_4_1 (e23_13) (g := true) rfl (l := [195]) rfl (m := []) rfl (cl_t q14_195) fun i5 i6 i7 i8 b0 hi5 hi6 hi7 hi8 hb0 => ?_
  show T.den _ _ [(195 : Int), (lo : Int), (hi : Int), (N : Int), (r : Int), i5, i6, i7, i8] [b0] = _
  refine st_ite (fun hc => ?_) (fun hc => ?_)
  · replace hc : (i5 == 0) = true := hc
    have c1 := hc
    clear hc
    rw [hi5] at c1; exact absurd c1 (by decide)
  · replace hc : (i5 == 0) = false := hc
    have c2 := hc
    clear hc
    refine st_ite (fun hc => ?_) (fun hc => ?_)
    · replace hc : (i5 == 1) = true := hc
      have c3 := hc
      clear hc
      refine st_ite (fun hc => ?_) (fun hc => ?_)
      · replace hc : (!b0) = true := hc
        have c4 := hc
        clear hc
        rw [hb0] at c4; cases c4
      · replace hc : (!b0) = false := hc
        have c5 := hc
        clear hc
        refine st_4_0 (e23_32) (g := true) rfl (l := [(lo : Int), (hi : Int), (N : Int), (r : Int), i6]) rfl (m := []) rfl (cl_t ((show F32 [(lo : Int), (hi : Int), (N : Int), (r : Int), i6] [] = F32 [(lo : Int), (hi : Int), (N : Int), (r : Int), 126] [] from by rw [hi6]).trans hc1)) fun i9 i10 i11 i12 hi9 hi10 hi11 hi12 => ?_
        show T.den _ _ [(195 : Int), (lo : Int), (hi : Int), (N : Int), (r : Int), i5, i6, i7, i8, i9, i10, i11, i12] [b0] = _
        refine st_1_1 (e23_42) (g := true) rfl (l := [i9, i10, i11, i12]) rfl (m := []) rfl (cl_t (q42 i9 i10 i11 i12)) fun i13 b1 hi13 hb1 => ?_
        show T.den _ _ [(195 : Int), (lo : Int), (hi : Int), (N : Int), (r : Int), i5, i6, i7, i8, i9, i10, i11, i12, i13] [b0, b1] = _
        refine st_ite (fun hc => ?_) (fun hc => ?_)
        · replace hc : b1 = true := hc
          have c6 := hc
          clear hc
          refine st_1_1 (e23_24) (g := true) rfl (l := [195, i13]) rfl (m := []) rfl (cl_t ((show F24 [195, i13] [] = F24 [195, ov a1 a2 a3 a4] [] from by rw [hi13, hi9, hi10, hi11, hi12]).trans h24)) fun i14 b2 hi14 hb2 => ?_
          show T.den _ _ [(195 : Int), (lo : Int), (hi : Int), (N : Int), (r : Int), i5, i6, i7, i8, i9, i10, i11, i12, i13, i14] [b0, b1, b2] = _
          refine st_4_0 (e23_20) (g := true) rfl (l := [i14]) rfl (m := []) rfl (cl_t (q20 i14)) fun i15 i16 i17 i18 hi15 hi16 hi17 hi18 => ?_
          show T.den _ _ [(195 : Int), (lo : Int), (hi : Int), (N : Int), (r : Int), i5, i6, i7, i8, i9, i10, i11, i12, i13, i14, i15, i16, i17, i18] [b0, b1, b2] = _
          refine st_ret ?_
          show some ([i15, i16, i17, i18], [true]) = _
          rw [hi15, hi16, hi17, hi18]
          rw [hi14]
        · replace hc : b1 = false := hc
          have c7 := hc
          clear hc
          rw [hb1, hi9, hi10, hi11, hbo] at c7; cases c7
    · replace hc : (i5 == 1) = false := hc
      have c8 := hc
      clear hc
      rw [hi5] at c8; exact absurd c8 (by decide)

def u195_ : Int → Int := fun a => (IntKind.wrap .u64 (IntKind.wrap .i64 (IntKind.wrap .i16 a)))

theorem valu_195 : ValU 195 126 u195_ := ⟨fun a _ => q11_195 a, fun a h => fin64 (wrap_in _)⟩

set_option maxHeartbeats 4000000 in
theorem q23_195_n (a1 a2 a3 a4 : Int) (lo hi N r : Nat) (hc1 : F32 [(lo : Int), (hi : Int), (N : Int), (r : Int), 126] [] = some ([a1, a2, a3, a4], [])) (hbo : ob a1 a2 a3 = false) : F23 [195, (lo : Int), (hi : Int), (N : Int), (r : Int)] [] = some ([0, ((Tn 126 : Nat) : Int), 0, 0], [true]) := by
  refine Eq.trans (Fd_of (n := 5) (m := 0) (t := XTransTight.t23) (C := Tab.fn a23) rfl rfl) ?_
  rw [XTransTight.t23]
  refine st_4_1 (e23_13) (g := true) rfl (l := [195]) rfl (m := []) rfl (cl_t q14_195) fun i5 i6 i7 i8 b0 hi5 hi6 hi7 hi8 hb0 => ?_
  show T.den _ _ [(195 : Int), (lo : Int), (hi : Int), (N : Int), (r : Int), i5, i6, i7, i8] [b0] = _
  refine st_ite (fun hc => ?_) (fun hc => ?_)
  · replace hc : (i5 == 0) = true := hc
    have c1 := hc
    clear hc
    rw [hi5] at c1; exact absurd c1 (by decide)
  · replace hc : (i5 == 0) = false := hc
    have c2 := hc
    clear hc
    refine st_ite (fun hc => ?_) (fun hc => ?_)
    · replace hc : (i5 == 1) = true := hc
      have c3 := hc
      clear hc
      refine st_ite (fun hc => ?_) (fun hc => ?_)
      · replace hc : (!b0) = true := hc
        have c4 := hc
        clear hc
        rw [hb0] at c4; cases c4
      · replace hc : (!b0) = false := hc
        have c5 := hc
        clear hc
        refine st_4_0 (e23_32) (g := true) rfl (l := [(lo : Int), (hi : Int), (N : Int), (r : Int), i6]) rfl (m := []) rfl (cl_t ((show F32 [(lo : Int), (hi : Int), (N : Int), (r : Int), i6] [] = F32 [(lo : Int), (hi : Int), (N : Int), (r : Int), 126] [] from by rw [hi6]).trans hc1)) fun i9 i10 i11 i12 hi9 hi10 hi11 hi12 => ?_
        show T.den _ _ [(195 : Int), (lo : Int), (hi : Int), (N : Int), (r : Int), i5, i6, i7, i8, i9, i10, i11, i12] [b0] = _
        refine st_1_1 (e23_42) (g := true) rfl (l := [i9, i10, i11, i12]) rfl (m := []) rfl (cl_t (q42 i9 i10 i11 i12)) fun i13 b1 hi13 hb1 => ?_
        show T.den _ _ [(195 : Int), (lo : Int), (hi : Int), (N : Int), (r : Int), i5, i6, i7, i8, i9, i10, i11, i12, i13] [b0, b1] = _
        refine st_ite (fun hc => ?_) (fun hc => ?_)
        · replace hc : b1 = true := hc
          have c6 := hc
          clear hc
          rw [hb1, hi9, hi10, hi11, hbo] at c6; cases c6
        · replace hc : b1 = false := hc
          have c7 := hc
          clear hc
          refine st_itf (show ((195 : Int) == 69) = false from by kernel_rfl) ?_
          refine st_itf (show ((195 : Int) == 80) = false from by kernel_rfl) ?_
          refine st_itf (show ((195 : Int) == 103) = false from by kernel_rfl) ?_
          refine st_itf (show ((195 : Int) == 104) = false from by kernel_rfl) ?_
          refine st_itf (show ((195 : Int) == 105) = false from by kernel_rfl) ?_
          refine st_itf (show ((195 : Int) == 121) = false from by kernel_rfl) ?_
          refine st_itf (show ((195 : Int) == 122) = false from by kernel_rfl) ?_
          refine st_itf (show ((195 : Int) == 123) = false from by kernel_rfl) ?_
          refine st_itf (show ((195 : Int) == 167) = false from by kernel_rfl) ?_
          refine st_itf (show ((195 : Int) == 173) = false from by kernel_rfl) ?_
          refine st_4_0 (e23_26) (g := true) rfl (l := [i8]) rfl (m := []) rfl (cl_t (q26_t i8)) fun i14 i15 i16 i17 hi14 hi15 hi16 hi17 => ?_
          show T.den _ _ [(195 : Int), (lo : Int), (hi : Int), (N : Int), (r : Int), i5, i6, i7, i8, i9, i10, i11, i12, i13, i14, i15, i16, i17] [b0, b1] = _
          refine st_ret ?_
          show some ([i14, i15, i16, i17], [true]) = _
          rw [hi14, hi15, hi16, hi17]
          rw [hi8]
    · replace hc : (i5 == 1) = false := hc
      have c8 := hc
      clear hc
      rw [hi5] at c8; exact absurd c8 (by decide)

theorem un_195 : UnFin 195 126 126 u195_ := by
  intro lo hi N r h
  obtain ⟨a, b, c, d, hR, hc1, hb, hA⟩ := cut_nat 126 h
  cases hbo : ob (a : Int) b c
  · exact ⟨_, _, _, _, q23_195_n _ _ _ _ lo hi N r hc1 hbo, unt_fin valu_195 lo hi N r⟩
  · obtain ⟨v, h24, hf⟩ := unc_fin (op := 195) (i := 126) valu_195 hR hA hbo
    exact ⟨_, _, _, _, q23_195_c _ _ _ _ lo hi N r hc1 _ hbo h24, hf⟩

set_option maxHeartbeats 4000000 in
theorem q23_196_c (a1 a2 a3 a4 : Int) (lo hi N r : Nat) (hc1 : F32 [(lo : Int), (hi : Int), (N : Int), (r : Int), 126] [] = some ([a1, a2, a3, a4], [])) (v : Int) (hbo : ob a1 a2 a3 = true) (h24 : F24 [196, ov a1 a2 a3 a4] [] = some ([v], [true])) : F23 [196, (lo : Int), (hi : Int), (N : Int), (r : Int)] [] = some ([v, v, 64, v], [true]) := by
  refine Eq.trans (Fd_of (n := 5) (m := 0) (t := XTransTight.t23) (C := Tab.fn a23) rfl rfl) ?_
  rw [XTransTight.t23]
  refine st_4_1 (e23_13) (g := true) rfl (l := [196]) rfl (m := []) rfl (cl_t q14_196) fun i5 i6 i7 i8 b0 hi5 hi6 hi7 hi8 hb0 => ?_
  show T.den _ _ [(196 : Int), (lo : Int), (hi : Int), (N : Int), (r : Int), i5, i6, i7, i8] [b0] = _
  refine st_ite (fun hc => ?_) (fun hc => ?_)
  · replace hc : (i5 == 0) = true := hc
    have c1 := hc
    clear hc
    rw [hi5] at c1; exact absurd c1 (by decide)
  · replace hc : (i5 == 0) = false := hc
    have c2 := hc
    clear hc
    refine st_ite (fun hc => ?_) (fun hc => ?_)
    · replace hc : (i5 == 1) = true := hc
      have c3 := hc
      clear hc
      refine st_ite (fun hc => ?_) (fun hc => ?_)
      · replace hc : (!b0) = true := hc
        have c4 := hc
        clear hc
        rw [hb0] at c4; cases c4
      · replace hc : (!b0) = false := hc
        have c5 := hc
        clear hc
        refine st_4_0 (e23_32) (g := true) rfl (l := [(lo : Int), (hi : Int), (N : Int), (r : Int), i6]) rfl (m := []) rfl (cl_t ((show F32 [(lo : Int), (hi : Int), (N : Int), (r : Int), i6] [] = F32 [(lo : Int), (hi : Int), (N : Int), (r : Int), 126] [] from by rw [hi6]).trans hc1)) fun i9 i10 i11 i12 hi9 hi10 hi11 hi12 => ?_
        show T.den _ _ [(196 : Int), (lo : Int), (hi : Int), (N : Int), (r : Int), i5, i6, i7, i8, i9, i10, i11, i12] [b0] = _
        refine st_1_1 (e23_42) (g := true) rfl (l := [i9, i10, i11, i12]) rfl (m := []) rfl (cl_t (q42 i9 i10 i11 i12)) fun i13 b1 hi13 hb1 => ?_
        show T.den _ _ [(196 : Int), (lo : Int), (hi : Int), (N : Int), (r : Int), i5, i6, i7, i8, i9, i10, i11, i12, i13] [b0, b1] = _
        refine st_ite (fun hc => ?_) (fun hc => ?_)
        · replace hc : b1 = true := hc
          have c6 := hc
          clear hc
          refine st_1_1 (e23_24) (g := true) rfl (l := [196, i13]) rfl (m := []) rfl (cl_t ((show F24 [196, i13] [] = F24 [196, ov a1 a2 a3 a4] [] from by rw [hi13, hi9, hi10, hi11, hi12]).trans h24)) fun i14 b2 hi14 hb2 => ?_
          show T.den _ _ [(196 : Int), (lo : Int), (hi : Int), (N : Int), (r : Int), i5, i6, i7, i8, i9, i10, i11, i12, i13, i14] [b0, b1, b2] = _
          refine st_4_0 (e23_20) (g := true) rfl (l := [i14]) rfl (m := []) rfl (cl_t (q20 i14)) fun i15 i16 i17 i18 hi15 hi16 hi17 hi18 => ?_
          show T.den _ _ [(196 : Int), (lo : Int), (hi : Int), (N : Int), (r : Int), i5, i6, i7, i8, i9, i10, i11, i12, i13, i14, i15, i16, i17, i18] [b0, b1, b2] = _
          refine st_ret ?_
          show some ([i15, i16, i17, i18], [true]) = _
          rw [hi15, hi16, hi17, hi18]
          rw [hi14]
        · replace hc : b1 = false := hc
          have c7 := hc
          clear hc
          rw [hb1, hi9, hi10, hi11, hbo] at c7; cases c7
    · replace hc : (i5 == 1) = false := hc
      have c8 := hc
      clear hc
      rw [hi5] at c8; exact absurd c8 (by decide)

def u196_ : Int → Int := fun a => (IntKind.wrap .u64 (IntKind.wrap .i64 (IntKind.wrap .i32 (IntKind.wrap .u32 a))))

theorem valu_196 : ValU 196 126 u196_ := ⟨fun a _ => q11_196 a, fun a h => fin64 (wrap_in _)⟩

set_option maxHeartbeats 4000000 in
theorem q23_196_n (a1 a2 a3 a4 : Int) (lo hi N r : Nat) (hc1 : F32 [(lo : Int), (hi : Int), (N : Int), (r : Int), 126] [] = some ([a1, a2, a3, a4], [])) (hbo : ob a1 a2 a3 = false) : F23 [196, (lo : Int), (hi : Int), (N : Int), (r : Int)] [] = some ([0, ((Tn 126 : Nat) : Int), 0, 0], [true]) := by
  refine Eq.trans (Fd_of (n := 5) (m := 0) (t := XTransTight.t23) (C := Tab.fn a23) rfl rfl) ?_
  rw [XTransTight.t23]
  refine st_4_1 (e23_13) (g := true) rfl (l := [196]) rfl (m := []) rfl (cl_t q14_196) fun i5 i6 i7 i8 b0 hi5 hi6 hi7 hi8 hb0 => ?_
  show T.den _ _ [(196 : Int), (lo : Int), (hi : Int), (N : Int), (r : Int), i5, i6, i7, i8] [b0] = _
  refine st_ite (fun hc => ?_) (fun hc => ?_)
  · replace hc : (i5 == 0) = true := hc
    have c1 := hc
    clear hc
    rw [hi5] at c1; exact absurd c1 (by decide)
  · replace hc : (i5 == 0) = false := hc
    have c2 := hc
    clear hc
    refine st_ite (fun hc => ?_) (fun hc => ?_)
    · replace hc : (i5 == 1) = true := hc
      have c3 := hc
      clear hc
      refine st_ite (fun hc => ?_) (fun hc => ?_)
      · replace hc : (!b0) = true := hc
        have c4 := hc
        clear hc
        rw [hb0] at c4; cases c4
      · replace hc : (!b0) = false := hc
        have c5 := hc
        clear hc
        refine st_4_0 (e23_32) (g := true) rfl (l := [(lo : Int), (hi : Int), (N : Int), (r : Int), i6]) rfl (m := []) rfl (cl_t ((show F32 [(lo : Int), (hi : Int), (N : Int), (r : Int), i6] [] = F32 [(lo : Int), (hi : Int), (N : Int), (r : Int), 126] [] from by rw [hi6]).trans hc1)) fun i9 i10 i11 i12 hi9 hi10 hi11 hi12 => ?_
        show T.den _ _ [(196 : Int), (lo : Int), (hi : Int), (N : Int), (r : Int), i5, i6, i7, i8, i9, i10, i11, i12] [b0] = _
        refine st_1_1 (e23_42) (g := true) rfl (l := [i9, i10, i11, i12]) rfl (m := []) rfl (cl_t (q42 i9 i10 i11 i12)) fun i13 b1 hi13 hb1 => ?_
        show T.den _ _ [(196 : Int), (lo : Int), (hi : Int), (N : Int), (r : Int), i5, i6, i7, i8, i9, i10, i11, i12, i13] [b0, b1] = _
        refine st_ite (fun hc => ?_) (fun hc => ?_)
        · replace hc : b1 = true := hc
          have c6 := hc
          clear hc
          rw [hb1, hi9, hi10, hi11, hbo] at c6; cases c6
        · replace hc : b1 = false := hc
          have c7 := hc
          clear hc
          refine st_itf (show ((196 : Int) == 69) = false from by kernel_rfl) ?_
          refine st_itf (show ((196 : Int) == 80) = false from by kernel_rfl) ?_
          refine st_itf (show ((196 : Int) == 103) = false from by kernel_rfl) ?_
          refine st_itf (show ((196 : Int) == 104) = false from by kernel_rfl) ?_
          refine st_itf (show ((196 : Int) == 105) = false from by kernel_rfl) ?_
          refine st_itf (show ((196 : Int) == 121) = false from by kernel_rfl) ?_
          refine st_itf (show ((196 : Int) == 122) = false from by kernel_rfl) ?_
          refine st_itf (show ((196 : Int) == 123) = false from by kernel_rfl) ?_
          refine st_itf (show ((196 : Int) == 167) = false from by kernel_rfl) ?_
          refine st_itf (show ((196 : Int) == 173) = false from by kernel_rfl) ?_
          refine st_4_0 (e23_26) (g := true) rfl (l := [i8]) rfl (m := []) rfl (cl_t (q26_t i8)) fun i14 i15 i16 i17 hi14 hi15 hi16 hi17 => ?_
          show T.den _ _ [(196 : Int), (lo : Int), (hi : Int), (N : Int), (r : Int), i5, i6, i7, i8, i9, i10, i11, i12, i13, i14, i15, i16, i17] [b0, b1] = _
          refine st_ret ?_
          show some ([i14, i15, i16, i17], [true]) = _
          rw [hi14, hi15, hi16, hi17]
          rw [hi8]
    · replace hc : (i5 == 1) = false := hc
      have c8 := hc
      clear hc
      rw [hi5] at c8; exact absurd c8 (by decide)

theorem un_196 : UnFin 196 126 126 u196_ := by
  intro lo hi N r h
  obtain ⟨a, b, c, d, hR, hc1, hb, hA⟩ := cut_nat 126 h
  cases hbo : ob (a : Int) b c
  · exact ⟨_, _, _, _, q23_196_n _ _ _ _ lo hi N r hc1 hbo, unt_fin valu_196 lo hi N r⟩
  · obtain ⟨v, h24, hf⟩ := unc_fin (op := 196) (i := 126) valu_196 hR hA hbo
    exact ⟨_, _, _, _, q23_196_c _ _ _ _ lo hi N r hc1 _ hbo h24, hf⟩

set_option maxHeartbeats 4000000 in
theorem q23_172_c (a1 a2 a3 a4 : Int) (lo hi N r : Nat) (hc1 : F32 [(lo : Int), (hi : Int), (N : Int), (r : Int), 127] [] = some ([a1, a2, a3, a4], [])) (v : Int) (hbo : ob a1 a2 a3 = true) (h24 : F24 [172, ov a1 a2 a3 a4] [] = some ([v], [true])) : F23 [172, (lo : Int), (hi : Int), (N : Int), (r : Int)] [] = some ([v, v, 64, v], [true]) := by
  refine Eq.trans (Fd_of (n := 5) (m := 0) (t := XTransTight.t23) (C := Tab.fn a23) rfl rfl) ?_
  rw [XTransTight.t23]
  refine st_4_1 (e23_13) (g := true) rfl (l := [172]) rfl (m := []) rfl (cl_t q14_172) fun i5 i6 i7 i8 b0 hi5 hi6 hi7 hi8 hb0 => ?_
  show T.den _ _ [(172 : Int), (lo : Int), (hi : Int), (N : Int), (r : Int), i5, i6, i7, i8] [b0] = _
  refine st_ite (fun hc => ?_) (fun hc => ?_)
  · replace hc : (i5 == 0) = true := hc
    have c1 := hc
    clear hc
    rw [hi5] at c1; exact absurd c1 (by decide)
  · replace hc : (i5 == 0) = false := hc
    have c2 := hc
    clear hc
    refine st_ite (fun hc => ?_) (fun hc => ?_)
    · replace hc : (i5 == 1) = true := hc
      have c3 := hc
      clear hc
      refine st_ite (fun hc => ?_) (fun hc => ?_)
      · replace hc : (!b0) = true := hc
        have c4 := hc
        clear hc
        rw [hb0] at c4; cases c4
      · replace hc : (!b0) = false := hc
        have c5 := hc
        clear hc
        refine st_4_0 (e23_32) (g := true) rfl (l := [(lo : Int), (hi : Int), (N : Int), (r : Int), i6]) rfl (m := []) rfl (cl_t ((show F32 [(lo : Int), (hi : Int), (N : Int), (r : Int), i6] [] = F32 [(lo : Int), (hi : Int), (N : Int), (r : Int), 127] [] from by rw [hi6]).trans hc1)) fun i9 i10 i11 i12 hi9 hi10 hi11 hi12 => ?_
        show T.den _ _ [(172 : Int), (lo : Int), (hi : Int), (N : Int), (r : Int), i5, i6, i7, i8, i9, i10, i11, i12] [b0] = _
        refine st_1_1 (e23_42) (g := true) rfl (l := [i9, i10, i11, i12]) rfl (m := []) rfl (cl_t (q42 i9 i10 i11 i12)) fun i13 b1 hi13 hb1 => ?_
        show T.den _ _ [(172 : Int), (lo : Int), (hi : Int), (N : Int), (r : Int), i5, i6, i7, i8, i9, i10, i11, i12, i13] [b0, b1] = _
        refine st_ite (fun hc => ?_) (fun hc => ?_)
        · replace hc : b1 = true := hc
          have c6 := hc
          clear hc
          refine st_1_1 (e23_24) (g := true) rfl (l := [172, i13]) rfl (m := []) rfl (cl_t ((show F24 [172, i13] [] = F24 [172, ov a1 a2 a3 a4] [] from by rw [hi13, hi9, hi10, hi11, hi12]).trans h24)) fun i14 b2 hi14 hb2 => ?_
          show T.den _ _ [(172 : Int), (lo : Int), (hi : Int), (N : Int), (r : Int), i5, i6, i7, i8, i9, i10, i11, i12, i13, i14] [b0, b1, b2] = _
          refine st_4_0 (e23_20) (g := true) rfl (l := [i14]) rfl (m := []) rfl (cl_t (q20 i14)) fun i15 i16 i17 i18 hi15 hi16 hi17 hi18 => ?_
          show T.den _ _ [(172 : Int), (lo : Int), (hi : Int), (N : Int), (r : Int), i5, i6, i7, i8, i9, i10, i11, i12, i13, i14, i15, i16, i17, i18] [b0, b1, b2] = _
          refine st_ret ?_
          show some ([i15, i16, i17, i18], [true]) = _
          rw [hi15, hi16, hi17, hi18]
          rw [hi14]
        · replace hc : b1 = false := hc
          have c7 := hc
          clear hc
          rw [hb1, hi9, hi10, hi11, hbo] at c7; cases c7
    · replace hc : (i5 == 1) = false := hc
      have c8 := hc
      clear hc
      rw [hi5] at c8; exact absurd c8 (by decide)

def u172_ : Int → Int := fun a => (IntKind.wrap .u64 (IntKind.wrap .i64 (IntKind.wrap .i32 (IntKind.wrap .u32 a))))

theorem valu_172 : ValU 172 126 u172_ := ⟨fun a _ => q11_172 a, fun a h => fin64 (wrap_in _)⟩

set_option maxHeartbeats 4000000 in
theorem q23_172_n (a1 a2 a3 a4 : Int) (lo hi N r : Nat) (hc1 : F32 [(lo : Int), (hi : Int), (N : Int), (r : Int), 127] [] = some ([a1, a2, a3, a4], [])) (hbo : ob a1 a2 a3 = false) : F23 [172, (lo : Int), (hi : Int), (N : Int), (r : Int)] [] = some ([0, ((Tn 126 : Nat) : Int), 0, 0], [true]) := by
  refine Eq.trans (Fd_of (n := 5) (m := 0) (t := XTransTight.t23) (C := Tab.fn a23) rfl rfl) ?_
  rw [XTransTight.t23]
  refine st_4_1 (e23_13) (g := true) rfl (l := [172]) rfl (m := []) rfl (cl_t q14_172) fun i5 i6 i7 i8 b0 hi5 hi6 hi7 hi8 hb0 => ?_
  show T.den _ _ [(172 : Int), (lo : Int), (hi : Int), (N : Int), (r : Int), i5, i6, i7, i8] [b0] = _
  refine st_ite (fun hc => ?_) (fun hc => ?_)
  · replace hc : (i5 == 0) = true := hc
    have c1 := hc
    clear hc
    rw [hi5] at c1; exact absurd c1 (by decide)
  · replace hc : (i5 == 0) = false := hc
    have c2 := hc
    clear hc
    refine st_ite (fun hc => ?_) (fun hc => ?_)
    · replace hc : (i5 == 1) = true := hc
      have c3 := hc
      clear hc
      refine st_ite (fun hc => ?_) (fun hc => ?_)
      · replace hc : (!b0) = true := hc
        have c4 := hc
        clear hc
        rw [hb0] at c4; cases c4
      · replace hc : (!b0) = false := hc
        have c5 := hc
        clear hc
        refine st_4_0 (e23_32) (g := true) rfl (l := [(lo : Int), (hi : Int), (N : Int), (r : Int), i6]) rfl (m := []) rfl (cl_t ((show F32 [(lo : Int), (hi : Int), (N : Int), (r : Int), i6] [] = F32 [(lo : Int), (hi : Int), (N : Int), (r : Int), 127] [] from by rw [hi6]).trans hc1)) fun i9 i10 i11 i12 hi9 hi10 hi11 hi12 => ?_
        show T.den _ _ [(172 : Int), (lo : Int), (hi : Int), (N : Int), (r : Int), i5, i6, i7, i8, i9, i10, i11, i12] [b0] = _
        refine st_1_1 (e23_42) (g := true) rfl (l := [i9, i10, i11, i12]) rfl (m := []) rfl (cl_t (q42 i9 i10 i11 i12)) fun i13 b1 hi13 hb1 => ?_
        show T.den _ _ [(172 : Int), (lo : Int), (hi : Int), (N : Int), (r : Int), i5, i6, i7, i8, i9, i10, i11, i12, i13] [b0, b1] = _
        refine st_ite (fun hc => ?_) (fun hc => ?_)
        · replace hc : b1 = true := hc
          have c6 := hc
          clear hc
          rw [hb1, hi9, hi10, hi11, hbo] at c6; cases c6
        · replace hc : b1 = false := hc
          have c7 := hc
          clear hc
          refine st_itf (show ((172 : Int) == 69) = false from by kernel_rfl) ?_
          refine st_itf (show ((172 : Int) == 80) = false from by kernel_rfl) ?_
          refine st_itf (show ((172 : Int) == 103) = false from by kernel_rfl) ?_
          refine st_itf (show ((172 : Int) == 104) = false from by kernel_rfl) ?_
          refine st_itf (show ((172 : Int) == 105) = false from by kernel_rfl) ?_
          refine st_itf (show ((172 : Int) == 121) = false from by kernel_rfl) ?_
          refine st_itf (show ((172 : Int) == 122) = false from by kernel_rfl) ?_
          refine st_itf (show ((172 : Int) == 123) = false from by kernel_rfl) ?_
          refine st_itf (show ((172 : Int) == 167) = false from by kernel_rfl) ?_
          refine st_itf (show ((172 : Int) == 173) = false from by kernel_rfl) ?_
          refine st_4_0 (e23_26) (g := true) rfl (l := [i8]) rfl (m := []) rfl (cl_t (q26_t i8)) fun i14 i15 i16 i17 hi14 hi15 hi16 hi17 => ?_
          show T.den _ _ [(172 : Int), (lo : Int), (hi : Int), (N : Int), (r : Int), i5, i6, i7, i8, i9, i10, i11, i12, i13, i14, i15, i16, i17] [b0, b1] = _
          refine st_ret ?_
          show some ([i14, i15, i16, i17], [true]) = _
          rw [hi14, hi15, hi16, hi17]
          rw [hi8]
    · replace hc : (i5 == 1) = false := hc
      have c8 := hc
      clear hc
      rw [hi5] at c8; exact absurd c8 (by decide)

theorem un_172 : UnFin 172 127 126 u172_ := by
  intro lo hi N r h
  obtain ⟨a, b, c, d, hR, hc1, hb, hA⟩ := cut_nat 127 h
  cases hbo : ob (a : Int) b c
  · exact ⟨_, _, _, _, q23_172_n _ _ _ _ lo hi N r hc1 hbo, unt_fin valu_172 lo hi N r⟩
  · obtain ⟨v, h24, hf⟩ := unc_fin (op := 172) (i := 127) valu_172 hR hA hbo
    exact ⟨_, _, _, _, q23_172_c _ _ _ _ lo hi N r hc1 _ hbo h24, hf⟩

set_option maxHeartbeats 4000000 in
theorem q23_173_c (a1 a2 a3 a4 : Int) (lo hi N r : Nat) (hc1 : F32 [(lo : Int), (hi : Int), (N : Int), (r : Int), 127] [] = some ([a1, a2, a3, a4], [])) (v : Int) (hbo : ob a1 a2 a3 = true) (h24 : F24 [173, ov a1 a2 a3 a4] [] = some ([v], [true])) : F23 [173, (lo : Int), (hi : Int), (N : Int), (r : Int)] [] = some ([v, v, 64, v], [true]) := by
  refine Eq.trans (Fd_of (n := 5) (m := 0) (t := XTransTight.t23) (C := Tab.fn a23) rfl rfl) ?_
  rw [XTransTight.t23]
  refine st_4_1 (e23_13) (g := true) rfl (l := [173]) rfl (m := []) rfl (cl_t q14_173) fun i5 i6 i7 i8 b0 hi5 hi6 hi7 hi8 hb0 => ?_
  show T.den _ _ [(173 : Int), (lo : Int), (hi : Int), (N : Int), (r : Int), i5, i6, i7, i8] [b0] = _
  refine st_ite (fun hc => ?_) (fun hc => ?_)
  · replace hc : (i5 == 0) = true := hc
    have c1 := hc
    clear hc
    rw [hi5] at c1; exact absurd c1 (by decide)
  · replace hc : (i5 == 0) = false := hc
    have c2 := hc
    clear hc
    refine st_ite (fun hc => ?_) (fun hc => ?_)
    · replace hc : (i5 == 1) = true := hc
      have c3 := hc
      clear hc
      refine st_ite (fun hc => ?_) (fun hc => ?_)
      · replace hc : (!b0) = true := hc
        have c4 := hc
        clear hc
        rw [hb0] at c4; cases c4
      · replace hc : (!b0) = false := hc
        have c5 := hc
        clear hc
        refine st_4_0 (e23_32) (g := true) rfl (l := [(lo : Int), (hi : Int), (N : Int), (r : Int), i6]) rfl (m := []) rfl (cl_t ((show F32 [(lo : Int), (hi : Int), (N : Int), (r : Int), i6] [] = F32 [(lo : Int), (hi : Int), (N : Int), (r : Int), 127] [] from by rw [hi6]).trans hc1)) fun i9 i10 i11 i12 hi9 hi10 hi11 hi12 => ?_
        show T.den _ _ [(173 : Int), (lo : Int), (hi : Int), (N : Int), (r : Int), i5, i6, i7, i8, i9, i10, i11, i12] [b0] = _
        refine st_1_1 (e23_42) (g := true) rfl (l := [i9, i10, i11, i12]) rfl (m := []) rfl (cl_t (q42 i9 i10 i11 i12)) fun i13 b1 hi13 hb1 => ?_
        show T.den _ _ [(173 : Int), (lo : Int), (hi : Int), (N : Int), (r : Int), i5, i6, i7, i8, i9, i10, i11, i12, i13] [b0, b1] = _
        refine st_ite (fun hc => ?_) (fun hc => ?_)
        · replace hc : b1 = true := hc
          have c6 := hc
          clear hc
          refine st_1_1 (e23_24) (g := true) rfl (l := [173, i13]) rfl (m := []) rfl (cl_t ((show F24 [173, i13] [] = F24 [173, ov a1 a2 a3 a4] [] from by rw [hi13, hi9, hi10, hi11, hi12]).trans h24)) fun i14 b2 hi14 hb2 => ?_
          show T.den _ _ [(173 : Int), (lo : Int), (hi : Int), (N : Int), (r : Int), i5, i6, i7, i8, i9, i10, i11, i12, i13, i14] [b0, b1, b2] = _
          refine st_4_0 (e23_20) (g := true) rfl (l := [i14]) rfl (m := []) rfl (cl_t (q20 i14)) fun i15 i16 i17 i18 hi15 hi16 hi17 hi18 => ?_
          show T.den _ _ [(173 : Int), (lo : Int), (hi : Int), (N : Int), (r : Int), i5, i6, i7, i8, i9, i10, i11, i12, i13, i14, i15, i16, i17, i18] [b0, b1, b2] = _
          refine st_ret ?_
          show some ([i15, i16, i17, i18], [true]) = _
          rw [hi15, hi16, hi17, hi18]
          rw [hi14]
        · replace hc : b1 = false := hc
          have c7 := hc
          clear hc
          rw [hb1, hi9, hi10, hi11, hbo] at c7; cases c7
    · replace hc : (i5 == 1) = false := hc
      have c8 := hc
      clear hc
      rw [hi5] at c8; exact absurd c8 (by decide)

def u173_ : Int → Int := fun a => (IntKind.wrap .u64 (IntKind.wrap .u32 a))

theorem valu_173 : ValU 173 126 u173_ := ⟨fun a _ => q11_173 a, fun a h => fin64 (wrap_in _)⟩

set_option maxHeartbeats 4000000 in
theorem q23_173_n (a1 a2 a3 a4 : Int) (lo hi N r : Nat) (hc1 : F32 [(lo : Int), (hi : Int), (N : Int), (r : Int), 127] [] = some ([a1, a2, a3, a4], [])) (hbo : ob a1 a2 a3 = false) (z0 z1 z2 z3 : Int) (h47 : F47 [a1, a2, a3, a4, 126] [] = some ([z0, z1, z2, z3], [])) : F23 [173, (lo : Int), (hi : Int), (N : Int), (r : Int)] [] = some ([z0, z1, z2, z3], [true]) := by
  refine Eq.trans (Fd_of (n := 5) (m := 0) (t := XTransTight.t23) (C := Tab.fn a23) rfl rfl) ?_
  rw [XTransTight.t23]
  refine st_4_1 (e23_13) (g := true) rfl (l := [173]) rfl (m := []) rfl (cl_t q14_173) fun i5 i6 i7 i8 b0 hi5 hi6 hi7 hi8 hb0 => ?_
  show T.den _ _ [(173 : Int), (lo : Int), (hi : Int), (N : Int), (r : Int), i5, i6, i7, i8] [b0] = _
  refine st_ite (fun hc => ?_) (fun hc => ?_)
  · replace hc : (i5 == 0) = true := hc
    have c1 := hc
    clear hc
    rw [hi5] at c1; exact absurd c1 (by decide)
  · replace hc : (i5 == 0) = false := hc
    have c2 := hc
    clear hc
    refine st_ite (fun hc => ?_) (fun hc => ?_)
    · replace hc : (i5 == 1) = true := hc
      have c3 := hc
      clear hc
      refine st_ite (fun hc => ?_) (fun hc => ?_)
      · replace hc : (!b0) = true := hc
        have c4 := hc
        clear hc
        rw [hb0] at c4; cases c4
      · replace hc : (!b0) = false := hc
        have c5 := hc
        clear hc
        refine st_4_0 (e23_32) (g := true) rfl (l := [(lo : Int), (hi : Int), (N : Int), (r : Int), i6]) rfl (m := []) rfl (cl_t ((show F32 [(lo : Int), (hi : Int), (N : Int), (r : Int), i6] [] = F32 [(lo : Int), (hi : Int), (N : Int), (r : Int), 127] [] from by rw [hi6]).trans hc1)) fun i9 i10 i11 i12 hi9 hi10 hi11 hi12 => ?_
        show T.den _ _ [(173 : Int), (lo : Int), (hi : Int), (N : Int), (r : Int), i5, i6, i7, i8, i9, i10, i11, i12] [b0] = _
        refine st_1_1 (e23_42) (g := true) rfl (l := [i9, i10, i11, i12]) rfl (m := []) rfl (cl_t (q42 i9 i10 i11 i12)) fun i13 b1 hi13 hb1 => ?_
        show T.den _ _ [(173 : Int), (lo : Int), (hi : Int), (N : Int), (r : Int), i5, i6, i7, i8, i9, i10, i11, i12, i13] [b0, b1] = _
        refine st_ite (fun hc => ?_) (fun hc => ?_)
        · replace hc : b1 = true := hc
          have c6 := hc
          clear hc
          rw [hb1, hi9, hi10, hi11, hbo] at c6; cases c6
        · replace hc : b1 = false := hc
          have c7 := hc
          clear hc
          refine st_itf (show ((173 : Int) == 69) = false from by kernel_rfl) ?_
          refine st_itf (show ((173 : Int) == 80) = false from by kernel_rfl) ?_
          refine st_itf (show ((173 : Int) == 103) = false from by kernel_rfl) ?_
          refine st_itf (show ((173 : Int) == 104) = false from by kernel_rfl) ?_
          refine st_itf (show ((173 : Int) == 105) = false from by kernel_rfl) ?_
          refine st_itf (show ((173 : Int) == 121) = false from by kernel_rfl) ?_
          refine st_itf (show ((173 : Int) == 122) = false from by kernel_rfl) ?_
          refine st_itf (show ((173 : Int) == 123) = false from by kernel_rfl) ?_
          refine st_itf (show ((173 : Int) == 167) = false from by kernel_rfl) ?_
          refine st_itt (show ((173 : Int) == 173) = true from by kernel_rfl) ?_
          refine st_4_0 (e23_47) (g := true) rfl (l := [i9, i10, i11, i12, i8]) rfl (m := []) rfl (cl_t ((show F47 [i9, i10, i11, i12, i8] [] = F47 [a1, a2, a3, a4, 126] [] from by rw [hi9, hi10, hi11, hi12, hi8]).trans h47)) fun i14 i15 i16 i17 hi14 hi15 hi16 hi17 => ?_
          show T.den _ _ [(173 : Int), (lo : Int), (hi : Int), (N : Int), (r : Int), i5, i6, i7, i8, i9, i10, i11, i12, i13, i14, i15, i16, i17] [b0, b1] = _
          refine st_ret ?_
          show some ([i14, i15, i16, i17], [true]) = _
          rw [hi14, hi15, hi16, hi17]
    · replace hc : (i5 == 1) = false := hc
      have c8 := hc
      clear hc
      rw [hi5] at c8; exact absurd c8 (by decide)

theorem un_173 : UnFin 173 127 126 u173_ := by
  intro lo hi N r h
  obtain ⟨a, b, c, d, hR, hc1, hb, hA⟩ := cut_nat 127 h
  cases hbo : ob (a : Int) b c
  · have hO : Ok (Tn 126) (fun v => ∃ n : Nat, n < 2 ^ 64 ∧ Fit 127 n ∧ hAN lo hi N r n = true ∧ (v : Int) = u173_ n) a b c d := by
      refine ⟨a, b, c, d, rfl, rfl, rfl, rfl, hR, by have := hR.2.1; show b ≤ 18446744073709551615; omega, ?_⟩
      rintro v ⟨n, hn, fn, h1, e⟩
      unfold u173_ at e
      rw [w32n (fn rfl)] at e
      rw [show v = n from by omega]; exact hA n hn fn h1
    obtain ⟨z0, z1, z2, z3, h47, hz⟩ := tight_fin (t := 126) hO
    exact ⟨_, _, _, _, q23_173_n _ _ _ _ lo hi N r hc1 hbo _ _ _ _ h47, hz⟩
  · obtain ⟨v, h24, hf⟩ := unc_fin (op := 173) (i := 127) valu_173 hR hA hbo
    exact ⟨_, _, _, _, q23_173_c _ _ _ _ lo hi N r hc1 _ hbo h24, hf⟩
end Go.Proofs.YtlnikilodakjmaaDoor.UTransTight
