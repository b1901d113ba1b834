/-
  Bin of layer 19, step by step.
-/
import Derived.Test.YtlnikilodakjmaaDoorXTransTight
import Derived.Test.YtlnikilodakjmaaDoorSn
import Derived.Test.YtlnikilodakjmaaDoorNTransTight
import Derived.Test.YtlnikilodakjmaaDoorITransTight
import Derived.Test.YtlnikilodakjmaaDoorZTransTight
import Derived.Test.YtlnikilodakjmaaDoorRTransTight
import Derived.Lib.BitFns
import Derived.Lib.TrailingZeros
namespace Go.Proofs.YtlnikilodakjmaaDoor.BTransTight
open Go.Proofs.YtlnikilodakjmaaDoor.NTransTight Go.Proofs.YtlnikilodakjmaaDoor.ITransTight Go.Proofs.YtlnikilodakjmaaDoor.ZTransTight Go.Proofs.YtlnikilodakjmaaDoor.RTransTight Go.Proofs.YtlnikilodakjmaaDoor.Sx Go.Proofs.YtlnikilodakjmaaDoor.Sn Go.Proofs.YtlnikilodakjmaaDoor.XTransTight Go.Proofs.YtlnikilodakjmaaDoor.ETransTight
set_option linter.unusedSimpArgs false
set_option linter.unusedVariables false
theorem st_0_2 {C : Nat → Sx.Fn} {is : List Int} {bs : List Bool} {r : Option (List Int × List Bool)} {G : E} {f : Nat} {ii bb : List E} {k : Sx.T} {c0 c1 : Bool} {F : Sx.Fn} {g : Bool} {l : List Int} {m : List Bool} (hC : C f = F) (hG : G.B is bs = g) (hl : ii.map (E.I is bs) = l) (hm : bb.map (E.B is bs) = m)
    (h : (bif g then F l m else some (List.replicate 0 0, List.replicate 2 false)) = some ([], [c0, c1]))
    (hk : ∀ (y0 y1 : Bool), y0 = c0 → y1 = c1 → k.den C (is ++ []) (bs ++ [y0, y1]) = r) : (Sx.T.call G f ii bb 0 2 k).den C is bs = r := st_call _ _ (by rw [hC, hG, hl, hm]; exact h) rfl rfl (hk _ _ rfl rfl)
theorem e25_13 : Tab.fn a25 13 = F13 := Tab.fn_hd
theorem e25_32 : Tab.fn a25 32 = F32 := ((Tab.fn_tl rfl).trans Tab.fn_hd)
theorem e25_42 : Tab.fn a25 42 = F42 := ((Tab.fn_tl rfl).trans ((Tab.fn_tl rfl).trans Tab.fn_hd))
theorem e25_16 : Tab.fn a25 16 = F16 := ((Tab.fn_tl rfl).trans ((Tab.fn_tl rfl).trans ((Tab.fn_tl rfl).trans Tab.fn_hd)))
theorem e25_26 : Tab.fn a25 26 = F26 := ((Tab.fn_tl rfl).trans ((Tab.fn_tl rfl).trans ((Tab.fn_tl rfl).trans ((Tab.fn_tl rfl).trans Tab.fn_hd))))
theorem e25_20 : Tab.fn a25 20 = F20 := ((Tab.fn_tl rfl).trans ((Tab.fn_tl rfl).trans ((Tab.fn_tl rfl).trans ((Tab.fn_tl rfl).trans ((Tab.fn_tl rfl).trans Tab.fn_hd)))))
theorem e25_31 : Tab.fn a25 31 = F31 := ((Tab.fn_tl rfl).trans ((Tab.fn_tl rfl).trans ((Tab.fn_tl rfl).trans ((Tab.fn_tl rfl).trans ((Tab.fn_tl rfl).trans ((Tab.fn_tl rfl).trans Tab.fn_hd))))))
theorem e25_56 : Tab.fn a25 56 = F56 := ((Tab.fn_tl rfl).trans ((Tab.fn_tl rfl).trans ((Tab.fn_tl rfl).trans ((Tab.fn_tl rfl).trans ((Tab.fn_tl rfl).trans ((Tab.fn_tl rfl).trans ((Tab.fn_tl rfl).trans Tab.fn_hd)))))))
theorem e25_45 : Tab.fn a25 45 = F45 := ((Tab.fn_tl rfl).trans ((Tab.fn_tl rfl).trans ((Tab.fn_tl rfl).trans ((Tab.fn_tl rfl).trans ((Tab.fn_tl rfl).trans ((Tab.fn_tl rfl).trans ((Tab.fn_tl rfl).trans ((Tab.fn_tl rfl).trans Tab.fn_hd))))))))
theorem e25_46 : Tab.fn a25 46 = F46 := ((Tab.fn_tl rfl).trans ((Tab.fn_tl rfl).trans ((Tab.fn_tl rfl).trans ((Tab.fn_tl rfl).trans ((Tab.fn_tl rfl).trans ((Tab.fn_tl rfl).trans ((Tab.fn_tl rfl).trans ((Tab.fn_tl rfl).trans ((Tab.fn_tl rfl).trans Tab.fn_hd)))))))))
theorem e25_57 : Tab.fn a25 57 = F57 := ((Tab.fn_tl rfl).trans ((Tab.fn_tl rfl).trans ((Tab.fn_tl rfl).trans ((Tab.fn_tl rfl).trans ((Tab.fn_tl rfl).trans ((Tab.fn_tl rfl).trans ((Tab.fn_tl rfl).trans ((Tab.fn_tl rfl).trans ((Tab.fn_tl rfl).trans ((Tab.fn_tl rfl).trans Tab.fn_hd))))))))))
theorem e25_47 : Tab.fn a25 47 = F47 := ((Tab.fn_tl rfl).trans ((Tab.fn_tl rfl).trans ((Tab.fn_tl rfl).trans ((Tab.fn_tl rfl).trans ((Tab.fn_tl rfl).trans ((Tab.fn_tl rfl).trans ((Tab.fn_tl rfl).trans ((Tab.fn_tl rfl).trans ((Tab.fn_tl rfl).trans ((Tab.fn_tl rfl).trans ((Tab.fn_tl rfl).trans Tab.fn_hd)))))))))))
theorem e23_13 : Tab.fn a23 13 = F13 := Tab.fn_hd
theorem e23_32 : Tab.fn a23 32 = F32 := ((Tab.fn_tl rfl).trans Tab.fn_hd)
theorem e23_42 : Tab.fn a23 42 = F42 := ((Tab.fn_tl rfl).trans ((Tab.fn_tl rfl).trans Tab.fn_hd))
theorem e23_24 : Tab.fn a23 24 = F24 := ((Tab.fn_tl rfl).trans ((Tab.fn_tl rfl).trans ((Tab.fn_tl rfl).trans Tab.fn_hd)))
theorem e23_20 : Tab.fn a23 20 = F20 := ((Tab.fn_tl rfl).trans ((Tab.fn_tl rfl).trans ((Tab.fn_tl rfl).trans ((Tab.fn_tl rfl).trans Tab.fn_hd))))
theorem e23_18 : Tab.fn a23 18 = F18 := ((Tab.fn_tl rfl).trans ((Tab.fn_tl rfl).trans ((Tab.fn_tl rfl).trans ((Tab.fn_tl rfl).trans ((Tab.fn_tl rfl).trans Tab.fn_hd)))))
theorem e23_45 : Tab.fn a23 45 = F45 := ((Tab.fn_tl rfl).trans ((Tab.fn_tl rfl).trans ((Tab.fn_tl rfl).trans ((Tab.fn_tl rfl).trans ((Tab.fn_tl rfl).trans ((Tab.fn_tl rfl).trans Tab.fn_hd))))))
theorem e23_46 : Tab.fn a23 46 = F46 := ((Tab.fn_tl rfl).trans ((Tab.fn_tl rfl).trans ((Tab.fn_tl rfl).trans ((Tab.fn_tl rfl).trans ((Tab.fn_tl rfl).trans ((Tab.fn_tl rfl).trans ((Tab.fn_tl rfl).trans Tab.fn_hd)))))))
theorem e23_47 : Tab.fn a23 47 = F47 := ((Tab.fn_tl rfl).trans ((Tab.fn_tl rfl).trans ((Tab.fn_tl rfl).trans ((Tab.fn_tl rfl).trans ((Tab.fn_tl rfl).trans ((Tab.fn_tl rfl).trans ((Tab.fn_tl rfl).trans ((Tab.fn_tl rfl).trans Tab.fn_hd))))))))
theorem e23_48 : Tab.fn a23 48 = F48 := ((Tab.fn_tl rfl).trans ((Tab.fn_tl rfl).trans ((Tab.fn_tl rfl).trans ((Tab.fn_tl rfl).trans ((Tab.fn_tl rfl).trans ((Tab.fn_tl rfl).trans ((Tab.fn_tl rfl).trans ((Tab.fn_tl rfl).trans ((Tab.fn_tl rfl).trans Tab.fn_hd)))))))))
theorem e23_49 : Tab.fn a23 49 = F49 := ((Tab.fn_tl rfl).trans ((Tab.fn_tl rfl).trans ((Tab.fn_tl rfl).trans ((Tab.fn_tl rfl).trans ((Tab.fn_tl rfl).trans ((Tab.fn_tl rfl).trans ((Tab.fn_tl rfl).trans ((Tab.fn_tl rfl).trans ((Tab.fn_tl rfl).trans ((Tab.fn_tl rfl).trans Tab.fn_hd))))))))))
theorem e23_26 : Tab.fn a23 26 = F26 := ((Tab.fn_tl rfl).trans ((Tab.fn_tl rfl).trans ((Tab.fn_tl rfl).trans ((Tab.fn_tl rfl).trans ((Tab.fn_tl rfl).trans ((Tab.fn_tl rfl).trans ((Tab.fn_tl rfl).trans ((Tab.fn_tl rfl).trans ((Tab.fn_tl rfl).trans ((Tab.fn_tl rfl).trans ((Tab.fn_tl rfl).trans Tab.fn_hd)))))))))))


theorem q45 (y : Bool) : F45 [] [y] = some ([bif y then 1 else 0, bif y then 1 else 0, 64, bif y then 1 else 0], []) := by cases y <;> kernel_rfl
theorem q46 : F46 [] [] = some ([0, 1, 0, 0], []) := by kernel_rfl

set_option maxHeartbeats 4000000 in
theorem q25_top (op i a1 a2 a3 a4 d1 d2 d3 d4 : Int) (lo hi N r lo2 hi2 M q : Nat) (hc1 : F32 [(lo : Int), (hi : Int), (N : Int), (r : Int), i] [] = some ([a1, a2, a3, a4], [])) (hc2 : F32 [(lo2 : Int), (hi2 : Int), (M : Int), (q : Int), i] [] = some ([d1, d2, d3, d4], [])) (o v g : Int) (hT : F13 [op] [] = some ([2, i, i, o], [true])) (hbo : (ob a1 a2 a3 && ob d1 d2 d3) = true) (h16 : F16 [op, ov a1 a2 a3 a4, ov d1 d2 d3 d4] [] = some ([v, g], [true])) (hg : g ≠ 0) : F25 [op, (lo : Int), (hi : Int), (N : Int), (r : Int), (lo2 : Int), (hi2 : Int), (M : Int), (q : Int)] [] = some ([0, ((Tn o : Nat) : Int), 0, 0], [true]) := by
  refine Eq.trans (Fd_of (n := 9) (m := 0) (t := XTransTight.t25) (C := Tab.fn a25) rfl rfl) ?_
  rw [XTransTight.t25]
  refine st_4_1 (e25_13) (g := true) rfl (l := [op]) rfl (m := []) rfl (cl_t hT) fun i9 i10 i11 i12 b0 hi9 hi10 hi11 hi12 hb0 => ?_
  show T.den _ _ [op, (lo : Int), (hi : Int), (N : Int), (r : Int), (lo2 : Int), (hi2 : Int), (M : Int), (q : Int), i9, i10, i11, i12] [b0] = _
  refine st_ite (fun hc => ?_) (fun hc => ?_)
  · replace hc : (i9 == 0) = true := hc
    have c1 := hc
    clear hc
    rw [hi9] at c1; exact absurd c1 (by decide)
  · replace hc : (i9 == 0) = false := hc
    have c2 := hc
    clear hc
    refine st_ite (fun hc => ?_) (fun hc => ?_)
    · replace hc : (i9 == 1) = true := hc
      have c3 := hc
      clear hc
      rw [hi9] at c3; exact absurd c3 (by decide)
    · replace hc : (i9 == 1) = false := hc
      have c4 := hc
      clear hc
      refine st_ite (fun hc => ?_) (fun hc => ?_)
      · replace hc : (i9 == 2) = true := hc
        have c5 := hc
        clear hc
        refine st_ite (fun hc => ?_) (fun hc => ?_)
        · replace hc : (!b0) = true := hc
          have c6 := hc
          clear hc
          rw [hb0] at c6; cases c6
        · replace hc : (!b0) = false := hc
          have c7 := hc
          clear hc
          refine st_4_0 (e25_32) (g := true) rfl (l := [(lo : Int), (hi : Int), (N : Int), (r : Int), i10]) rfl (m := []) rfl (cl_t ((show F32 [(lo : Int), (hi : Int), (N : Int), (r : Int), i10] [] = F32 [(lo : Int), (hi : Int), (N : Int), (r : Int), i] [] from by rw [hi10]).trans hc1)) fun i13 i14 i15 i16 hi13 hi14 hi15 hi16 => ?_
          show T.den _ _ [op, (lo : Int), (hi : Int), (N : Int), (r : Int), (lo2 : Int), (hi2 : Int), (M : Int), (q : Int), i9, i10, i11, i12, i13, i14, i15, i16] [b0] = _
          refine st_4_0 (e25_32) (g := true) rfl (l := [(lo2 : Int), (hi2 : Int), (M : Int), (q : Int), i11]) rfl (m := []) rfl (cl_t ((show F32 [(lo2 : Int), (hi2 : Int), (M : Int), (q : Int), i11] [] = F32 [(lo2 : Int), (hi2 : Int), (M : Int), (q : Int), i] [] from by rw [hi11]).trans hc2)) fun i17 i18 i19 i20 hi17 hi18 hi19 hi20 => ?_
          show T.den _ _ [op, (lo : Int), (hi : Int), (N : Int), (r : Int), (lo2 : Int), (hi2 : Int), (M : Int), (q : Int), i9, i10, i11, i12, i13, i14, i15, i16, i17, i18, i19, i20] [b0] = _
          refine st_1_1 (e25_42) (g := true) rfl (l := [i13, i14, i15, i16]) rfl (m := []) rfl (cl_t (q42 i13 i14 i15 i16)) fun i21 b1 hi21 hb1 => ?_
          show T.den _ _ [op, (lo : Int), (hi : Int), (N : Int), (r : Int), (lo2 : Int), (hi2 : Int), (M : Int), (q : Int), i9, i10, i11, i12, i13, i14, i15, i16, i17, i18, i19, i20, i21] [b0, b1] = _
          refine st_1_1 (e25_42) (g := true) rfl (l := [i17, i18, i19, i20]) rfl (m := []) rfl (cl_t (q42 i17 i18 i19 i20)) fun i22 b2 hi22 hb2 => ?_
          show T.den _ _ [op, (lo : Int), (hi : Int), (N : Int), (r : Int), (lo2 : Int), (hi2 : Int), (M : Int), (q : Int), i9, i10, i11, i12, i13, i14, i15, i16, i17, i18, i19, i20, i21, i22] [b0, b1, b2] = _
          refine st_ite (fun hc => ?_) (fun hc => ?_)
          · replace hc : (b1 && b2) = true := hc
            have c8 := hc
            clear hc
            refine st_2_1 (e25_16) (g := true) rfl (l := [op, i21, i22]) rfl (m := []) rfl (cl_t ((show F16 [op, i21, i22] [] = F16 [op, ov a1 a2 a3 a4, ov d1 d2 d3 d4] [] from by rw [hi21, hi22, hi13, hi14, hi15, hi16, hi17, hi18, hi19, hi20]).trans h16)) fun i23 i24 b3 hi23 hi24 hb3 => ?_
            show T.den _ _ [op, (lo : Int), (hi : Int), (N : Int), (r : Int), (lo2 : Int), (hi2 : Int), (M : Int), (q : Int), i9, i10, i11, i12, i13, i14, i15, i16, i17, i18, i19, i20, i21, i22, i23, i24] [b0, b1, b2, b3] = _
            refine st_ite (fun hc => ?_) (fun hc => ?_)
            · replace hc : (i24 != 0) = true := hc
              have c9 := hc
              clear hc
              refine st_4_0 (e25_26) (g := true) rfl (l := [i12]) rfl (m := []) rfl (cl_t (q26_t i12)) fun i25 i26 i27 i28 hi25 hi26 hi27 hi28 => ?_
              show T.den _ _ [op, (lo : Int), (hi : Int), (N : Int), (r : Int), (lo2 : Int), (hi2 : Int), (M : Int), (q : Int), i9, i10, i11, i12, i13, i14, i15, i16, i17, i18, i19, i20, i21, i22, i23, i24, i25, i26, i27, i28] [b0, b1, b2, b3] = _
              refine st_ret ?_
              show some ([i25, i26, i27, i28], [true]) = _
              rw [hi25, hi26, hi27, hi28]
              rw [hi12]
            · replace hc : (i24 != 0) = false := hc
              have c10 := hc
              clear hc
              rw [hi24] at c10; exact absurd (by simpa using c10 : g = 0) hg
          · replace hc : (b1 && b2) = false := hc
            have c11 := hc
            clear hc
            rw [hb1, hb2, hi13, hi14, hi15, hi17, hi18, hi19, hbo] at c11; cases c11
      · replace hc : (i9 == 2) = false := hc
        have c12 := hc
        clear hc
        rw [hi9] at c12; exact absurd c12 (by decide)

set_option maxHeartbeats 4000000 in
theorem q25_con (op i a1 a2 a3 a4 d1 d2 d3 d4 : Int) (lo hi N r lo2 hi2 M q : Nat) (hc1 : F32 [(lo : Int), (hi : Int), (N : Int), (r : Int), i] [] = some ([a1, a2, a3, a4], [])) (hc2 : F32 [(lo2 : Int), (hi2 : Int), (M : Int), (q : Int), i] [] = some ([d1, d2, d3, d4], [])) (o v g : Int) (hT : F13 [op] [] = some ([2, i, i, o], [true])) (hbo : (ob a1 a2 a3 && ob d1 d2 d3) = true) (h16 : F16 [op, ov a1 a2 a3 a4, ov d1 d2 d3 d4] [] = some ([v, g], [true])) (hg : g = 0) : F25 [op, (lo : Int), (hi : Int), (N : Int), (r : Int), (lo2 : Int), (hi2 : Int), (M : Int), (q : Int)] [] = some ([v, v, 64, v], [true]) := by
  refine Eq.trans (Fd_of (n := 9) (m := 0) (t := XTransTight.t25) (C := Tab.fn a25) rfl rfl) ?_
  rw [XTransTight.t25]
  refine st_4_1 (e25_13) (g := true) rfl (l := [op]) rfl (m := []) rfl (cl_t hT) fun i9 i10 i11 i12 b0 hi9 hi10 hi11 hi12 hb0 => ?_
  show T.den _ _ [op, (lo : Int), (hi : Int), (N : Int), (r : Int), (lo2 : Int), (hi2 : Int), (M : Int), (q : Int), i9, i10, i11, i12] [b0] = _
  refine st_ite (fun hc => ?_) (fun hc => ?_)
  · replace hc : (i9 == 0) = true := hc
    have c1 := hc
    clear hc
    rw [hi9] at c1; exact absurd c1 (by decide)
  · replace hc : (i9 == 0) = false := hc
    have c2 := hc
    clear hc
    refine st_ite (fun hc => ?_) (fun hc => ?_)
    · replace hc : (i9 == 1) = true := hc
      have c3 := hc
      clear hc
      rw [hi9] at c3; exact absurd c3 (by decide)
    · replace hc : (i9 == 1) = false := hc
      have c4 := hc
      clear hc
      refine st_ite (fun hc => ?_) (fun hc => ?_)
      · replace hc : (i9 == 2) = true := hc
        have c5 := hc
        clear hc
        refine st_ite (fun hc => ?_) (fun hc => ?_)
        · replace hc : (!b0) = true := hc
          have c6 := hc
          clear hc
          rw [hb0] at c6; cases c6
        · replace hc : (!b0) = false := hc
          have c7 := hc
          clear hc
          refine st_4_0 (e25_32) (g := true) rfl (l := [(lo : Int), (hi : Int), (N : Int), (r : Int), i10]) rfl (m := []) rfl (cl_t ((show F32 [(lo : Int), (hi : Int), (N : Int), (r : Int), i10] [] = F32 [(lo : Int), (hi : Int), (N : Int), (r : Int), i] [] from by rw [hi10]).trans hc1)) fun i13 i14 i15 i16 hi13 hi14 hi15 hi16 => ?_
          show T.den _ _ [op, (lo : Int), (hi : Int), (N : Int), (r : Int), (lo2 : Int), (hi2 : Int), (M : Int), (q : Int), i9, i10, i11, i12, i13, i14, i15, i16] [b0] = _
          refine st_4_0 (e25_32) (g := true) rfl (l := [(lo2 : Int), (hi2 : Int), (M : Int), (q : Int), i11]) rfl (m := []) rfl (cl_t ((show F32 [(lo2 : Int), (hi2 : Int), (M : Int), (q : Int), i11] [] = F32 [(lo2 : Int), (hi2 : Int), (M : Int), (q : Int), i] [] from by rw [hi11]).trans hc2)) fun i17 i18 i19 i20 hi17 hi18 hi19 hi20 => ?_
          show T.den _ _ [op, (lo : Int), (hi : Int), (N : Int), (r : Int), (lo2 : Int), (hi2 : Int), (M : Int), (q : Int), i9, i10, i11, i12, i13, i14, i15, i16, i17, i18, i19, i20] [b0] = _
          refine st_1_1 (e25_42) (g := true) rfl (l := [i13, i14, i15, i16]) rfl (m := []) rfl (cl_t (q42 i13 i14 i15 i16)) fun i21 b1 hi21 hb1 => ?_
          show T.den _ _ [op, (lo : Int), (hi : Int), (N : Int), (r : Int), (lo2 : Int), (hi2 : Int), (M : Int), (q : Int), i9, i10, i11, i12, i13, i14, i15, i16, i17, i18, i19, i20, i21] [b0, b1] = _
          refine st_1_1 (e25_42) (g := true) rfl (l := [i17, i18, i19, i20]) rfl (m := []) rfl (cl_t (q42 i17 i18 i19 i20)) fun i22 b2 hi22 hb2 => ?_
          show T.den _ _ [op, (lo : Int), (hi : Int), (N : Int), (r : Int), (lo2 : Int), (hi2 : Int), (M : Int), (q : Int), i9, i10, i11, i12, i13, i14, i15, i16, i17, i18, i19, i20, i21, i22] [b0, b1, b2] = _
          refine st_ite (fun hc => ?_) (fun hc => ?_)
          · replace hc : (b1 && b2) = true := hc
            have c8 := hc
            clear hc
            refine st_2_1 (e25_16) (g := true) rfl (l := [op, i21, i22]) rfl (m := []) rfl (cl_t ((show F16 [op, i21, i22] [] = F16 [op, ov a1 a2 a3 a4, ov d1 d2 d3 d4] [] from by rw [hi21, hi22, hi13, hi14, hi15, hi16, hi17, hi18, hi19, hi20]).trans h16)) fun i23 i24 b3 hi23 hi24 hb3 => ?_
            show T.den _ _ [op, (lo : Int), (hi : Int), (N : Int), (r : Int), (lo2 : Int), (hi2 : Int), (M : Int), (q : Int), i9, i10, i11, i12, i13, i14, i15, i16, i17, i18, i19, i20, i21, i22, i23, i24] [b0, b1, b2, b3] = _
            refine st_ite (fun hc => ?_) (fun hc => ?_)
            · replace hc : (i24 != 0) = true := hc
              have c9 := hc
              clear hc
              rw [hi24] at c9; rw [hg] at c9; cases c9
            · replace hc : (i24 != 0) = false := hc
              have c10 := hc
              clear hc
              refine st_4_0 (e25_20) (g := true) rfl (l := [i23]) rfl (m := []) rfl (cl_t (q20 i23)) fun i25 i26 i27 i28 hi25 hi26 hi27 hi28 => ?_
              show T.den _ _ [op, (lo : Int), (hi : Int), (N : Int), (r : Int), (lo2 : Int), (hi2 : Int), (M : Int), (q : Int), i9, i10, i11, i12, i13, i14, i15, i16, i17, i18, i19, i20, i21, i22, i23, i24, i25, i26, i27, i28] [b0, b1, b2, b3] = _
              refine st_ret ?_
              show some ([i25, i26, i27, i28], [true]) = _
              rw [hi25, hi26, hi27, hi28]
              rw [hi23]
          · replace hc : (b1 && b2) = false := hc
            have c11 := hc
            clear hc
            rw [hb1, hb2, hi13, hi14, hi15, hi17, hi18, hi19, hbo] at c11; cases c11
      · replace hc : (i9 == 2) = false := hc
        have c12 := hc
        clear hc
        rw [hi9] at c12; exact absurd c12 (by decide)

set_option maxHeartbeats 4000000 in
theorem q25_cs (op i a1 a2 a3 a4 d1 d2 d3 d4 : Int) (lo hi N r lo2 hi2 M q : Nat) (hc1 : F32 [(lo : Int), (hi : Int), (N : Int), (r : Int), i] [] = some ([a1, a2, a3, a4], [])) (hc2 : F32 [(lo2 : Int), (hi2 : Int), (M : Int), (q : Int), i] [] = some ([d1, d2, d3, d4], [])) (o k t : Int) (y s : Bool) (hT : F13 [op] [] = some ([2, i, i, o], [true])) (hbo : (ob a1 a2 a3 && ob d1 d2 d3) = false) (hp : F31 [op] [] = some ([k, t], [true])) (h56 : F56 [k, a1, a2, a3, a4, d1, d2, d3, d4] [] = some ([], [y, s])) (hs' : s = true) : F25 [op, (lo : Int), (hi : Int), (N : Int), (r : Int), (lo2 : Int), (hi2 : Int), (M : Int), (q : Int)] [] = some ([bif y then 1 else 0, bif y then 1 else 0, 64, bif y then 1 else 0], [true]) := by
  refine Eq.trans (Fd_of (n := 9) (m := 0) (t := XTransTight.t25) (C := Tab.fn a25) rfl rfl) ?_
  rw [XTransTight.t25]
  refine st_4_1 (e25_13) (g := true) rfl (l := [op]) rfl (m := []) rfl (cl_t hT) fun i9 i10 i11 i12 b0 hi9 hi10 hi11 hi12 hb0 => ?_
  show T.den _ _ [op, (lo : Int), (hi : Int), (N : Int), (r : Int), (lo2 : Int), (hi2 : Int), (M : Int), (q : Int), i9, i10, i11, i12] [b0] = _
  refine st_ite (fun hc => ?_) (fun hc => ?_)
  · replace hc : (i9 == 0) = true := hc
    have c1 := hc
    clear hc
    rw [hi9] at c1; exact absurd c1 (by decide)
  · replace hc : (i9 == 0) = false := hc
    have c2 := hc
    clear hc
    refine st_ite (fun hc => ?_) (fun hc => ?_)
    · replace hc : (i9 == 1) = true := hc
      have c3 := hc
      clear hc
      rw [hi9] at c3; exact absurd c3 (by decide)
    · replace hc : (i9 == 1) = false := hc
      have c4 := hc
      clear hc
      refine st_ite (fun hc => ?_) (fun hc => ?_)
      · replace hc : (i9 == 2) = true := hc
        have c5 := hc
        clear hc
        refine st_ite (fun hc => ?_) (fun hc => ?_)
        · replace hc : (!b0) = true := hc
          have c6 := hc
          clear hc
          rw [hb0] at c6; cases c6
        · replace hc : (!b0) = false := hc
          have c7 := hc
          clear hc
          refine st_4_0 (e25_32) (g := true) rfl (l := [(lo : Int), (hi : Int), (N : Int), (r : Int), i10]) rfl (m := []) rfl (cl_t ((show F32 [(lo : Int), (hi : Int), (N : Int), (r : Int), i10] [] = F32 [(lo : Int), (hi : Int), (N : Int), (r : Int), i] [] from by rw [hi10]).trans hc1)) fun i13 i14 i15 i16 hi13 hi14 hi15 hi16 => ?_
          show T.den _ _ [op, (lo : Int), (hi : Int), (N : Int), (r : Int), (lo2 : Int), (hi2 : Int), (M : Int), (q : Int), i9, i10, i11, i12, i13, i14, i15, i16] [b0] = _
          refine st_4_0 (e25_32) (g := true) rfl (l := [(lo2 : Int), (hi2 : Int), (M : Int), (q : Int), i11]) rfl (m := []) rfl (cl_t ((show F32 [(lo2 : Int), (hi2 : Int), (M : Int), (q : Int), i11] [] = F32 [(lo2 : Int), (hi2 : Int), (M : Int), (q : Int), i] [] from by rw [hi11]).trans hc2)) fun i17 i18 i19 i20 hi17 hi18 hi19 hi20 => ?_
          show T.den _ _ [op, (lo : Int), (hi : Int), (N : Int), (r : Int), (lo2 : Int), (hi2 : Int), (M : Int), (q : Int), i9, i10, i11, i12, i13, i14, i15, i16, i17, i18, i19, i20] [b0] = _
          refine st_1_1 (e25_42) (g := true) rfl (l := [i13, i14, i15, i16]) rfl (m := []) rfl (cl_t (q42 i13 i14 i15 i16)) fun i21 b1 hi21 hb1 => ?_
          show T.den _ _ [op, (lo : Int), (hi : Int), (N : Int), (r : Int), (lo2 : Int), (hi2 : Int), (M : Int), (q : Int), i9, i10, i11, i12, i13, i14, i15, i16, i17, i18, i19, i20, i21] [b0, b1] = _
          refine st_1_1 (e25_42) (g := true) rfl (l := [i17, i18, i19, i20]) rfl (m := []) rfl (cl_t (q42 i17 i18 i19 i20)) fun i22 b2 hi22 hb2 => ?_
          show T.den _ _ [op, (lo : Int), (hi : Int), (N : Int), (r : Int), (lo2 : Int), (hi2 : Int), (M : Int), (q : Int), i9, i10, i11, i12, i13, i14, i15, i16, i17, i18, i19, i20, i21, i22] [b0, b1, b2] = _
          refine st_ite (fun hc => ?_) (fun hc => ?_)
          · replace hc : (b1 && b2) = true := hc
            have c8 := hc
            clear hc
            rw [hb1, hb2, hi13, hi14, hi15, hi17, hi18, hi19, hbo] at c8; cases c8
          · replace hc : (b1 && b2) = false := hc
            have c9 := hc
            clear hc
            refine st_2_1 (e25_31) (g := true) rfl (l := [op]) rfl (m := []) rfl (cl_t hp) fun i23 i24 b3 hi23 hi24 hb3 => ?_
            show T.den _ _ [op, (lo : Int), (hi : Int), (N : Int), (r : Int), (lo2 : Int), (hi2 : Int), (M : Int), (q : Int), i9, i10, i11, i12, i13, i14, i15, i16, i17, i18, i19, i20, i21, i22, i23, i24] [b0, b1, b2, b3] = _
            refine st_ite (fun hc => ?_) (fun hc => ?_)
            · replace hc : b3 = true := hc
              have c10 := hc
              clear hc
              refine st_0_2 (e25_56) (g := true) rfl (l := [i23, i13, i14, i15, i16, i17, i18, i19, i20]) rfl (m := []) rfl (cl_t ((show F56 [i23, i13, i14, i15, i16, i17, i18, i19, i20] [] = F56 [k, a1, a2, a3, a4, d1, d2, d3, d4] [] from by rw [hi23, hi13, hi14, hi15, hi16, hi17, hi18, hi19, hi20]).trans (h56))) fun b4 b5 hb4 hb5 => ?_
              show T.den _ _ [op, (lo : Int), (hi : Int), (N : Int), (r : Int), (lo2 : Int), (hi2 : Int), (M : Int), (q : Int), i9, i10, i11, i12, i13, i14, i15, i16, i17, i18, i19, i20, i21, i22, i23, i24] [b0, b1, b2, b3, b4, b5] = _
              refine st_ite (fun hc => ?_) (fun hc => ?_)
              · replace hc : b5 = true := hc
                have c11 := hc
                clear hc
                refine st_4_0 (e25_45) (g := true) rfl (l := []) rfl (m := [b4]) rfl (cl_t (q45 b4)) fun i25 i26 i27 i28 hi25 hi26 hi27 hi28 => ?_
                show T.den _ _ [op, (lo : Int), (hi : Int), (N : Int), (r : Int), (lo2 : Int), (hi2 : Int), (M : Int), (q : Int), i9, i10, i11, i12, i13, i14, i15, i16, i17, i18, i19, i20, i21, i22, i23, i24, i25, i26, i27, i28] [b0, b1, b2, b3, b4, b5] = _
                refine st_ret ?_
                show some ([i25, i26, i27, i28], [true]) = _
                rw [hi25, hi26, hi27, hi28]
                rw [hb4]
              · replace hc : b5 = false := hc
                have c12 := hc
                clear hc
                rw [hb5, hs'] at c12; cases c12
            · replace hc : b3 = false := hc
              have c13 := hc
              clear hc
              rw [hb3] at c13; cases c13
      · replace hc : (i9 == 2) = false := hc
        have c14 := hc
        clear hc
        rw [hi9] at c14; exact absurd c14 (by decide)

set_option maxHeartbeats 4000000 in
theorem q25_ce (op i a1 a2 a3 a4 d1 d2 d3 d4 : Int) (lo hi N r lo2 hi2 M q : Nat) (hc1 : F32 [(lo : Int), (hi : Int), (N : Int), (r : Int), i] [] = some ([a1, a2, a3, a4], [])) (hc2 : F32 [(lo2 : Int), (hi2 : Int), (M : Int), (q : Int), i] [] = some ([d1, d2, d3, d4], [])) (o k t : Int) (y s : Bool) (hT : F13 [op] [] = some ([2, i, i, o], [true])) (hbo : (ob a1 a2 a3 && ob d1 d2 d3) = false) (hp : F31 [op] [] = some ([k, t], [true])) (h56 : F56 [k, a1, a2, a3, a4, d1, d2, d3, d4] [] = some ([], [y, s])) (hs' : s = false) : F25 [op, (lo : Int), (hi : Int), (N : Int), (r : Int), (lo2 : Int), (hi2 : Int), (M : Int), (q : Int)] [] = some ([0, 1, 0, 0], [true]) := by
  refine Eq.trans (Fd_of (n := 9) (m := 0) (t := XTransTight.t25) (C := Tab.fn a25) rfl rfl) ?_
  rw [XTransTight.t25]
  refine st_4_1 (e25_13) (g := true) rfl (l := [op]) rfl (m := []) rfl (cl_t hT) fun i9 i10 i11 i12 b0 hi9 hi10 hi11 hi12 hb0 => ?_
  show T.den _ _ [op, (lo : Int), (hi : Int), (N : Int), (r : Int), (lo2 : Int), (hi2 : Int), (M : Int), (q : Int), i9, i10, i11, i12] [b0] = _
  refine st_ite (fun hc => ?_) (fun hc => ?_)
  · replace hc : (i9 == 0) = true := hc
    have c1 := hc
    clear hc
    rw [hi9] at c1; exact absurd c1 (by decide)
  · replace hc : (i9 == 0) = false := hc
    have c2 := hc
    clear hc
    refine st_ite (fun hc => ?_) (fun hc => ?_)
    · replace hc : (i9 == 1) = true := hc
      have c3 := hc
      clear hc
      rw [hi9] at c3; exact absurd c3 (by decide)
    · replace hc : (i9 == 1) = false := hc
      have c4 := hc
      clear hc
      refine st_ite (fun hc => ?_) (fun hc => ?_)
      · replace hc : (i9 == 2) = true := hc
        have c5 := hc
        clear hc
        refine st_ite (fun hc => ?_) (fun hc => ?_)
        · replace hc : (!b0) = true := hc
          have c6 := hc
          clear hc
          rw [hb0] at c6; cases c6
        · replace hc : (!b0) = false := hc
          have c7 := hc
          clear hc
          refine st_4_0 (e25_32) (g := true) rfl (l := [(lo : Int), (hi : Int), (N : Int), (r : Int), i10]) rfl (m := []) rfl (cl_t ((show F32 [(lo : Int), (hi : Int), (N : Int), (r : Int), i10] [] = F32 [(lo : Int), (hi : Int), (N : Int), (r : Int), i] [] from by rw [hi10]).trans hc1)) fun i13 i14 i15 i16 hi13 hi14 hi15 hi16 => ?_
          show T.den _ _ [op, (lo : Int), (hi : Int), (N : Int), (r : Int), (lo2 : Int), (hi2 : Int), (M : Int), (q : Int), i9, i10, i11, i12, i13, i14, i15, i16] [b0] = _
          refine st_4_0 (e25_32) (g := true) rfl (l := [(lo2 : Int), (hi2 : Int), (M : Int), (q : Int), i11]) rfl (m := []) rfl (cl_t ((show F32 [(lo2 : Int), (hi2 : Int), (M : Int), (q : Int), i11] [] = F32 [(lo2 : Int), (hi2 : Int), (M : Int), (q : Int), i] [] from by rw [hi11]).trans hc2)) fun i17 i18 i19 i20 hi17 hi18 hi19 hi20 => ?_
          show T.den _ _ [op, (lo : Int), (hi : Int), (N : Int), (r : Int), (lo2 : Int), (hi2 : Int), (M : Int), (q : Int), i9, i10, i11, i12, i13, i14, i15, i16, i17, i18, i19, i20] [b0] = _
          refine st_1_1 (e25_42) (g := true) rfl (l := [i13, i14, i15, i16]) rfl (m := []) rfl (cl_t (q42 i13 i14 i15 i16)) fun i21 b1 hi21 hb1 => ?_
          show T.den _ _ [op, (lo : Int), (hi : Int), (N : Int), (r : Int), (lo2 : Int), (hi2 : Int), (M : Int), (q : Int), i9, i10, i11, i12, i13, i14, i15, i16, i17, i18, i19, i20, i21] [b0, b1] = _
          refine st_1_1 (e25_42) (g := true) rfl (l := [i17, i18, i19, i20]) rfl (m := []) rfl (cl_t (q42 i17 i18 i19 i20)) fun i22 b2 hi22 hb2 => ?_
          show T.den _ _ [op, (lo : Int), (hi : Int), (N : Int), (r : Int), (lo2 : Int), (hi2 : Int), (M : Int), (q : Int), i9, i10, i11, i12, i13, i14, i15, i16, i17, i18, i19, i20, i21, i22] [b0, b1, b2] = _
          refine st_ite (fun hc => ?_) (fun hc => ?_)
          · replace hc : (b1 && b2) = true := hc
            have c8 := hc
            clear hc
            rw [hb1, hb2, hi13, hi14, hi15, hi17, hi18, hi19, hbo] at c8; cases c8
          · replace hc : (b1 && b2) = false := hc
            have c9 := hc
            clear hc
            refine st_2_1 (e25_31) (g := true) rfl (l := [op]) rfl (m := []) rfl (cl_t hp) fun i23 i24 b3 hi23 hi24 hb3 => ?_
            show T.den _ _ [op, (lo : Int), (hi : Int), (N : Int), (r : Int), (lo2 : Int), (hi2 : Int), (M : Int), (q : Int), i9, i10, i11, i12, i13, i14, i15, i16, i17, i18, i19, i20, i21, i22, i23, i24] [b0, b1, b2, b3] = _
            refine st_ite (fun hc => ?_) (fun hc => ?_)
            · replace hc : b3 = true := hc
              have c10 := hc
              clear hc
              refine st_0_2 (e25_56) (g := true) rfl (l := [i23, i13, i14, i15, i16, i17, i18, i19, i20]) rfl (m := []) rfl (cl_t ((show F56 [i23, i13, i14, i15, i16, i17, i18, i19, i20] [] = F56 [k, a1, a2, a3, a4, d1, d2, d3, d4] [] from by rw [hi23, hi13, hi14, hi15, hi16, hi17, hi18, hi19, hi20]).trans (h56))) fun b4 b5 hb4 hb5 => ?_
              show T.den _ _ [op, (lo : Int), (hi : Int), (N : Int), (r : Int), (lo2 : Int), (hi2 : Int), (M : Int), (q : Int), i9, i10, i11, i12, i13, i14, i15, i16, i17, i18, i19, i20, i21, i22, i23, i24] [b0, b1, b2, b3, b4, b5] = _
              refine st_ite (fun hc => ?_) (fun hc => ?_)
              · replace hc : b5 = true := hc
                have c11 := hc
                clear hc
                rw [hb5, hs'] at c11; cases c11
              · replace hc : b5 = false := hc
                have c12 := hc
                clear hc
                refine st_4_0 (e25_46) (g := true) rfl (l := []) rfl (m := []) rfl (cl_t q46) fun i25 i26 i27 i28 hi25 hi26 hi27 hi28 => ?_
                show T.den _ _ [op, (lo : Int), (hi : Int), (N : Int), (r : Int), (lo2 : Int), (hi2 : Int), (M : Int), (q : Int), i9, i10, i11, i12, i13, i14, i15, i16, i17, i18, i19, i20, i21, i22, i23, i24, i25, i26, i27, i28] [b0, b1, b2, b3, b4, b5] = _
                refine st_ret ?_
                show some ([i25, i26, i27, i28], [true]) = _
                rw [hi25, hi26, hi27, hi28]
            · replace hc : b3 = false := hc
              have c13 := hc
              clear hc
              rw [hb3] at c13; cases c13
      · replace hc : (i9 == 2) = false := hc
        have c14 := hc
        clear hc
        rw [hi9] at c14; exact absurd c14 (by decide)

set_option maxHeartbeats 4000000 in
theorem q25_rt126 (op i a1 a2 a3 a4 d1 d2 d3 d4 : Int) (lo hi N r lo2 hi2 M q : Nat) (hT : F13 [op] [] = some ([2, i, i, 126], [true])) (hc1 : F32 [(lo : Int), (hi : Int), (N : Int), (r : Int), i] [] = some ([a1, a2, a3, a4], [])) (hc2 : F32 [(lo2 : Int), (hi2 : Int), (M : Int), (q : Int), i] [] = some ([d1, d2, d3, d4], [])) (x0 x1 x2 x3 z0 z1 z2 z3 k : Int) (hbo : (ob a1 a2 a3 && ob d1 d2 d3) = false) (hp : F31 [op] [] = some ([0, 0], [false])) (hk : arI .sub .i64 op 124 = k) (h57 : F57 [k, a1, a2, a3, a4, d1, d2, d3, d4, 126] [] = some ([x0, x1, x2, x3], [true])) (h47 : F47 [x0, x1, x2, x3, 126] [] = some ([z0, z1, z2, z3], [])) : F25 [op, (lo : Int), (hi : Int), (N : Int), (r : Int), (lo2 : Int), (hi2 : Int), (M : Int), (q : Int)] [] = some ([z0, z1, z2, z3], [true]) := by
  refine Eq.trans (Fd_of (n := 9) (m := 0) (t := XTransTight.t25) (C := Tab.fn a25) rfl rfl) ?_
  rw [XTransTight.t25]
  refine st_4_1 (e25_13) (g := true) rfl (l := [op]) rfl (m := []) rfl (cl_t hT) fun i9 i10 i11 i12 b0 hi9 hi10 hi11 hi12 hb0 => ?_
  show T.den _ _ [op, (lo : Int), (hi : Int), (N : Int), (r : Int), (lo2 : Int), (hi2 : Int), (M : Int), (q : Int), i9, i10, i11, i12] [b0] = _
  refine st_ite (fun hc => ?_) (fun hc => ?_)
  · replace hc : (i9 == 0) = true := hc
    have c1 := hc
    clear hc
    rw [hi9] at c1; exact absurd c1 (by decide)
  · replace hc : (i9 == 0) = false := hc
    have c2 := hc
    clear hc
    refine st_ite (fun hc => ?_) (fun hc => ?_)
    · replace hc : (i9 == 1) = true := hc
      have c3 := hc
      clear hc
      rw [hi9] at c3; exact absurd c3 (by decide)
    · replace hc : (i9 == 1) = false := hc
      have c4 := hc
      clear hc
      refine st_ite (fun hc => ?_) (fun hc => ?_)
      · replace hc : (i9 == 2) = true := hc
        have c5 := hc
        clear hc
        refine st_ite (fun hc => ?_) (fun hc => ?_)
        · replace hc : (!b0) = true := hc
          have c6 := hc
          clear hc
          rw [hb0] at c6; cases c6
        · replace hc : (!b0) = false := hc
          have c7 := hc
          clear hc
          refine st_4_0 (e25_32) (g := true) rfl (l := [(lo : Int), (hi : Int), (N : Int), (r : Int), i10]) rfl (m := []) rfl (cl_t ((show F32 [(lo : Int), (hi : Int), (N : Int), (r : Int), i10] [] = F32 [(lo : Int), (hi : Int), (N : Int), (r : Int), i] [] from by rw [hi10]).trans hc1)) fun i13 i14 i15 i16 hi13 hi14 hi15 hi16 => ?_
          show T.den _ _ [op, (lo : Int), (hi : Int), (N : Int), (r : Int), (lo2 : Int), (hi2 : Int), (M : Int), (q : Int), i9, i10, i11, i12, i13, i14, i15, i16] [b0] = _
          refine st_4_0 (e25_32) (g := true) rfl (l := [(lo2 : Int), (hi2 : Int), (M : Int), (q : Int), i11]) rfl (m := []) rfl (cl_t ((show F32 [(lo2 : Int), (hi2 : Int), (M : Int), (q : Int), i11] [] = F32 [(lo2 : Int), (hi2 : Int), (M : Int), (q : Int), i] [] from by rw [hi11]).trans hc2)) fun i17 i18 i19 i20 hi17 hi18 hi19 hi20 => ?_
          show T.den _ _ [op, (lo : Int), (hi : Int), (N : Int), (r : Int), (lo2 : Int), (hi2 : Int), (M : Int), (q : Int), i9, i10, i11, i12, i13, i14, i15, i16, i17, i18, i19, i20] [b0] = _
          refine st_1_1 (e25_42) (g := true) rfl (l := [i13, i14, i15, i16]) rfl (m := []) rfl (cl_t (q42 i13 i14 i15 i16)) fun i21 b1 hi21 hb1 => ?_
          show T.den _ _ [op, (lo : Int), (hi : Int), (N : Int), (r : Int), (lo2 : Int), (hi2 : Int), (M : Int), (q : Int), i9, i10, i11, i12, i13, i14, i15, i16, i17, i18, i19, i20, i21] [b0, b1] = _
          refine st_1_1 (e25_42) (g := true) rfl (l := [i17, i18, i19, i20]) rfl (m := []) rfl (cl_t (q42 i17 i18 i19 i20)) fun i22 b2 hi22 hb2 => ?_
          show T.den _ _ [op, (lo : Int), (hi : Int), (N : Int), (r : Int), (lo2 : Int), (hi2 : Int), (M : Int), (q : Int), i9, i10, i11, i12, i13, i14, i15, i16, i17, i18, i19, i20, i21, i22] [b0, b1, b2] = _
          refine st_ite (fun hc => ?_) (fun hc => ?_)
          · replace hc : (b1 && b2) = true := hc
            have c8 := hc
            clear hc
            rw [hb1, hb2, hi13, hi14, hi15, hi17, hi18, hi19, hbo] at c8; cases c8
          · replace hc : (b1 && b2) = false := hc
            have c9 := hc
            clear hc
            refine st_2_1 (e25_31) (g := true) rfl (l := [op]) rfl (m := []) rfl (cl_t hp) fun i23 i24 b3 hi23 hi24 hb3 => ?_
            show T.den _ _ [op, (lo : Int), (hi : Int), (N : Int), (r : Int), (lo2 : Int), (hi2 : Int), (M : Int), (q : Int), i9, i10, i11, i12, i13, i14, i15, i16, i17, i18, i19, i20, i21, i22, i23, i24] [b0, b1, b2, b3] = _
            refine st_ite (fun hc => ?_) (fun hc => ?_)
            · replace hc : b3 = true := hc
              have c10 := hc
              clear hc
              rw [hb3] at c10; cases c10
            · replace hc : b3 = false := hc
              have c11 := hc
              clear hc
              refine st_ite (fun hc => ?_) (fun hc => ?_)
              · replace hc : (i12 == 126) = true := hc
                have c12 := hc
                clear hc
                refine st_4_1 (e25_57) (g := true) rfl (l := [(arI .sub .i64 op 124), i13, i14, i15, i16, i17, i18, i19, i20, i12]) rfl (m := []) rfl (cl_t ((show F57 [(arI .sub .i64 op 124), i13, i14, i15, i16, i17, i18, i19, i20, i12] [] = F57 [k, a1, a2, a3, a4, d1, d2, d3, d4, 126] [] from by rw [hk, hi13, hi14, hi15, hi16, hi17, hi18, hi19, hi20, hi12]).trans h57)) fun i25 i26 i27 i28 b4 hi25 hi26 hi27 hi28 hb4 => ?_
                show T.den _ _ [op, (lo : Int), (hi : Int), (N : Int), (r : Int), (lo2 : Int), (hi2 : Int), (M : Int), (q : Int), i9, i10, i11, i12, i13, i14, i15, i16, i17, i18, i19, i20, i21, i22, i23, i24, i25, i26, i27, i28] [b0, b1, b2, b3, b4] = _
                refine st_ite (fun hc => ?_) (fun hc => ?_)
                · replace hc : (!b4) = true := hc
                  have c13 := hc
                  clear hc
                  rw [hb4] at c13; cases c13
                · replace hc : (!b4) = false := hc
                  have c14 := hc
                  clear hc
                  refine st_4_0 (e25_47) (g := true) rfl (l := [i25, i26, i27, i28, i12]) rfl (m := []) rfl (cl_t ((show F47 [i25, i26, i27, i28, i12] [] = F47 [x0, x1, x2, x3, 126] [] from by rw [hi25, hi26, hi27, hi28, hi12]).trans h47)) fun i29 i30 i31 i32 hi29 hi30 hi31 hi32 => ?_
                  show T.den _ _ [op, (lo : Int), (hi : Int), (N : Int), (r : Int), (lo2 : Int), (hi2 : Int), (M : Int), (q : Int), i9, i10, i11, i12, i13, i14, i15, i16, i17, i18, i19, i20, i21, i22, i23, i24, i25, i26, i27, i28, i29, i30, i31, i32] [b0, b1, b2, b3, b4] = _
                  refine st_ret ?_
                  show some ([i29, i30, i31, i32], [true]) = _
                  rw [hi29, hi30, hi31, hi32]
              · replace hc : (i12 == 126) = false := hc
                have c15 := hc
                clear hc
                rw [hi12] at c15; exact absurd c15 (by decide)
      · replace hc : (i9 == 2) = false := hc
        have c16 := hc
        clear hc
        rw [hi9] at c16; exact absurd c16 (by decide)

set_option maxHeartbeats 4000000 in
theorem q25_rf126 (op i a1 a2 a3 a4 d1 d2 d3 d4 : Int) (lo hi N r lo2 hi2 M q : Nat) (hT : F13 [op] [] = some ([2, i, i, 126], [true])) (hc1 : F32 [(lo : Int), (hi : Int), (N : Int), (r : Int), i] [] = some ([a1, a2, a3, a4], [])) (hc2 : F32 [(lo2 : Int), (hi2 : Int), (M : Int), (q : Int), i] [] = some ([d1, d2, d3, d4], [])) (x0 x1 x2 x3 z0 z1 z2 z3 k : Int) (hbo : (ob a1 a2 a3 && ob d1 d2 d3) = false) (hp : F31 [op] [] = some ([0, 0], [false])) (hk : arI .sub .i64 op 124 = k) (h57 : F57 [k, a1, a2, a3, a4, d1, d2, d3, d4, 126] [] = some ([x0, x1, x2, x3], [false])) : F25 [op, (lo : Int), (hi : Int), (N : Int), (r : Int), (lo2 : Int), (hi2 : Int), (M : Int), (q : Int)] [] = some ([0, ((Tn 126 : Nat) : Int), 0, 0], [true]) := by
  refine Eq.trans (Fd_of (n := 9) (m := 0) (t := XTransTight.t25) (C := Tab.fn a25) rfl rfl) ?_
  rw [XTransTight.t25]
  refine st_4_1 (e25_13) (g := true) rfl (l := [op]) rfl (m := []) rfl (cl_t hT) fun i9 i10 i11 i12 b0 hi9 hi10 hi11 hi12 hb0 => ?_
  show T.den _ _ [op, (lo : Int), (hi : Int), (N : Int), (r : Int), (lo2 : Int), (hi2 : Int), (M : Int), (q : Int), i9, i10, i11, i12] [b0] = _
  refine st_ite (fun hc => ?_) (fun hc => ?_)
  · replace hc : (i9 == 0) = true := hc
    have c1 := hc
    clear hc
    rw [hi9] at c1; exact absurd c1 (by decide)
  · replace hc : (i9 == 0) = false := hc
    have c2 := hc
    clear hc
    refine st_ite (fun hc => ?_) (fun hc => ?_)
    · replace hc : (i9 == 1) = true := hc
      have c3 := hc
      clear hc
      rw [hi9] at c3; exact absurd c3 (by decide)
    · replace hc : (i9 == 1) = false := hc
      have c4 := hc
      clear hc
      refine st_ite (fun hc => ?_) (fun hc => ?_)
      · replace hc : (i9 == 2) = true := hc
        have c5 := hc
        clear hc
        refine st_ite (fun hc => ?_) (fun hc => ?_)
        · replace hc : (!b0) = true := hc
          have c6 := hc
          clear hc
          rw [hb0] at c6; cases c6
        · replace hc : (!b0) = false := hc
          have c7 := hc
          clear hc
          refine st_4_0 (e25_32) (g := true) rfl (l := [(lo : Int), (hi : Int), (N : Int), (r : Int), i10]) rfl (m := []) rfl (cl_t ((show F32 [(lo : Int), (hi : Int), (N : Int), (r : Int), i10] [] = F32 [(lo : Int), (hi : Int), (N : Int), (r : Int), i] [] from by rw [hi10]).trans hc1)) fun i13 i14 i15 i16 hi13 hi14 hi15 hi16 => ?_
          show T.den _ _ [op, (lo : Int), (hi : Int), (N : Int), (r : Int), (lo2 : Int), (hi2 : Int), (M : Int), (q : Int), i9, i10, i11, i12, i13, i14, i15, i16] [b0] = _
          refine st_4_0 (e25_32) (g := true) rfl (l := [(lo2 : Int), (hi2 : Int), (M : Int), (q : Int), i11]) rfl (m := []) rfl (cl_t ((show F32 [(lo2 : Int), (hi2 : Int), (M : Int), (q : Int), i11] [] = F32 [(lo2 : Int), (hi2 : Int), (M : Int), (q : Int), i] [] from by rw [hi11]).trans hc2)) fun i17 i18 i19 i20 hi17 hi18 hi19 hi20 => ?_
          show T.den _ _ [op, (lo : Int), (hi : Int), (N : Int), (r : Int), (lo2 : Int), (hi2 : Int), (M : Int), (q : Int), i9, i10, i11, i12, i13, i14, i15, i16, i17, i18, i19, i20] [b0] = _
          refine st_1_1 (e25_42) (g := true) rfl (l := [i13, i14, i15, i16]) rfl (m := []) rfl (cl_t (q42 i13 i14 i15 i16)) fun i21 b1 hi21 hb1 => ?_
          show T.den _ _ [op, (lo : Int), (hi : Int), (N : Int), (r : Int), (lo2 : Int), (hi2 : Int), (M : Int), (q : Int), i9, i10, i11, i12, i13, i14, i15, i16, i17, i18, i19, i20, i21] [b0, b1] = _
          refine st_1_1 (e25_42) (g := true) rfl (l := [i17, i18, i19, i20]) rfl (m := []) rfl (cl_t (q42 i17 i18 i19 i20)) fun i22 b2 hi22 hb2 => ?_
          show T.den _ _ [op, (lo : Int), (hi : Int), (N : Int), (r : Int), (lo2 : Int), (hi2 : Int), (M : Int), (q : Int), i9, i10, i11, i12, i13, i14, i15, i16, i17, i18, i19, i20, i21, i22] [b0, b1, b2] = _
          refine st_ite (fun hc => ?_) (fun hc => ?_)
          · replace hc : (b1 && b2) = true := hc
            have c8 := hc
            clear hc
            rw [hb1, hb2, hi13, hi14, hi15, hi17, hi18, hi19, hbo] at c8; cases c8
          · replace hc : (b1 && b2) = false := hc
            have c9 := hc
            clear hc
            refine st_2_1 (e25_31) (g := true) rfl (l := [op]) rfl (m := []) rfl (cl_t hp) fun i23 i24 b3 hi23 hi24 hb3 => ?_
            show T.den _ _ [op, (lo : Int), (hi : Int), (N : Int), (r : Int), (lo2 : Int), (hi2 : Int), (M : Int), (q : Int), i9, i10, i11, i12, i13, i14, i15, i16, i17, i18, i19, i20, i21, i22, i23, i24] [b0, b1, b2, b3] = _
            refine st_ite (fun hc => ?_) (fun hc => ?_)
            · replace hc : b3 = true := hc
              have c10 := hc
              clear hc
              rw [hb3] at c10; cases c10
            · replace hc : b3 = false := hc
              have c11 := hc
              clear hc
              refine st_ite (fun hc => ?_) (fun hc => ?_)
              · replace hc : (i12 == 126) = true := hc
                have c12 := hc
                clear hc
                refine st_4_1 (e25_57) (g := true) rfl (l := [(arI .sub .i64 op 124), i13, i14, i15, i16, i17, i18, i19, i20, i12]) rfl (m := []) rfl (cl_t ((show F57 [(arI .sub .i64 op 124), i13, i14, i15, i16, i17, i18, i19, i20, i12] [] = F57 [k, a1, a2, a3, a4, d1, d2, d3, d4, 126] [] from by rw [hk, hi13, hi14, hi15, hi16, hi17, hi18, hi19, hi20, hi12]).trans h57)) fun i25 i26 i27 i28 b4 hi25 hi26 hi27 hi28 hb4 => ?_
                show T.den _ _ [op, (lo : Int), (hi : Int), (N : Int), (r : Int), (lo2 : Int), (hi2 : Int), (M : Int), (q : Int), i9, i10, i11, i12, i13, i14, i15, i16, i17, i18, i19, i20, i21, i22, i23, i24, i25, i26, i27, i28] [b0, b1, b2, b3, b4] = _
                refine st_ite (fun hc => ?_) (fun hc => ?_)
                · replace hc : (!b4) = true := hc
                  have c13 := hc
                  clear hc
                  refine st_4_0 (e25_26) (g := true) rfl (l := [i12]) rfl (m := []) rfl (cl_t (q26_t i12)) fun i29 i30 i31 i32 hi29 hi30 hi31 hi32 => ?_
                  show T.den _ _ [op, (lo : Int), (hi : Int), (N : Int), (r : Int), (lo2 : Int), (hi2 : Int), (M : Int), (q : Int), i9, i10, i11, i12, i13, i14, i15, i16, i17, i18, i19, i20, i21, i22, i23, i24, i25, i26, i27, i28, i29, i30, i31, i32] [b0, b1, b2, b3, b4] = _
                  refine st_ret ?_
                  show some ([i29, i30, i31, i32], [true]) = _
                  rw [hi29, hi30, hi31, hi32]
                  rw [hi12]
                · replace hc : (!b4) = false := hc
                  have c14 := hc
                  clear hc
                  rw [hb4] at c14; cases c14
              · replace hc : (i12 == 126) = false := hc
                have c15 := hc
                clear hc
                rw [hi12] at c15; exact absurd c15 (by decide)
      · replace hc : (i9 == 2) = false := hc
        have c16 := hc
        clear hc
        rw [hi9] at c16; exact absurd c16 (by decide)

set_option maxHeartbeats 4000000 in
theorem q25_rt127 (op i a1 a2 a3 a4 d1 d2 d3 d4 : Int) (lo hi N r lo2 hi2 M q : Nat) (hT : F13 [op] [] = some ([2, i, i, 127], [true])) (hc1 : F32 [(lo : Int), (hi : Int), (N : Int), (r : Int), i] [] = some ([a1, a2, a3, a4], [])) (hc2 : F32 [(lo2 : Int), (hi2 : Int), (M : Int), (q : Int), i] [] = some ([d1, d2, d3, d4], [])) (x0 x1 x2 x3 z0 z1 z2 z3 k : Int) (hbo : (ob a1 a2 a3 && ob d1 d2 d3) = false) (hp : F31 [op] [] = some ([0, 0], [false])) (hk : arI .sub .i64 op 106 = k) (h57 : F57 [k, a1, a2, a3, a4, d1, d2, d3, d4, 127] [] = some ([x0, x1, x2, x3], [true])) (h47 : F47 [x0, x1, x2, x3, 127] [] = some ([z0, z1, z2, z3], [])) : F25 [op, (lo : Int), (hi : Int), (N : Int), (r : Int), (lo2 : Int), (hi2 : Int), (M : Int), (q : Int)] [] = some ([z0, z1, z2, z3], [true]) := by
  refine Eq.trans (Fd_of (n := 9) (m := 0) (t := XTransTight.t25) (C := Tab.fn a25) rfl rfl) ?_
  rw [XTransTight.t25]
  refine st_4_1 (e25_13) (g := true) rfl (l := [op]) rfl (m := []) rfl (cl_t hT) fun i9 i10 i11 i12 b0 hi9 hi10 hi11 hi12 hb0 => ?_
  show T.den _ _ [op, (lo : Int), (hi : Int), (N : Int), (r : Int), (lo2 : Int), (hi2 : Int), (M : Int), (q : Int), i9, i10, i11, i12] [b0] = _
  refine st_ite (fun hc => ?_) (fun hc => ?_)
  · replace hc : (i9 == 0) = true := hc
    have c1 := hc
    clear hc
    rw [hi9] at c1; exact absurd c1 (by decide)
  · replace hc : (i9 == 0) = false := hc
    have c2 := hc
    clear hc
    refine st_ite (fun hc => ?_) (fun hc => ?_)
    · replace hc : (i9 == 1) = true := hc
      have c3 := hc
      clear hc
      rw [hi9] at c3; exact absurd c3 (by decide)
    · replace hc : (i9 == 1) = false := hc
      have c4 := hc
      clear hc
      refine st_ite (fun hc => ?_) (fun hc => ?_)
      · replace hc : (i9 == 2) = true := hc
        have c5 := hc
        clear hc
        refine st_ite (fun hc => ?_) (fun hc => ?_)
        · replace hc : (!b0) = true := hc
          have c6 := hc
          clear hc
          rw [hb0] at c6; cases c6
        · replace hc : (!b0) = false := hc
          have c7 := hc
          clear hc
          refine st_4_0 (e25_32) (g := true) rfl (l := [(lo : Int), (hi : Int), (N : Int), (r : Int), i10]) rfl (m := []) rfl (cl_t ((show F32 [(lo : Int), (hi : Int), (N : Int), (r : Int), i10] [] = F32 [(lo : Int), (hi : Int), (N : Int), (r : Int), i] [] from by rw [hi10]).trans hc1)) fun i13 i14 i15 i16 hi13 hi14 hi15 hi16 => ?_
          show T.den _ _ [op, (lo : Int), (hi : Int), (N : Int), (r : Int), (lo2 : Int), (hi2 : Int), (M : Int), (q : Int), i9, i10, i11, i12, i13, i14, i15, i16] [b0] = _
          refine st_4_0 (e25_32) (g := true) rfl (l := [(lo2 : Int), (hi2 : Int), (M : Int), (q : Int), i11]) rfl (m := []) rfl (cl_t ((show F32 [(lo2 : Int), (hi2 : Int), (M : Int), (q : Int), i11] [] = F32 [(lo2 : Int), (hi2 : Int), (M : Int), (q : Int), i] [] from by rw [hi11]).trans hc2)) fun i17 i18 i19 i20 hi17 hi18 hi19 hi20 => ?_
          show T.den _ _ [op, (lo : Int), (hi : Int), (N : Int), (r : Int), (lo2 : Int), (hi2 : Int), (M : Int), (q : Int), i9, i10, i11, i12, i13, i14, i15, i16, i17, i18, i19, i20] [b0] = _
          refine st_1_1 (e25_42) (g := true) rfl (l := [i13, i14, i15, i16]) rfl (m := []) rfl (cl_t (q42 i13 i14 i15 i16)) fun i21 b1 hi21 hb1 => ?_
          show T.den _ _ [op, (lo : Int), (hi : Int), (N : Int), (r : Int), (lo2 : Int), (hi2 : Int), (M : Int), (q : Int), i9, i10, i11, i12, i13, i14, i15, i16, i17, i18, i19, i20, i21] [b0, b1] = _
          refine st_1_1 (e25_42) (g := true) rfl (l := [i17, i18, i19, i20]) rfl (m := []) rfl (cl_t (q42 i17 i18 i19 i20)) fun i22 b2 hi22 hb2 => ?_
          show T.den _ _ [op, (lo : Int), (hi : Int), (N : Int), (r : Int), (lo2 : Int), (hi2 : Int), (M : Int), (q : Int), i9, i10, i11, i12, i13, i14, i15, i16, i17, i18, i19, i20, i21, i22] [b0, b1, b2] = _
          refine st_ite (fun hc => ?_) (fun hc => ?_)
          · replace hc : (b1 && b2) = true := hc
            have c8 := hc
            clear hc
            rw [hb1, hb2, hi13, hi14, hi15, hi17, hi18, hi19, hbo] at c8; cases c8
          · replace hc : (b1 && b2) = false := hc
            have c9 := hc
            clear hc
            refine st_2_1 (e25_31) (g := true) rfl (l := [op]) rfl (m := []) rfl (cl_t hp) fun i23 i24 b3 hi23 hi24 hb3 => ?_
            show T.den _ _ [op, (lo : Int), (hi : Int), (N : Int), (r : Int), (lo2 : Int), (hi2 : Int), (M : Int), (q : Int), i9, i10, i11, i12, i13, i14, i15, i16, i17, i18, i19, i20, i21, i22, i23, i24] [b0, b1, b2, b3] = _
            refine st_ite (fun hc => ?_) (fun hc => ?_)
            · replace hc : b3 = true := hc
              have c10 := hc
              clear hc
              rw [hb3] at c10; cases c10
            · replace hc : b3 = false := hc
              have c11 := hc
              clear hc
              refine st_ite (fun hc => ?_) (fun hc => ?_)
              · replace hc : (i12 == 126) = true := hc
                have c12 := hc
                clear hc
                rw [hi12] at c12; exact absurd c12 (by decide)
              · replace hc : (i12 == 126) = false := hc
                have c13 := hc
                clear hc
                refine st_4_1 (e25_57) (g := true) rfl (l := [(arI .sub .i64 op 106), i13, i14, i15, i16, i17, i18, i19, i20, i12]) rfl (m := []) rfl (cl_t ((show F57 [(arI .sub .i64 op 106), i13, i14, i15, i16, i17, i18, i19, i20, i12] [] = F57 [k, a1, a2, a3, a4, d1, d2, d3, d4, 127] [] from by rw [hk, hi13, hi14, hi15, hi16, hi17, hi18, hi19, hi20, hi12]).trans h57)) fun i25 i26 i27 i28 b4 hi25 hi26 hi27 hi28 hb4 => ?_
                show T.den _ _ [op, (lo : Int), (hi : Int), (N : Int), (r : Int), (lo2 : Int), (hi2 : Int), (M : Int), (q : Int), i9, i10, i11, i12, i13, i14, i15, i16, i17, i18, i19, i20, i21, i22, i23, i24, i25, i26, i27, i28] [b0, b1, b2, b3, b4] = _
                refine st_ite (fun hc => ?_) (fun hc => ?_)
                · replace hc : (!b4) = true := hc
                  have c14 := hc
                  clear hc
                  rw [hb4] at c14; cases c14
                · replace hc : (!b4) = false := hc
                  have c15 := hc
                  clear hc
                  refine st_4_0 (e25_47) (g := true) rfl (l := [i25, i26, i27, i28, i12]) rfl (m := []) rfl (cl_t ((show F47 [i25, i26, i27, i28, i12] [] = F47 [x0, x1, x2, x3, 127] [] from by rw [hi25, hi26, hi27, hi28, hi12]).trans h47)) fun i29 i30 i31 i32 hi29 hi30 hi31 hi32 => ?_
                  show T.den _ _ [op, (lo : Int), (hi : Int), (N : Int), (r : Int), (lo2 : Int), (hi2 : Int), (M : Int), (q : Int), i9, i10, i11, i12, i13, i14, i15, i16, i17, i18, i19, i20, i21, i22, i23, i24, i25, i26, i27, i28, i29, i30, i31, i32] [b0, b1, b2, b3, b4] = _
                  refine st_ret ?_
                  show some ([i29, i30, i31, i32], [true]) = _
                  rw [hi29, hi30, hi31, hi32]
      · replace hc : (i9 == 2) = false := hc
        have c16 := hc
        clear hc
        rw [hi9] at c16; exact absurd c16 (by decide)

set_option maxHeartbeats 4000000 in
theorem q25_rf127 (op i a1 a2 a3 a4 d1 d2 d3 d4 : Int) (lo hi N r lo2 hi2 M q : Nat) (hT : F13 [op] [] = some ([2, i, i, 127], [true])) (hc1 : F32 [(lo : Int), (hi : Int), (N : Int), (r : Int), i] [] = some ([a1, a2, a3, a4], [])) (hc2 : F32 [(lo2 : Int), (hi2 : Int), (M : Int), (q : Int), i] [] = some ([d1, d2, d3, d4], [])) (x0 x1 x2 x3 z0 z1 z2 z3 k : Int) (hbo : (ob a1 a2 a3 && ob d1 d2 d3) = false) (hp : F31 [op] [] = some ([0, 0], [false])) (hk : arI .sub .i64 op 106 = k) (h57 : F57 [k, a1, a2, a3, a4, d1, d2, d3, d4, 127] [] = some ([x0, x1, x2, x3], [false])) : F25 [op, (lo : Int), (hi : Int), (N : Int), (r : Int), (lo2 : Int), (hi2 : Int), (M : Int), (q : Int)] [] = some ([0, ((Tn 127 : Nat) : Int), 0, 0], [true]) := by
  refine Eq.trans (Fd_of (n := 9) (m := 0) (t := XTransTight.t25) (C := Tab.fn a25) rfl rfl) ?_
  rw [XTransTight.t25]
  refine st_4_1 (e25_13) (g := true) rfl (l := [op]) rfl (m := []) rfl (cl_t hT) fun i9 i10 i11 i12 b0 hi9 hi10 hi11 hi12 hb0 => ?_
  show T.den _ _ [op, (lo : Int), (hi : Int), (N : Int), (r : Int), (lo2 : Int), (hi2 : Int), (M : Int), (q : Int), i9, i10, i11, i12] [b0] = _
  refine st_ite (fun hc => ?_) (fun hc => ?_)
  · replace hc : (i9 == 0) = true := hc
    have c1 := hc
    clear hc
    rw [hi9] at c1; exact absurd c1 (by decide)
  · replace hc : (i9 == 0) = false := hc
    have c2 := hc
    clear hc
    refine st_ite (fun hc => ?_) (fun hc => ?_)
    · replace hc : (i9 == 1) = true := hc
      have c3 := hc
      clear hc
      rw [hi9] at c3; exact absurd c3 (by decide)
    · replace hc : (i9 == 1) = false := hc
      have c4 := hc
      clear hc
      refine st_ite (fun hc => ?_) (fun hc => ?_)
      · replace hc : (i9 == 2) = true := hc
        have c5 := hc
        clear hc
        refine st_ite (fun hc => ?_) (fun hc => ?_)
        · replace hc : (!b0) = true := hc
          have c6 := hc
          clear hc
          rw [hb0] at c6; cases c6
        · replace hc : (!b0) = false := hc
          have c7 := hc
          clear hc
          refine st_4_0 (e25_32) (g := true) rfl (l := [(lo : Int), (hi : Int), (N : Int), (r : Int), i10]) rfl (m := []) rfl (cl_t ((show F32 [(lo : Int), (hi : Int), (N : Int), (r : Int), i10] [] = F32 [(lo : Int), (hi : Int), (N : Int), (r : Int), i] [] from by rw [hi10]).trans hc1)) fun i13 i14 i15 i16 hi13 hi14 hi15 hi16 => ?_
          show T.den _ _ [op, (lo : Int), (hi : Int), (N : Int), (r : Int), (lo2 : Int), (hi2 : Int), (M : Int), (q : Int), i9, i10, i11, i12, i13, i14, i15, i16] [b0] = _
          refine st_4_0 (e25_32) (g := true) rfl (l := [(lo2 : Int), (hi2 : Int), (M : Int), (q : Int), i11]) rfl (m := []) rfl (cl_t ((show F32 [(lo2 : Int), (hi2 : Int), (M : Int), (q : Int), i11] [] = F32 [(lo2 : Int), (hi2 : Int), (M : Int), (q : Int), i] [] from by rw [hi11]).trans hc2)) fun i17 i18 i19 i20 hi17 hi18 hi19 hi20 => ?_
          show T.den _ _ [op, (lo : Int), (hi : Int), (N : Int), (r : Int), (lo2 : Int), (hi2 : Int), (M : Int), (q : Int), i9, i10, i11, i12, i13, i14, i15, i16, i17, i18, i19, i20] [b0] = _
          refine st_1_1 (e25_42) (g := true) rfl (l := [i13, i14, i15, i16]) rfl (m := []) rfl (cl_t (q42 i13 i14 i15 i16)) fun i21 b1 hi21 hb1 => ?_
          show T.den _ _ [op, (lo : Int), (hi : Int), (N : Int), (r : Int), (lo2 : Int), (hi2 : Int), (M : Int), (q : Int), i9, i10, i11, i12, i13, i14, i15, i16, i17, i18, i19, i20, i21] [b0, b1] = _
          refine st_1_1 (e25_42) (g := true) rfl (l := [i17, i18, i19, i20]) rfl (m := []) rfl (cl_t (q42 i17 i18 i19 i20)) fun i22 b2 hi22 hb2 => ?_
          show T.den _ _ [op, (lo : Int), (hi : Int), (N : Int), (r : Int), (lo2 : Int), (hi2 : Int), (M : Int), (q : Int), i9, i10, i11, i12, i13, i14, i15, i16, i17, i18, i19, i20, i21, i22] [b0, b1, b2] = _
          refine st_ite (fun hc => ?_) (fun hc => ?_)
          · replace hc : (b1 && b2) = true := hc
            have c8 := hc
            clear hc
            rw [hb1, hb2, hi13, hi14, hi15, hi17, hi18, hi19, hbo] at c8; cases c8
          · replace hc : (b1 && b2) = false := hc
            have c9 := hc
            clear hc
            refine st_2_1 (e25_31) (g := true) rfl (l := [op]) rfl (m := []) rfl (cl_t hp) fun i23 i24 b3 hi23 hi24 hb3 => ?_
            show T.den _ _ [op, (lo : Int), (hi : Int), (N : Int), (r : Int), (lo2 : Int), (hi2 : Int), (M : Int), (q : Int), i9, i10, i11, i12, i13, i14, i15, i16, i17, i18, i19, i20, i21, i22, i23, i24] [b0, b1, b2, b3] = _
            refine st_ite (fun hc => ?_) (fun hc => ?_)
            · replace hc : b3 = true := hc
              have c10 := hc
              clear hc
              rw [hb3] at c10; cases c10
            · replace hc : b3 = false := hc
              have c11 := hc
              clear hc
              refine st_ite (fun hc => ?_) (fun hc => ?_)
              · replace hc : (i12 == 126) = true := hc
                have c12 := hc
                clear hc
                rw [hi12] at c12; exact absurd c12 (by decide)
              · replace hc : (i12 == 126) = false := hc
                have c13 := hc
                clear hc
                refine st_4_1 (e25_57) (g := true) rfl (l := [(arI .sub .i64 op 106), i13, i14, i15, i16, i17, i18, i19, i20, i12]) rfl (m := []) rfl (cl_t ((show F57 [(arI .sub .i64 op 106), i13, i14, i15, i16, i17, i18, i19, i20, i12] [] = F57 [k, a1, a2, a3, a4, d1, d2, d3, d4, 127] [] from by rw [hk, hi13, hi14, hi15, hi16, hi17, hi18, hi19, hi20, hi12]).trans h57)) fun i25 i26 i27 i28 b4 hi25 hi26 hi27 hi28 hb4 => ?_
                show T.den _ _ [op, (lo : Int), (hi : Int), (N : Int), (r : Int), (lo2 : Int), (hi2 : Int), (M : Int), (q : Int), i9, i10, i11, i12, i13, i14, i15, i16, i17, i18, i19, i20, i21, i22, i23, i24, i25, i26, i27, i28] [b0, b1, b2, b3, b4] = _
                refine st_ite (fun hc => ?_) (fun hc => ?_)
                · replace hc : (!b4) = true := hc
                  have c14 := hc
                  clear hc
                  refine st_4_0 (e25_26) (g := true) rfl (l := [i12]) rfl (m := []) rfl (cl_t (q26_t i12)) fun i29 i30 i31 i32 hi29 hi30 hi31 hi32 => ?_
                  show T.den _ _ [op, (lo : Int), (hi : Int), (N : Int), (r : Int), (lo2 : Int), (hi2 : Int), (M : Int), (q : Int), i9, i10, i11, i12, i13, i14, i15, i16, i17, i18, i19, i20, i21, i22, i23, i24, i25, i26, i27, i28, i29, i30, i31, i32] [b0, b1, b2, b3, b4] = _
                  refine st_ret ?_
                  show some ([i29, i30, i31, i32], [true]) = _
                  rw [hi29, hi30, hi31, hi32]
                  rw [hi12]
                · replace hc : (!b4) = false := hc
                  have c15 := hc
                  clear hc
                  rw [hb4] at c15; cases c15
      · replace hc : (i9 == 2) = false := hc
        have c16 := hc
        clear hc
        rw [hi9] at c16; exact absurd c16 (by decide)
end Go.Proofs.YtlnikilodakjmaaDoor.BTransTight
