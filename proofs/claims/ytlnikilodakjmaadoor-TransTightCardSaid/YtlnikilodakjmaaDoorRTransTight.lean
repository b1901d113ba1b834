/-
  Reckon of layer 19: what is told of each operation.
-/
import Derived.Test.YtlnikilodakjmaaDoorXTransTight
import Derived.Test.YtlnikilodakjmaaDoorSn
import Derived.Test.YtlnikilodakjmaaDoorNTransTight
import Derived.Test.YtlnikilodakjmaaDoorITransTight
import Derived.Test.YtlnikilodakjmaaDoorZTransTight
import Derived.Lib.BitFns
import Derived.Lib.TrailingZeros
namespace Go.Proofs.YtlnikilodakjmaaDoor.RTransTight
open Go.Proofs.YtlnikilodakjmaaDoor.NTransTight Go.Proofs.YtlnikilodakjmaaDoor.ITransTight Go.Proofs.YtlnikilodakjmaaDoor.ZTransTight Go.Proofs.YtlnikilodakjmaaDoor.Sx Go.Proofs.YtlnikilodakjmaaDoor.Sn Go.Proofs.YtlnikilodakjmaaDoor.XTransTight Go.Proofs.YtlnikilodakjmaaDoor.ETransTight
set_option linter.unusedSimpArgs false
set_option linter.unusedVariables false
theorem st_1_1 {C : Nat → Sx.Fn} {is : List Int} {bs : List Bool} {r : Option (List Int × List Bool)} {G : E} {f : Nat} {ii bb : List E} {k : Sx.T} {a0 : Int} {c0 : Bool} {F : Sx.Fn} {g : Bool} {l : List Int} {m : List Bool} (hC : C f = F) (hG : G.B is bs = g) (hl : ii.map (E.I is bs) = l) (hm : bb.map (E.B is bs) = m)
    (h : (bif g then F l m else some (List.replicate 1 0, List.replicate 1 false)) = some ([a0], [c0]))
    (hk : ∀ (x0 : Int) (y0 : Bool), x0 = a0 → y0 = c0 → k.den C (is ++ [x0]) (bs ++ [y0]) = r) : (Sx.T.call G f ii bb 1 1 k).den C is bs = r := st_call _ _ (by rw [hC, hG, hl, hm]; exact h) rfl rfl (hk _ _ rfl rfl)
theorem q67_127 : F67 [127] [] = some ([32], []) := by kernel_rfl
theorem q67_126 : F67 [126] [] = some ([64], []) := by kernel_rfl
def Rec (T : Nat) (k t : Int) (lo hi N r lo2 hi2 M q : Nat) (R : Nat → Nat → Nat → Prop) : Prop := ∃ i j k' l u, F57 [k, (lo : Int), (hi : Int), (N : Int), (r : Int), (lo2 : Int), (hi2 : Int), (M : Int), (q : Int), t] [] = some ([i, j, k', l], [u]) ∧ (u = true → Ok T (SS lo hi N r lo2 hi2 M q R) i j k' l)
theorem ss_lo {lo hi N r lo2 hi2 M q : Nat} {R : Nat → Nat → Nat → Prop} {v : Nat} (h : SS lo hi N r lo2 hi2 M q R v) : ∃ n m : Nat, hs N r n = true ∧ hs M q m = true ∧ R n m v := by
  obtain ⟨n, m, _, _, h1, h2, h3⟩ := h; exact ⟨n, m, hAN_hs h1, hAN_hs h2, h3⟩

theorem e57_67 : Tab.fn a57 67 = F67 := Tab.fn_hd
theorem e57_42 : Tab.fn a57 42 = F42 := ((Tab.fn_tl rfl).trans Tab.fn_hd)
theorem e57_68 : Tab.fn a57 68 = F68 := ((Tab.fn_tl rfl).trans ((Tab.fn_tl rfl).trans Tab.fn_hd))
theorem e57_69 : Tab.fn a57 69 = F69 := ((Tab.fn_tl rfl).trans ((Tab.fn_tl rfl).trans ((Tab.fn_tl rfl).trans Tab.fn_hd)))
theorem e57_70 : Tab.fn a57 70 = F70 := ((Tab.fn_tl rfl).trans ((Tab.fn_tl rfl).trans ((Tab.fn_tl rfl).trans ((Tab.fn_tl rfl).trans Tab.fn_hd))))
theorem e57_71 : Tab.fn a57 71 = F71 := ((Tab.fn_tl rfl).trans ((Tab.fn_tl rfl).trans ((Tab.fn_tl rfl).trans ((Tab.fn_tl rfl).trans ((Tab.fn_tl rfl).trans Tab.fn_hd)))))
theorem e57_72 : Tab.fn a57 72 = F72 := ((Tab.fn_tl rfl).trans ((Tab.fn_tl rfl).trans ((Tab.fn_tl rfl).trans ((Tab.fn_tl rfl).trans ((Tab.fn_tl rfl).trans ((Tab.fn_tl rfl).trans Tab.fn_hd))))))
theorem e57_73 : Tab.fn a57 73 = F73 := ((Tab.fn_tl rfl).trans ((Tab.fn_tl rfl).trans ((Tab.fn_tl rfl).trans ((Tab.fn_tl rfl).trans ((Tab.fn_tl rfl).trans ((Tab.fn_tl rfl).trans ((Tab.fn_tl rfl).trans Tab.fn_hd)))))))
theorem e57_74 : Tab.fn a57 74 = F74 := ((Tab.fn_tl rfl).trans ((Tab.fn_tl rfl).trans ((Tab.fn_tl rfl).trans ((Tab.fn_tl rfl).trans ((Tab.fn_tl rfl).trans ((Tab.fn_tl rfl).trans ((Tab.fn_tl rfl).trans ((Tab.fn_tl rfl).trans Tab.fn_hd))))))))
theorem e57_75 : Tab.fn a57 75 = F75 := ((Tab.fn_tl rfl).trans ((Tab.fn_tl rfl).trans ((Tab.fn_tl rfl).trans ((Tab.fn_tl rfl).trans ((Tab.fn_tl rfl).trans ((Tab.fn_tl rfl).trans ((Tab.fn_tl rfl).trans ((Tab.fn_tl rfl).trans ((Tab.fn_tl rfl).trans Tab.fn_hd)))))))))
theorem e57_76 : Tab.fn a57 76 = F76 := ((Tab.fn_tl rfl).trans ((Tab.fn_tl rfl).trans ((Tab.fn_tl rfl).trans ((Tab.fn_tl rfl).trans ((Tab.fn_tl rfl).trans ((Tab.fn_tl rfl).trans ((Tab.fn_tl rfl).trans ((Tab.fn_tl rfl).trans ((Tab.fn_tl rfl).trans ((Tab.fn_tl rfl).trans Tab.fn_hd))))))))))
theorem e57_77 : Tab.fn a57 77 = F77 := ((Tab.fn_tl rfl).trans ((Tab.fn_tl rfl).trans ((Tab.fn_tl rfl).trans ((Tab.fn_tl rfl).trans ((Tab.fn_tl rfl).trans ((Tab.fn_tl rfl).trans ((Tab.fn_tl rfl).trans ((Tab.fn_tl rfl).trans ((Tab.fn_tl rfl).trans ((Tab.fn_tl rfl).trans ((Tab.fn_tl rfl).trans Tab.fn_hd)))))))))))
theorem e57_78 : Tab.fn a57 78 = F78 := ((Tab.fn_tl rfl).trans ((Tab.fn_tl rfl).trans ((Tab.fn_tl rfl).trans ((Tab.fn_tl rfl).trans ((Tab.fn_tl rfl).trans ((Tab.fn_tl rfl).trans ((Tab.fn_tl rfl).trans ((Tab.fn_tl rfl).trans ((Tab.fn_tl rfl).trans ((Tab.fn_tl rfl).trans ((Tab.fn_tl rfl).trans ((Tab.fn_tl rfl).trans Tab.fn_hd))))))))))))
theorem e57_79 : Tab.fn a57 79 = F79 := ((Tab.fn_tl rfl).trans ((Tab.fn_tl rfl).trans ((Tab.fn_tl rfl).trans ((Tab.fn_tl rfl).trans ((Tab.fn_tl rfl).trans ((Tab.fn_tl rfl).trans ((Tab.fn_tl rfl).trans ((Tab.fn_tl rfl).trans ((Tab.fn_tl rfl).trans ((Tab.fn_tl rfl).trans ((Tab.fn_tl rfl).trans ((Tab.fn_tl rfl).trans ((Tab.fn_tl rfl).trans Tab.fn_hd)))))))))))))
theorem e57_80 : Tab.fn a57 80 = F80 := ((Tab.fn_tl rfl).trans ((Tab.fn_tl rfl).trans ((Tab.fn_tl rfl).trans ((Tab.fn_tl rfl).trans ((Tab.fn_tl rfl).trans ((Tab.fn_tl rfl).trans ((Tab.fn_tl rfl).trans ((Tab.fn_tl rfl).trans ((Tab.fn_tl rfl).trans ((Tab.fn_tl rfl).trans ((Tab.fn_tl rfl).trans ((Tab.fn_tl rfl).trans ((Tab.fn_tl rfl).trans ((Tab.fn_tl rfl).trans Tab.fn_hd))))))))))))))
theorem e75_84 : Tab.fn a75 84 = F84 := Tab.fn_hd
theorem e75_42 : Tab.fn a75 42 = F42 := ((Tab.fn_tl rfl).trans Tab.fn_hd)
theorem e75_54 : Tab.fn a75 54 = F54 := ((Tab.fn_tl rfl).trans ((Tab.fn_tl rfl).trans Tab.fn_hd))
theorem e75_49 : Tab.fn a75 49 = F49 := ((Tab.fn_tl rfl).trans ((Tab.fn_tl rfl).trans ((Tab.fn_tl rfl).trans Tab.fn_hd)))
theorem e76_85 : Tab.fn a76 85 = F85 := Tab.fn_hd
theorem e76_86 : Tab.fn a76 86 = F86 := ((Tab.fn_tl rfl).trans Tab.fn_hd)
theorem e80_67 : Tab.fn a80 67 = F67 := Tab.fn_hd
theorem e80_48 : Tab.fn a80 48 = F48 := ((Tab.fn_tl rfl).trans Tab.fn_hd)
theorem e80_88 : Tab.fn a80 88 = F88 := ((Tab.fn_tl rfl).trans ((Tab.fn_tl rfl).trans Tab.fn_hd))
theorem e47_59 : Tab.fn a47 59 = F59 := Tab.fn_hd
theorem e47_26 : Tab.fn a47 26 = F26 := ((Tab.fn_tl rfl).trans Tab.fn_hd)
theorem e56_33 : Tab.fn a56 33 = F33 := Tab.fn_hd
theorem e45_20 : Tab.fn a45 20 = F20 := Tab.fn_hd


theorem r0b {a b a' b' : Bool} (h1 : a = a') (h2 : b = b') : (some ([], [a, b]) : Option (List Int × List Bool)) = some ([], [a', b']) := by rw [h1, h2]

set_option maxHeartbeats 4000000 in
theorem q57_0_127 {lo hi N r lo2 hi2 M q : Nat} (h : Rt lo hi N r) (h2 : Rt lo2 hi2 M q) : F57 [0, (lo : Int), (hi : Int), (N : Int), (r : Int), (lo2 : Int), (hi2 : Int), (M : Int), (q : Int), 127] [] = some ([(if (hi : Int) + hi2 ≤ tp 32 then (lo : Int) + lo2 else 0), (if (hi : Int) + hi2 ≤ tp 32 then (hi : Int) + hi2 else tp 32), ((wN (min N M) 32 : Nat) : Int), ((wR (min N M) ((((r : Int) + (q : Int)) % 18446744073709551616).toNat) 32 : Nat) : Int)], [true]) := by
  have g1 := h.1
  have g2 := h2.1
  have g3 := h.2.1
  have g4 := h2.2.1
  have g5 := h.r64
  have g6 := h2.r64
  refine Eq.trans (Fd_of (n := 10) (m := 0) (t := XTransTight.t57) (C := Tab.fn a57) rfl rfl) ?_
  rw [XTransTight.t57]
  refine st_1_0 (e57_67) (g := true) rfl (l := [127]) rfl (m := []) rfl (cl_t q67_127) fun i10 hi10 => ?_
  show T.den _ _ [(0 : Int), (lo : Int), (hi : Int), (N : Int), (r : Int), (lo2 : Int), (hi2 : Int), (M : Int), (q : Int), (127 : Int), i10] [] = _
  refine st_1_1 (e57_42) (g := true) rfl (l := [(lo2 : Int), (hi2 : Int), (M : Int), (q : Int)]) rfl (m := []) rfl (cl_t (q42 (lo2 : Int) (hi2 : Int) (M : Int) (q : Int))) fun i11 b0 hi11 hb0 => ?_
  show T.den _ _ [(0 : Int), (lo : Int), (hi : Int), (N : Int), (r : Int), (lo2 : Int), (hi2 : Int), (M : Int), (q : Int), (127 : Int), i10, i11] [b0] = _
  refine st_itt (show ((0 : Int) == 0) = true from by kernel_rfl) ?_
  refine st_2_0 (e57_68) (g := true) rfl (l := [(lo : Int), (hi : Int), (lo2 : Int), (hi2 : Int), i10]) rfl (m := []) rfl (cl_t ((show F68 [(lo : Int), (hi : Int), (lo2 : Int), (hi2 : Int), i10] [] = F68 [(lo : Int), (hi : Int), (lo2 : Int), (hi2 : Int), 32] [] from by rw [hi10]).trans (v18 _ _ _ _ 32 (by omega) (by omega) (by omega) (by omega) (by omega) (by omega)))) fun i12 i13 hi12 hi13 => ?_
  show T.den _ _ [(0 : Int), (lo : Int), (hi : Int), (N : Int), (r : Int), (lo2 : Int), (hi2 : Int), (M : Int), (q : Int), (127 : Int), i10, i11, i12, i13] [b0] = _
  refine st_2_0 (e57_69) (g := true) rfl (l := [(N : Int), (r : Int), (M : Int), (q : Int), i10]) rfl (m := []) rfl (cl_t ((show F69 [(N : Int), (r : Int), (M : Int), (q : Int), i10] [] = F69 [(N : Int), (r : Int), (M : Int), (q : Int), 32] [] from by rw [hi10]).trans (q69 N r M q h.2.2.1 h.r64 h2.2.2.1 h2.r64 32))) fun i14 i15 hi14 hi15 => ?_
  show T.den _ _ [(0 : Int), (lo : Int), (hi : Int), (N : Int), (r : Int), (lo2 : Int), (hi2 : Int), (M : Int), (q : Int), (127 : Int), i10, i11, i12, i13, i14, i15] [b0] = _
  refine st_ret ?_
  show some ([i12, i13, i14, i15], [true]) = _
  rw [hi12, hi13, hi14, hi15]

theorem rec_0_127 {lo hi N r lo2 hi2 M q : Nat} (h : Rt lo hi N r) (h2 : Rt lo2 hi2 M q) (hT : hi ≤ 4294967295) (hT2 : hi2 ≤ 4294967295) : Rec 4294967295 0 127 lo hi N r lo2 hi2 M q (fun n m v => (v : Int) = ((n : Int) + m) % 2 ^ 32) :=
  ⟨_, _, _, _, _, q57_0_127 h h2, fun _ => ok_mk (by decide) (iv_add32 h h2 hT hT2) (lo_mono (lo_add N r M q h.2.2.1 h.r64 h2.2.2.1 h2.r64 (w := 32) (by decide)) fun v hv => ss_lo hv)⟩

set_option maxHeartbeats 4000000 in
theorem q57_1_127 {lo hi N r lo2 hi2 M q : Nat} (h : Rt lo hi N r) (h2 : Rt lo2 hi2 M q) : F57 [1, (lo : Int), (hi : Int), (N : Int), (r : Int), (lo2 : Int), (hi2 : Int), (M : Int), (q : Int), 127] [] = some ([(if (lo : Int) < hi2 then 0 else (lo : Int) - hi2), (if (lo : Int) < hi2 then tp 32 else (hi : Int) - lo2), ((wN (min N M) 32 : Nat) : Int), ((wR (min N M) ((((r : Int) - (q : Int)) % 18446744073709551616).toNat) 32 : Nat) : Int)], [true]) := by
  have g1 := h.1
  have g2 := h2.1
  have g3 := h.2.1
  have g4 := h2.2.1
  have g5 := h.r64
  have g6 := h2.r64
  refine Eq.trans (Fd_of (n := 10) (m := 0) (t := XTransTight.t57) (C := Tab.fn a57) rfl rfl) ?_
  rw [XTransTight.t57]
  refine st_1_0 (e57_67) (g := true) rfl (l := [127]) rfl (m := []) rfl (cl_t q67_127) fun i10 hi10 => ?_
  show T.den _ _ [(1 : Int), (lo : Int), (hi : Int), (N : Int), (r : Int), (lo2 : Int), (hi2 : Int), (M : Int), (q : Int), (127 : Int), i10] [] = _
  refine st_1_1 (e57_42) (g := true) rfl (l := [(lo2 : Int), (hi2 : Int), (M : Int), (q : Int)]) rfl (m := []) rfl (cl_t (q42 (lo2 : Int) (hi2 : Int) (M : Int) (q : Int))) fun i11 b0 hi11 hb0 => ?_
  show T.den _ _ [(1 : Int), (lo : Int), (hi : Int), (N : Int), (r : Int), (lo2 : Int), (hi2 : Int), (M : Int), (q : Int), (127 : Int), i10, i11] [b0] = _
  refine st_itf (show ((1 : Int) == 0) = false from by kernel_rfl) ?_
  refine st_itt (show ((1 : Int) == 1) = true from by kernel_rfl) ?_
  refine st_2_0 (e57_70) (g := true) rfl (l := [(lo : Int), (hi : Int), (lo2 : Int), (hi2 : Int), i10]) rfl (m := []) rfl (cl_t ((show F70 [(lo : Int), (hi : Int), (lo2 : Int), (hi2 : Int), i10] [] = F70 [(lo : Int), (hi : Int), (lo2 : Int), (hi2 : Int), 32] [] from by rw [hi10]).trans (v19 _ _ _ _ 32 (by omega) (by omega) (by omega) (by omega) (by omega) (by omega)))) fun i12 i13 hi12 hi13 => ?_
  show T.den _ _ [(1 : Int), (lo : Int), (hi : Int), (N : Int), (r : Int), (lo2 : Int), (hi2 : Int), (M : Int), (q : Int), (127 : Int), i10, i11, i12, i13] [b0] = _
  refine st_2_0 (e57_71) (g := true) rfl (l := [(N : Int), (r : Int), (M : Int), (q : Int), i10]) rfl (m := []) rfl (cl_t ((show F71 [(N : Int), (r : Int), (M : Int), (q : Int), i10] [] = F71 [(N : Int), (r : Int), (M : Int), (q : Int), 32] [] from by rw [hi10]).trans (q71 N r M q h.2.2.1 h.r64 h2.2.2.1 h2.r64 32))) fun i14 i15 hi14 hi15 => ?_
  show T.den _ _ [(1 : Int), (lo : Int), (hi : Int), (N : Int), (r : Int), (lo2 : Int), (hi2 : Int), (M : Int), (q : Int), (127 : Int), i10, i11, i12, i13, i14, i15] [b0] = _
  refine st_ret ?_
  show some ([i12, i13, i14, i15], [true]) = _
  rw [hi12, hi13, hi14, hi15]

theorem rec_1_127 {lo hi N r lo2 hi2 M q : Nat} (h : Rt lo hi N r) (h2 : Rt lo2 hi2 M q) (hT : hi ≤ 4294967295) (hT2 : hi2 ≤ 4294967295) : Rec 4294967295 1 127 lo hi N r lo2 hi2 M q (fun n m v => (v : Int) = ((n : Int) - m) % 2 ^ 32) :=
  ⟨_, _, _, _, _, q57_1_127 h h2, fun _ => ok_mk (by decide) (iv_sub32 h h2 hT hT2) (lo_mono (lo_sub N r M q h.2.2.1 h.r64 h2.2.2.1 h2.r64 (w := 32) (by decide)) fun v hv => ss_lo hv)⟩

set_option maxHeartbeats 4000000 in
theorem q57_2_127 {lo hi N r lo2 hi2 M q : Nat} (h : Rt lo hi N r) (h2 : Rt lo2 hi2 M q) : F57 [2, (lo : Int), (hi : Int), (N : Int), (r : Int), (lo2 : Int), (hi2 : Int), (M : Int), (q : Int), 127] [] = some ([(if (hi : Int) * hi2 ≤ tp 32 then (lo : Int) * lo2 else 0), (if (hi : Int) * hi2 ≤ tp 32 then (hi : Int) * hi2 else tp 32), ((wN (min N M) 32 : Nat) : Int), ((wR (min N M) ((((r : Int) * (q : Int)) % 18446744073709551616).toNat) 32 : Nat) : Int)], [true]) := by
  have g1 := h.1
  have g2 := h2.1
  have g3 := h.2.1
  have g4 := h2.2.1
  have g5 := h.r64
  have g6 := h2.r64
  refine Eq.trans (Fd_of (n := 10) (m := 0) (t := XTransTight.t57) (C := Tab.fn a57) rfl rfl) ?_
  rw [XTransTight.t57]
  refine st_1_0 (e57_67) (g := true) rfl (l := [127]) rfl (m := []) rfl (cl_t q67_127) fun i10 hi10 => ?_
  show T.den _ _ [(2 : Int), (lo : Int), (hi : Int), (N : Int), (r : Int), (lo2 : Int), (hi2 : Int), (M : Int), (q : Int), (127 : Int), i10] [] = _
  refine st_1_1 (e57_42) (g := true) rfl (l := [(lo2 : Int), (hi2 : Int), (M : Int), (q : Int)]) rfl (m := []) rfl (cl_t (q42 (lo2 : Int) (hi2 : Int) (M : Int) (q : Int))) fun i11 b0 hi11 hb0 => ?_
  show T.den _ _ [(2 : Int), (lo : Int), (hi : Int), (N : Int), (r : Int), (lo2 : Int), (hi2 : Int), (M : Int), (q : Int), (127 : Int), i10, i11] [b0] = _
  refine st_itf (show ((2 : Int) == 0) = false from by kernel_rfl) ?_
  refine st_itf (show ((2 : Int) == 1) = false from by kernel_rfl) ?_
  refine st_itt (show ((2 : Int) == 2) = true from by kernel_rfl) ?_
  refine st_2_0 (e57_72) (g := true) rfl (l := [(lo : Int), (hi : Int), (lo2 : Int), (hi2 : Int), i10]) rfl (m := []) rfl (cl_t ((show F72 [(lo : Int), (hi : Int), (lo2 : Int), (hi2 : Int), i10] [] = F72 [(lo : Int), (hi : Int), (lo2 : Int), (hi2 : Int), 32] [] from by rw [hi10]).trans (v20 _ _ _ _ 32 (by omega) (by omega) (by omega) (by omega) (by omega) (by omega)))) fun i12 i13 hi12 hi13 => ?_
  show T.den _ _ [(2 : Int), (lo : Int), (hi : Int), (N : Int), (r : Int), (lo2 : Int), (hi2 : Int), (M : Int), (q : Int), (127 : Int), i10, i11, i12, i13] [b0] = _
  refine st_2_0 (e57_73) (g := true) rfl (l := [(N : Int), (r : Int), (M : Int), (q : Int), i10]) rfl (m := []) rfl (cl_t ((show F73 [(N : Int), (r : Int), (M : Int), (q : Int), i10] [] = F73 [(N : Int), (r : Int), (M : Int), (q : Int), 32] [] from by rw [hi10]).trans (q73 N r M q h.2.2.1 h.r64 h2.2.2.1 h2.r64 32))) fun i14 i15 hi14 hi15 => ?_
  show T.den _ _ [(2 : Int), (lo : Int), (hi : Int), (N : Int), (r : Int), (lo2 : Int), (hi2 : Int), (M : Int), (q : Int), (127 : Int), i10, i11, i12, i13, i14, i15] [b0] = _
  refine st_ret ?_
  show some ([i12, i13, i14, i15], [true]) = _
  rw [hi12, hi13, hi14, hi15]

theorem rec_2_127 {lo hi N r lo2 hi2 M q : Nat} (h : Rt lo hi N r) (h2 : Rt lo2 hi2 M q) (hT : hi ≤ 4294967295) (hT2 : hi2 ≤ 4294967295) : Rec 4294967295 2 127 lo hi N r lo2 hi2 M q (fun n m v => (v : Int) = ((n : Int) * m) % 2 ^ 32) :=
  ⟨_, _, _, _, _, q57_2_127 h h2, fun _ => ok_mk (by decide) (iv_mul32 h h2 hT hT2) (lo_mono (lo_mul N r M q h.2.2.1 h.r64 h2.2.2.1 h2.r64 (w := 32) (by decide)) fun v hv => ss_lo hv)⟩

set_option maxHeartbeats 4000000 in
theorem q57_4_127 {lo hi N r lo2 hi2 M q : Nat} (h : Rt lo hi N r) (h2 : Rt lo2 hi2 M q) : F57 [4, (lo : Int), (hi : Int), (N : Int), (r : Int), (lo2 : Int), (hi2 : Int), (M : Int), (q : Int), 127] [] = some ([if (hi2 : Int) = 0 then 0 else arI .quo .u64 (lo : Int) hi2, if (hi2 : Int) = 0 then 0 else arI .quo .u64 (hi : Int) (max (lo2 : Int) 1), 0, 0], [decide ((hi2 : Int) ≠ 0)]) := by
  have g1 := h.1
  have g2 := h2.1
  have g3 := h.2.1
  have g4 := h2.2.1
  have g5 := h.r64
  have g6 := h2.r64
  refine Eq.trans (Fd_of (n := 10) (m := 0) (t := XTransTight.t57) (C := Tab.fn a57) rfl rfl) ?_
  rw [XTransTight.t57]
  refine st_1_0 (e57_67) (g := true) rfl (l := [127]) rfl (m := []) rfl (cl_t q67_127) fun i10 hi10 => ?_
  show T.den _ _ [(4 : Int), (lo : Int), (hi : Int), (N : Int), (r : Int), (lo2 : Int), (hi2 : Int), (M : Int), (q : Int), (127 : Int), i10] [] = _
  refine st_1_1 (e57_42) (g := true) rfl (l := [(lo2 : Int), (hi2 : Int), (M : Int), (q : Int)]) rfl (m := []) rfl (cl_t (q42 (lo2 : Int) (hi2 : Int) (M : Int) (q : Int))) fun i11 b0 hi11 hb0 => ?_
  show T.den _ _ [(4 : Int), (lo : Int), (hi : Int), (N : Int), (r : Int), (lo2 : Int), (hi2 : Int), (M : Int), (q : Int), (127 : Int), i10, i11] [b0] = _
  refine st_itf (show ((4 : Int) == 0) = false from by kernel_rfl) ?_
  refine st_itf (show ((4 : Int) == 1) = false from by kernel_rfl) ?_
  refine st_itf (show ((4 : Int) == 2) = false from by kernel_rfl) ?_
  refine st_itt (show ((4 : Int) == 4) = true from by kernel_rfl) ?_
  refine st_2_1 (e57_74) (g := true) rfl (l := [(lo : Int), (hi : Int), (lo2 : Int), (hi2 : Int)]) rfl (m := []) rfl (cl_t (v21 (lo : Int) (hi : Int) (lo2 : Int) (hi2 : Int))) fun i12 i13 b1 hi12 hi13 hb1 => ?_
  show T.den _ _ [(4 : Int), (lo : Int), (hi : Int), (N : Int), (r : Int), (lo2 : Int), (hi2 : Int), (M : Int), (q : Int), (127 : Int), i10, i11, i12, i13] [b0, b1] = _
  refine st_ret ?_
  show some ([i12, i13, 0, 0], [b1]) = _
  rw [hi12, hi13, hb1]

theorem rec_4_127 {lo hi N r lo2 hi2 M q : Nat} (h : Rt lo hi N r) (h2 : Rt lo2 hi2 M q) (hT : hi ≤ 4294967295) (hT2 : hi2 ≤ 4294967295) : Rec 4294967295 4 127 lo hi N r lo2 hi2 M q (fun n m v => m ≠ 0 ∧ v = n / m) := by
  refine ⟨_, _, _, _, _, q57_4_127 h h2, fun hu => ?_⟩
  have hz : ¬ (hi2 : Int) = 0 := of_decide_eq_true hu
  rw [if_neg hz, if_neg hz]
  exact ok_mk (by decide) (iv_div h h2 hT hz) (lo_00 _)

set_option maxHeartbeats 4000000 in
theorem q57_8_127 {lo hi N r lo2 hi2 M q : Nat} (h : Rt lo hi N r) (h2 : Rt lo2 hi2 M q) : F57 [8, (lo : Int), (hi : Int), (N : Int), (r : Int), (lo2 : Int), (hi2 : Int), (M : Int), (q : Int), 127] [] = some ([orL (lo : Int) hi lo2 hi2, orH (lo : Int) hi lo2 hi2, ((min N M : Nat) : Int), (((r ||| q) % 2 ^ min N M : Nat) : Int)], [true]) := by
  have g1 := h.1
  have g2 := h2.1
  have g3 := h.2.1
  have g4 := h2.2.1
  have g5 := h.r64
  have g6 := h2.r64
  refine Eq.trans (Fd_of (n := 10) (m := 0) (t := XTransTight.t57) (C := Tab.fn a57) rfl rfl) ?_
  rw [XTransTight.t57]
  refine st_1_0 (e57_67) (g := true) rfl (l := [127]) rfl (m := []) rfl (cl_t q67_127) fun i10 hi10 => ?_
  show T.den _ _ [(8 : Int), (lo : Int), (hi : Int), (N : Int), (r : Int), (lo2 : Int), (hi2 : Int), (M : Int), (q : Int), (127 : Int), i10] [] = _
  refine st_1_1 (e57_42) (g := true) rfl (l := [(lo2 : Int), (hi2 : Int), (M : Int), (q : Int)]) rfl (m := []) rfl (cl_t (q42 (lo2 : Int) (hi2 : Int) (M : Int) (q : Int))) fun i11 b0 hi11 hb0 => ?_
  show T.den _ _ [(8 : Int), (lo : Int), (hi : Int), (N : Int), (r : Int), (lo2 : Int), (hi2 : Int), (M : Int), (q : Int), (127 : Int), i10, i11] [b0] = _
  refine st_itf (show ((8 : Int) == 0) = false from by kernel_rfl) ?_
  refine st_itf (show ((8 : Int) == 1) = false from by kernel_rfl) ?_
  refine st_itf (show ((8 : Int) == 2) = false from by kernel_rfl) ?_
  refine st_itf (show ((8 : Int) == 4) = false from by kernel_rfl) ?_
  refine st_itf (show ((8 : Int) == 6) = false from by kernel_rfl) ?_
  refine st_itf (show ((8 : Int) == 7) = false from by kernel_rfl) ?_
  refine st_itt (show ((8 : Int) == 8) = true from by kernel_rfl) ?_
  refine st_2_0 (e57_77) (g := true) rfl (l := [(lo : Int), (hi : Int), (lo2 : Int), (hi2 : Int)]) rfl (m := []) rfl (cl_t (v24 (lo : Int) (hi : Int) (lo2 : Int) (hi2 : Int) (by omega) (by omega) (by omega) (by omega) (by omega) (by omega))) fun i12 i13 hi12 hi13 => ?_
  show T.den _ _ [(8 : Int), (lo : Int), (hi : Int), (N : Int), (r : Int), (lo2 : Int), (hi2 : Int), (M : Int), (q : Int), (127 : Int), i10, i11, i12, i13] [b0] = _
  refine st_2_0 (e57_78) (g := true) rfl (l := [(N : Int), (r : Int), (M : Int), (q : Int)]) rfl (m := []) rfl (cl_t (q78 N r M q h.2.2.1 h.r64 h2.2.2.1 h2.r64)) fun i14 i15 hi14 hi15 => ?_
  show T.den _ _ [(8 : Int), (lo : Int), (hi : Int), (N : Int), (r : Int), (lo2 : Int), (hi2 : Int), (M : Int), (q : Int), (127 : Int), i10, i11, i12, i13, i14, i15] [b0] = _
  refine st_ret ?_
  show some ([i12, i13, i14, i15], [true]) = _
  rw [hi12, hi13, hi14, hi15]

theorem rec_8_127 {lo hi N r lo2 hi2 M q : Nat} (h : Rt lo hi N r) (h2 : Rt lo2 hi2 M q) (hT : hi ≤ 4294967295) (hT2 : hi2 ≤ 4294967295) : Rec 4294967295 8 127 lo hi N r lo2 hi2 M q (fun n m v => v = n ||| m) :=
  ⟨_, _, _, _, _, q57_8_127 h h2, fun _ => ok_mk (by decide) (iv_or h h2 (w := 32) (by decide) (by decide) hT hT2) (lo_mono (lo_or N r M q h.2.2.1 h.r64 h2.2.2.1 h2.r64) fun v hv => ss_lo hv)⟩

set_option maxHeartbeats 4000000 in
theorem q57_9_127 {lo hi N r lo2 hi2 M q : Nat} (h : Rt lo hi N r) (h2 : Rt lo2 hi2 M q) : F57 [9, (lo : Int), (hi : Int), (N : Int), (r : Int), (lo2 : Int), (hi2 : Int), (M : Int), (q : Int), 127] [] = some ([0, orH (lo : Int) hi lo2 hi2, ((min N M : Nat) : Int), (((r ^^^ q) % 2 ^ min N M : Nat) : Int)], [true]) := by
  have g1 := h.1
  have g2 := h2.1
  have g3 := h.2.1
  have g4 := h2.2.1
  have g5 := h.r64
  have g6 := h2.r64
  refine Eq.trans (Fd_of (n := 10) (m := 0) (t := XTransTight.t57) (C := Tab.fn a57) rfl rfl) ?_
  rw [XTransTight.t57]
  refine st_1_0 (e57_67) (g := true) rfl (l := [127]) rfl (m := []) rfl (cl_t q67_127) fun i10 hi10 => ?_
  show T.den _ _ [(9 : Int), (lo : Int), (hi : Int), (N : Int), (r : Int), (lo2 : Int), (hi2 : Int), (M : Int), (q : Int), (127 : Int), i10] [] = _
  refine st_1_1 (e57_42) (g := true) rfl (l := [(lo2 : Int), (hi2 : Int), (M : Int), (q : Int)]) rfl (m := []) rfl (cl_t (q42 (lo2 : Int) (hi2 : Int) (M : Int) (q : Int))) fun i11 b0 hi11 hb0 => ?_
  show T.den _ _ [(9 : Int), (lo : Int), (hi : Int), (N : Int), (r : Int), (lo2 : Int), (hi2 : Int), (M : Int), (q : Int), (127 : Int), i10, i11] [b0] = _
  refine st_itf (show ((9 : Int) == 0) = false from by kernel_rfl) ?_
  refine st_itf (show ((9 : Int) == 1) = false from by kernel_rfl) ?_
  refine st_itf (show ((9 : Int) == 2) = false from by kernel_rfl) ?_
  refine st_itf (show ((9 : Int) == 4) = false from by kernel_rfl) ?_
  refine st_itf (show ((9 : Int) == 6) = false from by kernel_rfl) ?_
  refine st_itf (show ((9 : Int) == 7) = false from by kernel_rfl) ?_
  refine st_itf (show ((9 : Int) == 8) = false from by kernel_rfl) ?_
  refine st_itt (show ((9 : Int) == 9) = true from by kernel_rfl) ?_
  refine st_2_0 (e57_77) (g := true) rfl (l := [(lo : Int), (hi : Int), (lo2 : Int), (hi2 : Int)]) rfl (m := []) rfl (cl_t (v24 (lo : Int) (hi : Int) (lo2 : Int) (hi2 : Int) (by omega) (by omega) (by omega) (by omega) (by omega) (by omega))) fun i12 i13 hi12 hi13 => ?_
  show T.den _ _ [(9 : Int), (lo : Int), (hi : Int), (N : Int), (r : Int), (lo2 : Int), (hi2 : Int), (M : Int), (q : Int), (127 : Int), i10, i11, i12, i13] [b0] = _
  refine st_2_0 (e57_79) (g := true) rfl (l := [(N : Int), (r : Int), (M : Int), (q : Int)]) rfl (m := []) rfl (cl_t (q79 N r M q h.2.2.1 h.r64 h2.2.2.1 h2.r64)) fun i14 i15 hi14 hi15 => ?_
  show T.den _ _ [(9 : Int), (lo : Int), (hi : Int), (N : Int), (r : Int), (lo2 : Int), (hi2 : Int), (M : Int), (q : Int), (127 : Int), i10, i11, i12, i13, i14, i15] [b0] = _
  refine st_ret ?_
  show some ([0, i13, i14, i15], [true]) = _
  rw [hi13, hi14, hi15]

theorem rec_9_127 {lo hi N r lo2 hi2 M q : Nat} (h : Rt lo hi N r) (h2 : Rt lo2 hi2 M q) (hT : hi ≤ 4294967295) (hT2 : hi2 ≤ 4294967295) : Rec 4294967295 9 127 lo hi N r lo2 hi2 M q (fun n m v => v = n ^^^ m) :=
  ⟨_, _, _, _, _, q57_9_127 h h2, fun _ => ok_mk (by decide) (iv_xor h h2 (w := 32) (by decide) (by decide) hT hT2) (lo_mono (lo_xor N r M q h.2.2.1 h.r64 h2.2.2.1 h2.r64) fun v hv => ss_lo hv)⟩

set_option maxHeartbeats 4000000 in
theorem q76 {lo hi N r lo2 hi2 M q : Nat} (h : Rt lo hi N r) (h2 : Rt lo2 hi2 M q) : F76 [(lo : Int), (hi : Int), (N : Int), (r : Int), (lo2 : Int), (hi2 : Int), (M : Int), (q : Int)] [] = some ([anL (lo : Int) hi lo2 hi2, anH (lo : Int) hi lo2 hi2, ((aN N r M q : Nat) : Int), ((aR N r M q : Nat) : Int)], []) := by
  have g1 := h.1
  have g2 := h2.1
  have g3 := h.2.1
  have g4 := h2.2.1
  have g5 := h.r64
  have g6 := h2.r64
  refine Eq.trans (Fd_of (n := 8) (m := 0) (t := XTransTight.t76) (C := Tab.fn a76) rfl rfl) ?_
  rw [XTransTight.t76]
  refine st_2_0 (e76_85) (g := true) rfl (l := [(lo : Int), (hi : Int), (lo2 : Int), (hi2 : Int)]) rfl (m := []) rfl (cl_t (v23 (lo : Int) (hi : Int) (lo2 : Int) (hi2 : Int))) fun i8 i9 hi8 hi9 => ?_
  show T.den _ _ [(lo : Int), (hi : Int), (N : Int), (r : Int), (lo2 : Int), (hi2 : Int), (M : Int), (q : Int), i8, i9] [] = _
  refine st_2_0 (e76_86) (g := true) rfl (l := [(N : Int), (r : Int), (M : Int), (q : Int)]) rfl (m := []) rfl (cl_t (q86 N r M q h.2.2.1 h.r64 h2.2.2.1 h2.r64)) fun i10 i11 hi10 hi11 => ?_
  show T.den _ _ [(lo : Int), (hi : Int), (N : Int), (r : Int), (lo2 : Int), (hi2 : Int), (M : Int), (q : Int), i8, i9, i10, i11] [] = _
  refine st_ret ?_
  show some ([i8, i9, i10, i11], []) = _
  rw [hi8, hi9, hi10, hi11]

set_option maxHeartbeats 4000000 in
theorem q57_7_127 {lo hi N r lo2 hi2 M q : Nat} (h : Rt lo hi N r) (h2 : Rt lo2 hi2 M q) : F57 [7, (lo : Int), (hi : Int), (N : Int), (r : Int), (lo2 : Int), (hi2 : Int), (M : Int), (q : Int), 127] [] = some ([anL (lo : Int) hi lo2 hi2, anH (lo : Int) hi lo2 hi2, ((aN N r M q : Nat) : Int), ((aR N r M q : Nat) : Int)], [true]) := by
  have g1 := h.1
  have g2 := h2.1
  have g3 := h.2.1
  have g4 := h2.2.1
  have g5 := h.r64
  have g6 := h2.r64
  refine Eq.trans (Fd_of (n := 10) (m := 0) (t := XTransTight.t57) (C := Tab.fn a57) rfl rfl) ?_
  rw [XTransTight.t57]
  refine st_1_0 (e57_67) (g := true) rfl (l := [127]) rfl (m := []) rfl (cl_t q67_127) fun i10 hi10 => ?_
  show T.den _ _ [(7 : Int), (lo : Int), (hi : Int), (N : Int), (r : Int), (lo2 : Int), (hi2 : Int), (M : Int), (q : Int), (127 : Int), i10] [] = _
  refine st_1_1 (e57_42) (g := true) rfl (l := [(lo2 : Int), (hi2 : Int), (M : Int), (q : Int)]) rfl (m := []) rfl (cl_t (q42 (lo2 : Int) (hi2 : Int) (M : Int) (q : Int))) fun i11 b0 hi11 hb0 => ?_
  show T.den _ _ [(7 : Int), (lo : Int), (hi : Int), (N : Int), (r : Int), (lo2 : Int), (hi2 : Int), (M : Int), (q : Int), (127 : Int), i10, i11] [b0] = _
  refine st_itf (show ((7 : Int) == 0) = false from by kernel_rfl) ?_
  refine st_itf (show ((7 : Int) == 1) = false from by kernel_rfl) ?_
  refine st_itf (show ((7 : Int) == 2) = false from by kernel_rfl) ?_
  refine st_itf (show ((7 : Int) == 4) = false from by kernel_rfl) ?_
  refine st_itf (show ((7 : Int) == 6) = false from by kernel_rfl) ?_
  refine st_itt (show ((7 : Int) == 7) = true from by kernel_rfl) ?_
  refine st_4_0 (e57_76) (g := true) rfl (l := [(lo : Int), (hi : Int), (N : Int), (r : Int), (lo2 : Int), (hi2 : Int), (M : Int), (q : Int)]) rfl (m := []) rfl (cl_t (q76 h h2)) fun i12 i13 i14 i15 hi12 hi13 hi14 hi15 => ?_
  show T.den _ _ [(7 : Int), (lo : Int), (hi : Int), (N : Int), (r : Int), (lo2 : Int), (hi2 : Int), (M : Int), (q : Int), (127 : Int), i10, i11, i12, i13, i14, i15] [b0] = _
  refine st_ret ?_
  show some ([i12, i13, i14, i15], [true]) = _
  rw [hi12, hi13, hi14, hi15]

theorem rec_7_127 {lo hi N r lo2 hi2 M q : Nat} (h : Rt lo hi N r) (h2 : Rt lo2 hi2 M q) (hT : hi ≤ 4294967295) (hT2 : hi2 ≤ 4294967295) : Rec 4294967295 7 127 lo hi N r lo2 hi2 M q (fun n m v => v = n &&& m) :=
  ⟨_, _, _, _, _, q57_7_127 h h2, fun _ => ok_mk (by decide) (iv_and h h2 hT) (lo_mono (lo_and N r M q h.2.2.1 h.r64 h2.2.2.1 h2.r64) fun v hv => ss_lo hv)⟩

set_option maxHeartbeats 4000000 in
theorem q75_z {lo hi N r lo2 hi2 M q : Nat} (h : Rt lo hi N r) (h2 : Rt lo2 hi2 M q) (hz : (hi2 : Int) = 0) : F75 [(lo : Int), (hi : Int), (N : Int), (r : Int), (lo2 : Int), (hi2 : Int), (M : Int), (q : Int)] [] = some ([0, 0, 0, 0], [false]) := by
  have g1 := h.1
  have g2 := h2.1
  have g3 := h.2.1
  have g4 := h2.2.1
  have g5 := h.r64
  have g6 := h2.r64
  refine Eq.trans (Fd_of (n := 8) (m := 0) (t := XTransTight.t75) (C := Tab.fn a75) rfl rfl) ?_
  rw [XTransTight.t75]
  refine st_2_1 (e75_84) (g := true) rfl (l := [(lo : Int), (hi : Int), (lo2 : Int), (hi2 : Int)]) rfl (m := []) rfl (cl_t (v22 (lo : Int) (hi : Int) (lo2 : Int) (hi2 : Int))) fun i8 i9 b0 hi8 hi9 hb0 => ?_
  show T.den _ _ [(lo : Int), (hi : Int), (N : Int), (r : Int), (lo2 : Int), (hi2 : Int), (M : Int), (q : Int), i8, i9] [b0] = _
  refine st_ite (fun hc => ?_) (fun hc => ?_)
  · replace hc : (!b0) = true := hc
    have c1 := hc
    clear hc
    refine st_ret ?_
    show some ([0, 0, 0, 0], [false]) = _
    rfl
  · replace hc : (!b0) = false := hc
    have c2 := hc
    clear hc
    rw [hb0] at c2; exact absurd c2 (by rw [decide_eq_false (by simpa using hz)]; decide)

set_option maxHeartbeats 4000000 in
theorem q75_n {lo hi N r lo2 hi2 M q : Nat} (h : Rt lo hi N r) (h2 : Rt lo2 hi2 M q) (hz : ¬ (hi2 : Int) = 0) (hy : ((ob (lo2 : Int) hi2 M && (ov (lo2 : Int) hi2 M q != 0)) && ((arI .and .u64 (ov (lo2 : Int) hi2 M q) (arI .sub .u64 (ov (lo2 : Int) hi2 M q) 1)) == 0)) = false) : F75 [(lo : Int), (hi : Int), (N : Int), (r : Int), (lo2 : Int), (hi2 : Int), (M : Int), (q : Int)] [] = some ([if (hi2 : Int) = 0 then 0 else if (hi : Int) < lo2 then (lo : Int) else 0, if (hi2 : Int) = 0 then 0 else if (hi : Int) < lo2 then (hi : Int) else min (hi : Int) (arI .sub .u64 (hi2 : Int) 1), 0, 0], [true]) := by
  have g1 := h.1
  have g2 := h2.1
  have g3 := h.2.1
  have g4 := h2.2.1
  have g5 := h.r64
  have g6 := h2.r64
  refine Eq.trans (Fd_of (n := 8) (m := 0) (t := XTransTight.t75) (C := Tab.fn a75) rfl rfl) ?_
  rw [XTransTight.t75]
  refine st_2_1 (e75_84) (g := true) rfl (l := [(lo : Int), (hi : Int), (lo2 : Int), (hi2 : Int)]) rfl (m := []) rfl (cl_t (v22 (lo : Int) (hi : Int) (lo2 : Int) (hi2 : Int))) fun i8 i9 b0 hi8 hi9 hb0 => ?_
  show T.den _ _ [(lo : Int), (hi : Int), (N : Int), (r : Int), (lo2 : Int), (hi2 : Int), (M : Int), (q : Int), i8, i9] [b0] = _
  refine st_ite (fun hc => ?_) (fun hc => ?_)
  · replace hc : (!b0) = true := hc
    have c1 := hc
    clear hc
    rw [hb0] at c1; exact absurd c1 (by rw [decide_eq_true hz]; decide)
  · replace hc : (!b0) = false := hc
    have c2 := hc
    clear hc
    refine st_1_1 (e75_42) (g := true) rfl (l := [(lo2 : Int), (hi2 : Int), (M : Int), (q : Int)]) rfl (m := []) rfl (cl_t (q42 (lo2 : Int) (hi2 : Int) (M : Int) (q : Int))) fun i10 b1 hi10 hb1 => ?_
    show T.den _ _ [(lo : Int), (hi : Int), (N : Int), (r : Int), (lo2 : Int), (hi2 : Int), (M : Int), (q : Int), i8, i9, i10] [b0, b1] = _
    refine st_lb fun b2 hb2 => ?_
    replace hb2 : b2 = ((arI .and .u64 i10 (arI .sub .u64 i10 1)) == 0) := hb2
    show T.den _ _ [(lo : Int), (hi : Int), (N : Int), (r : Int), (lo2 : Int), (hi2 : Int), (M : Int), (q : Int), i8, i9, i10] [b0, b1, b2] = _
    refine st_lb fun b3 hb3 => ?_
    replace hb3 : b3 = ((b1 && (i10 != 0)) && b2) := hb3
    show T.den _ _ [(lo : Int), (hi : Int), (N : Int), (r : Int), (lo2 : Int), (hi2 : Int), (M : Int), (q : Int), i8, i9, i10] [b0, b1, b2, b3] = _
    refine st_ite (fun hc => ?_) (fun hc => ?_)
    · replace hc : b3 = true := hc
      have c3 := hc
      clear hc
      rw [hb3, hb2, hb1, hi10, hy] at c3; cases c3
    · replace hc : b3 = false := hc
      have c4 := hc
      clear hc
      refine st_ret ?_
      show some ([i8, i9, 0, 0], [true]) = _
      rw [hi8, hi9]

set_option maxHeartbeats 4000000 in
theorem q75_y {lo hi N r lo2 hi2 M q : Nat} (h : Rt lo hi N r) (h2 : Rt lo2 hi2 M q) (j : Nat) (hz : ¬ (hi2 : Int) = 0) (hy : ((ob (lo2 : Int) hi2 M && (ov (lo2 : Int) hi2 M q != 0)) && ((arI .and .u64 (ov (lo2 : Int) hi2 M q) (arI .sub .u64 (ov (lo2 : Int) hi2 M q) 1)) == 0)) = true) (h54 : F54 [ov (lo2 : Int) hi2 M q] [] = some ([(j : Int)], [])) : F75 [(lo : Int), (hi : Int), (N : Int), (r : Int), (lo2 : Int), (hi2 : Int), (M : Int), (q : Int)] [] = some ([if (hi2 : Int) = 0 then 0 else if (hi : Int) < lo2 then (lo : Int) else 0, if (hi2 : Int) = 0 then 0 else if (hi : Int) < lo2 then (hi : Int) else min (hi : Int) (arI .sub .u64 (hi2 : Int) 1), ((cN N j : Nat) : Int), ((cR N r j : Nat) : Int)], [true]) := by
  have g1 := h.1
  have g2 := h2.1
  have g3 := h.2.1
  have g4 := h2.2.1
  have g5 := h.r64
  have g6 := h2.r64
  refine Eq.trans (Fd_of (n := 8) (m := 0) (t := XTransTight.t75) (C := Tab.fn a75) rfl rfl) ?_
  rw [XTransTight.t75]
  refine st_2_1 (e75_84) (g := true) rfl (l := [(lo : Int), (hi : Int), (lo2 : Int), (hi2 : Int)]) rfl (m := []) rfl (cl_t (v22 (lo : Int) (hi : Int) (lo2 : Int) (hi2 : Int))) fun i8 i9 b0 hi8 hi9 hb0 => ?_
  show T.den _ _ [(lo : Int), (hi : Int), (N : Int), (r : Int), (lo2 : Int), (hi2 : Int), (M : Int), (q : Int), i8, i9] [b0] = _
  refine st_ite (fun hc => ?_) (fun hc => ?_)
  · replace hc : (!b0) = true := hc
    have c1 := hc
    clear hc
    rw [hb0] at c1; exact absurd c1 (by rw [decide_eq_true hz]; decide)
  · replace hc : (!b0) = false := hc
    have c2 := hc
    clear hc
    refine st_1_1 (e75_42) (g := true) rfl (l := [(lo2 : Int), (hi2 : Int), (M : Int), (q : Int)]) rfl (m := []) rfl (cl_t (q42 (lo2 : Int) (hi2 : Int) (M : Int) (q : Int))) fun i10 b1 hi10 hb1 => ?_
    show T.den _ _ [(lo : Int), (hi : Int), (N : Int), (r : Int), (lo2 : Int), (hi2 : Int), (M : Int), (q : Int), i8, i9, i10] [b0, b1] = _
    rw [← hi10] at h54
    refine st_lb fun b2 hb2 => ?_
    replace hb2 : b2 = ((arI .and .u64 i10 (arI .sub .u64 i10 1)) == 0) := hb2
    show T.den _ _ [(lo : Int), (hi : Int), (N : Int), (r : Int), (lo2 : Int), (hi2 : Int), (M : Int), (q : Int), i8, i9, i10] [b0, b1, b2] = _
    refine st_lb fun b3 hb3 => ?_
    replace hb3 : b3 = ((b1 && (i10 != 0)) && b2) := hb3
    show T.den _ _ [(lo : Int), (hi : Int), (N : Int), (r : Int), (lo2 : Int), (hi2 : Int), (M : Int), (q : Int), i8, i9, i10] [b0, b1, b2, b3] = _
    refine st_ite (fun hc => ?_) (fun hc => ?_)
    · replace hc : b3 = true := hc
      have c3 := hc
      clear hc
      refine st_1_0 (e75_54) (g := true) rfl (l := [i10]) rfl (m := []) rfl (cl_t h54) fun i11 hi11 => ?_
      show T.den _ _ [(lo : Int), (hi : Int), (N : Int), (r : Int), (lo2 : Int), (hi2 : Int), (M : Int), (q : Int), i8, i9, i10, i11] [b0, b1, b2, b3] = _
      refine st_2_0 (e75_49) (g := true) rfl (l := [(N : Int), (r : Int), i11]) rfl (m := []) rfl (cl_t ((show F49 [(N : Int), (r : Int), i11] [] = F49 [(N : Int), (r : Int), (j : Int)] [] from by rw [hi11]).trans (q49 N r j h.2.2.1 h.r64))) fun i12 i13 hi12 hi13 => ?_
      show T.den _ _ [(lo : Int), (hi : Int), (N : Int), (r : Int), (lo2 : Int), (hi2 : Int), (M : Int), (q : Int), i8, i9, i10, i11, i12, i13] [b0, b1, b2, b3] = _
      refine st_ret ?_
      show some ([i8, i9, i12, i13], [true]) = _
      rw [hi8, hi9, hi12, hi13]
    · replace hc : b3 = false := hc
      have c4 := hc
      clear hc
      rw [hb3, hb2, hb1, hi10, hy] at c4; cases c4

set_option maxHeartbeats 4000000 in
theorem q57_6_127 {lo hi N r lo2 hi2 M q : Nat} (h : Rt lo hi N r) (h2 : Rt lo2 hi2 M q) {x0 x1 x2 x3 : Int} {u : Bool} (h75 : F75 [(lo : Int), (hi : Int), (N : Int), (r : Int), (lo2 : Int), (hi2 : Int), (M : Int), (q : Int)] [] = some ([x0, x1, x2, x3], [u])) : F57 [6, (lo : Int), (hi : Int), (N : Int), (r : Int), (lo2 : Int), (hi2 : Int), (M : Int), (q : Int), 127] [] = some ([x0, x1, x2, x3], [u]) := by
  have g1 := h.1
  have g2 := h2.1
  have g3 := h.2.1
  have g4 := h2.2.1
  have g5 := h.r64
  have g6 := h2.r64
  refine Eq.trans (Fd_of (n := 10) (m := 0) (t := XTransTight.t57) (C := Tab.fn a57) rfl rfl) ?_
  rw [XTransTight.t57]
  refine st_1_0 (e57_67) (g := true) rfl (l := [127]) rfl (m := []) rfl (cl_t q67_127) fun i10 hi10 => ?_
  show T.den _ _ [(6 : Int), (lo : Int), (hi : Int), (N : Int), (r : Int), (lo2 : Int), (hi2 : Int), (M : Int), (q : Int), (127 : Int), i10] [] = _
  refine st_1_1 (e57_42) (g := true) rfl (l := [(lo2 : Int), (hi2 : Int), (M : Int), (q : Int)]) rfl (m := []) rfl (cl_t (q42 (lo2 : Int) (hi2 : Int) (M : Int) (q : Int))) fun i11 b0 hi11 hb0 => ?_
  show T.den _ _ [(6 : Int), (lo : Int), (hi : Int), (N : Int), (r : Int), (lo2 : Int), (hi2 : Int), (M : Int), (q : Int), (127 : Int), i10, i11] [b0] = _
  refine st_itf (show ((6 : Int) == 0) = false from by kernel_rfl) ?_
  refine st_itf (show ((6 : Int) == 1) = false from by kernel_rfl) ?_
  refine st_itf (show ((6 : Int) == 2) = false from by kernel_rfl) ?_
  refine st_itf (show ((6 : Int) == 4) = false from by kernel_rfl) ?_
  refine st_itt (show ((6 : Int) == 6) = true from by kernel_rfl) ?_
  refine st_4_1 (e57_75) (g := true) rfl (l := [(lo : Int), (hi : Int), (N : Int), (r : Int), (lo2 : Int), (hi2 : Int), (M : Int), (q : Int)]) rfl (m := []) rfl (cl_t h75) fun i12 i13 i14 i15 b1 hi12 hi13 hi14 hi15 hb1 => ?_
  show T.den _ _ [(6 : Int), (lo : Int), (hi : Int), (N : Int), (r : Int), (lo2 : Int), (hi2 : Int), (M : Int), (q : Int), (127 : Int), i10, i11, i12, i13, i14, i15] [b0, b1] = _
  refine st_ret ?_
  show some ([i12, i13, i14, i15], [b1]) = _
  rw [hi12, hi13, hi14, hi15, hb1]

theorem rec_6_127 {lo hi N r lo2 hi2 M q : Nat} (h : Rt lo hi N r) (h2 : Rt lo2 hi2 M q) (hT : hi ≤ 4294967295) (hT2 : hi2 ≤ 4294967295) : Rec 4294967295 6 127 lo hi N r lo2 hi2 M q (fun n m v => m ≠ 0 ∧ v = n % m) := by
  by_cases hz : (hi2 : Int) = 0
  · exact ⟨_, _, _, _, _, q57_6_127 h h2 (q75_z h h2 hz), fun hu => by cases hu⟩
  · cases hy : ((ob (lo2 : Int) hi2 M && (ov (lo2 : Int) hi2 M q != 0)) && ((arI .and .u64 (ov (lo2 : Int) hi2 M q) (arI .sub .u64 (ov (lo2 : Int) hi2 M q) 1)) == 0))
    · refine ⟨_, _, _, _, _, q57_6_127 h h2 (q75_n h h2 hz hy), fun _ => ?_⟩
      rw [if_neg hz, if_neg hz]
      exact ok_mk (by decide) (iv_rem h h2 hT hz) (lo_00 _)
    · have hs' := hy
      simp only [Bool.and_eq_true, bne_iff_ne, beq_iff_eq] at hs'
      obtain ⟨⟨e1, e2⟩, e3⟩ := hs'
      have hv := ov_in (a := (lo2 : Int)) (b := hi2) (N := M) h2.inr.1 h2.inr.2.2
      obtain ⟨s, es⟩ := nats hv.1
      rw [es] at e2 e3 hv
      have hs64 : s < 2 ^ 64 := by omega
      have hs0 : s ≠ 0 := by omega
      rw [show arI .sub .u64 (s : Int) 1 = ((s - 1 : Nat) : Int) from by rw [arSub]; omega, band s (s - 1) hs64 (by omega)] at e3
      have hp := pow2_of hs0 hs64 (by omega)
      refine ⟨_, _, _, _, _, q57_6_127 h h2 (q75_y h h2 (Go.Lib.ctz 64 s) hz hy (by rw [es]; exact q54 s hs64)), fun _ => ?_⟩
      rw [if_neg hz, if_neg hz]
      refine ok_mk (by decide) (iv_rem h h2 hT hz) (lo_mono (lo_cut h.2.2.1 h.2.2.2 (Go.Lib.ctz 64 s)) ?_)
      rintro v ⟨n, m, hn, hm, hA, hB, hm0, rfl⟩
      have := one_N h2 hm e1 hB
      refine ⟨n, hAN_hs hA, ?_⟩
      rw [← hp, show m = s from by omega]

set_option maxHeartbeats 4000000 in
theorem q80_d_127 {lo hi N r : Nat} (h : Rt lo hi N r) (s : Nat) (hT : hi ≤ 4294967295) : F80 [(lo : Int), (hi : Int), (N : Int), (r : Int), (s : Int), (127 : Int)] [false] = some ([((lo / 2 ^ (s % 32) : Nat) : Int), ((hi / 2 ^ (s % 32) : Nat) : Int), 0, 0], []) := by
  have g1 := h.1
  have g3 := h.2.1
  have g5 := h.r64
  have hk : arI .rem .u64 (s : Int) 32 = ((s % 32 : Nat) : Int) := by rw [show (32 : Int) = ((32 : Nat) : Int) from rfl, rem_nat]
  have hk64 : s % 32 ≤ 64 := by omega
  refine Eq.trans (Fd_of (n := 6) (m := 1) (t := XTransTight.t80) (C := Tab.fn a80) rfl rfl) ?_
  rw [XTransTight.t80]
  refine st_1_0 (e80_67) (g := true) rfl (l := [127]) rfl (m := []) rfl (cl_t q67_127) fun i6 hi6 => ?_
  show T.den _ _ [(lo : Int), (hi : Int), (N : Int), (r : Int), (s : Int), (127 : Int), i6] [false] = _
  refine st_rq (show ((IntKind.wrap .u64 i6) != 0) = true from ?_) ?_
  · first | (rw [hi6]; decide) | (rw [hi6, show IntKind.wrap .u64 32 = 32 from by decide, hk, decide_eq_true_eq]; omega)
  refine st_itt (show (!false) = true from by kernel_rfl) ?_
  refine st_rq (show (decide ((arI .rem .u64 (s : Int) (IntKind.wrap .u64 i6)) ≥ 0)) = true from ?_) ?_
  · first | (rw [hi6]; decide) | (rw [hi6, show IntKind.wrap .u64 32 = 32 from by decide, hk, decide_eq_true_eq]; omega)
  refine st_rq (show (decide ((arI .rem .u64 (s : Int) (IntKind.wrap .u64 i6)) ≥ 0)) = true from ?_) ?_
  · first | (rw [hi6]; decide) | (rw [hi6, show IntKind.wrap .u64 32 = 32 from by decide, hk, decide_eq_true_eq]; omega)
  refine st_ret ?_
  show some ([(arI .shr .u64 (lo : Int) (arI .rem .u64 (s : Int) (IntKind.wrap .u64 i6))), (arI .shr .u64 (hi : Int) (arI .rem .u64 (s : Int) (IntKind.wrap .u64 i6))), 0, 0], []) = _
  rw [hi6, show IntKind.wrap .u64 32 = 32 from by decide, hk, shr_nat _ _ hk64, shr_nat _ _ hk64]

set_option maxHeartbeats 4000000 in
theorem q80_u_127 {lo hi N r : Nat} (h : Rt lo hi N r) (s : Nat) (hT : hi ≤ 4294967295) : F80 [(lo : Int), (hi : Int), (N : Int), (r : Int), (s : Int), (127 : Int)] [true] = some ([((if hi ≤ 4294967295 / 2 ^ (s % 32) then lo * 2 ^ (s % 32) else 0 : Nat) : Int), ((if hi ≤ 4294967295 / 2 ^ (s % 32) then hi * 2 ^ (s % 32) else 4294967295 : Nat) : Int), ((wN (min (N + s % 32) 32) 32 : Nat) : Int), ((wR (min (N + s % 32) 32) (r * 2 ^ (s % 32) % 2 ^ 64) 32 : Nat) : Int)], []) := by
  have g1 := h.1
  have g3 := h.2.1
  have g5 := h.r64
  have hk : arI .rem .u64 (s : Int) 32 = ((s % 32 : Nat) : Int) := by rw [show (32 : Int) = ((32 : Nat) : Int) from rfl, rem_nat]
  have hk64 : s % 32 ≤ 64 := by omega
  refine Eq.trans (Fd_of (n := 6) (m := 1) (t := XTransTight.t80) (C := Tab.fn a80) rfl rfl) ?_
  rw [XTransTight.t80]
  refine st_1_0 (e80_67) (g := true) rfl (l := [127]) rfl (m := []) rfl (cl_t q67_127) fun i6 hi6 => ?_
  show T.den _ _ [(lo : Int), (hi : Int), (N : Int), (r : Int), (s : Int), (127 : Int), i6] [true] = _
  refine st_rq (show ((IntKind.wrap .u64 i6) != 0) = true from ?_) ?_
  · first | (rw [hi6]; decide) | (rw [hi6, show IntKind.wrap .u64 32 = 32 from by decide, hk, decide_eq_true_eq]; omega)
  refine st_itf (show (!true) = false from by kernel_rfl) ?_
  refine st_2_0 (e80_48) (g := true) rfl (l := [i6]) rfl (m := []) rfl (cl_t ((show F48 [i6] [] = F48 [32] [] from by rw [hi6]).trans (v13_32))) fun i7 i8 hi7 hi8 => ?_
  show T.den _ _ [(lo : Int), (hi : Int), (N : Int), (r : Int), (s : Int), (127 : Int), i6, i7, i8] [true] = _
  refine st_2_0 (e80_88) (g := true) rfl (l := [(N : Int), (r : Int), (s : Int), i6]) rfl (m := []) rfl (cl_t ((show F88 [(N : Int), (r : Int), (s : Int), i6] [] = F88 [(N : Int), (r : Int), (s : Int), 32] [] from by rw [hi6]).trans (q88_32 N r s h.2.2.1 h.r64))) fun i9 i10 hi9 hi10 => ?_
  show T.den _ _ [(lo : Int), (hi : Int), (N : Int), (r : Int), (s : Int), (127 : Int), i6, i7, i8, i9, i10] [true] = _
  refine st_2_0 (e80_48) (g := true) rfl (l := [i6]) rfl (m := []) rfl (cl_t ((show F48 [i6] [] = F48 [32] [] from by rw [hi6]).trans (v13_32))) fun i11 i12 hi11 hi12 => ?_
  show T.den _ _ [(lo : Int), (hi : Int), (N : Int), (r : Int), (s : Int), (127 : Int), i6, i7, i8, i9, i10, i11, i12] [true] = _
  refine st_rq (show (decide ((arI .rem .u64 (s : Int) (IntKind.wrap .u64 i6)) ≥ 0)) = true from ?_) ?_
  · first | (rw [hi6]; decide) | (rw [hi6, show IntKind.wrap .u64 32 = 32 from by decide, hk, decide_eq_true_eq]; omega)
  refine st_lb fun b1 hb1 => ?_
  replace hb1 : b1 = (decide ((hi : Int) ≤ (arI .shr .u64 i12 (arI .rem .u64 (s : Int) (IntKind.wrap .u64 i6))))) := hb1
  show T.den _ _ [(lo : Int), (hi : Int), (N : Int), (r : Int), (s : Int), (127 : Int), i6, i7, i8, i9, i10, i11, i12] [true, b1] = _
  refine st_ite (fun hc => ?_) (fun hc => ?_)
  · replace hc : b1 = true := hc
    have c1 := hc
    clear hc
    refine st_rq (show (decide ((arI .rem .u64 (s : Int) (IntKind.wrap .u64 i6)) ≥ 0)) = true from ?_) ?_
    · first | (rw [hi6]; decide) | (rw [hi6, show IntKind.wrap .u64 32 = 32 from by decide, hk, decide_eq_true_eq]; omega)
    refine st_rq (show (decide ((arI .rem .u64 (s : Int) (IntKind.wrap .u64 i6)) ≥ 0)) = true from ?_) ?_
    · first | (rw [hi6]; decide) | (rw [hi6, show IntKind.wrap .u64 32 = 32 from by decide, hk, decide_eq_true_eq]; omega)
    refine st_ret ?_
    show some ([(arI .shl .u64 (lo : Int) (arI .rem .u64 (s : Int) (IntKind.wrap .u64 i6))), (arI .shl .u64 (hi : Int) (arI .rem .u64 (s : Int) (IntKind.wrap .u64 i6))), i9, i10], []) = _
    rw [hb1, hi12, hi6, show IntKind.wrap .u64 32 = 32 from by decide, hk, show (4294967295 : Int) = ((4294967295 : Nat) : Int) from rfl, shr_nat _ _ hk64] at c1
    have hc : hi ≤ 4294967295 / 2 ^ (s % 32) := by have := of_decide_eq_true c1; omega
    have hm : hi * 2 ^ (s % 32) ≤ 4294967295 := (Nat.le_div_iff_mul_le (pow_pos _)).1 hc
    have hm2 : lo * 2 ^ (s % 32) ≤ hi * 2 ^ (s % 32) := Nat.mul_le_mul_right _ g1
    have e1 : lo * 2 ^ (s % 32) % 2 ^ 64 = lo * 2 ^ (s % 32) := Nat.mod_eq_of_lt (Nat.lt_of_le_of_lt (Nat.le_trans hm2 hm) (by decide))
    have e2 : hi * 2 ^ (s % 32) % 2 ^ 64 = hi * 2 ^ (s % 32) := Nat.mod_eq_of_lt (Nat.lt_of_le_of_lt hm (by decide))
    rw [hi6, show IntKind.wrap .u64 32 = 32 from by decide, hk, shl_nat _ _ hk64, shl_nat _ _ hk64, e1, e2, hi9, hi10]; simp only [if_pos hc]
  · replace hc : b1 = false := hc
    have c2 := hc
    clear hc
    refine st_ret ?_
    show some ([i7, i8, i9, i10], []) = _
    rw [hb1, hi12, hi6, show IntKind.wrap .u64 32 = 32 from by decide, hk, show (4294967295 : Int) = ((4294967295 : Nat) : Int) from rfl, shr_nat _ _ hk64] at c2
    have hc : ¬ hi ≤ 4294967295 / 2 ^ (s % 32) := by have := of_decide_eq_false c2; omega
    rw [hi7, hi8, hi9, hi10]; simp only [if_neg hc]; rfl

set_option maxHeartbeats 4000000 in
theorem q57_0_126 {lo hi N r lo2 hi2 M q : Nat} (h : Rt lo hi N r) (h2 : Rt lo2 hi2 M q) : F57 [0, (lo : Int), (hi : Int), (N : Int), (r : Int), (lo2 : Int), (hi2 : Int), (M : Int), (q : Int), 126] [] = some ([(if (hi : Int) + hi2 ≤ tp 64 then (lo : Int) + lo2 else 0), (if (hi : Int) + hi2 ≤ tp 64 then (hi : Int) + hi2 else tp 64), ((wN (min N M) 64 : Nat) : Int), ((wR (min N M) ((((r : Int) + (q : Int)) % 18446744073709551616).toNat) 64 : Nat) : Int)], [true]) := by
  have g1 := h.1
  have g2 := h2.1
  have g3 := h.2.1
  have g4 := h2.2.1
  have g5 := h.r64
  have g6 := h2.r64
  refine Eq.trans (Fd_of (n := 10) (m := 0) (t := XTransTight.t57) (C := Tab.fn a57) rfl rfl) ?_
  rw [XTransTight.t57]
  refine st_1_0 (e57_67) (g := true) rfl (l := [126]) rfl (m := []) rfl (cl_t q67_126) fun i10 hi10 => ?_
  show T.den _ _ [(0 : Int), (lo : Int), (hi : Int), (N : Int), (r : Int), (lo2 : Int), (hi2 : Int), (M : Int), (q : Int), (126 : Int), i10] [] = _
  refine st_1_1 (e57_42) (g := true) rfl (l := [(lo2 : Int), (hi2 : Int), (M : Int), (q : Int)]) rfl (m := []) rfl (cl_t (q42 (lo2 : Int) (hi2 : Int) (M : Int) (q : Int))) fun i11 b0 hi11 hb0 => ?_
  show T.den _ _ [(0 : Int), (lo : Int), (hi : Int), (N : Int), (r : Int), (lo2 : Int), (hi2 : Int), (M : Int), (q : Int), (126 : Int), i10, i11] [b0] = _
  refine st_itt (show ((0 : Int) == 0) = true from by kernel_rfl) ?_
  refine st_2_0 (e57_68) (g := true) rfl (l := [(lo : Int), (hi : Int), (lo2 : Int), (hi2 : Int), i10]) rfl (m := []) rfl (cl_t ((show F68 [(lo : Int), (hi : Int), (lo2 : Int), (hi2 : Int), i10] [] = F68 [(lo : Int), (hi : Int), (lo2 : Int), (hi2 : Int), 64] [] from by rw [hi10]).trans (v18 _ _ _ _ 64 (by omega) (by omega) (by omega) (by omega) (by omega) (by omega)))) fun i12 i13 hi12 hi13 => ?_
  show T.den _ _ [(0 : Int), (lo : Int), (hi : Int), (N : Int), (r : Int), (lo2 : Int), (hi2 : Int), (M : Int), (q : Int), (126 : Int), i10, i11, i12, i13] [b0] = _
  refine st_2_0 (e57_69) (g := true) rfl (l := [(N : Int), (r : Int), (M : Int), (q : Int), i10]) rfl (m := []) rfl (cl_t ((show F69 [(N : Int), (r : Int), (M : Int), (q : Int), i10] [] = F69 [(N : Int), (r : Int), (M : Int), (q : Int), 64] [] from by rw [hi10]).trans (q69 N r M q h.2.2.1 h.r64 h2.2.2.1 h2.r64 64))) fun i14 i15 hi14 hi15 => ?_
  show T.den _ _ [(0 : Int), (lo : Int), (hi : Int), (N : Int), (r : Int), (lo2 : Int), (hi2 : Int), (M : Int), (q : Int), (126 : Int), i10, i11, i12, i13, i14, i15] [b0] = _
  refine st_ret ?_
  show some ([i12, i13, i14, i15], [true]) = _
  rw [hi12, hi13, hi14, hi15]

theorem rec_0_126 {lo hi N r lo2 hi2 M q : Nat} (h : Rt lo hi N r) (h2 : Rt lo2 hi2 M q) (hT : hi ≤ 18446744073709551615) (hT2 : hi2 ≤ 18446744073709551615) : Rec 18446744073709551615 0 126 lo hi N r lo2 hi2 M q (fun n m v => (v : Int) = ((n : Int) + m) % 2 ^ 64) :=
  ⟨_, _, _, _, _, q57_0_126 h h2, fun _ => ok_mk (by decide) (iv_add64 h h2 hT hT2) (lo_mono (lo_add N r M q h.2.2.1 h.r64 h2.2.2.1 h2.r64 (w := 64) (by decide)) fun v hv => ss_lo hv)⟩

set_option maxHeartbeats 4000000 in
theorem q57_1_126 {lo hi N r lo2 hi2 M q : Nat} (h : Rt lo hi N r) (h2 : Rt lo2 hi2 M q) : F57 [1, (lo : Int), (hi : Int), (N : Int), (r : Int), (lo2 : Int), (hi2 : Int), (M : Int), (q : Int), 126] [] = some ([(if (lo : Int) < hi2 then 0 else (lo : Int) - hi2), (if (lo : Int) < hi2 then tp 64 else (hi : Int) - lo2), ((wN (min N M) 64 : Nat) : Int), ((wR (min N M) ((((r : Int) - (q : Int)) % 18446744073709551616).toNat) 64 : Nat) : Int)], [true]) := by
  have g1 := h.1
  have g2 := h2.1
  have g3 := h.2.1
  have g4 := h2.2.1
  have g5 := h.r64
  have g6 := h2.r64
  refine Eq.trans (Fd_of (n := 10) (m := 0) (t := XTransTight.t57) (C := Tab.fn a57) rfl rfl) ?_
  rw [XTransTight.t57]
  refine st_1_0 (e57_67) (g := true) rfl (l := [126]) rfl (m := []) rfl (cl_t q67_126) fun i10 hi10 => ?_
  show T.den _ _ [(1 : Int), (lo : Int), (hi : Int), (N : Int), (r : Int), (lo2 : Int), (hi2 : Int), (M : Int), (q : Int), (126 : Int), i10] [] = _
  refine st_1_1 (e57_42) (g := true) rfl (l := [(lo2 : Int), (hi2 : Int), (M : Int), (q : Int)]) rfl (m := []) rfl (cl_t (q42 (lo2 : Int) (hi2 : Int) (M : Int) (q : Int))) fun i11 b0 hi11 hb0 => ?_
  show T.den _ _ [(1 : Int), (lo : Int), (hi : Int), (N : Int), (r : Int), (lo2 : Int), (hi2 : Int), (M : Int), (q : Int), (126 : Int), i10, i11] [b0] = _
  refine st_itf (show ((1 : Int) == 0) = false from by kernel_rfl) ?_
  refine st_itt (show ((1 : Int) == 1) = true from by kernel_rfl) ?_
  refine st_2_0 (e57_70) (g := true) rfl (l := [(lo : Int), (hi : Int), (lo2 : Int), (hi2 : Int), i10]) rfl (m := []) rfl (cl_t ((show F70 [(lo : Int), (hi : Int), (lo2 : Int), (hi2 : Int), i10] [] = F70 [(lo : Int), (hi : Int), (lo2 : Int), (hi2 : Int), 64] [] from by rw [hi10]).trans (v19 _ _ _ _ 64 (by omega) (by omega) (by omega) (by omega) (by omega) (by omega)))) fun i12 i13 hi12 hi13 => ?_
  show T.den _ _ [(1 : Int), (lo : Int), (hi : Int), (N : Int), (r : Int), (lo2 : Int), (hi2 : Int), (M : Int), (q : Int), (126 : Int), i10, i11, i12, i13] [b0] = _
  refine st_2_0 (e57_71) (g := true) rfl (l := [(N : Int), (r : Int), (M : Int), (q : Int), i10]) rfl (m := []) rfl (cl_t ((show F71 [(N : Int), (r : Int), (M : Int), (q : Int), i10] [] = F71 [(N : Int), (r : Int), (M : Int), (q : Int), 64] [] from by rw [hi10]).trans (q71 N r M q h.2.2.1 h.r64 h2.2.2.1 h2.r64 64))) fun i14 i15 hi14 hi15 => ?_
  show T.den _ _ [(1 : Int), (lo : Int), (hi : Int), (N : Int), (r : Int), (lo2 : Int), (hi2 : Int), (M : Int), (q : Int), (126 : Int), i10, i11, i12, i13, i14, i15] [b0] = _
  refine st_ret ?_
  show some ([i12, i13, i14, i15], [true]) = _
  rw [hi12, hi13, hi14, hi15]

theorem rec_1_126 {lo hi N r lo2 hi2 M q : Nat} (h : Rt lo hi N r) (h2 : Rt lo2 hi2 M q) (hT : hi ≤ 18446744073709551615) (hT2 : hi2 ≤ 18446744073709551615) : Rec 18446744073709551615 1 126 lo hi N r lo2 hi2 M q (fun n m v => (v : Int) = ((n : Int) - m) % 2 ^ 64) :=
  ⟨_, _, _, _, _, q57_1_126 h h2, fun _ => ok_mk (by decide) (iv_sub64 h h2 hT hT2) (lo_mono (lo_sub N r M q h.2.2.1 h.r64 h2.2.2.1 h2.r64 (w := 64) (by decide)) fun v hv => ss_lo hv)⟩

set_option maxHeartbeats 4000000 in
theorem q57_2_126 {lo hi N r lo2 hi2 M q : Nat} (h : Rt lo hi N r) (h2 : Rt lo2 hi2 M q) : F57 [2, (lo : Int), (hi : Int), (N : Int), (r : Int), (lo2 : Int), (hi2 : Int), (M : Int), (q : Int), 126] [] = some ([(if (hi : Int) * hi2 ≤ tp 64 then (lo : Int) * lo2 else 0), (if (hi : Int) * hi2 ≤ tp 64 then (hi : Int) * hi2 else tp 64), ((wN (min N M) 64 : Nat) : Int), ((wR (min N M) ((((r : Int) * (q : Int)) % 18446744073709551616).toNat) 64 : Nat) : Int)], [true]) := by
  have g1 := h.1
  have g2 := h2.1
  have g3 := h.2.1
  have g4 := h2.2.1
  have g5 := h.r64
  have g6 := h2.r64
  refine Eq.trans (Fd_of (n := 10) (m := 0) (t := XTransTight.t57) (C := Tab.fn a57) rfl rfl) ?_
  rw [XTransTight.t57]
  refine st_1_0 (e57_67) (g := true) rfl (l := [126]) rfl (m := []) rfl (cl_t q67_126) fun i10 hi10 => ?_
  show T.den _ _ [(2 : Int), (lo : Int), (hi : Int), (N : Int), (r : Int), (lo2 : Int), (hi2 : Int), (M : Int), (q : Int), (126 : Int), i10] [] = _
  refine st_1_1 (e57_42) (g := true) rfl (l := [(lo2 : Int), (hi2 : Int), (M : Int), (q : Int)]) rfl (m := []) rfl (cl_t (q42 (lo2 : Int) (hi2 : Int) (M : Int) (q : Int))) fun i11 b0 hi11 hb0 => ?_
  show T.den _ _ [(2 : Int), (lo : Int), (hi : Int), (N : Int), (r : Int), (lo2 : Int), (hi2 : Int), (M : Int), (q : Int), (126 : Int), i10, i11] [b0] = _
  refine st_itf (show ((2 : Int) == 0) = false from by kernel_rfl) ?_
  refine st_itf (show ((2 : Int) == 1) = false from by kernel_rfl) ?_
  refine st_itt (show ((2 : Int) == 2) = true from by kernel_rfl) ?_
  refine st_2_0 (e57_72) (g := true) rfl (l := [(lo : Int), (hi : Int), (lo2 : Int), (hi2 : Int), i10]) rfl (m := []) rfl (cl_t ((show F72 [(lo : Int), (hi : Int), (lo2 : Int), (hi2 : Int), i10] [] = F72 [(lo : Int), (hi : Int), (lo2 : Int), (hi2 : Int), 64] [] from by rw [hi10]).trans (v20 _ _ _ _ 64 (by omega) (by omega) (by omega) (by omega) (by omega) (by omega)))) fun i12 i13 hi12 hi13 => ?_
  show T.den _ _ [(2 : Int), (lo : Int), (hi : Int), (N : Int), (r : Int), (lo2 : Int), (hi2 : Int), (M : Int), (q : Int), (126 : Int), i10, i11, i12, i13] [b0] = _
  refine st_2_0 (e57_73) (g := true) rfl (l := [(N : Int), (r : Int), (M : Int), (q : Int), i10]) rfl (m := []) rfl (cl_t ((show F73 [(N : Int), (r : Int), (M : Int), (q : Int), i10] [] = F73 [(N : Int), (r : Int), (M : Int), (q : Int), 64] [] from by rw [hi10]).trans (q73 N r M q h.2.2.1 h.r64 h2.2.2.1 h2.r64 64))) fun i14 i15 hi14 hi15 => ?_
  show T.den _ _ [(2 : Int), (lo : Int), (hi : Int), (N : Int), (r : Int), (lo2 : Int), (hi2 : Int), (M : Int), (q : Int), (126 : Int), i10, i11, i12, i13, i14, i15] [b0] = _
  refine st_ret ?_
  show some ([i12, i13, i14, i15], [true]) = _
  rw [hi12, hi13, hi14, hi15]

theorem rec_2_126 {lo hi N r lo2 hi2 M q : Nat} (h : Rt lo hi N r) (h2 : Rt lo2 hi2 M q) (hT : hi ≤ 18446744073709551615) (hT2 : hi2 ≤ 18446744073709551615) : Rec 18446744073709551615 2 126 lo hi N r lo2 hi2 M q (fun n m v => (v : Int) = ((n : Int) * m) % 2 ^ 64) :=
  ⟨_, _, _, _, _, q57_2_126 h h2, fun _ => ok_mk (by decide) (iv_mul64 h h2 hT hT2) (lo_mono (lo_mul N r M q h.2.2.1 h.r64 h2.2.2.1 h2.r64 (w := 64) (by decide)) fun v hv => ss_lo hv)⟩

set_option maxHeartbeats 4000000 in
theorem q57_4_126 {lo hi N r lo2 hi2 M q : Nat} (h : Rt lo hi N r) (h2 : Rt lo2 hi2 M q) : F57 [4, (lo : Int), (hi : Int), (N : Int), (r : Int), (lo2 : Int), (hi2 : Int), (M : Int), (q : Int), 126] [] = some ([if (hi2 : Int) = 0 then 0 else arI .quo .u64 (lo : Int) hi2, if (hi2 : Int) = 0 then 0 else arI .quo .u64 (hi : Int) (max (lo2 : Int) 1), 0, 0], [decide ((hi2 : Int) ≠ 0)]) := by
  have g1 := h.1
  have g2 := h2.1
  have g3 := h.2.1
  have g4 := h2.2.1
  have g5 := h.r64
  have g6 := h2.r64
  refine Eq.trans (Fd_of (n := 10) (m := 0) (t := XTransTight.t57) (C := Tab.fn a57) rfl rfl) ?_
  rw [XTransTight.t57]
  refine st_1_0 (e57_67) (g := true) rfl (l := [126]) rfl (m := []) rfl (cl_t q67_126) fun i10 hi10 => ?_
  show T.den _ _ [(4 : Int), (lo : Int), (hi : Int), (N : Int), (r : Int), (lo2 : Int), (hi2 : Int), (M : Int), (q : Int), (126 : Int), i10] [] = _
  refine st_1_1 (e57_42) (g := true) rfl (l := [(lo2 : Int), (hi2 : Int), (M : Int), (q : Int)]) rfl (m := []) rfl (cl_t (q42 (lo2 : Int) (hi2 : Int) (M : Int) (q : Int))) fun i11 b0 hi11 hb0 => ?_
  show T.den _ _ [(4 : Int), (lo : Int), (hi : Int), (N : Int), (r : Int), (lo2 : Int), (hi2 : Int), (M : Int), (q : Int), (126 : Int), i10, i11] [b0] = _
  refine st_itf (show ((4 : Int) == 0) = false from by kernel_rfl) ?_
  refine st_itf (show ((4 : Int) == 1) = false from by kernel_rfl) ?_
  refine st_itf (show ((4 : Int) == 2) = false from by kernel_rfl) ?_
  refine st_itt (show ((4 : Int) == 4) = true from by kernel_rfl) ?_
  refine st_2_1 (e57_74) (g := true) rfl (l := [(lo : Int), (hi : Int), (lo2 : Int), (hi2 : Int)]) rfl (m := []) rfl (cl_t (v21 (lo : Int) (hi : Int) (lo2 : Int) (hi2 : Int))) fun i12 i13 b1 hi12 hi13 hb1 => ?_
  show T.den _ _ [(4 : Int), (lo : Int), (hi : Int), (N : Int), (r : Int), (lo2 : Int), (hi2 : Int), (M : Int), (q : Int), (126 : Int), i10, i11, i12, i13] [b0, b1] = _
  refine st_ret ?_
  show some ([i12, i13, 0, 0], [b1]) = _
  rw [hi12, hi13, hb1]

theorem rec_4_126 {lo hi N r lo2 hi2 M q : Nat} (h : Rt lo hi N r) (h2 : Rt lo2 hi2 M q) (hT : hi ≤ 18446744073709551615) (hT2 : hi2 ≤ 18446744073709551615) : Rec 18446744073709551615 4 126 lo hi N r lo2 hi2 M q (fun n m v => m ≠ 0 ∧ v = n / m) := by
  refine ⟨_, _, _, _, _, q57_4_126 h h2, fun hu => ?_⟩
  have hz : ¬ (hi2 : Int) = 0 := of_decide_eq_true hu
  rw [if_neg hz, if_neg hz]
  exact ok_mk (by decide) (iv_div h h2 hT hz) (lo_00 _)

set_option maxHeartbeats 4000000 in
theorem q57_8_126 {lo hi N r lo2 hi2 M q : Nat} (h : Rt lo hi N r) (h2 : Rt lo2 hi2 M q) : F57 [8, (lo : Int), (hi : Int), (N : Int), (r : Int), (lo2 : Int), (hi2 : Int), (M : Int), (q : Int), 126] [] = some ([orL (lo : Int) hi lo2 hi2, orH (lo : Int) hi lo2 hi2, ((min N M : Nat) : Int), (((r ||| q) % 2 ^ min N M : Nat) : Int)], [true]) := by
  have g1 := h.1
  have g2 := h2.1
  have g3 := h.2.1
  have g4 := h2.2.1
  have g5 := h.r64
  have g6 := h2.r64
  refine Eq.trans (Fd_of (n := 10) (m := 0) (t := XTransTight.t57) (C := Tab.fn a57) rfl rfl) ?_
  rw [XTransTight.t57]
  refine st_1_0 (e57_67) (g := true) rfl (l := [126]) rfl (m := []) rfl (cl_t q67_126) fun i10 hi10 => ?_
  show T.den _ _ [(8 : Int), (lo : Int), (hi : Int), (N : Int), (r : Int), (lo2 : Int), (hi2 : Int), (M : Int), (q : Int), (126 : Int), i10] [] = _
  refine st_1_1 (e57_42) (g := true) rfl (l := [(lo2 : Int), (hi2 : Int), (M : Int), (q : Int)]) rfl (m := []) rfl (cl_t (q42 (lo2 : Int) (hi2 : Int) (M : Int) (q : Int))) fun i11 b0 hi11 hb0 => ?_
  show T.den _ _ [(8 : Int), (lo : Int), (hi : Int), (N : Int), (r : Int), (lo2 : Int), (hi2 : Int), (M : Int), (q : Int), (126 : Int), i10, i11] [b0] = _
  refine st_itf (show ((8 : Int) == 0) = false from by kernel_rfl) ?_
  refine st_itf (show ((8 : Int) == 1) = false from by kernel_rfl) ?_
  refine st_itf (show ((8 : Int) == 2) = false from by kernel_rfl) ?_
  refine st_itf (show ((8 : Int) == 4) = false from by kernel_rfl) ?_
  refine st_itf (show ((8 : Int) == 6) = false from by kernel_rfl) ?_
  refine st_itf (show ((8 : Int) == 7) = false from by kernel_rfl) ?_
  refine st_itt (show ((8 : Int) == 8) = true from by kernel_rfl) ?_
  refine st_2_0 (e57_77) (g := true) rfl (l := [(lo : Int), (hi : Int), (lo2 : Int), (hi2 : Int)]) rfl (m := []) rfl (cl_t (v24 (lo : Int) (hi : Int) (lo2 : Int) (hi2 : Int) (by omega) (by omega) (by omega) (by omega) (by omega) (by omega))) fun i12 i13 hi12 hi13 => ?_
  show T.den _ _ [(8 : Int), (lo : Int), (hi : Int), (N : Int), (r : Int), (lo2 : Int), (hi2 : Int), (M : Int), (q : Int), (126 : Int), i10, i11, i12, i13] [b0] = _
  refine st_2_0 (e57_78) (g := true) rfl (l := [(N : Int), (r : Int), (M : Int), (q : Int)]) rfl (m := []) rfl (cl_t (q78 N r M q h.2.2.1 h.r64 h2.2.2.1 h2.r64)) fun i14 i15 hi14 hi15 => ?_
  show T.den _ _ [(8 : Int), (lo : Int), (hi : Int), (N : Int), (r : Int), (lo2 : Int), (hi2 : Int), (M : Int), (q : Int), (126 : Int), i10, i11, i12, i13, i14, i15] [b0] = _
  refine st_ret ?_
  show some ([i12, i13, i14, i15], [true]) = _
  rw [hi12, hi13, hi14, hi15]

theorem rec_8_126 {lo hi N r lo2 hi2 M q : Nat} (h : Rt lo hi N r) (h2 : Rt lo2 hi2 M q) (hT : hi ≤ 18446744073709551615) (hT2 : hi2 ≤ 18446744073709551615) : Rec 18446744073709551615 8 126 lo hi N r lo2 hi2 M q (fun n m v => v = n ||| m) :=
  ⟨_, _, _, _, _, q57_8_126 h h2, fun _ => ok_mk (by decide) (iv_or h h2 (w := 64) (by decide) (by decide) hT hT2) (lo_mono (lo_or N r M q h.2.2.1 h.r64 h2.2.2.1 h2.r64) fun v hv => ss_lo hv)⟩

set_option maxHeartbeats 4000000 in
theorem q57_9_126 {lo hi N r lo2 hi2 M q : Nat} (h : Rt lo hi N r) (h2 : Rt lo2 hi2 M q) : F57 [9, (lo : Int), (hi : Int), (N : Int), (r : Int), (lo2 : Int), (hi2 : Int), (M : Int), (q : Int), 126] [] = some ([0, orH (lo : Int) hi lo2 hi2, ((min N M : Nat) : Int), (((r ^^^ q) % 2 ^ min N M : Nat) : Int)], [true]) := by
  have g1 := h.1
  have g2 := h2.1
  have g3 := h.2.1
  have g4 := h2.2.1
  have g5 := h.r64
  have g6 := h2.r64
  refine Eq.trans (Fd_of (n := 10) (m := 0) (t := XTransTight.t57) (C := Tab.fn a57) rfl rfl) ?_
  rw [XTransTight.t57]
  refine st_1_0 (e57_67) (g := true) rfl (l := [126]) rfl (m := []) rfl (cl_t q67_126) fun i10 hi10 => ?_
  show T.den _ _ [(9 : Int), (lo : Int), (hi : Int), (N : Int), (r : Int), (lo2 : Int), (hi2 : Int), (M : Int), (q : Int), (126 : Int), i10] [] = _
  refine st_1_1 (e57_42) (g := true) rfl (l := [(lo2 : Int), (hi2 : Int), (M : Int), (q : Int)]) rfl (m := []) rfl (cl_t (q42 (lo2 : Int) (hi2 : Int) (M : Int) (q : Int))) fun i11 b0 hi11 hb0 => ?_
  show T.den _ _ [(9 : Int), (lo : Int), (hi : Int), (N : Int), (r : Int), (lo2 : Int), (hi2 : Int), (M : Int), (q : Int), (126 : Int), i10, i11] [b0] = _
  refine st_itf (show ((9 : Int) == 0) = false from by kernel_rfl) ?_
  refine st_itf (show ((9 : Int) == 1) = false from by kernel_rfl) ?_
  refine st_itf (show ((9 : Int) == 2) = false from by kernel_rfl) ?_
  refine st_itf (show ((9 : Int) == 4) = false from by kernel_rfl) ?_
  refine st_itf (show ((9 : Int) == 6) = false from by kernel_rfl) ?_
  refine st_itf (show ((9 : Int) == 7) = false from by kernel_rfl) ?_
  refine st_itf (show ((9 : Int) == 8) = false from by kernel_rfl) ?_
  refine st_itt (show ((9 : Int) == 9) = true from by kernel_rfl) ?_
  refine st_2_0 (e57_77) (g := true) rfl (l := [(lo : Int), (hi : Int), (lo2 : Int), (hi2 : Int)]) rfl (m := []) rfl (cl_t (v24 (lo : Int) (hi : Int) (lo2 : Int) (hi2 : Int) (by omega) (by omega) (by omega) (by omega) (by omega) (by omega))) fun i12 i13 hi12 hi13 => ?_
  show T.den _ _ [(9 : Int), (lo : Int), (hi : Int), (N : Int), (r : Int), (lo2 : Int), (hi2 : Int), (M : Int), (q : Int), (126 : Int), i10, i11, i12, i13] [b0] = _
  refine st_2_0 (e57_79) (g := true) rfl (l := [(N : Int), (r : Int), (M : Int), (q : Int)]) rfl (m := []) rfl (cl_t (q79 N r M q h.2.2.1 h.r64 h2.2.2.1 h2.r64)) fun i14 i15 hi14 hi15 => ?_
  show T.den _ _ [(9 : Int), (lo : Int), (hi : Int), (N : Int), (r : Int), (lo2 : Int), (hi2 : Int), (M : Int), (q : Int), (126 : Int), i10, i11, i12, i13, i14, i15] [b0] = _
  refine st_ret ?_
  show some ([0, i13, i14, i15], [true]) = _
  rw [hi13, hi14, hi15]

theorem rec_9_126 {lo hi N r lo2 hi2 M q : Nat} (h : Rt lo hi N r) (h2 : Rt lo2 hi2 M q) (hT : hi ≤ 18446744073709551615) (hT2 : hi2 ≤ 18446744073709551615) : Rec 18446744073709551615 9 126 lo hi N r lo2 hi2 M q (fun n m v => v = n ^^^ m) :=
  ⟨_, _, _, _, _, q57_9_126 h h2, fun _ => ok_mk (by decide) (iv_xor h h2 (w := 64) (by decide) (by decide) hT hT2) (lo_mono (lo_xor N r M q h.2.2.1 h.r64 h2.2.2.1 h2.r64) fun v hv => ss_lo hv)⟩

set_option maxHeartbeats 4000000 in
theorem q57_7_126 {lo hi N r lo2 hi2 M q : Nat} (h : Rt lo hi N r) (h2 : Rt lo2 hi2 M q) : F57 [7, (lo : Int), (hi : Int), (N : Int), (r : Int), (lo2 : Int), (hi2 : Int), (M : Int), (q : Int), 126] [] = some ([anL (lo : Int) hi lo2 hi2, anH (lo : Int) hi lo2 hi2, ((aN N r M q : Nat) : Int), ((aR N r M q : Nat) : Int)], [true]) := by
  have g1 := h.1
  have g2 := h2.1
  have g3 := h.2.1
  have g4 := h2.2.1
  have g5 := h.r64
  have g6 := h2.r64
  refine Eq.trans (Fd_of (n := 10) (m := 0) (t := XTransTight.t57) (C := Tab.fn a57) rfl rfl) ?_
  rw [XTransTight.t57]
  refine st_1_0 (e57_67) (g := true) rfl (l := [126]) rfl (m := []) rfl (cl_t q67_126) fun i10 hi10 => ?_
  show T.den _ _ [(7 : Int), (lo : Int), (hi : Int), (N : Int), (r : Int), (lo2 : Int), (hi2 : Int), (M : Int), (q : Int), (126 : Int), i10] [] = _
  refine st_1_1 (e57_42) (g := true) rfl (l := [(lo2 : Int), (hi2 : Int), (M : Int), (q : Int)]) rfl (m := []) rfl (cl_t (q42 (lo2 : Int) (hi2 : Int) (M : Int) (q : Int))) fun i11 b0 hi11 hb0 => ?_
  show T.den _ _ [(7 : Int), (lo : Int), (hi : Int), (N : Int), (r : Int), (lo2 : Int), (hi2 : Int), (M : Int), (q : Int), (126 : Int), i10, i11] [b0] = _
  refine st_itf (show ((7 : Int) == 0) = false from by kernel_rfl) ?_
  refine st_itf (show ((7 : Int) == 1) = false from by kernel_rfl) ?_
  refine st_itf (show ((7 : Int) == 2) = false from by kernel_rfl) ?_
  refine st_itf (show ((7 : Int) == 4) = false from by kernel_rfl) ?_
  refine st_itf (show ((7 : Int) == 6) = false from by kernel_rfl) ?_
  refine st_itt (show ((7 : Int) == 7) = true from by kernel_rfl) ?_
  refine st_4_0 (e57_76) (g := true) rfl (l := [(lo : Int), (hi : Int), (N : Int), (r : Int), (lo2 : Int), (hi2 : Int), (M : Int), (q : Int)]) rfl (m := []) rfl (cl_t (q76 h h2)) fun i12 i13 i14 i15 hi12 hi13 hi14 hi15 => ?_
  show T.den _ _ [(7 : Int), (lo : Int), (hi : Int), (N : Int), (r : Int), (lo2 : Int), (hi2 : Int), (M : Int), (q : Int), (126 : Int), i10, i11, i12, i13, i14, i15] [b0] = _
  refine st_ret ?_
  show some ([i12, i13, i14, i15], [true]) = _
  rw [hi12, hi13, hi14, hi15]

theorem rec_7_126 {lo hi N r lo2 hi2 M q : Nat} (h : Rt lo hi N r) (h2 : Rt lo2 hi2 M q) (hT : hi ≤ 18446744073709551615) (hT2 : hi2 ≤ 18446744073709551615) : Rec 18446744073709551615 7 126 lo hi N r lo2 hi2 M q (fun n m v => v = n &&& m) :=
  ⟨_, _, _, _, _, q57_7_126 h h2, fun _ => ok_mk (by decide) (iv_and h h2 hT) (lo_mono (lo_and N r M q h.2.2.1 h.r64 h2.2.2.1 h2.r64) fun v hv => ss_lo hv)⟩

set_option maxHeartbeats 4000000 in
theorem q57_6_126 {lo hi N r lo2 hi2 M q : Nat} (h : Rt lo hi N r) (h2 : Rt lo2 hi2 M q) {x0 x1 x2 x3 : Int} {u : Bool} (h75 : F75 [(lo : Int), (hi : Int), (N : Int), (r : Int), (lo2 : Int), (hi2 : Int), (M : Int), (q : Int)] [] = some ([x0, x1, x2, x3], [u])) : F57 [6, (lo : Int), (hi : Int), (N : Int), (r : Int), (lo2 : Int), (hi2 : Int), (M : Int), (q : Int), 126] [] = some ([x0, x1, x2, x3], [u]) := by
  have g1 := h.1
  have g2 := h2.1
  have g3 := h.2.1
  have g4 := h2.2.1
  have g5 := h.r64
  have g6 := h2.r64
  refine Eq.trans (Fd_of (n := 10) (m := 0) (t := XTransTight.t57) (C := Tab.fn a57) rfl rfl) ?_
  rw [XTransTight.t57]
  refine st_1_0 (e57_67) (g := true) rfl (l := [126]) rfl (m := []) rfl (cl_t q67_126) fun i10 hi10 => ?_
  show T.den _ _ [(6 : Int), (lo : Int), (hi : Int), (N : Int), (r : Int), (lo2 : Int), (hi2 : Int), (M : Int), (q : Int), (126 : Int), i10] [] = _
  refine st_1_1 (e57_42) (g := true) rfl (l := [(lo2 : Int), (hi2 : Int), (M : Int), (q : Int)]) rfl (m := []) rfl (cl_t (q42 (lo2 : Int) (hi2 : Int) (M : Int) (q : Int))) fun i11 b0 hi11 hb0 => ?_
  show T.den _ _ [(6 : Int), (lo : Int), (hi : Int), (N : Int), (r : Int), (lo2 : Int), (hi2 : Int), (M : Int), (q : Int), (126 : Int), i10, i11] [b0] = _
  refine st_itf (show ((6 : Int) == 0) = false from by kernel_rfl) ?_
  refine st_itf (show ((6 : Int) == 1) = false from by kernel_rfl) ?_
  refine st_itf (show ((6 : Int) == 2) = false from by kernel_rfl) ?_
  refine st_itf (show ((6 : Int) == 4) = false from by kernel_rfl) ?_
  refine st_itt (show ((6 : Int) == 6) = true from by kernel_rfl) ?_
  refine st_4_1 (e57_75) (g := true) rfl (l := [(lo : Int), (hi : Int), (N : Int), (r : Int), (lo2 : Int), (hi2 : Int), (M : Int), (q : Int)]) rfl (m := []) rfl (cl_t h75) fun i12 i13 i14 i15 b1 hi12 hi13 hi14 hi15 hb1 => ?_
  show T.den _ _ [(6 : Int), (lo : Int), (hi : Int), (N : Int), (r : Int), (lo2 : Int), (hi2 : Int), (M : Int), (q : Int), (126 : Int), i10, i11, i12, i13, i14, i15] [b0, b1] = _
  refine st_ret ?_
  show some ([i12, i13, i14, i15], [b1]) = _
  rw [hi12, hi13, hi14, hi15, hb1]

theorem rec_6_126 {lo hi N r lo2 hi2 M q : Nat} (h : Rt lo hi N r) (h2 : Rt lo2 hi2 M q) (hT : hi ≤ 18446744073709551615) (hT2 : hi2 ≤ 18446744073709551615) : Rec 18446744073709551615 6 126 lo hi N r lo2 hi2 M q (fun n m v => m ≠ 0 ∧ v = n % m) := by
  by_cases hz : (hi2 : Int) = 0
  · exact ⟨_, _, _, _, _, q57_6_126 h h2 (q75_z h h2 hz), fun hu => by cases hu⟩
  · cases hy : ((ob (lo2 : Int) hi2 M && (ov (lo2 : Int) hi2 M q != 0)) && ((arI .and .u64 (ov (lo2 : Int) hi2 M q) (arI .sub .u64 (ov (lo2 : Int) hi2 M q) 1)) == 0))
    · refine ⟨_, _, _, _, _, q57_6_126 h h2 (q75_n h h2 hz hy), fun _ => ?_⟩
      rw [if_neg hz, if_neg hz]
      exact ok_mk (by decide) (iv_rem h h2 hT hz) (lo_00 _)
    · have hs' := hy
      simp only [Bool.and_eq_true, bne_iff_ne, beq_iff_eq] at hs'
      obtain ⟨⟨e1, e2⟩, e3⟩ := hs'
      have hv := ov_in (a := (lo2 : Int)) (b := hi2) (N := M) h2.inr.1 h2.inr.2.2
      obtain ⟨s, es⟩ := nats hv.1
      rw [es] at e2 e3 hv
      have hs64 : s < 2 ^ 64 := by omega
      have hs0 : s ≠ 0 := by omega
      rw [show arI .sub .u64 (s : Int) 1 = ((s - 1 : Nat) : Int) from by rw [arSub]; omega, band s (s - 1) hs64 (by omega)] at e3
      have hp := pow2_of hs0 hs64 (by omega)
      refine ⟨_, _, _, _, _, q57_6_126 h h2 (q75_y h h2 (Go.Lib.ctz 64 s) hz hy (by rw [es]; exact q54 s hs64)), fun _ => ?_⟩
      rw [if_neg hz, if_neg hz]
      refine ok_mk (by decide) (iv_rem h h2 hT hz) (lo_mono (lo_cut h.2.2.1 h.2.2.2 (Go.Lib.ctz 64 s)) ?_)
      rintro v ⟨n, m, hn, hm, hA, hB, hm0, rfl⟩
      have := one_N h2 hm e1 hB
      refine ⟨n, hAN_hs hA, ?_⟩
      rw [← hp, show m = s from by omega]

set_option maxHeartbeats 4000000 in
theorem q80_d_126 {lo hi N r : Nat} (h : Rt lo hi N r) (s : Nat) (hT : hi ≤ 18446744073709551615) : F80 [(lo : Int), (hi : Int), (N : Int), (r : Int), (s : Int), (126 : Int)] [false] = some ([((lo / 2 ^ (s % 64) : Nat) : Int), ((hi / 2 ^ (s % 64) : Nat) : Int), 0, 0], []) := by
  have g1 := h.1
  have g3 := h.2.1
  have g5 := h.r64
  have hk : arI .rem .u64 (s : Int) 64 = ((s % 64 : Nat) : Int) := by rw [show (64 : Int) = ((64 : Nat) : Int) from rfl, rem_nat]
  have hk64 : s % 64 ≤ 64 := by omega
  refine Eq.trans (Fd_of (n := 6) (m := 1) (t := XTransTight.t80) (C := Tab.fn a80) rfl rfl) ?_
  rw [XTransTight.t80]
  refine st_1_0 (e80_67) (g := true) rfl (l := [126]) rfl (m := []) rfl (cl_t q67_126) fun i6 hi6 => ?_
  show T.den _ _ [(lo : Int), (hi : Int), (N : Int), (r : Int), (s : Int), (126 : Int), i6] [false] = _
  refine st_rq (show ((IntKind.wrap .u64 i6) != 0) = true from ?_) ?_
  · first | (rw [hi6]; decide) | (rw [hi6, show IntKind.wrap .u64 64 = 64 from by decide, hk, decide_eq_true_eq]; omega)
  refine st_itt (show (!false) = true from by kernel_rfl) ?_
  refine st_rq (show (decide ((arI .rem .u64 (s : Int) (IntKind.wrap .u64 i6)) ≥ 0)) = true from ?_) ?_
  · first | (rw [hi6]; decide) | (rw [hi6, show IntKind.wrap .u64 64 = 64 from by decide, hk, decide_eq_true_eq]; omega)
  refine st_rq (show (decide ((arI .rem .u64 (s : Int) (IntKind.wrap .u64 i6)) ≥ 0)) = true from ?_) ?_
  · first | (rw [hi6]; decide) | (rw [hi6, show IntKind.wrap .u64 64 = 64 from by decide, hk, decide_eq_true_eq]; omega)
  refine st_ret ?_
  show some ([(arI .shr .u64 (lo : Int) (arI .rem .u64 (s : Int) (IntKind.wrap .u64 i6))), (arI .shr .u64 (hi : Int) (arI .rem .u64 (s : Int) (IntKind.wrap .u64 i6))), 0, 0], []) = _
  rw [hi6, show IntKind.wrap .u64 64 = 64 from by decide, hk, shr_nat _ _ hk64, shr_nat _ _ hk64]

set_option maxHeartbeats 4000000 in
theorem q80_u_126 {lo hi N r : Nat} (h : Rt lo hi N r) (s : Nat) (hT : hi ≤ 18446744073709551615) : F80 [(lo : Int), (hi : Int), (N : Int), (r : Int), (s : Int), (126 : Int)] [true] = some ([((if hi ≤ 18446744073709551615 / 2 ^ (s % 64) then lo * 2 ^ (s % 64) else 0 : Nat) : Int), ((if hi ≤ 18446744073709551615 / 2 ^ (s % 64) then hi * 2 ^ (s % 64) else 18446744073709551615 : Nat) : Int), ((wN (min (N + s % 64) 64) 64 : Nat) : Int), ((wR (min (N + s % 64) 64) (r * 2 ^ (s % 64) % 2 ^ 64) 64 : Nat) : Int)], []) := by
  have g1 := h.1
  have g3 := h.2.1
  have g5 := h.r64
  have hk : arI .rem .u64 (s : Int) 64 = ((s % 64 : Nat) : Int) := by rw [show (64 : Int) = ((64 : Nat) : Int) from rfl, rem_nat]
  have hk64 : s % 64 ≤ 64 := by omega
  refine Eq.trans (Fd_of (n := 6) (m := 1) (t := XTransTight.t80) (C := Tab.fn a80) rfl rfl) ?_
  rw [XTransTight.t80]
  refine st_1_0 (e80_67) (g := true) rfl (l := [126]) rfl (m := []) rfl (cl_t q67_126) fun i6 hi6 => ?_
  show T.den _ _ [(lo : Int), (hi : Int), (N : Int), (r : Int), (s : Int), (126 : Int), i6] [true] = _
  refine st_rq (show ((IntKind.wrap .u64 i6) != 0) = true from ?_) ?_
  · first | (rw [hi6]; decide) | (rw [hi6, show IntKind.wrap .u64 64 = 64 from by decide, hk, decide_eq_true_eq]; omega)
  refine st_itf (show (!true) = false from by kernel_rfl) ?_
  refine st_2_0 (e80_48) (g := true) rfl (l := [i6]) rfl (m := []) rfl (cl_t ((show F48 [i6] [] = F48 [64] [] from by rw [hi6]).trans (v13_64))) fun i7 i8 hi7 hi8 => ?_
  show T.den _ _ [(lo : Int), (hi : Int), (N : Int), (r : Int), (s : Int), (126 : Int), i6, i7, i8] [true] = _
  refine st_2_0 (e80_88) (g := true) rfl (l := [(N : Int), (r : Int), (s : Int), i6]) rfl (m := []) rfl (cl_t ((show F88 [(N : Int), (r : Int), (s : Int), i6] [] = F88 [(N : Int), (r : Int), (s : Int), 64] [] from by rw [hi6]).trans (q88_64 N r s h.2.2.1 h.r64))) fun i9 i10 hi9 hi10 => ?_
  show T.den _ _ [(lo : Int), (hi : Int), (N : Int), (r : Int), (s : Int), (126 : Int), i6, i7, i8, i9, i10] [true] = _
  refine st_2_0 (e80_48) (g := true) rfl (l := [i6]) rfl (m := []) rfl (cl_t ((show F48 [i6] [] = F48 [64] [] from by rw [hi6]).trans (v13_64))) fun i11 i12 hi11 hi12 => ?_
  show T.den _ _ [(lo : Int), (hi : Int), (N : Int), (r : Int), (s : Int), (126 : Int), i6, i7, i8, i9, i10, i11, i12] [true] = _
  refine st_rq (show (decide ((arI .rem .u64 (s : Int) (IntKind.wrap .u64 i6)) ≥ 0)) = true from ?_) ?_
  · first | (rw [hi6]; decide) | (rw [hi6, show IntKind.wrap .u64 64 = 64 from by decide, hk, decide_eq_true_eq]; omega)
  refine st_lb fun b1 hb1 => ?_
  replace hb1 : b1 = (decide ((hi : Int) ≤ (arI .shr .u64 i12 (arI .rem .u64 (s : Int) (IntKind.wrap .u64 i6))))) := hb1
  show T.den _ _ [(lo : Int), (hi : Int), (N : Int), (r : Int), (s : Int), (126 : Int), i6, i7, i8, i9, i10, i11, i12] [true, b1] = _
  refine st_ite (fun hc => ?_) (fun hc => ?_)
  · replace hc : b1 = true := hc
    have c1 := hc
    clear hc
    refine st_rq (show (decide ((arI .rem .u64 (s : Int) (IntKind.wrap .u64 i6)) ≥ 0)) = true from ?_) ?_
    · first | (rw [hi6]; decide) | (rw [hi6, show IntKind.wrap .u64 64 = 64 from by decide, hk, decide_eq_true_eq]; omega)
    refine st_rq (show (decide ((arI .rem .u64 (s : Int) (IntKind.wrap .u64 i6)) ≥ 0)) = true from ?_) ?_
    · first | (rw [hi6]; decide) | (rw [hi6, show IntKind.wrap .u64 64 = 64 from by decide, hk, decide_eq_true_eq]; omega)
    refine st_ret ?_
    show some ([(arI .shl .u64 (lo : Int) (arI .rem .u64 (s : Int) (IntKind.wrap .u64 i6))), (arI .shl .u64 (hi : Int) (arI .rem .u64 (s : Int) (IntKind.wrap .u64 i6))), i9, i10], []) = _
    rw [hb1, hi12, hi6, show IntKind.wrap .u64 64 = 64 from by decide, hk, show (18446744073709551615 : Int) = ((18446744073709551615 : Nat) : Int) from rfl, shr_nat _ _ hk64] at c1
    have hc : hi ≤ 18446744073709551615 / 2 ^ (s % 64) := by have := of_decide_eq_true c1; omega
    have hm : hi * 2 ^ (s % 64) ≤ 18446744073709551615 := (Nat.le_div_iff_mul_le (pow_pos _)).1 hc
    have hm2 : lo * 2 ^ (s % 64) ≤ hi * 2 ^ (s % 64) := Nat.mul_le_mul_right _ g1
    have e1 : lo * 2 ^ (s % 64) % 2 ^ 64 = lo * 2 ^ (s % 64) := Nat.mod_eq_of_lt (Nat.lt_of_le_of_lt (Nat.le_trans hm2 hm) (by decide))
    have e2 : hi * 2 ^ (s % 64) % 2 ^ 64 = hi * 2 ^ (s % 64) := Nat.mod_eq_of_lt (Nat.lt_of_le_of_lt hm (by decide))
    rw [hi6, show IntKind.wrap .u64 64 = 64 from by decide, hk, shl_nat _ _ hk64, shl_nat _ _ hk64, e1, e2, hi9, hi10]; simp only [if_pos hc]
  · replace hc : b1 = false := hc
    have c2 := hc
    clear hc
    refine st_ret ?_
    show some ([i7, i8, i9, i10], []) = _
    rw [hb1, hi12, hi6, show IntKind.wrap .u64 64 = 64 from by decide, hk, show (18446744073709551615 : Int) = ((18446744073709551615 : Nat) : Int) from rfl, shr_nat _ _ hk64] at c2
    have hc : ¬ hi ≤ 18446744073709551615 / 2 ^ (s % 64) := by have := of_decide_eq_false c2; omega
    rw [hi7, hi8, hi9, hi10]; simp only [if_neg hc]; rfl

set_option maxHeartbeats 4000000 in
theorem q57_10y_127 {lo hi N r lo2 hi2 M q : Nat} (h : Rt lo hi N r) (h2 : Rt lo2 hi2 M q) {x0 x1 x2 x3 : Int} (hy : ob (lo2 : Int) hi2 M = true) (h80 : F80 [(lo : Int), (hi : Int), (N : Int), (r : Int), ov (lo2 : Int) hi2 M q, 127] [true] = some ([x0, x1, x2, x3], [])) : F57 [10, (lo : Int), (hi : Int), (N : Int), (r : Int), (lo2 : Int), (hi2 : Int), (M : Int), (q : Int), 127] [] = some ([x0, x1, x2, x3], [true]) := by
  have g1 := h.1
  have g2 := h2.1
  have g3 := h.2.1
  have g4 := h2.2.1
  have g5 := h.r64
  have g6 := h2.r64
  refine Eq.trans (Fd_of (n := 10) (m := 0) (t := XTransTight.t57) (C := Tab.fn a57) rfl rfl) ?_
  rw [XTransTight.t57]
  refine st_1_0 (e57_67) (g := true) rfl (l := [127]) rfl (m := []) rfl (cl_t q67_127) fun i10 hi10 => ?_
  show T.den _ _ [(10 : Int), (lo : Int), (hi : Int), (N : Int), (r : Int), (lo2 : Int), (hi2 : Int), (M : Int), (q : Int), (127 : Int), i10] [] = _
  refine st_1_1 (e57_42) (g := true) rfl (l := [(lo2 : Int), (hi2 : Int), (M : Int), (q : Int)]) rfl (m := []) rfl (cl_t (q42 (lo2 : Int) (hi2 : Int) (M : Int) (q : Int))) fun i11 b0 hi11 hb0 => ?_
  show T.den _ _ [(10 : Int), (lo : Int), (hi : Int), (N : Int), (r : Int), (lo2 : Int), (hi2 : Int), (M : Int), (q : Int), (127 : Int), i10, i11] [b0] = _
  refine st_itf (show ((10 : Int) == 0) = false from by kernel_rfl) ?_
  refine st_itf (show ((10 : Int) == 1) = false from by kernel_rfl) ?_
  refine st_itf (show ((10 : Int) == 2) = false from by kernel_rfl) ?_
  refine st_itf (show ((10 : Int) == 4) = false from by kernel_rfl) ?_
  refine st_itf (show ((10 : Int) == 6) = false from by kernel_rfl) ?_
  refine st_itf (show ((10 : Int) == 7) = false from by kernel_rfl) ?_
  refine st_itf (show ((10 : Int) == 8) = false from by kernel_rfl) ?_
  refine st_itf (show ((10 : Int) == 9) = false from by kernel_rfl) ?_
  refine st_lbc (show (((10 : Int) == 10) || ((10 : Int) == 12)) = true from by kernel_rfl) ?_
  show T.den _ _ [(10 : Int), (lo : Int), (hi : Int), (N : Int), (r : Int), (lo2 : Int), (hi2 : Int), (M : Int), (q : Int), (127 : Int), i10, i11] [b0, true] = _
  refine st_ite (fun hc => ?_) (fun hc => ?_)
  · replace hc : (true && b0) = true := hc
    have c1 := hc
    clear hc
    refine st_4_0 (e57_80) (g := true) rfl (l := [(lo : Int), (hi : Int), (N : Int), (r : Int), i11, 127]) rfl (m := [true]) rfl (cl_t ((show F80 [(lo : Int), (hi : Int), (N : Int), (r : Int), i11, 127] [true] = F80 [(lo : Int), (hi : Int), (N : Int), (r : Int), (ov (lo2 : Int) hi2 M q), 127] [true] from by rw [hi11]).trans (h80))) fun i12 i13 i14 i15 hi12 hi13 hi14 hi15 => ?_
    show T.den _ _ [(10 : Int), (lo : Int), (hi : Int), (N : Int), (r : Int), (lo2 : Int), (hi2 : Int), (M : Int), (q : Int), (127 : Int), i10, i11, i12, i13, i14, i15] [b0, true] = _
    refine st_ret ?_
    show some ([i12, i13, i14, i15], [true]) = _
    rw [hi12, hi13, hi14, hi15]
  · replace hc : (true && b0) = false := hc
    have c2 := hc
    clear hc
    rw [hb0, hy] at c2; cases c2

set_option maxHeartbeats 4000000 in
theorem q57_10n_127 {lo hi N r lo2 hi2 M q : Nat} (h : Rt lo hi N r) (h2 : Rt lo2 hi2 M q) (hy : ob (lo2 : Int) hi2 M = false) : F57 [10, (lo : Int), (hi : Int), (N : Int), (r : Int), (lo2 : Int), (hi2 : Int), (M : Int), (q : Int), 127] [] = some ([0, 0, 0, 0], [false]) := by
  have g1 := h.1
  have g2 := h2.1
  have g3 := h.2.1
  have g4 := h2.2.1
  have g5 := h.r64
  have g6 := h2.r64
  refine Eq.trans (Fd_of (n := 10) (m := 0) (t := XTransTight.t57) (C := Tab.fn a57) rfl rfl) ?_
  rw [XTransTight.t57]
  refine st_1_0 (e57_67) (g := true) rfl (l := [127]) rfl (m := []) rfl (cl_t q67_127) fun i10 hi10 => ?_
  show T.den _ _ [(10 : Int), (lo : Int), (hi : Int), (N : Int), (r : Int), (lo2 : Int), (hi2 : Int), (M : Int), (q : Int), (127 : Int), i10] [] = _
  refine st_1_1 (e57_42) (g := true) rfl (l := [(lo2 : Int), (hi2 : Int), (M : Int), (q : Int)]) rfl (m := []) rfl (cl_t (q42 (lo2 : Int) (hi2 : Int) (M : Int) (q : Int))) fun i11 b0 hi11 hb0 => ?_
  show T.den _ _ [(10 : Int), (lo : Int), (hi : Int), (N : Int), (r : Int), (lo2 : Int), (hi2 : Int), (M : Int), (q : Int), (127 : Int), i10, i11] [b0] = _
  refine st_itf (show ((10 : Int) == 0) = false from by kernel_rfl) ?_
  refine st_itf (show ((10 : Int) == 1) = false from by kernel_rfl) ?_
  refine st_itf (show ((10 : Int) == 2) = false from by kernel_rfl) ?_
  refine st_itf (show ((10 : Int) == 4) = false from by kernel_rfl) ?_
  refine st_itf (show ((10 : Int) == 6) = false from by kernel_rfl) ?_
  refine st_itf (show ((10 : Int) == 7) = false from by kernel_rfl) ?_
  refine st_itf (show ((10 : Int) == 8) = false from by kernel_rfl) ?_
  refine st_itf (show ((10 : Int) == 9) = false from by kernel_rfl) ?_
  refine st_lbc (show (((10 : Int) == 10) || ((10 : Int) == 12)) = true from by kernel_rfl) ?_
  show T.den _ _ [(10 : Int), (lo : Int), (hi : Int), (N : Int), (r : Int), (lo2 : Int), (hi2 : Int), (M : Int), (q : Int), (127 : Int), i10, i11] [b0, true] = _
  refine st_ite (fun hc => ?_) (fun hc => ?_)
  · replace hc : (true && b0) = true := hc
    have c1 := hc
    clear hc
    rw [hb0, hy] at c1; cases c1
  · replace hc : (true && b0) = false := hc
    have c2 := hc
    clear hc
    refine st_ret ?_
    show some ([0, 0, 0, 0], [false]) = _
    rfl

set_option maxHeartbeats 4000000 in
theorem q57_12y_127 {lo hi N r lo2 hi2 M q : Nat} (h : Rt lo hi N r) (h2 : Rt lo2 hi2 M q) {x0 x1 x2 x3 : Int} (hy : ob (lo2 : Int) hi2 M = true) (h80 : F80 [(lo : Int), (hi : Int), (N : Int), (r : Int), ov (lo2 : Int) hi2 M q, 127] [false] = some ([x0, x1, x2, x3], [])) : F57 [12, (lo : Int), (hi : Int), (N : Int), (r : Int), (lo2 : Int), (hi2 : Int), (M : Int), (q : Int), 127] [] = some ([x0, x1, x2, x3], [true]) := by
  have g1 := h.1
  have g2 := h2.1
  have g3 := h.2.1
  have g4 := h2.2.1
  have g5 := h.r64
  have g6 := h2.r64
  refine Eq.trans (Fd_of (n := 10) (m := 0) (t := XTransTight.t57) (C := Tab.fn a57) rfl rfl) ?_
  rw [XTransTight.t57]
  refine st_1_0 (e57_67) (g := true) rfl (l := [127]) rfl (m := []) rfl (cl_t q67_127) fun i10 hi10 => ?_
  show T.den _ _ [(12 : Int), (lo : Int), (hi : Int), (N : Int), (r : Int), (lo2 : Int), (hi2 : Int), (M : Int), (q : Int), (127 : Int), i10] [] = _
  refine st_1_1 (e57_42) (g := true) rfl (l := [(lo2 : Int), (hi2 : Int), (M : Int), (q : Int)]) rfl (m := []) rfl (cl_t (q42 (lo2 : Int) (hi2 : Int) (M : Int) (q : Int))) fun i11 b0 hi11 hb0 => ?_
  show T.den _ _ [(12 : Int), (lo : Int), (hi : Int), (N : Int), (r : Int), (lo2 : Int), (hi2 : Int), (M : Int), (q : Int), (127 : Int), i10, i11] [b0] = _
  refine st_itf (show ((12 : Int) == 0) = false from by kernel_rfl) ?_
  refine st_itf (show ((12 : Int) == 1) = false from by kernel_rfl) ?_
  refine st_itf (show ((12 : Int) == 2) = false from by kernel_rfl) ?_
  refine st_itf (show ((12 : Int) == 4) = false from by kernel_rfl) ?_
  refine st_itf (show ((12 : Int) == 6) = false from by kernel_rfl) ?_
  refine st_itf (show ((12 : Int) == 7) = false from by kernel_rfl) ?_
  refine st_itf (show ((12 : Int) == 8) = false from by kernel_rfl) ?_
  refine st_itf (show ((12 : Int) == 9) = false from by kernel_rfl) ?_
  refine st_lbc (show (((12 : Int) == 10) || ((12 : Int) == 12)) = true from by kernel_rfl) ?_
  show T.den _ _ [(12 : Int), (lo : Int), (hi : Int), (N : Int), (r : Int), (lo2 : Int), (hi2 : Int), (M : Int), (q : Int), (127 : Int), i10, i11] [b0, true] = _
  refine st_ite (fun hc => ?_) (fun hc => ?_)
  · replace hc : (true && b0) = true := hc
    have c1 := hc
    clear hc
    refine st_4_0 (e57_80) (g := true) rfl (l := [(lo : Int), (hi : Int), (N : Int), (r : Int), i11, 127]) rfl (m := [false]) rfl (cl_t ((show F80 [(lo : Int), (hi : Int), (N : Int), (r : Int), i11, 127] [false] = F80 [(lo : Int), (hi : Int), (N : Int), (r : Int), (ov (lo2 : Int) hi2 M q), 127] [false] from by rw [hi11]).trans (h80))) fun i12 i13 i14 i15 hi12 hi13 hi14 hi15 => ?_
    show T.den _ _ [(12 : Int), (lo : Int), (hi : Int), (N : Int), (r : Int), (lo2 : Int), (hi2 : Int), (M : Int), (q : Int), (127 : Int), i10, i11, i12, i13, i14, i15] [b0, true] = _
    refine st_ret ?_
    show some ([i12, i13, i14, i15], [true]) = _
    rw [hi12, hi13, hi14, hi15]
  · replace hc : (true && b0) = false := hc
    have c2 := hc
    clear hc
    rw [hb0, hy] at c2; cases c2

set_option maxHeartbeats 4000000 in
theorem q57_12n_127 {lo hi N r lo2 hi2 M q : Nat} (h : Rt lo hi N r) (h2 : Rt lo2 hi2 M q) (hy : ob (lo2 : Int) hi2 M = false) : F57 [12, (lo : Int), (hi : Int), (N : Int), (r : Int), (lo2 : Int), (hi2 : Int), (M : Int), (q : Int), 127] [] = some ([0, 0, 0, 0], [false]) := by
  have g1 := h.1
  have g2 := h2.1
  have g3 := h.2.1
  have g4 := h2.2.1
  have g5 := h.r64
  have g6 := h2.r64
  refine Eq.trans (Fd_of (n := 10) (m := 0) (t := XTransTight.t57) (C := Tab.fn a57) rfl rfl) ?_
  rw [XTransTight.t57]
  refine st_1_0 (e57_67) (g := true) rfl (l := [127]) rfl (m := []) rfl (cl_t q67_127) fun i10 hi10 => ?_
  show T.den _ _ [(12 : Int), (lo : Int), (hi : Int), (N : Int), (r : Int), (lo2 : Int), (hi2 : Int), (M : Int), (q : Int), (127 : Int), i10] [] = _
  refine st_1_1 (e57_42) (g := true) rfl (l := [(lo2 : Int), (hi2 : Int), (M : Int), (q : Int)]) rfl (m := []) rfl (cl_t (q42 (lo2 : Int) (hi2 : Int) (M : Int) (q : Int))) fun i11 b0 hi11 hb0 => ?_
  show T.den _ _ [(12 : Int), (lo : Int), (hi : Int), (N : Int), (r : Int), (lo2 : Int), (hi2 : Int), (M : Int), (q : Int), (127 : Int), i10, i11] [b0] = _
  refine st_itf (show ((12 : Int) == 0) = false from by kernel_rfl) ?_
  refine st_itf (show ((12 : Int) == 1) = false from by kernel_rfl) ?_
  refine st_itf (show ((12 : Int) == 2) = false from by kernel_rfl) ?_
  refine st_itf (show ((12 : Int) == 4) = false from by kernel_rfl) ?_
  refine st_itf (show ((12 : Int) == 6) = false from by kernel_rfl) ?_
  refine st_itf (show ((12 : Int) == 7) = false from by kernel_rfl) ?_
  refine st_itf (show ((12 : Int) == 8) = false from by kernel_rfl) ?_
  refine st_itf (show ((12 : Int) == 9) = false from by kernel_rfl) ?_
  refine st_lbc (show (((12 : Int) == 10) || ((12 : Int) == 12)) = true from by kernel_rfl) ?_
  show T.den _ _ [(12 : Int), (lo : Int), (hi : Int), (N : Int), (r : Int), (lo2 : Int), (hi2 : Int), (M : Int), (q : Int), (127 : Int), i10, i11] [b0, true] = _
  refine st_ite (fun hc => ?_) (fun hc => ?_)
  · replace hc : (true && b0) = true := hc
    have c1 := hc
    clear hc
    rw [hb0, hy] at c1; cases c1
  · replace hc : (true && b0) = false := hc
    have c2 := hc
    clear hc
    refine st_ret ?_
    show some ([0, 0, 0, 0], [false]) = _
    rfl

set_option maxHeartbeats 4000000 in
theorem q57_3_127 {lo hi N r lo2 hi2 M q : Nat} (h : Rt lo hi N r) (h2 : Rt lo2 hi2 M q) : F57 [3, (lo : Int), (hi : Int), (N : Int), (r : Int), (lo2 : Int), (hi2 : Int), (M : Int), (q : Int), 127] [] = some ([0, 0, 0, 0], [false]) := by
  have g1 := h.1
  have g2 := h2.1
  have g3 := h.2.1
  have g4 := h2.2.1
  have g5 := h.r64
  have g6 := h2.r64
  refine Eq.trans (Fd_of (n := 10) (m := 0) (t := XTransTight.t57) (C := Tab.fn a57) rfl rfl) ?_
  rw [XTransTight.t57]
  refine st_1_0 (e57_67) (g := true) rfl (l := [127]) rfl (m := []) rfl (cl_t q67_127) fun i10 hi10 => ?_
  show T.den _ _ [(3 : Int), (lo : Int), (hi : Int), (N : Int), (r : Int), (lo2 : Int), (hi2 : Int), (M : Int), (q : Int), (127 : Int), i10] [] = _
  refine st_1_1 (e57_42) (g := true) rfl (l := [(lo2 : Int), (hi2 : Int), (M : Int), (q : Int)]) rfl (m := []) rfl (cl_t (q42 (lo2 : Int) (hi2 : Int) (M : Int) (q : Int))) fun i11 b0 hi11 hb0 => ?_
  show T.den _ _ [(3 : Int), (lo : Int), (hi : Int), (N : Int), (r : Int), (lo2 : Int), (hi2 : Int), (M : Int), (q : Int), (127 : Int), i10, i11] [b0] = _
  refine st_itf (show ((3 : Int) == 0) = false from by kernel_rfl) ?_
  refine st_itf (show ((3 : Int) == 1) = false from by kernel_rfl) ?_
  refine st_itf (show ((3 : Int) == 2) = false from by kernel_rfl) ?_
  refine st_itf (show ((3 : Int) == 4) = false from by kernel_rfl) ?_
  refine st_itf (show ((3 : Int) == 6) = false from by kernel_rfl) ?_
  refine st_itf (show ((3 : Int) == 7) = false from by kernel_rfl) ?_
  refine st_itf (show ((3 : Int) == 8) = false from by kernel_rfl) ?_
  refine st_itf (show ((3 : Int) == 9) = false from by kernel_rfl) ?_
  refine st_lbc (show (((3 : Int) == 10) || ((3 : Int) == 12)) = false from by kernel_rfl) ?_
  show T.den _ _ [(3 : Int), (lo : Int), (hi : Int), (N : Int), (r : Int), (lo2 : Int), (hi2 : Int), (M : Int), (q : Int), (127 : Int), i10, i11] [b0, false] = _
  refine st_itf (show (false && b0) = false from by kernel_rfl) ?_
  refine st_ret ?_
  show some ([0, 0, 0, 0], [false]) = _
  rfl

theorem rec_3_127 {lo hi N r lo2 hi2 M q : Nat} (h : Rt lo hi N r) (h2 : Rt lo2 hi2 M q) (R : Nat → Nat → Nat → Prop) : Rec 4294967295 3 127 lo hi N r lo2 hi2 M q R := ⟨_, _, _, _, _, q57_3_127 h h2, fun hu => by cases hu⟩

set_option maxHeartbeats 4000000 in
theorem q57_5_127 {lo hi N r lo2 hi2 M q : Nat} (h : Rt lo hi N r) (h2 : Rt lo2 hi2 M q) : F57 [5, (lo : Int), (hi : Int), (N : Int), (r : Int), (lo2 : Int), (hi2 : Int), (M : Int), (q : Int), 127] [] = some ([0, 0, 0, 0], [false]) := by
  have g1 := h.1
  have g2 := h2.1
  have g3 := h.2.1
  have g4 := h2.2.1
  have g5 := h.r64
  have g6 := h2.r64
  refine Eq.trans (Fd_of (n := 10) (m := 0) (t := XTransTight.t57) (C := Tab.fn a57) rfl rfl) ?_
  rw [XTransTight.t57]
  refine st_1_0 (e57_67) (g := true) rfl (l := [127]) rfl (m := []) rfl (cl_t q67_127) fun i10 hi10 => ?_
  show T.den _ _ [(5 : Int), (lo : Int), (hi : Int), (N : Int), (r : Int), (lo2 : Int), (hi2 : Int), (M : Int), (q : Int), (127 : Int), i10] [] = _
  refine st_1_1 (e57_42) (g := true) rfl (l := [(lo2 : Int), (hi2 : Int), (M : Int), (q : Int)]) rfl (m := []) rfl (cl_t (q42 (lo2 : Int) (hi2 : Int) (M : Int) (q : Int))) fun i11 b0 hi11 hb0 => ?_
  show T.den _ _ [(5 : Int), (lo : Int), (hi : Int), (N : Int), (r : Int), (lo2 : Int), (hi2 : Int), (M : Int), (q : Int), (127 : Int), i10, i11] [b0] = _
  refine st_itf (show ((5 : Int) == 0) = false from by kernel_rfl) ?_
  refine st_itf (show ((5 : Int) == 1) = false from by kernel_rfl) ?_
  refine st_itf (show ((5 : Int) == 2) = false from by kernel_rfl) ?_
  refine st_itf (show ((5 : Int) == 4) = false from by kernel_rfl) ?_
  refine st_itf (show ((5 : Int) == 6) = false from by kernel_rfl) ?_
  refine st_itf (show ((5 : Int) == 7) = false from by kernel_rfl) ?_
  refine st_itf (show ((5 : Int) == 8) = false from by kernel_rfl) ?_
  refine st_itf (show ((5 : Int) == 9) = false from by kernel_rfl) ?_
  refine st_lbc (show (((5 : Int) == 10) || ((5 : Int) == 12)) = false from by kernel_rfl) ?_
  show T.den _ _ [(5 : Int), (lo : Int), (hi : Int), (N : Int), (r : Int), (lo2 : Int), (hi2 : Int), (M : Int), (q : Int), (127 : Int), i10, i11] [b0, false] = _
  refine st_itf (show (false && b0) = false from by kernel_rfl) ?_
  refine st_ret ?_
  show some ([0, 0, 0, 0], [false]) = _
  rfl

theorem rec_5_127 {lo hi N r lo2 hi2 M q : Nat} (h : Rt lo hi N r) (h2 : Rt lo2 hi2 M q) (R : Nat → Nat → Nat → Prop) : Rec 4294967295 5 127 lo hi N r lo2 hi2 M q R := ⟨_, _, _, _, _, q57_5_127 h h2, fun hu => by cases hu⟩

set_option maxHeartbeats 4000000 in
theorem q57_11_127 {lo hi N r lo2 hi2 M q : Nat} (h : Rt lo hi N r) (h2 : Rt lo2 hi2 M q) : F57 [11, (lo : Int), (hi : Int), (N : Int), (r : Int), (lo2 : Int), (hi2 : Int), (M : Int), (q : Int), 127] [] = some ([0, 0, 0, 0], [false]) := by
  have g1 := h.1
  have g2 := h2.1
  have g3 := h.2.1
  have g4 := h2.2.1
  have g5 := h.r64
  have g6 := h2.r64
  refine Eq.trans (Fd_of (n := 10) (m := 0) (t := XTransTight.t57) (C := Tab.fn a57) rfl rfl) ?_
  rw [XTransTight.t57]
  refine st_1_0 (e57_67) (g := true) rfl (l := [127]) rfl (m := []) rfl (cl_t q67_127) fun i10 hi10 => ?_
  show T.den _ _ [(11 : Int), (lo : Int), (hi : Int), (N : Int), (r : Int), (lo2 : Int), (hi2 : Int), (M : Int), (q : Int), (127 : Int), i10] [] = _
  refine st_1_1 (e57_42) (g := true) rfl (l := [(lo2 : Int), (hi2 : Int), (M : Int), (q : Int)]) rfl (m := []) rfl (cl_t (q42 (lo2 : Int) (hi2 : Int) (M : Int) (q : Int))) fun i11 b0 hi11 hb0 => ?_
  show T.den _ _ [(11 : Int), (lo : Int), (hi : Int), (N : Int), (r : Int), (lo2 : Int), (hi2 : Int), (M : Int), (q : Int), (127 : Int), i10, i11] [b0] = _
  refine st_itf (show ((11 : Int) == 0) = false from by kernel_rfl) ?_
  refine st_itf (show ((11 : Int) == 1) = false from by kernel_rfl) ?_
  refine st_itf (show ((11 : Int) == 2) = false from by kernel_rfl) ?_
  refine st_itf (show ((11 : Int) == 4) = false from by kernel_rfl) ?_
  refine st_itf (show ((11 : Int) == 6) = false from by kernel_rfl) ?_
  refine st_itf (show ((11 : Int) == 7) = false from by kernel_rfl) ?_
  refine st_itf (show ((11 : Int) == 8) = false from by kernel_rfl) ?_
  refine st_itf (show ((11 : Int) == 9) = false from by kernel_rfl) ?_
  refine st_lbc (show (((11 : Int) == 10) || ((11 : Int) == 12)) = false from by kernel_rfl) ?_
  show T.den _ _ [(11 : Int), (lo : Int), (hi : Int), (N : Int), (r : Int), (lo2 : Int), (hi2 : Int), (M : Int), (q : Int), (127 : Int), i10, i11] [b0, false] = _
  refine st_itf (show (false && b0) = false from by kernel_rfl) ?_
  refine st_ret ?_
  show some ([0, 0, 0, 0], [false]) = _
  rfl

theorem rec_11_127 {lo hi N r lo2 hi2 M q : Nat} (h : Rt lo hi N r) (h2 : Rt lo2 hi2 M q) (R : Nat → Nat → Nat → Prop) : Rec 4294967295 11 127 lo hi N r lo2 hi2 M q R := ⟨_, _, _, _, _, q57_11_127 h h2, fun hu => by cases hu⟩

set_option maxHeartbeats 4000000 in
theorem q57_13_127 {lo hi N r lo2 hi2 M q : Nat} (h : Rt lo hi N r) (h2 : Rt lo2 hi2 M q) : F57 [13, (lo : Int), (hi : Int), (N : Int), (r : Int), (lo2 : Int), (hi2 : Int), (M : Int), (q : Int), 127] [] = some ([0, 0, 0, 0], [false]) := by
  have g1 := h.1
  have g2 := h2.1
  have g3 := h.2.1
  have g4 := h2.2.1
  have g5 := h.r64
  have g6 := h2.r64
  refine Eq.trans (Fd_of (n := 10) (m := 0) (t := XTransTight.t57) (C := Tab.fn a57) rfl rfl) ?_
  rw [XTransTight.t57]
  refine st_1_0 (e57_67) (g := true) rfl (l := [127]) rfl (m := []) rfl (cl_t q67_127) fun i10 hi10 => ?_
  show T.den _ _ [(13 : Int), (lo : Int), (hi : Int), (N : Int), (r : Int), (lo2 : Int), (hi2 : Int), (M : Int), (q : Int), (127 : Int), i10] [] = _
  refine st_1_1 (e57_42) (g := true) rfl (l := [(lo2 : Int), (hi2 : Int), (M : Int), (q : Int)]) rfl (m := []) rfl (cl_t (q42 (lo2 : Int) (hi2 : Int) (M : Int) (q : Int))) fun i11 b0 hi11 hb0 => ?_
  show T.den _ _ [(13 : Int), (lo : Int), (hi : Int), (N : Int), (r : Int), (lo2 : Int), (hi2 : Int), (M : Int), (q : Int), (127 : Int), i10, i11] [b0] = _
  refine st_itf (show ((13 : Int) == 0) = false from by kernel_rfl) ?_
  refine st_itf (show ((13 : Int) == 1) = false from by kernel_rfl) ?_
  refine st_itf (show ((13 : Int) == 2) = false from by kernel_rfl) ?_
  refine st_itf (show ((13 : Int) == 4) = false from by kernel_rfl) ?_
  refine st_itf (show ((13 : Int) == 6) = false from by kernel_rfl) ?_
  refine st_itf (show ((13 : Int) == 7) = false from by kernel_rfl) ?_
  refine st_itf (show ((13 : Int) == 8) = false from by kernel_rfl) ?_
  refine st_itf (show ((13 : Int) == 9) = false from by kernel_rfl) ?_
  refine st_lbc (show (((13 : Int) == 10) || ((13 : Int) == 12)) = false from by kernel_rfl) ?_
  show T.den _ _ [(13 : Int), (lo : Int), (hi : Int), (N : Int), (r : Int), (lo2 : Int), (hi2 : Int), (M : Int), (q : Int), (127 : Int), i10, i11] [b0, false] = _
  refine st_itf (show (false && b0) = false from by kernel_rfl) ?_
  refine st_ret ?_
  show some ([0, 0, 0, 0], [false]) = _
  rfl

theorem rec_13_127 {lo hi N r lo2 hi2 M q : Nat} (h : Rt lo hi N r) (h2 : Rt lo2 hi2 M q) (R : Nat → Nat → Nat → Prop) : Rec 4294967295 13 127 lo hi N r lo2 hi2 M q R := ⟨_, _, _, _, _, q57_13_127 h h2, fun hu => by cases hu⟩

set_option maxHeartbeats 4000000 in
theorem q57_14_127 {lo hi N r lo2 hi2 M q : Nat} (h : Rt lo hi N r) (h2 : Rt lo2 hi2 M q) : F57 [14, (lo : Int), (hi : Int), (N : Int), (r : Int), (lo2 : Int), (hi2 : Int), (M : Int), (q : Int), 127] [] = some ([0, 0, 0, 0], [false]) := by
  have g1 := h.1
  have g2 := h2.1
  have g3 := h.2.1
  have g4 := h2.2.1
  have g5 := h.r64
  have g6 := h2.r64
  refine Eq.trans (Fd_of (n := 10) (m := 0) (t := XTransTight.t57) (C := Tab.fn a57) rfl rfl) ?_
  rw [XTransTight.t57]
  refine st_1_0 (e57_67) (g := true) rfl (l := [127]) rfl (m := []) rfl (cl_t q67_127) fun i10 hi10 => ?_
  show T.den _ _ [(14 : Int), (lo : Int), (hi : Int), (N : Int), (r : Int), (lo2 : Int), (hi2 : Int), (M : Int), (q : Int), (127 : Int), i10] [] = _
  refine st_1_1 (e57_42) (g := true) rfl (l := [(lo2 : Int), (hi2 : Int), (M : Int), (q : Int)]) rfl (m := []) rfl (cl_t (q42 (lo2 : Int) (hi2 : Int) (M : Int) (q : Int))) fun i11 b0 hi11 hb0 => ?_
  show T.den _ _ [(14 : Int), (lo : Int), (hi : Int), (N : Int), (r : Int), (lo2 : Int), (hi2 : Int), (M : Int), (q : Int), (127 : Int), i10, i11] [b0] = _
  refine st_itf (show ((14 : Int) == 0) = false from by kernel_rfl) ?_
  refine st_itf (show ((14 : Int) == 1) = false from by kernel_rfl) ?_
  refine st_itf (show ((14 : Int) == 2) = false from by kernel_rfl) ?_
  refine st_itf (show ((14 : Int) == 4) = false from by kernel_rfl) ?_
  refine st_itf (show ((14 : Int) == 6) = false from by kernel_rfl) ?_
  refine st_itf (show ((14 : Int) == 7) = false from by kernel_rfl) ?_
  refine st_itf (show ((14 : Int) == 8) = false from by kernel_rfl) ?_
  refine st_itf (show ((14 : Int) == 9) = false from by kernel_rfl) ?_
  refine st_lbc (show (((14 : Int) == 10) || ((14 : Int) == 12)) = false from by kernel_rfl) ?_
  show T.den _ _ [(14 : Int), (lo : Int), (hi : Int), (N : Int), (r : Int), (lo2 : Int), (hi2 : Int), (M : Int), (q : Int), (127 : Int), i10, i11] [b0, false] = _
  refine st_itf (show (false && b0) = false from by kernel_rfl) ?_
  refine st_ret ?_
  show some ([0, 0, 0, 0], [false]) = _
  rfl

theorem rec_14_127 {lo hi N r lo2 hi2 M q : Nat} (h : Rt lo hi N r) (h2 : Rt lo2 hi2 M q) (R : Nat → Nat → Nat → Prop) : Rec 4294967295 14 127 lo hi N r lo2 hi2 M q R := ⟨_, _, _, _, _, q57_14_127 h h2, fun hu => by cases hu⟩

theorem rec_10_127 {lo hi N r lo2 hi2 M q : Nat} (h : Rt lo hi N r) (h2 : Rt lo2 hi2 M q) (hT : hi ≤ 4294967295) (hT2 : hi2 ≤ 4294967295) : Rec 4294967295 10 127 lo hi N r lo2 hi2 M q (fun n m v => v = n * 2 ^ (m % 32) % 2 ^ 32) := by
  cases hy : ob (lo2 : Int) hi2 M
  · exact ⟨_, _, _, _, _, q57_10n_127 h h2 hy, fun hu => by cases hu⟩
  · have hv := ov_in (a := (lo2 : Int)) (b := hi2) (N := M) h2.inr.1 h2.inr.2.2
    obtain ⟨s, es⟩ := nats hv.1
    refine ⟨_, _, _, _, _, q57_10y_127 h h2 hy (by rw [es]; exact q80_u_127 h s hT), fun _ => ?_⟩
    refine ok_mk (by decide) ?_ (lo_mono (lo_shl h.2.2.1 (w := 32) (by decide) (s % 32)) ?_)
    · by_cases hc : hi ≤ 4294967295 / 2 ^ (s % 32)
      · have hm : hi * 2 ^ (s % 32) ≤ 4294967295 := (Nat.le_div_iff_mul_le (pow_pos _)).1 hc
        rw [if_pos hc, if_pos hc]
        refine ⟨_, _, rfl, rfl, Nat.mul_le_mul_right _ h.1, hm, ?_⟩
        rintro v ⟨n, m, hn, hm', hA, hB, rfl⟩
        have e := one_N h2 hm' hy hB
        have k1 := hAN_true hA
        rw [show m = s from by omega]
        have e1 : lo * 2 ^ (s % 32) ≤ n * 2 ^ (s % 32) := Nat.mul_le_mul_right _ k1.1
        have e2 : n * 2 ^ (s % 32) ≤ hi * 2 ^ (s % 32) := Nat.mul_le_mul_right _ k1.2.1
        rw [Nat.mod_eq_of_lt (Nat.lt_of_le_of_lt (Nat.le_trans e2 hm) (by decide))]
        exact ⟨e1, e2⟩
      · rw [if_neg hc, if_neg hc]
        refine ⟨0, _, rfl, rfl, Nat.zero_le _, Nat.le_refl _, ?_⟩
        rintro v ⟨n, m, hn, hm', hA, hB, rfl⟩
        exact ⟨Nat.zero_le _, by have := Nat.mod_lt (n * 2 ^ (m % 32)) (pow_pos 32); omega⟩
    · rintro v ⟨n, m, hn, hm', hA, hB, rfl⟩
      have e := one_N h2 hm' hy hB
      exact ⟨n, hAN_hs hA, by rw [show m = s from by omega]⟩

theorem rec_12_127 {lo hi N r lo2 hi2 M q : Nat} (h : Rt lo hi N r) (h2 : Rt lo2 hi2 M q) (hT : hi ≤ 4294967295) (hT2 : hi2 ≤ 4294967295) : Rec 4294967295 12 127 lo hi N r lo2 hi2 M q (fun n m v => v = n / 2 ^ (m % 32)) := by
  cases hy : ob (lo2 : Int) hi2 M
  · exact ⟨_, _, _, _, _, q57_12n_127 h h2 hy, fun hu => by cases hu⟩
  · have hv := ov_in (a := (lo2 : Int)) (b := hi2) (N := M) h2.inr.1 h2.inr.2.2
    obtain ⟨s, es⟩ := nats hv.1
    refine ⟨_, _, _, _, _, q57_12y_127 h h2 hy (by rw [es]; exact q80_d_127 h s hT), fun _ => ?_⟩
    refine ok_mk (by decide) ?_ (lo_00 _)
    refine ⟨_, _, rfl, rfl, Nat.div_le_div_right h.1, Nat.le_trans (Nat.div_le_self _ _) hT, ?_⟩
    rintro v ⟨n, m, hn, hm', hA, hB, rfl⟩
    have e := one_N h2 hm' hy hB
    have k1 := hAN_true hA
    rw [show m = s from by omega]
    exact ⟨Nat.div_le_div_right k1.1, Nat.div_le_div_right k1.2.1⟩

set_option maxHeartbeats 4000000 in
theorem q57_10y_126 {lo hi N r lo2 hi2 M q : Nat} (h : Rt lo hi N r) (h2 : Rt lo2 hi2 M q) {x0 x1 x2 x3 : Int} (hy : ob (lo2 : Int) hi2 M = true) (h80 : F80 [(lo : Int), (hi : Int), (N : Int), (r : Int), ov (lo2 : Int) hi2 M q, 126] [true] = some ([x0, x1, x2, x3], [])) : F57 [10, (lo : Int), (hi : Int), (N : Int), (r : Int), (lo2 : Int), (hi2 : Int), (M : Int), (q : Int), 126] [] = some ([x0, x1, x2, x3], [true]) := by
  have g1 := h.1
  have g2 := h2.1
  have g3 := h.2.1
  have g4 := h2.2.1
  have g5 := h.r64
  have g6 := h2.r64
  refine Eq.trans (Fd_of (n := 10) (m := 0) (t := XTransTight.t57) (C := Tab.fn a57) rfl rfl) ?_
  rw [XTransTight.t57]
  refine st_1_0 (e57_67) (g := true) rfl (l := [126]) rfl (m := []) rfl (cl_t q67_126) fun i10 hi10 => ?_
  show T.den _ _ [(10 : Int), (lo : Int), (hi : Int), (N : Int), (r : Int), (lo2 : Int), (hi2 : Int), (M : Int), (q : Int), (126 : Int), i10] [] = _
  refine st_1_1 (e57_42) (g := true) rfl (l := [(lo2 : Int), (hi2 : Int), (M : Int), (q : Int)]) rfl (m := []) rfl (cl_t (q42 (lo2 : Int) (hi2 : Int) (M : Int) (q : Int))) fun i11 b0 hi11 hb0 => ?_
  show T.den _ _ [(10 : Int), (lo : Int), (hi : Int), (N : Int), (r : Int), (lo2 : Int), (hi2 : Int), (M : Int), (q : Int), (126 : Int), i10, i11] [b0] = _
  refine st_itf (show ((10 : Int) == 0) = false from by kernel_rfl) ?_
  refine st_itf (show ((10 : Int) == 1) = false from by kernel_rfl) ?_
  refine st_itf (show ((10 : Int) == 2) = false from by kernel_rfl) ?_
  refine st_itf (show ((10 : Int) == 4) = false from by kernel_rfl) ?_
  refine st_itf (show ((10 : Int) == 6) = false from by kernel_rfl) ?_
  refine st_itf (show ((10 : Int) == 7) = false from by kernel_rfl) ?_
  refine st_itf (show ((10 : Int) == 8) = false from by kernel_rfl) ?_
  refine st_itf (show ((10 : Int) == 9) = false from by kernel_rfl) ?_
  refine st_lbc (show (((10 : Int) == 10) || ((10 : Int) == 12)) = true from by kernel_rfl) ?_
  show T.den _ _ [(10 : Int), (lo : Int), (hi : Int), (N : Int), (r : Int), (lo2 : Int), (hi2 : Int), (M : Int), (q : Int), (126 : Int), i10, i11] [b0, true] = _
  refine st_ite (fun hc => ?_) (fun hc => ?_)
  · replace hc : (true && b0) = true := hc
    have c1 := hc
    clear hc
    refine st_4_0 (e57_80) (g := true) rfl (l := [(lo : Int), (hi : Int), (N : Int), (r : Int), i11, 126]) rfl (m := [true]) rfl (cl_t ((show F80 [(lo : Int), (hi : Int), (N : Int), (r : Int), i11, 126] [true] = F80 [(lo : Int), (hi : Int), (N : Int), (r : Int), (ov (lo2 : Int) hi2 M q), 126] [true] from by rw [hi11]).trans (h80))) fun i12 i13 i14 i15 hi12 hi13 hi14 hi15 => ?_
    show T.den _ _ [(10 : Int), (lo : Int), (hi : Int), (N : Int), (r : Int), (lo2 : Int), (hi2 : Int), (M : Int), (q : Int), (126 : Int), i10, i11, i12, i13, i14, i15] [b0, true] = _
    refine st_ret ?_
    show some ([i12, i13, i14, i15], [true]) = _
    rw [hi12, hi13, hi14, hi15]
  · replace hc : (true && b0) = false := hc
    have c2 := hc
    clear hc
    rw [hb0, hy] at c2; cases c2

set_option maxHeartbeats 4000000 in
theorem q57_10n_126 {lo hi N r lo2 hi2 M q : Nat} (h : Rt lo hi N r) (h2 : Rt lo2 hi2 M q) (hy : ob (lo2 : Int) hi2 M = false) : F57 [10, (lo : Int), (hi : Int), (N : Int), (r : Int), (lo2 : Int), (hi2 : Int), (M : Int), (q : Int), 126] [] = some ([0, 0, 0, 0], [false]) := by
  have g1 := h.1
  have g2 := h2.1
  have g3 := h.2.1
  have g4 := h2.2.1
  have g5 := h.r64
  have g6 := h2.r64
  refine Eq.trans (Fd_of (n := 10) (m := 0) (t := XTransTight.t57) (C := Tab.fn a57) rfl rfl) ?_
  rw [XTransTight.t57]
  refine st_1_0 (e57_67) (g := true) rfl (l := [126]) rfl (m := []) rfl (cl_t q67_126) fun i10 hi10 => ?_
  show T.den _ _ [(10 : Int), (lo : Int), (hi : Int), (N : Int), (r : Int), (lo2 : Int), (hi2 : Int), (M : Int), (q : Int), (126 : Int), i10] [] = _
  refine st_1_1 (e57_42) (g := true) rfl (l := [(lo2 : Int), (hi2 : Int), (M : Int), (q : Int)]) rfl (m := []) rfl (cl_t (q42 (lo2 : Int) (hi2 : Int) (M : Int) (q : Int))) fun i11 b0 hi11 hb0 => ?_
  show T.den _ _ [(10 : Int), (lo : Int), (hi : Int), (N : Int), (r : Int), (lo2 : Int), (hi2 : Int), (M : Int), (q : Int), (126 : Int), i10, i11] [b0] = _
  refine st_itf (show ((10 : Int) == 0) = false from by kernel_rfl) ?_
  refine st_itf (show ((10 : Int) == 1) = false from by kernel_rfl) ?_
  refine st_itf (show ((10 : Int) == 2) = false from by kernel_rfl) ?_
  refine st_itf (show ((10 : Int) == 4) = false from by kernel_rfl) ?_
  refine st_itf (show ((10 : Int) == 6) = false from by kernel_rfl) ?_
  refine st_itf (show ((10 : Int) == 7) = false from by kernel_rfl) ?_
  refine st_itf (show ((10 : Int) == 8) = false from by kernel_rfl) ?_
  refine st_itf (show ((10 : Int) == 9) = false from by kernel_rfl) ?_
  refine st_lbc (show (((10 : Int) == 10) || ((10 : Int) == 12)) = true from by kernel_rfl) ?_
  show T.den _ _ [(10 : Int), (lo : Int), (hi : Int), (N : Int), (r : Int), (lo2 : Int), (hi2 : Int), (M : Int), (q : Int), (126 : Int), i10, i11] [b0, true] = _
  refine st_ite (fun hc => ?_) (fun hc => ?_)
  · replace hc : (true && b0) = true := hc
    have c1 := hc
    clear hc
    rw [hb0, hy] at c1; cases c1
  · replace hc : (true && b0) = false := hc
    have c2 := hc
    clear hc
    refine st_ret ?_
    show some ([0, 0, 0, 0], [false]) = _
    rfl

set_option maxHeartbeats 4000000 in
theorem q57_12y_126 {lo hi N r lo2 hi2 M q : Nat} (h : Rt lo hi N r) (h2 : Rt lo2 hi2 M q) {x0 x1 x2 x3 : Int} (hy : ob (lo2 : Int) hi2 M = true) (h80 : F80 [(lo : Int), (hi : Int), (N : Int), (r : Int), ov (lo2 : Int) hi2 M q, 126] [false] = some ([x0, x1, x2, x3], [])) : F57 [12, (lo : Int), (hi : Int), (N : Int), (r : Int), (lo2 : Int), (hi2 : Int), (M : Int), (q : Int), 126] [] = some ([x0, x1, x2, x3], [true]) := by
  have g1 := h.1
  have g2 := h2.1
  have g3 := h.2.1
  have g4 := h2.2.1
  have g5 := h.r64
  have g6 := h2.r64
  refine Eq.trans (Fd_of (n := 10) (m := 0) (t := XTransTight.t57) (C := Tab.fn a57) rfl rfl) ?_
  rw [XTransTight.t57]
  refine st_1_0 (e57_67) (g := true) rfl (l := [126]) rfl (m := []) rfl (cl_t q67_126) fun i10 hi10 => ?_
  show T.den _ _ [(12 : Int), (lo : Int), (hi : Int), (N : Int), (r : Int), (lo2 : Int), (hi2 : Int), (M : Int), (q : Int), (126 : Int), i10] [] = _
  refine st_1_1 (e57_42) (g := true) rfl (l := [(lo2 : Int), (hi2 : Int), (M : Int), (q : Int)]) rfl (m := []) rfl (cl_t (q42 (lo2 : Int) (hi2 : Int) (M : Int) (q : Int))) fun i11 b0 hi11 hb0 => ?_
  show T.den _ _ [(12 : Int), (lo : Int), (hi : Int), (N : Int), (r : Int), (lo2 : Int), (hi2 : Int), (M : Int), (q : Int), (126 : Int), i10, i11] [b0] = _
  refine st_itf (show ((12 : Int) == 0) = false from by kernel_rfl) ?_
  refine st_itf (show ((12 : Int) == 1) = false from by kernel_rfl) ?_
  refine st_itf (show ((12 : Int) == 2) = false from by kernel_rfl) ?_
  refine st_itf (show ((12 : Int) == 4) = false from by kernel_rfl) ?_
  refine st_itf (show ((12 : Int) == 6) = false from by kernel_rfl) ?_
  refine st_itf (show ((12 : Int) == 7) = false from by kernel_rfl) ?_
  refine st_itf (show ((12 : Int) == 8) = false from by kernel_rfl) ?_
  refine st_itf (show ((12 : Int) == 9) = false from by kernel_rfl) ?_
  refine st_lbc (show (((12 : Int) == 10) || ((12 : Int) == 12)) = true from by kernel_rfl) ?_
  show T.den _ _ [(12 : Int), (lo : Int), (hi : Int), (N : Int), (r : Int), (lo2 : Int), (hi2 : Int), (M : Int), (q : Int), (126 : Int), i10, i11] [b0, true] = _
  refine st_ite (fun hc => ?_) (fun hc => ?_)
  · replace hc : (true && b0) = true := hc
    have c1 := hc
    clear hc
    refine st_4_0 (e57_80) (g := true) rfl (l := [(lo : Int), (hi : Int), (N : Int), (r : Int), i11, 126]) rfl (m := [false]) rfl (cl_t ((show F80 [(lo : Int), (hi : Int), (N : Int), (r : Int), i11, 126] [false] = F80 [(lo : Int), (hi : Int), (N : Int), (r : Int), (ov (lo2 : Int) hi2 M q), 126] [false] from by rw [hi11]).trans (h80))) fun i12 i13 i14 i15 hi12 hi13 hi14 hi15 => ?_
    show T.den _ _ [(12 : Int), (lo : Int), (hi : Int), (N : Int), (r : Int), (lo2 : Int), (hi2 : Int), (M : Int), (q : Int), (126 : Int), i10, i11, i12, i13, i14, i15] [b0, true] = _
    refine st_ret ?_
    show some ([i12, i13, i14, i15], [true]) = _
    rw [hi12, hi13, hi14, hi15]
  · replace hc : (true && b0) = false := hc
    have c2 := hc
    clear hc
    rw [hb0, hy] at c2; cases c2

set_option maxHeartbeats 4000000 in
theorem q57_12n_126 {lo hi N r lo2 hi2 M q : Nat} (h : Rt lo hi N r) (h2 : Rt lo2 hi2 M q) (hy : ob (lo2 : Int) hi2 M = false) : F57 [12, (lo : Int), (hi : Int), (N : Int), (r : Int), (lo2 : Int), (hi2 : Int), (M : Int), (q : Int), 126] [] = some ([0, 0, 0, 0], [false]) := by
  have g1 := h.1
  have g2 := h2.1
  have g3 := h.2.1
  have g4 := h2.2.1
  have g5 := h.r64
  have g6 := h2.r64
  refine Eq.trans (Fd_of (n := 10) (m := 0) (t := XTransTight.t57) (C := Tab.fn a57) rfl rfl) ?_
  rw [XTransTight.t57]
  refine st_1_0 (e57_67) (g := true) rfl (l := [126]) rfl (m := []) rfl (cl_t q67_126) fun i10 hi10 => ?_
  show T.den _ _ [(12 : Int), (lo : Int), (hi : Int), (N : Int), (r : Int), (lo2 : Int), (hi2 : Int), (M : Int), (q : Int), (126 : Int), i10] [] = _
  refine st_1_1 (e57_42) (g := true) rfl (l := [(lo2 : Int), (hi2 : Int), (M : Int), (q : Int)]) rfl (m := []) rfl (cl_t (q42 (lo2 : Int) (hi2 : Int) (M : Int) (q : Int))) fun i11 b0 hi11 hb0 => ?_
  show T.den _ _ [(12 : Int), (lo : Int), (hi : Int), (N : Int), (r : Int), (lo2 : Int), (hi2 : Int), (M : Int), (q : Int), (126 : Int), i10, i11] [b0] = _
  refine st_itf (show ((12 : Int) == 0) = false from by kernel_rfl) ?_
  refine st_itf (show ((12 : Int) == 1) = false from by kernel_rfl) ?_
  refine st_itf (show ((12 : Int) == 2) = false from by kernel_rfl) ?_
  refine st_itf (show ((12 : Int) == 4) = false from by kernel_rfl) ?_
  refine st_itf (show ((12 : Int) == 6) = false from by kernel_rfl) ?_
  refine st_itf (show ((12 : Int) == 7) = false from by kernel_rfl) ?_
  refine st_itf (show ((12 : Int) == 8) = false from by kernel_rfl) ?_
  refine st_itf (show ((12 : Int) == 9) = false from by kernel_rfl) ?_
  refine st_lbc (show (((12 : Int) == 10) || ((12 : Int) == 12)) = true from by kernel_rfl) ?_
  show T.den _ _ [(12 : Int), (lo : Int), (hi : Int), (N : Int), (r : Int), (lo2 : Int), (hi2 : Int), (M : Int), (q : Int), (126 : Int), i10, i11] [b0, true] = _
  refine st_ite (fun hc => ?_) (fun hc => ?_)
  · replace hc : (true && b0) = true := hc
    have c1 := hc
    clear hc
    rw [hb0, hy] at c1; cases c1
  · replace hc : (true && b0) = false := hc
    have c2 := hc
    clear hc
    refine st_ret ?_
    show some ([0, 0, 0, 0], [false]) = _
    rfl

set_option maxHeartbeats 4000000 in
theorem q57_3_126 {lo hi N r lo2 hi2 M q : Nat} (h : Rt lo hi N r) (h2 : Rt lo2 hi2 M q) : F57 [3, (lo : Int), (hi : Int), (N : Int), (r : Int), (lo2 : Int), (hi2 : Int), (M : Int), (q : Int), 126] [] = some ([0, 0, 0, 0], [false]) := by
  have g1 := h.1
  have g2 := h2.1
  have g3 := h.2.1
  have g4 := h2.2.1
  have g5 := h.r64
  have g6 := h2.r64
  refine Eq.trans (Fd_of (n := 10) (m := 0) (t := XTransTight.t57) (C := Tab.fn a57) rfl rfl) ?_
  rw [XTransTight.t57]
  refine st_1_0 (e57_67) (g := true) rfl (l := [126]) rfl (m := []) rfl (cl_t q67_126) fun i10 hi10 => ?_
  show T.den _ _ [(3 : Int), (lo : Int), (hi : Int), (N : Int), (r : Int), (lo2 : Int), (hi2 : Int), (M : Int), (q : Int), (126 : Int), i10] [] = _
  refine st_1_1 (e57_42) (g := true) rfl (l := [(lo2 : Int), (hi2 : Int), (M : Int), (q : Int)]) rfl (m := []) rfl (cl_t (q42 (lo2 : Int) (hi2 : Int) (M : Int) (q : Int))) fun i11 b0 hi11 hb0 => ?_
  show T.den _ _ [(3 : Int), (lo : Int), (hi : Int), (N : Int), (r : Int), (lo2 : Int), (hi2 : Int), (M : Int), (q : Int), (126 : Int), i10, i11] [b0] = _
  refine st_itf (show ((3 : Int) == 0) = false from by kernel_rfl) ?_
  refine st_itf (show ((3 : Int) == 1) = false from by kernel_rfl) ?_
  refine st_itf (show ((3 : Int) == 2) = false from by kernel_rfl) ?_
  refine st_itf (show ((3 : Int) == 4) = false from by kernel_rfl) ?_
  refine st_itf (show ((3 : Int) == 6) = false from by kernel_rfl) ?_
  refine st_itf (show ((3 : Int) == 7) = false from by kernel_rfl) ?_
  refine st_itf (show ((3 : Int) == 8) = false from by kernel_rfl) ?_
  refine st_itf (show ((3 : Int) == 9) = false from by kernel_rfl) ?_
  refine st_lbc (show (((3 : Int) == 10) || ((3 : Int) == 12)) = false from by kernel_rfl) ?_
  show T.den _ _ [(3 : Int), (lo : Int), (hi : Int), (N : Int), (r : Int), (lo2 : Int), (hi2 : Int), (M : Int), (q : Int), (126 : Int), i10, i11] [b0, false] = _
  refine st_itf (show (false && b0) = false from by kernel_rfl) ?_
  refine st_ret ?_
  show some ([0, 0, 0, 0], [false]) = _
  rfl

theorem rec_3_126 {lo hi N r lo2 hi2 M q : Nat} (h : Rt lo hi N r) (h2 : Rt lo2 hi2 M q) (R : Nat → Nat → Nat → Prop) : Rec 18446744073709551615 3 126 lo hi N r lo2 hi2 M q R := ⟨_, _, _, _, _, q57_3_126 h h2, fun hu => by cases hu⟩

set_option maxHeartbeats 4000000 in
theorem q57_5_126 {lo hi N r lo2 hi2 M q : Nat} (h : Rt lo hi N r) (h2 : Rt lo2 hi2 M q) : F57 [5, (lo : Int), (hi : Int), (N : Int), (r : Int), (lo2 : Int), (hi2 : Int), (M : Int), (q : Int), 126] [] = some ([0, 0, 0, 0], [false]) := by
  have g1 := h.1
  have g2 := h2.1
  have g3 := h.2.1
  have g4 := h2.2.1
  have g5 := h.r64
  have g6 := h2.r64
  refine Eq.trans (Fd_of (n := 10) (m := 0) (t := XTransTight.t57) (C := Tab.fn a57) rfl rfl) ?_
  rw [XTransTight.t57]
  refine st_1_0 (e57_67) (g := true) rfl (l := [126]) rfl (m := []) rfl (cl_t q67_126) fun i10 hi10 => ?_
  show T.den _ _ [(5 : Int), (lo : Int), (hi : Int), (N : Int), (r : Int), (lo2 : Int), (hi2 : Int), (M : Int), (q : Int), (126 : Int), i10] [] = _
  refine st_1_1 (e57_42) (g := true) rfl (l := [(lo2 : Int), (hi2 : Int), (M : Int), (q : Int)]) rfl (m := []) rfl (cl_t (q42 (lo2 : Int) (hi2 : Int) (M : Int) (q : Int))) fun i11 b0 hi11 hb0 => ?_
  show T.den _ _ [(5 : Int), (lo : Int), (hi : Int), (N : Int), (r : Int), (lo2 : Int), (hi2 : Int), (M : Int), (q : Int), (126 : Int), i10, i11] [b0] = _
  refine st_itf (show ((5 : Int) == 0) = false from by kernel_rfl) ?_
  refine st_itf (show ((5 : Int) == 1) = false from by kernel_rfl) ?_
  refine st_itf (show ((5 : Int) == 2) = false from by kernel_rfl) ?_
  refine st_itf (show ((5 : Int) == 4) = false from by kernel_rfl) ?_
  refine st_itf (show ((5 : Int) == 6) = false from by kernel_rfl) ?_
  refine st_itf (show ((5 : Int) == 7) = false from by kernel_rfl) ?_
  refine st_itf (show ((5 : Int) == 8) = false from by kernel_rfl) ?_
  refine st_itf (show ((5 : Int) == 9) = false from by kernel_rfl) ?_
  refine st_lbc (show (((5 : Int) == 10) || ((5 : Int) == 12)) = false from by kernel_rfl) ?_
  show T.den _ _ [(5 : Int), (lo : Int), (hi : Int), (N : Int), (r : Int), (lo2 : Int), (hi2 : Int), (M : Int), (q : Int), (126 : Int), i10, i11] [b0, false] = _
  refine st_itf (show (false && b0) = false from by kernel_rfl) ?_
  refine st_ret ?_
  show some ([0, 0, 0, 0], [false]) = _
  rfl

theorem rec_5_126 {lo hi N r lo2 hi2 M q : Nat} (h : Rt lo hi N r) (h2 : Rt lo2 hi2 M q) (R : Nat → Nat → Nat → Prop) : Rec 18446744073709551615 5 126 lo hi N r lo2 hi2 M q R := ⟨_, _, _, _, _, q57_5_126 h h2, fun hu => by cases hu⟩

set_option maxHeartbeats 4000000 in
theorem q57_11_126 {lo hi N r lo2 hi2 M q : Nat} (h : Rt lo hi N r) (h2 : Rt lo2 hi2 M q) : F57 [11, (lo : Int), (hi : Int), (N : Int), (r : Int), (lo2 : Int), (hi2 : Int), (M : Int), (q : Int), 126] [] = some ([0, 0, 0, 0], [false]) := by
  have g1 := h.1
  have g2 := h2.1
  have g3 := h.2.1
  have g4 := h2.2.1
  have g5 := h.r64
  have g6 := h2.r64
  refine Eq.trans (Fd_of (n := 10) (m := 0) (t := XTransTight.t57) (C := Tab.fn a57) rfl rfl) ?_
  rw [XTransTight.t57]
  refine st_1_0 (e57_67) (g := true) rfl (l := [126]) rfl (m := []) rfl (cl_t q67_126) fun i10 hi10 => ?_
  show T.den _ _ [(11 : Int), (lo : Int), (hi : Int), (N : Int), (r : Int), (lo2 : Int), (hi2 : Int), (M : Int), (q : Int), (126 : Int), i10] [] = _
  refine st_1_1 (e57_42) (g := true) rfl (l := [(lo2 : Int), (hi2 : Int), (M : Int), (q : Int)]) rfl (m := []) rfl (cl_t (q42 (lo2 : Int) (hi2 : Int) (M : Int) (q : Int))) fun i11 b0 hi11 hb0 => ?_
  show T.den _ _ [(11 : Int), (lo : Int), (hi : Int), (N : Int), (r : Int), (lo2 : Int), (hi2 : Int), (M : Int), (q : Int), (126 : Int), i10, i11] [b0] = _
  refine st_itf (show ((11 : Int) == 0) = false from by kernel_rfl) ?_
  refine st_itf (show ((11 : Int) == 1) = false from by kernel_rfl) ?_
  refine st_itf (show ((11 : Int) == 2) = false from by kernel_rfl) ?_
  refine st_itf (show ((11 : Int) == 4) = false from by kernel_rfl) ?_
  refine st_itf (show ((11 : Int) == 6) = false from by kernel_rfl) ?_
  refine st_itf (show ((11 : Int) == 7) = false from by kernel_rfl) ?_
  refine st_itf (show ((11 : Int) == 8) = false from by kernel_rfl) ?_
  refine st_itf (show ((11 : Int) == 9) = false from by kernel_rfl) ?_
  refine st_lbc (show (((11 : Int) == 10) || ((11 : Int) == 12)) = false from by kernel_rfl) ?_
  show T.den _ _ [(11 : Int), (lo : Int), (hi : Int), (N : Int), (r : Int), (lo2 : Int), (hi2 : Int), (M : Int), (q : Int), (126 : Int), i10, i11] [b0, false] = _
  refine st_itf (show (false && b0) = false from by kernel_rfl) ?_
  refine st_ret ?_
  show some ([0, 0, 0, 0], [false]) = _
  rfl

theorem rec_11_126 {lo hi N r lo2 hi2 M q : Nat} (h : Rt lo hi N r) (h2 : Rt lo2 hi2 M q) (R : Nat → Nat → Nat → Prop) : Rec 18446744073709551615 11 126 lo hi N r lo2 hi2 M q R := ⟨_, _, _, _, _, q57_11_126 h h2, fun hu => by cases hu⟩

set_option maxHeartbeats 4000000 in
theorem q57_13_126 {lo hi N r lo2 hi2 M q : Nat} (h : Rt lo hi N r) (h2 : Rt lo2 hi2 M q) : F57 [13, (lo : Int), (hi : Int), (N : Int), (r : Int), (lo2 : Int), (hi2 : Int), (M : Int), (q : Int), 126] [] = some ([0, 0, 0, 0], [false]) := by
  have g1 := h.1
  have g2 := h2.1
  have g3 := h.2.1
  have g4 := h2.2.1
  have g5 := h.r64
  have g6 := h2.r64
  refine Eq.trans (Fd_of (n := 10) (m := 0) (t := XTransTight.t57) (C := Tab.fn a57) rfl rfl) ?_
  rw [XTransTight.t57]
  refine st_1_0 (e57_67) (g := true) rfl (l := [126]) rfl (m := []) rfl (cl_t q67_126) fun i10 hi10 => ?_
  show T.den _ _ [(13 : Int), (lo : Int), (hi : Int), (N : Int), (r : Int), (lo2 : Int), (hi2 : Int), (M : Int), (q : Int), (126 : Int), i10] [] = _
  refine st_1_1 (e57_42) (g := true) rfl (l := [(lo2 : Int), (hi2 : Int), (M : Int), (q : Int)]) rfl (m := []) rfl (cl_t (q42 (lo2 : Int) (hi2 : Int) (M : Int) (q : Int))) fun i11 b0 hi11 hb0 => ?_
  show T.den _ _ [(13 : Int), (lo : Int), (hi : Int), (N : Int), (r : Int), (lo2 : Int), (hi2 : Int), (M : Int), (q : Int), (126 : Int), i10, i11] [b0] = _
  refine st_itf (show ((13 : Int) == 0) = false from by kernel_rfl) ?_
  refine st_itf (show ((13 : Int) == 1) = false from by kernel_rfl) ?_
  refine st_itf (show ((13 : Int) == 2) = false from by kernel_rfl) ?_
  refine st_itf (show ((13 : Int) == 4) = false from by kernel_rfl) ?_
  refine st_itf (show ((13 : Int) == 6) = false from by kernel_rfl) ?_
  refine st_itf (show ((13 : Int) == 7) = false from by kernel_rfl) ?_
  refine st_itf (show ((13 : Int) == 8) = false from by kernel_rfl) ?_
  refine st_itf (show ((13 : Int) == 9) = false from by kernel_rfl) ?_
  refine st_lbc (show (((13 : Int) == 10) || ((13 : Int) == 12)) = false from by kernel_rfl) ?_
  show T.den _ _ [(13 : Int), (lo : Int), (hi : Int), (N : Int), (r : Int), (lo2 : Int), (hi2 : Int), (M : Int), (q : Int), (126 : Int), i10, i11] [b0, false] = _
  refine st_itf (show (false && b0) = false from by kernel_rfl) ?_
  refine st_ret ?_
  show some ([0, 0, 0, 0], [false]) = _
  rfl

theorem rec_13_126 {lo hi N r lo2 hi2 M q : Nat} (h : Rt lo hi N r) (h2 : Rt lo2 hi2 M q) (R : Nat → Nat → Nat → Prop) : Rec 18446744073709551615 13 126 lo hi N r lo2 hi2 M q R := ⟨_, _, _, _, _, q57_13_126 h h2, fun hu => by cases hu⟩

set_option maxHeartbeats 4000000 in
theorem q57_14_126 {lo hi N r lo2 hi2 M q : Nat} (h : Rt lo hi N r) (h2 : Rt lo2 hi2 M q) : F57 [14, (lo : Int), (hi : Int), (N : Int), (r : Int), (lo2 : Int), (hi2 : Int), (M : Int), (q : Int), 126] [] = some ([0, 0, 0, 0], [false]) := by
  have g1 := h.1
  have g2 := h2.1
  have g3 := h.2.1
  have g4 := h2.2.1
  have g5 := h.r64
  have g6 := h2.r64
  refine Eq.trans (Fd_of (n := 10) (m := 0) (t := XTransTight.t57) (C := Tab.fn a57) rfl rfl) ?_
  rw [XTransTight.t57]
  refine st_1_0 (e57_67) (g := true) rfl (l := [126]) rfl (m := []) rfl (cl_t q67_126) fun i10 hi10 => ?_
  show T.den _ _ [(14 : Int), (lo : Int), (hi : Int), (N : Int), (r : Int), (lo2 : Int), (hi2 : Int), (M : Int), (q : Int), (126 : Int), i10] [] = _
  refine st_1_1 (e57_42) (g := true) rfl (l := [(lo2 : Int), (hi2 : Int), (M : Int), (q : Int)]) rfl (m := []) rfl (cl_t (q42 (lo2 : Int) (hi2 : Int) (M : Int) (q : Int))) fun i11 b0 hi11 hb0 => ?_
  show T.den _ _ [(14 : Int), (lo : Int), (hi : Int), (N : Int), (r : Int), (lo2 : Int), (hi2 : Int), (M : Int), (q : Int), (126 : Int), i10, i11] [b0] = _
  refine st_itf (show ((14 : Int) == 0) = false from by kernel_rfl) ?_
  refine st_itf (show ((14 : Int) == 1) = false from by kernel_rfl) ?_
  refine st_itf (show ((14 : Int) == 2) = false from by kernel_rfl) ?_
  refine st_itf (show ((14 : Int) == 4) = false from by kernel_rfl) ?_
  refine st_itf (show ((14 : Int) == 6) = false from by kernel_rfl) ?_
  refine st_itf (show ((14 : Int) == 7) = false from by kernel_rfl) ?_
  refine st_itf (show ((14 : Int) == 8) = false from by kernel_rfl) ?_
  refine st_itf (show ((14 : Int) == 9) = false from by kernel_rfl) ?_
  refine st_lbc (show (((14 : Int) == 10) || ((14 : Int) == 12)) = false from by kernel_rfl) ?_
  show T.den _ _ [(14 : Int), (lo : Int), (hi : Int), (N : Int), (r : Int), (lo2 : Int), (hi2 : Int), (M : Int), (q : Int), (126 : Int), i10, i11] [b0, false] = _
  refine st_itf (show (false && b0) = false from by kernel_rfl) ?_
  refine st_ret ?_
  show some ([0, 0, 0, 0], [false]) = _
  rfl

theorem rec_14_126 {lo hi N r lo2 hi2 M q : Nat} (h : Rt lo hi N r) (h2 : Rt lo2 hi2 M q) (R : Nat → Nat → Nat → Prop) : Rec 18446744073709551615 14 126 lo hi N r lo2 hi2 M q R := ⟨_, _, _, _, _, q57_14_126 h h2, fun hu => by cases hu⟩

theorem rec_10_126 {lo hi N r lo2 hi2 M q : Nat} (h : Rt lo hi N r) (h2 : Rt lo2 hi2 M q) (hT : hi ≤ 18446744073709551615) (hT2 : hi2 ≤ 18446744073709551615) : Rec 18446744073709551615 10 126 lo hi N r lo2 hi2 M q (fun n m v => v = n * 2 ^ (m % 64) % 2 ^ 64) := by
  cases hy : ob (lo2 : Int) hi2 M
  · exact ⟨_, _, _, _, _, q57_10n_126 h h2 hy, fun hu => by cases hu⟩
  · have hv := ov_in (a := (lo2 : Int)) (b := hi2) (N := M) h2.inr.1 h2.inr.2.2
    obtain ⟨s, es⟩ := nats hv.1
    refine ⟨_, _, _, _, _, q57_10y_126 h h2 hy (by rw [es]; exact q80_u_126 h s hT), fun _ => ?_⟩
    refine ok_mk (by decide) ?_ (lo_mono (lo_shl h.2.2.1 (w := 64) (by decide) (s % 64)) ?_)
    · by_cases hc : hi ≤ 18446744073709551615 / 2 ^ (s % 64)
      · have hm : hi * 2 ^ (s % 64) ≤ 18446744073709551615 := (Nat.le_div_iff_mul_le (pow_pos _)).1 hc
        rw [if_pos hc, if_pos hc]
        refine ⟨_, _, rfl, rfl, Nat.mul_le_mul_right _ h.1, hm, ?_⟩
        rintro v ⟨n, m, hn, hm', hA, hB, rfl⟩
        have e := one_N h2 hm' hy hB
        have k1 := hAN_true hA
        rw [show m = s from by omega]
        have e1 : lo * 2 ^ (s % 64) ≤ n * 2 ^ (s % 64) := Nat.mul_le_mul_right _ k1.1
        have e2 : n * 2 ^ (s % 64) ≤ hi * 2 ^ (s % 64) := Nat.mul_le_mul_right _ k1.2.1
        rw [Nat.mod_eq_of_lt (Nat.lt_of_le_of_lt (Nat.le_trans e2 hm) (by decide))]
        exact ⟨e1, e2⟩
      · rw [if_neg hc, if_neg hc]
        refine ⟨0, _, rfl, rfl, Nat.zero_le _, Nat.le_refl _, ?_⟩
        rintro v ⟨n, m, hn, hm', hA, hB, rfl⟩
        exact ⟨Nat.zero_le _, by have := Nat.mod_lt (n * 2 ^ (m % 64)) (pow_pos 64); omega⟩
    · rintro v ⟨n, m, hn, hm', hA, hB, rfl⟩
      have e := one_N h2 hm' hy hB
      exact ⟨n, hAN_hs hA, by rw [show m = s from by omega]⟩

theorem rec_12_126 {lo hi N r lo2 hi2 M q : Nat} (h : Rt lo hi N r) (h2 : Rt lo2 hi2 M q) (hT : hi ≤ 18446744073709551615) (hT2 : hi2 ≤ 18446744073709551615) : Rec 18446744073709551615 12 126 lo hi N r lo2 hi2 M q (fun n m v => v = n / 2 ^ (m % 64)) := by
  cases hy : ob (lo2 : Int) hi2 M
  · exact ⟨_, _, _, _, _, q57_12n_126 h h2 hy, fun hu => by cases hu⟩
  · have hv := ov_in (a := (lo2 : Int)) (b := hi2) (N := M) h2.inr.1 h2.inr.2.2
    obtain ⟨s, es⟩ := nats hv.1
    refine ⟨_, _, _, _, _, q57_12y_126 h h2 hy (by rw [es]; exact q80_d_126 h s hT), fun _ => ?_⟩
    refine ok_mk (by decide) ?_ (lo_00 _)
    refine ⟨_, _, rfl, rfl, Nat.div_le_div_right h.1, Nat.le_trans (Nat.div_le_self _ _) hT, ?_⟩
    rintro v ⟨n, m, hn, hm', hA, hB, rfl⟩
    have e := one_N h2 hm' hy hB
    have k1 := hAN_true hA
    rw [show m = s from by omega]
    exact ⟨Nat.div_le_div_right k1.1, Nat.div_le_div_right k1.2.1⟩

/-! Tight, and within a type. -/
def Tn (t : Int) : Nat := if t = 127 then 4294967295 else 18446744073709551615
def FH (T : Nat) (S : Nat → Prop) (i j k l : Int) : Prop := ∃ a b c d : Nat, i = a ∧ j = b ∧ k = c ∧ l = d ∧ Rt a b c d ∧ b ≤ T ∧ tg a b c d = some (a, b, c, d) ∧ ∀ v, S v → hAN a b c d v = true
theorem fin_const {T : Nat} (v : Nat) (h : v ≤ T) (hT : T < 2 ^ 64) : FH T (fun x => x = v) v v 64 v := by
  refine ⟨v, v, 64, v, rfl, rfl, rfl, rfl, ⟨Nat.le_refl _, by omega, by decide, by omega⟩, h, by unfold tg; simp, ?_⟩
  rintro x rfl
  exact hAN_of (Nat.le_refl _) (Nat.le_refl _) (hs_of rfl)
theorem fin_0 {T : Nat} (b : Nat) (h0 : b ≠ 0) (hb : b ≤ T) (hT : T < 2 ^ 64) : FH T (fun x => x ≤ b) 0 b 0 0 := by
  refine ⟨0, b, 0, 0, rfl, rfl, rfl, rfl, ⟨Nat.zero_le _, by omega, by decide, by decide⟩, hb, ?_, ?_⟩
  · unfold tg up dn; simp only [Nat.pow_zero, Nat.mod_one]; rw [if_neg (by decide), if_pos ⟨Nat.zero_le _, Nat.zero_le _⟩, if_neg (by omega)]; simp
  · intro x hx; exact hAN_of (Nat.zero_le _) hx (hs_of (by rw [Nat.pow_zero, Nat.mod_one, Nat.mod_one]))
theorem Tn_lt (t : Int) : Tn t < 2 ^ 64 ∧ Tn t ≠ 0 := by unfold Tn; split <;> decide
theorem q26_t (t : Int) : F26 [t] [] = some ([0, ((Tn t : Nat) : Int), 0, 0], []) := by
  rw [q26]; unfold Tn; split <;> rfl
theorem fh_mono {T : Nat} {S S' : Nat → Prop} {i j k l : Int} (h : FH T S i j k l) (hs : ∀ v, S' v → S v) : FH T S' i j k l := by
  obtain ⟨a, b, c, d, e1, e2, e3, e4, h1, h2, h3, h4⟩ := h
  exact ⟨a, b, c, d, e1, e2, e3, e4, h1, h2, h3, fun v hv => h4 v (hs v hv)⟩
theorem fin_top (t : Int) {S : Nat → Prop} (hS : ∀ v, S v → v ≤ Tn t) : FH (Tn t) S 0 (Tn t : Nat) 0 0 := fh_mono (fin_0 (Tn t) (Tn_lt t).2 (Nat.le_refl _) (Tn_lt t).1) hS

set_option maxHeartbeats 4000000 in
theorem q47_t {x0 x1 x2 x3 t z0 z1 z2 z3 : Int} {u : Bool} (hu : u = true) (h59 : F59 [x0, x1, x2, x3] [] = some ([z0, z1, z2, z3], [u])) : F47 [x0, x1, x2, x3, t] [] = some ([z0, z1, z2, z3], []) := by
  refine Eq.trans (Fd_of (n := 5) (m := 0) (t := XTransTight.t47) (C := Tab.fn a47) rfl rfl) ?_
  rw [XTransTight.t47]
  refine st_4_1 (e47_59) (g := true) rfl (l := [x0, x1, x2, x3]) rfl (m := []) rfl (cl_t h59) fun i5 i6 i7 i8 b0 hi5 hi6 hi7 hi8 hb0 => ?_
  show T.den _ _ [x0, x1, x2, x3, t, i5, i6, i7, i8] [b0] = _
  refine st_ite (fun hc => ?_) (fun hc => ?_)
  · replace hc : b0 = true := hc
    have c1 := hc
    clear hc
    refine st_ret ?_
    show some ([i5, i6, i7, i8], []) = _
    rw [hi5, hi6, hi7, hi8]
  · replace hc : b0 = false := hc
    have c2 := hc
    clear hc
    rw [hb0, hu] at c2; cases c2

set_option maxHeartbeats 4000000 in
theorem q47_f {x0 x1 x2 x3 t z0 z1 z2 z3 : Int} {u : Bool} (hu : u = false) (h59 : F59 [x0, x1, x2, x3] [] = some ([z0, z1, z2, z3], [u])) : F47 [x0, x1, x2, x3, t] [] = some ([0, ((Tn t : Nat) : Int), 0, 0], []) := by
  refine Eq.trans (Fd_of (n := 5) (m := 0) (t := XTransTight.t47) (C := Tab.fn a47) rfl rfl) ?_
  rw [XTransTight.t47]
  refine st_4_1 (e47_59) (g := true) rfl (l := [x0, x1, x2, x3]) rfl (m := []) rfl (cl_t h59) fun i5 i6 i7 i8 b0 hi5 hi6 hi7 hi8 hb0 => ?_
  show T.den _ _ [x0, x1, x2, x3, t, i5, i6, i7, i8] [b0] = _
  refine st_ite (fun hc => ?_) (fun hc => ?_)
  · replace hc : b0 = true := hc
    have c1 := hc
    clear hc
    rw [hb0, hu] at c1; cases c1
  · replace hc : b0 = false := hc
    have c2 := hc
    clear hc
    refine st_4_0 (e47_26) (g := true) rfl (l := [t]) rfl (m := []) rfl (cl_t (q26_t t)) fun i9 i10 i11 i12 hi9 hi10 hi11 hi12 => ?_
    show T.den _ _ [x0, x1, x2, x3, t, i5, i6, i7, i8, i9, i10, i11, i12] [b0] = _
    refine st_ret ?_
    show some ([i9, i10, i11, i12], []) = _
    rw [hi9, hi10, hi11, hi12]

theorem tight_fin {t : Int} {S : Nat → Prop} {i j k l : Int} (h : Ok (Tn t) S i j k l) : ∃ z0 z1 z2 z3, F47 [i, j, k, l, t] [] = some ([z0, z1, z2, z3], []) ∧ FH (Tn t) S z0 z1 z2 z3 := by
  obtain ⟨a, b, c, d, rfl, rfl, rfl, rfl, hR, hb, hv⟩ := h
  have h59 := qm59 a b c d hR.1 hR.2.1 hR.2.2.1 hR.r64
  have hS : ∀ v, S v → v < 2 ^ 64 := fun v hs => Nat.lt_of_le_of_lt (hAN_true (hv v hs)).2.1 hR.2.1
  rcases tight_means hR.1 hR.2.1 hR.2.2.1 hR.2.2.2 with ⟨e, hno⟩ | ⟨a', b', c', d', e, hab, hb', hc, hd, hself, _, hHb, _, _, hiff, _, _⟩
  · rw [e] at h59
    refine ⟨_, _, _, _, q47_f rfl h59, fin_top t fun v hvS => ?_⟩
    exact absurd ((hAN_Hs _ _ _ _ _ hR.2.2.1).1 (hv v hvS)) (hno v (hS v hvS))
  · rw [e] at h59
    refine ⟨_, _, _, _, q47_t rfl h59, a', b', c', d', rfl, rfl, rfl, rfl, ⟨hab, hb', hc, hd⟩, by unfold Hs at hHb; omega, hself, fun v hvS => ?_⟩
    exact (hAN_Hs _ _ _ _ _ hc).2 ((hiff v (hS v hvS)).1 ((hAN_Hs _ _ _ _ _ hR.2.2.1).1 (hv v hvS)))
/-- What reckon tells, made tight. -/
theorem rec_fin {k t : Int} {lo hi N r lo2 hi2 M q : Nat} {R : Nat → Nat → Nat → Prop} (h : Rec (Tn t) k t lo hi N r lo2 hi2 M q R) :
    (∃ x0 x1 x2 x3, F57 [k, (lo : Int), (hi : Int), (N : Int), (r : Int), (lo2 : Int), (hi2 : Int), (M : Int), (q : Int), t] [] = some ([x0, x1, x2, x3], [false])) ∨
    ∃ x0 x1 x2 x3 z0 z1 z2 z3, F57 [k, (lo : Int), (hi : Int), (N : Int), (r : Int), (lo2 : Int), (hi2 : Int), (M : Int), (q : Int), t] [] = some ([x0, x1, x2, x3], [true]) ∧ F47 [x0, x1, x2, x3, t] [] = some ([z0, z1, z2, z3], []) ∧ FH (Tn t) (SS lo hi N r lo2 hi2 M q R) z0 z1 z2 z3 := by
  obtain ⟨i, j, k', l, u, hF, hu⟩ := h
  cases u
  · exact .inl ⟨_, _, _, _, hF⟩
  · obtain ⟨z0, z1, z2, z3, h47, hf⟩ := tight_fin (hu rfl)
    exact .inr ⟨_, _, _, _, _, _, _, _, hF, h47, hf⟩

theorem q33 {lo hi N r lo2 hi2 M q : Nat} (h : Rt lo hi N r) (h2 : Rt lo2 hi2 M q) : F33 [(lo : Int), (hi : Int), (N : Int), (r : Int), (lo2 : Int), (hi2 : Int), (M : Int), (q : Int)] [] = some ([t0 (mt lo hi N r lo2 hi2 M q), t1 (mt lo hi N r lo2 hi2 M q), t2 (mt lo hi N r lo2 hi2 M q), ZTransTight.t3 (mt lo hi N r lo2 hi2 M q)], [tb (mt lo hi N r lo2 hi2 M q)]) :=
  qm33 lo hi N r lo2 hi2 M q h.2.2.1 h.r64 h2.2.2.1 h2.r64 h.2.1 h2.2.1

set_option maxHeartbeats 4000000 in
theorem q56_0 {lo hi N r lo2 hi2 M q : Nat} (h : Rt lo hi N r) (h2 : Rt lo2 hi2 M q) : F56 [0, (lo : Int), (hi : Int), (N : Int), (r : Int), (lo2 : Int), (hi2 : Int), (M : Int), (q : Int)] [] = some ([], [false, !(tb (mt lo hi N r lo2 hi2 M q))]) := by
  refine Eq.trans (Fd_of (n := 9) (m := 0) (t := XTransTight.t56) (C := Tab.fn a56) rfl rfl) ?_
  rw [XTransTight.t56]
  refine st_4_1 (e56_33) (g := true) rfl (l := [(lo : Int), (hi : Int), (N : Int), (r : Int), (lo2 : Int), (hi2 : Int), (M : Int), (q : Int)]) rfl (m := []) rfl (cl_t (q33 h h2)) fun i9 i10 i11 i12 b0 hi9 hi10 hi11 hi12 hb0 => ?_
  show T.den _ _ [(0 : Int), (lo : Int), (hi : Int), (N : Int), (r : Int), (lo2 : Int), (hi2 : Int), (M : Int), (q : Int), i9, i10, i11, i12] [b0] = _
  refine st_ite (fun hc => ?_) (fun hc => ?_)
  · replace hc : (((0 : Int) == 0) && (!b0)) = true := hc
    have c1 := hc
    clear hc
    refine st_ret ?_
    show some ([], [false, true]) = _
    rw [hb0] at c1
    simp only [beq_self_eq_true, Bool.true_and, Bool.not_eq_true', Bool.not_eq_false', decide_eq_true_eq, decide_eq_false_iff_not] at c1
    simp_all
  · replace hc : (((0 : Int) == 0) && (!b0)) = false := hc
    have c2 := hc
    clear hc
    refine st_itf (show (((0 : Int) == 1) && (!b0)) = false from by kernel_rfl) ?_
    refine st_lbc (show (((0 : Int) == 3) && (decide ((hi : Int) < (lo2 : Int)))) = false from by kernel_rfl) ?_
    show T.den _ _ [(0 : Int), (lo : Int), (hi : Int), (N : Int), (r : Int), (lo2 : Int), (hi2 : Int), (M : Int), (q : Int), i9, i10, i11, i12] [b0, false] = _
    refine st_itf (show false = false from by kernel_rfl) ?_
    refine st_lbc (show (((0 : Int) == 5) && (decide ((lo : Int) > (hi2 : Int)))) = false from by kernel_rfl) ?_
    show T.den _ _ [(0 : Int), (lo : Int), (hi : Int), (N : Int), (r : Int), (lo2 : Int), (hi2 : Int), (M : Int), (q : Int), i9, i10, i11, i12] [b0, false, false] = _
    refine st_itf (show false = false from by kernel_rfl) ?_
    refine st_lbc (show (((0 : Int) == 7) && (decide ((hi : Int) ≤ (lo2 : Int)))) = false from by kernel_rfl) ?_
    show T.den _ _ [(0 : Int), (lo : Int), (hi : Int), (N : Int), (r : Int), (lo2 : Int), (hi2 : Int), (M : Int), (q : Int), i9, i10, i11, i12] [b0, false, false, false] = _
    refine st_itf (show false = false from by kernel_rfl) ?_
    refine st_lbc (show (((0 : Int) == 9) && (decide ((lo : Int) ≥ (hi2 : Int)))) = false from by kernel_rfl) ?_
    show T.den _ _ [(0 : Int), (lo : Int), (hi : Int), (N : Int), (r : Int), (lo2 : Int), (hi2 : Int), (M : Int), (q : Int), i9, i10, i11, i12] [b0, false, false, false, false] = _
    refine st_itf (show false = false from by kernel_rfl) ?_
    refine st_lbc (show (((0 : Int) == 3) && (decide ((lo : Int) ≥ (hi2 : Int)))) = false from by kernel_rfl) ?_
    show T.den _ _ [(0 : Int), (lo : Int), (hi : Int), (N : Int), (r : Int), (lo2 : Int), (hi2 : Int), (M : Int), (q : Int), i9, i10, i11, i12] [b0, false, false, false, false, false] = _
    refine st_itf (show false = false from by kernel_rfl) ?_
    refine st_lbc (show (((0 : Int) == 5) && (decide ((hi : Int) ≤ (lo2 : Int)))) = false from by kernel_rfl) ?_
    show T.den _ _ [(0 : Int), (lo : Int), (hi : Int), (N : Int), (r : Int), (lo2 : Int), (hi2 : Int), (M : Int), (q : Int), i9, i10, i11, i12] [b0, false, false, false, false, false, false] = _
    refine st_itf (show false = false from by kernel_rfl) ?_
    refine st_lbc (show (((0 : Int) == 7) && (decide ((lo : Int) > (hi2 : Int)))) = false from by kernel_rfl) ?_
    show T.den _ _ [(0 : Int), (lo : Int), (hi : Int), (N : Int), (r : Int), (lo2 : Int), (hi2 : Int), (M : Int), (q : Int), i9, i10, i11, i12] [b0, false, false, false, false, false, false, false] = _
    refine st_itf (show false = false from by kernel_rfl) ?_
    refine st_lbc (show (((0 : Int) == 9) && (decide ((hi : Int) < (lo2 : Int)))) = false from by kernel_rfl) ?_
    show T.den _ _ [(0 : Int), (lo : Int), (hi : Int), (N : Int), (r : Int), (lo2 : Int), (hi2 : Int), (M : Int), (q : Int), i9, i10, i11, i12] [b0, false, false, false, false, false, false, false, false] = _
    refine st_itf (show false = false from by kernel_rfl) ?_
    refine st_ret ?_
    show some ([], [false, false]) = _
    rw [hb0] at c2
    simp only [beq_self_eq_true, Bool.true_and, Bool.not_eq_true', Bool.not_eq_false', decide_eq_true_eq, decide_eq_false_iff_not] at c2
    simp_all

set_option maxHeartbeats 4000000 in
theorem q56_1 {lo hi N r lo2 hi2 M q : Nat} (h : Rt lo hi N r) (h2 : Rt lo2 hi2 M q) : F56 [1, (lo : Int), (hi : Int), (N : Int), (r : Int), (lo2 : Int), (hi2 : Int), (M : Int), (q : Int)] [] = some ([], [!(tb (mt lo hi N r lo2 hi2 M q)), !(tb (mt lo hi N r lo2 hi2 M q))]) := by
  refine Eq.trans (Fd_of (n := 9) (m := 0) (t := XTransTight.t56) (C := Tab.fn a56) rfl rfl) ?_
  rw [XTransTight.t56]
  refine st_4_1 (e56_33) (g := true) rfl (l := [(lo : Int), (hi : Int), (N : Int), (r : Int), (lo2 : Int), (hi2 : Int), (M : Int), (q : Int)]) rfl (m := []) rfl (cl_t (q33 h h2)) fun i9 i10 i11 i12 b0 hi9 hi10 hi11 hi12 hb0 => ?_
  show T.den _ _ [(1 : Int), (lo : Int), (hi : Int), (N : Int), (r : Int), (lo2 : Int), (hi2 : Int), (M : Int), (q : Int), i9, i10, i11, i12] [b0] = _
  refine st_itf (show (((1 : Int) == 0) && (!b0)) = false from by kernel_rfl) ?_
  refine st_ite (fun hc => ?_) (fun hc => ?_)
  · replace hc : (((1 : Int) == 1) && (!b0)) = true := hc
    have c1 := hc
    clear hc
    refine st_ret ?_
    show some ([], [true, true]) = _
    rw [hb0] at c1
    simp only [beq_self_eq_true, Bool.true_and, Bool.not_eq_true', Bool.not_eq_false', decide_eq_true_eq, decide_eq_false_iff_not] at c1
    simp_all
  · replace hc : (((1 : Int) == 1) && (!b0)) = false := hc
    have c2 := hc
    clear hc
    refine st_lbc (show (((1 : Int) == 3) && (decide ((hi : Int) < (lo2 : Int)))) = false from by kernel_rfl) ?_
    show T.den _ _ [(1 : Int), (lo : Int), (hi : Int), (N : Int), (r : Int), (lo2 : Int), (hi2 : Int), (M : Int), (q : Int), i9, i10, i11, i12] [b0, false] = _
    refine st_itf (show false = false from by kernel_rfl) ?_
    refine st_lbc (show (((1 : Int) == 5) && (decide ((lo : Int) > (hi2 : Int)))) = false from by kernel_rfl) ?_
    show T.den _ _ [(1 : Int), (lo : Int), (hi : Int), (N : Int), (r : Int), (lo2 : Int), (hi2 : Int), (M : Int), (q : Int), i9, i10, i11, i12] [b0, false, false] = _
    refine st_itf (show false = false from by kernel_rfl) ?_
    refine st_lbc (show (((1 : Int) == 7) && (decide ((hi : Int) ≤ (lo2 : Int)))) = false from by kernel_rfl) ?_
    show T.den _ _ [(1 : Int), (lo : Int), (hi : Int), (N : Int), (r : Int), (lo2 : Int), (hi2 : Int), (M : Int), (q : Int), i9, i10, i11, i12] [b0, false, false, false] = _
    refine st_itf (show false = false from by kernel_rfl) ?_
    refine st_lbc (show (((1 : Int) == 9) && (decide ((lo : Int) ≥ (hi2 : Int)))) = false from by kernel_rfl) ?_
    show T.den _ _ [(1 : Int), (lo : Int), (hi : Int), (N : Int), (r : Int), (lo2 : Int), (hi2 : Int), (M : Int), (q : Int), i9, i10, i11, i12] [b0, false, false, false, false] = _
    refine st_itf (show false = false from by kernel_rfl) ?_
    refine st_lbc (show (((1 : Int) == 3) && (decide ((lo : Int) ≥ (hi2 : Int)))) = false from by kernel_rfl) ?_
    show T.den _ _ [(1 : Int), (lo : Int), (hi : Int), (N : Int), (r : Int), (lo2 : Int), (hi2 : Int), (M : Int), (q : Int), i9, i10, i11, i12] [b0, false, false, false, false, false] = _
    refine st_itf (show false = false from by kernel_rfl) ?_
    refine st_lbc (show (((1 : Int) == 5) && (decide ((hi : Int) ≤ (lo2 : Int)))) = false from by kernel_rfl) ?_
    show T.den _ _ [(1 : Int), (lo : Int), (hi : Int), (N : Int), (r : Int), (lo2 : Int), (hi2 : Int), (M : Int), (q : Int), i9, i10, i11, i12] [b0, false, false, false, false, false, false] = _
    refine st_itf (show false = false from by kernel_rfl) ?_
    refine st_lbc (show (((1 : Int) == 7) && (decide ((lo : Int) > (hi2 : Int)))) = false from by kernel_rfl) ?_
    show T.den _ _ [(1 : Int), (lo : Int), (hi : Int), (N : Int), (r : Int), (lo2 : Int), (hi2 : Int), (M : Int), (q : Int), i9, i10, i11, i12] [b0, false, false, false, false, false, false, false] = _
    refine st_itf (show false = false from by kernel_rfl) ?_
    refine st_lbc (show (((1 : Int) == 9) && (decide ((hi : Int) < (lo2 : Int)))) = false from by kernel_rfl) ?_
    show T.den _ _ [(1 : Int), (lo : Int), (hi : Int), (N : Int), (r : Int), (lo2 : Int), (hi2 : Int), (M : Int), (q : Int), i9, i10, i11, i12] [b0, false, false, false, false, false, false, false, false] = _
    refine st_itf (show false = false from by kernel_rfl) ?_
    refine st_ret ?_
    show some ([], [false, false]) = _
    rw [hb0] at c2
    simp only [beq_self_eq_true, Bool.true_and, Bool.not_eq_true', Bool.not_eq_false', decide_eq_true_eq, decide_eq_false_iff_not] at c2
    simp_all

set_option maxHeartbeats 4000000 in
theorem q56_2 {lo hi N r lo2 hi2 M q : Nat} (h : Rt lo hi N r) (h2 : Rt lo2 hi2 M q) : F56 [2, (lo : Int), (hi : Int), (N : Int), (r : Int), (lo2 : Int), (hi2 : Int), (M : Int), (q : Int)] [] = some ([], [false, false]) := by
  refine Eq.trans (Fd_of (n := 9) (m := 0) (t := XTransTight.t56) (C := Tab.fn a56) rfl rfl) ?_
  rw [XTransTight.t56]
  refine st_4_1 (e56_33) (g := true) rfl (l := [(lo : Int), (hi : Int), (N : Int), (r : Int), (lo2 : Int), (hi2 : Int), (M : Int), (q : Int)]) rfl (m := []) rfl (cl_t (q33 h h2)) fun i9 i10 i11 i12 b0 hi9 hi10 hi11 hi12 hb0 => ?_
  show T.den _ _ [(2 : Int), (lo : Int), (hi : Int), (N : Int), (r : Int), (lo2 : Int), (hi2 : Int), (M : Int), (q : Int), i9, i10, i11, i12] [b0] = _
  refine st_itf (show (((2 : Int) == 0) && (!b0)) = false from by kernel_rfl) ?_
  refine st_itf (show (((2 : Int) == 1) && (!b0)) = false from by kernel_rfl) ?_
  refine st_lbc (show (((2 : Int) == 3) && (decide ((hi : Int) < (lo2 : Int)))) = false from by kernel_rfl) ?_
  show T.den _ _ [(2 : Int), (lo : Int), (hi : Int), (N : Int), (r : Int), (lo2 : Int), (hi2 : Int), (M : Int), (q : Int), i9, i10, i11, i12] [b0, false] = _
  refine st_itf (show false = false from by kernel_rfl) ?_
  refine st_lbc (show (((2 : Int) == 5) && (decide ((lo : Int) > (hi2 : Int)))) = false from by kernel_rfl) ?_
  show T.den _ _ [(2 : Int), (lo : Int), (hi : Int), (N : Int), (r : Int), (lo2 : Int), (hi2 : Int), (M : Int), (q : Int), i9, i10, i11, i12] [b0, false, false] = _
  refine st_itf (show false = false from by kernel_rfl) ?_
  refine st_lbc (show (((2 : Int) == 7) && (decide ((hi : Int) ≤ (lo2 : Int)))) = false from by kernel_rfl) ?_
  show T.den _ _ [(2 : Int), (lo : Int), (hi : Int), (N : Int), (r : Int), (lo2 : Int), (hi2 : Int), (M : Int), (q : Int), i9, i10, i11, i12] [b0, false, false, false] = _
  refine st_itf (show false = false from by kernel_rfl) ?_
  refine st_lbc (show (((2 : Int) == 9) && (decide ((lo : Int) ≥ (hi2 : Int)))) = false from by kernel_rfl) ?_
  show T.den _ _ [(2 : Int), (lo : Int), (hi : Int), (N : Int), (r : Int), (lo2 : Int), (hi2 : Int), (M : Int), (q : Int), i9, i10, i11, i12] [b0, false, false, false, false] = _
  refine st_itf (show false = false from by kernel_rfl) ?_
  refine st_lbc (show (((2 : Int) == 3) && (decide ((lo : Int) ≥ (hi2 : Int)))) = false from by kernel_rfl) ?_
  show T.den _ _ [(2 : Int), (lo : Int), (hi : Int), (N : Int), (r : Int), (lo2 : Int), (hi2 : Int), (M : Int), (q : Int), i9, i10, i11, i12] [b0, false, false, false, false, false] = _
  refine st_itf (show false = false from by kernel_rfl) ?_
  refine st_lbc (show (((2 : Int) == 5) && (decide ((hi : Int) ≤ (lo2 : Int)))) = false from by kernel_rfl) ?_
  show T.den _ _ [(2 : Int), (lo : Int), (hi : Int), (N : Int), (r : Int), (lo2 : Int), (hi2 : Int), (M : Int), (q : Int), i9, i10, i11, i12] [b0, false, false, false, false, false, false] = _
  refine st_itf (show false = false from by kernel_rfl) ?_
  refine st_lbc (show (((2 : Int) == 7) && (decide ((lo : Int) > (hi2 : Int)))) = false from by kernel_rfl) ?_
  show T.den _ _ [(2 : Int), (lo : Int), (hi : Int), (N : Int), (r : Int), (lo2 : Int), (hi2 : Int), (M : Int), (q : Int), i9, i10, i11, i12] [b0, false, false, false, false, false, false, false] = _
  refine st_itf (show false = false from by kernel_rfl) ?_
  refine st_lbc (show (((2 : Int) == 9) && (decide ((hi : Int) < (lo2 : Int)))) = false from by kernel_rfl) ?_
  show T.den _ _ [(2 : Int), (lo : Int), (hi : Int), (N : Int), (r : Int), (lo2 : Int), (hi2 : Int), (M : Int), (q : Int), i9, i10, i11, i12] [b0, false, false, false, false, false, false, false, false] = _
  refine st_itf (show false = false from by kernel_rfl) ?_
  refine st_ret ?_
  show some ([], [false, false]) = _
  rfl

set_option maxHeartbeats 4000000 in
theorem q56_3 {lo hi N r lo2 hi2 M q : Nat} (h : Rt lo hi N r) (h2 : Rt lo2 hi2 M q) : F56 [3, (lo : Int), (hi : Int), (N : Int), (r : Int), (lo2 : Int), (hi2 : Int), (M : Int), (q : Int)] [] = some ([], [decide ((hi : Int) < lo2), decide ((hi : Int) < lo2) || decide ((lo : Int) ≥ hi2)]) := by
  refine Eq.trans (Fd_of (n := 9) (m := 0) (t := XTransTight.t56) (C := Tab.fn a56) rfl rfl) ?_
  rw [XTransTight.t56]
  refine st_4_1 (e56_33) (g := true) rfl (l := [(lo : Int), (hi : Int), (N : Int), (r : Int), (lo2 : Int), (hi2 : Int), (M : Int), (q : Int)]) rfl (m := []) rfl (cl_t (q33 h h2)) fun i9 i10 i11 i12 b0 hi9 hi10 hi11 hi12 hb0 => ?_
  show T.den _ _ [(3 : Int), (lo : Int), (hi : Int), (N : Int), (r : Int), (lo2 : Int), (hi2 : Int), (M : Int), (q : Int), i9, i10, i11, i12] [b0] = _
  refine st_itf (show (((3 : Int) == 0) && (!b0)) = false from by kernel_rfl) ?_
  refine st_itf (show (((3 : Int) == 1) && (!b0)) = false from by kernel_rfl) ?_
  refine st_lb fun b1 hb1 => ?_
  replace hb1 : b1 = (((3 : Int) == 3) && (decide ((hi : Int) < (lo2 : Int)))) := hb1
  show T.den _ _ [(3 : Int), (lo : Int), (hi : Int), (N : Int), (r : Int), (lo2 : Int), (hi2 : Int), (M : Int), (q : Int), i9, i10, i11, i12] [b0, b1] = _
  refine st_ite (fun hc => ?_) (fun hc => ?_)
  · replace hc : b1 = true := hc
    have c1 := hc
    clear hc
    refine st_ite (fun hc => ?_) (fun hc => ?_)
    · replace hc : b1 = true := hc
      have c2 := hc
      clear hc
      refine st_ret ?_
      show some ([], [true, true]) = _
      rw [hb1] at c1
      rw [hb1] at c2
      simp only [beq_self_eq_true, Bool.true_and, Bool.not_eq_true', Bool.not_eq_false', decide_eq_true_eq, decide_eq_false_iff_not] at c1 c2
      refine r0b ?_ ?_ <;> (simp only [Bool.or_eq_true, Bool.or_eq_false_iff, decide_eq_true_eq, decide_eq_false_iff_not, eq_comm (a := true), eq_comm (a := false)]; omega)
    · replace hc : b1 = false := hc
      have c3 := hc
      clear hc
      refine st_lb fun b2 hb2 => ?_
      replace hb2 : b2 = (((3 : Int) == 3) && (decide ((lo : Int) ≥ (hi2 : Int)))) := hb2
      show T.den _ _ [(3 : Int), (lo : Int), (hi : Int), (N : Int), (r : Int), (lo2 : Int), (hi2 : Int), (M : Int), (q : Int), i9, i10, i11, i12] [b0, b1, b2] = _
      refine st_ite (fun hc => ?_) (fun hc => ?_)
      · replace hc : b2 = true := hc
        have c4 := hc
        clear hc
        refine st_ite (fun hc => ?_) (fun hc => ?_)
        · replace hc : b2 = true := hc
          have c5 := hc
          clear hc
          refine st_ret ?_
          show some ([], [false, true]) = _
          rw [hb1] at c1
          rw [hb1] at c3
          rw [hb2] at c4
          rw [hb2] at c5
          simp only [beq_self_eq_true, Bool.true_and, Bool.not_eq_true', Bool.not_eq_false', decide_eq_true_eq, decide_eq_false_iff_not] at c1 c3 c4 c5
          refine r0b ?_ ?_ <;> (simp only [Bool.or_eq_true, Bool.or_eq_false_iff, decide_eq_true_eq, decide_eq_false_iff_not, eq_comm (a := true), eq_comm (a := false)]; omega)
        · replace hc : b2 = false := hc
          have c6 := hc
          clear hc
          refine st_ret ?_
          show some ([], [false, false]) = _
          rw [hb1] at c1
          rw [hb1] at c3
          rw [hb2] at c4
          rw [hb2] at c6
          simp only [beq_self_eq_true, Bool.true_and, Bool.not_eq_true', Bool.not_eq_false', decide_eq_true_eq, decide_eq_false_iff_not] at c1 c3 c4 c6
          refine r0b ?_ ?_ <;> (simp only [Bool.or_eq_true, Bool.or_eq_false_iff, decide_eq_true_eq, decide_eq_false_iff_not, eq_comm (a := true), eq_comm (a := false)]; omega)
      · replace hc : b2 = false := hc
        have c7 := hc
        clear hc
        refine st_lbc (show (((3 : Int) == 5) && (decide ((hi : Int) ≤ (lo2 : Int)))) = false from by kernel_rfl) ?_
        show T.den _ _ [(3 : Int), (lo : Int), (hi : Int), (N : Int), (r : Int), (lo2 : Int), (hi2 : Int), (M : Int), (q : Int), i9, i10, i11, i12] [b0, b1, b2, false] = _
        refine st_itf (show false = false from by kernel_rfl) ?_
        refine st_lbc (show (((3 : Int) == 7) && (decide ((lo : Int) > (hi2 : Int)))) = false from by kernel_rfl) ?_
        show T.den _ _ [(3 : Int), (lo : Int), (hi : Int), (N : Int), (r : Int), (lo2 : Int), (hi2 : Int), (M : Int), (q : Int), i9, i10, i11, i12] [b0, b1, b2, false, false] = _
        refine st_itf (show false = false from by kernel_rfl) ?_
        refine st_lbc (show (((3 : Int) == 9) && (decide ((hi : Int) < (lo2 : Int)))) = false from by kernel_rfl) ?_
        show T.den _ _ [(3 : Int), (lo : Int), (hi : Int), (N : Int), (r : Int), (lo2 : Int), (hi2 : Int), (M : Int), (q : Int), i9, i10, i11, i12] [b0, b1, b2, false, false, false] = _
        refine st_itf (show false = false from by kernel_rfl) ?_
        refine st_ret ?_
        show some ([], [false, false]) = _
        rw [hb1] at c1
        rw [hb1] at c3
        rw [hb2] at c7
        simp only [beq_self_eq_true, Bool.true_and, Bool.not_eq_true', Bool.not_eq_false', decide_eq_true_eq, decide_eq_false_iff_not] at c1 c3 c7
        refine r0b ?_ ?_ <;> (simp only [Bool.or_eq_true, Bool.or_eq_false_iff, decide_eq_true_eq, decide_eq_false_iff_not, eq_comm (a := true), eq_comm (a := false)]; omega)
  · replace hc : b1 = false := hc
    have c8 := hc
    clear hc
    refine st_lbc (show (((3 : Int) == 5) && (decide ((lo : Int) > (hi2 : Int)))) = false from by kernel_rfl) ?_
    show T.den _ _ [(3 : Int), (lo : Int), (hi : Int), (N : Int), (r : Int), (lo2 : Int), (hi2 : Int), (M : Int), (q : Int), i9, i10, i11, i12] [b0, b1, false] = _
    refine st_itf (show false = false from by kernel_rfl) ?_
    refine st_lbc (show (((3 : Int) == 7) && (decide ((hi : Int) ≤ (lo2 : Int)))) = false from by kernel_rfl) ?_
    show T.den _ _ [(3 : Int), (lo : Int), (hi : Int), (N : Int), (r : Int), (lo2 : Int), (hi2 : Int), (M : Int), (q : Int), i9, i10, i11, i12] [b0, b1, false, false] = _
    refine st_itf (show false = false from by kernel_rfl) ?_
    refine st_lbc (show (((3 : Int) == 9) && (decide ((lo : Int) ≥ (hi2 : Int)))) = false from by kernel_rfl) ?_
    show T.den _ _ [(3 : Int), (lo : Int), (hi : Int), (N : Int), (r : Int), (lo2 : Int), (hi2 : Int), (M : Int), (q : Int), i9, i10, i11, i12] [b0, b1, false, false, false] = _
    refine st_itf (show false = false from by kernel_rfl) ?_
    refine st_lb fun b5 hb5 => ?_
    replace hb5 : b5 = (((3 : Int) == 3) && (decide ((lo : Int) ≥ (hi2 : Int)))) := hb5
    show T.den _ _ [(3 : Int), (lo : Int), (hi : Int), (N : Int), (r : Int), (lo2 : Int), (hi2 : Int), (M : Int), (q : Int), i9, i10, i11, i12] [b0, b1, false, false, false, b5] = _
    refine st_ite (fun hc => ?_) (fun hc => ?_)
    · replace hc : b5 = true := hc
      have c9 := hc
      clear hc
      refine st_ite (fun hc => ?_) (fun hc => ?_)
      · replace hc : b5 = true := hc
        have c10 := hc
        clear hc
        refine st_ret ?_
        show some ([], [false, true]) = _
        rw [hb1] at c8
        rw [hb5] at c9
        rw [hb5] at c10
        simp only [beq_self_eq_true, Bool.true_and, Bool.not_eq_true', Bool.not_eq_false', decide_eq_true_eq, decide_eq_false_iff_not] at c8 c9 c10
        refine r0b ?_ ?_ <;> (simp only [Bool.or_eq_true, Bool.or_eq_false_iff, decide_eq_true_eq, decide_eq_false_iff_not, eq_comm (a := true), eq_comm (a := false)]; omega)
      · replace hc : b5 = false := hc
        have c11 := hc
        clear hc
        refine st_ret ?_
        show some ([], [false, false]) = _
        rw [hb1] at c8
        rw [hb5] at c9
        rw [hb5] at c11
        simp only [beq_self_eq_true, Bool.true_and, Bool.not_eq_true', Bool.not_eq_false', decide_eq_true_eq, decide_eq_false_iff_not] at c8 c9 c11
        refine r0b ?_ ?_ <;> (simp only [Bool.or_eq_true, Bool.or_eq_false_iff, decide_eq_true_eq, decide_eq_false_iff_not, eq_comm (a := true), eq_comm (a := false)]; omega)
    · replace hc : b5 = false := hc
      have c12 := hc
      clear hc
      refine st_lbc (show (((3 : Int) == 5) && (decide ((hi : Int) ≤ (lo2 : Int)))) = false from by kernel_rfl) ?_
      show T.den _ _ [(3 : Int), (lo : Int), (hi : Int), (N : Int), (r : Int), (lo2 : Int), (hi2 : Int), (M : Int), (q : Int), i9, i10, i11, i12] [b0, b1, false, false, false, b5, false] = _
      refine st_itf (show false = false from by kernel_rfl) ?_
      refine st_lbc (show (((3 : Int) == 7) && (decide ((lo : Int) > (hi2 : Int)))) = false from by kernel_rfl) ?_
      show T.den _ _ [(3 : Int), (lo : Int), (hi : Int), (N : Int), (r : Int), (lo2 : Int), (hi2 : Int), (M : Int), (q : Int), i9, i10, i11, i12] [b0, b1, false, false, false, b5, false, false] = _
      refine st_itf (show false = false from by kernel_rfl) ?_
      refine st_lbc (show (((3 : Int) == 9) && (decide ((hi : Int) < (lo2 : Int)))) = false from by kernel_rfl) ?_
      show T.den _ _ [(3 : Int), (lo : Int), (hi : Int), (N : Int), (r : Int), (lo2 : Int), (hi2 : Int), (M : Int), (q : Int), i9, i10, i11, i12] [b0, b1, false, false, false, b5, false, false, false] = _
      refine st_itf (show false = false from by kernel_rfl) ?_
      refine st_ret ?_
      show some ([], [false, false]) = _
      rw [hb1] at c8
      rw [hb5] at c12
      simp only [beq_self_eq_true, Bool.true_and, Bool.not_eq_true', Bool.not_eq_false', decide_eq_true_eq, decide_eq_false_iff_not] at c8 c12
      refine r0b ?_ ?_ <;> (simp only [Bool.or_eq_true, Bool.or_eq_false_iff, decide_eq_true_eq, decide_eq_false_iff_not, eq_comm (a := true), eq_comm (a := false)]; omega)

set_option maxHeartbeats 4000000 in
theorem q56_4 {lo hi N r lo2 hi2 M q : Nat} (h : Rt lo hi N r) (h2 : Rt lo2 hi2 M q) : F56 [4, (lo : Int), (hi : Int), (N : Int), (r : Int), (lo2 : Int), (hi2 : Int), (M : Int), (q : Int)] [] = some ([], [false, false]) := by
  refine Eq.trans (Fd_of (n := 9) (m := 0) (t := XTransTight.t56) (C := Tab.fn a56) rfl rfl) ?_
  rw [XTransTight.t56]
  refine st_4_1 (e56_33) (g := true) rfl (l := [(lo : Int), (hi : Int), (N : Int), (r : Int), (lo2 : Int), (hi2 : Int), (M : Int), (q : Int)]) rfl (m := []) rfl (cl_t (q33 h h2)) fun i9 i10 i11 i12 b0 hi9 hi10 hi11 hi12 hb0 => ?_
  show T.den _ _ [(4 : Int), (lo : Int), (hi : Int), (N : Int), (r : Int), (lo2 : Int), (hi2 : Int), (M : Int), (q : Int), i9, i10, i11, i12] [b0] = _
  refine st_itf (show (((4 : Int) == 0) && (!b0)) = false from by kernel_rfl) ?_
  refine st_itf (show (((4 : Int) == 1) && (!b0)) = false from by kernel_rfl) ?_
  refine st_lbc (show (((4 : Int) == 3) && (decide ((hi : Int) < (lo2 : Int)))) = false from by kernel_rfl) ?_
  show T.den _ _ [(4 : Int), (lo : Int), (hi : Int), (N : Int), (r : Int), (lo2 : Int), (hi2 : Int), (M : Int), (q : Int), i9, i10, i11, i12] [b0, false] = _
  refine st_itf (show false = false from by kernel_rfl) ?_
  refine st_lbc (show (((4 : Int) == 5) && (decide ((lo : Int) > (hi2 : Int)))) = false from by kernel_rfl) ?_
  show T.den _ _ [(4 : Int), (lo : Int), (hi : Int), (N : Int), (r : Int), (lo2 : Int), (hi2 : Int), (M : Int), (q : Int), i9, i10, i11, i12] [b0, false, false] = _
  refine st_itf (show false = false from by kernel_rfl) ?_
  refine st_lbc (show (((4 : Int) == 7) && (decide ((hi : Int) ≤ (lo2 : Int)))) = false from by kernel_rfl) ?_
  show T.den _ _ [(4 : Int), (lo : Int), (hi : Int), (N : Int), (r : Int), (lo2 : Int), (hi2 : Int), (M : Int), (q : Int), i9, i10, i11, i12] [b0, false, false, false] = _
  refine st_itf (show false = false from by kernel_rfl) ?_
  refine st_lbc (show (((4 : Int) == 9) && (decide ((lo : Int) ≥ (hi2 : Int)))) = false from by kernel_rfl) ?_
  show T.den _ _ [(4 : Int), (lo : Int), (hi : Int), (N : Int), (r : Int), (lo2 : Int), (hi2 : Int), (M : Int), (q : Int), i9, i10, i11, i12] [b0, false, false, false, false] = _
  refine st_itf (show false = false from by kernel_rfl) ?_
  refine st_lbc (show (((4 : Int) == 3) && (decide ((lo : Int) ≥ (hi2 : Int)))) = false from by kernel_rfl) ?_
  show T.den _ _ [(4 : Int), (lo : Int), (hi : Int), (N : Int), (r : Int), (lo2 : Int), (hi2 : Int), (M : Int), (q : Int), i9, i10, i11, i12] [b0, false, false, false, false, false] = _
  refine st_itf (show false = false from by kernel_rfl) ?_
  refine st_lbc (show (((4 : Int) == 5) && (decide ((hi : Int) ≤ (lo2 : Int)))) = false from by kernel_rfl) ?_
  show T.den _ _ [(4 : Int), (lo : Int), (hi : Int), (N : Int), (r : Int), (lo2 : Int), (hi2 : Int), (M : Int), (q : Int), i9, i10, i11, i12] [b0, false, false, false, false, false, false] = _
  refine st_itf (show false = false from by kernel_rfl) ?_
  refine st_lbc (show (((4 : Int) == 7) && (decide ((lo : Int) > (hi2 : Int)))) = false from by kernel_rfl) ?_
  show T.den _ _ [(4 : Int), (lo : Int), (hi : Int), (N : Int), (r : Int), (lo2 : Int), (hi2 : Int), (M : Int), (q : Int), i9, i10, i11, i12] [b0, false, false, false, false, false, false, false] = _
  refine st_itf (show false = false from by kernel_rfl) ?_
  refine st_lbc (show (((4 : Int) == 9) && (decide ((hi : Int) < (lo2 : Int)))) = false from by kernel_rfl) ?_
  show T.den _ _ [(4 : Int), (lo : Int), (hi : Int), (N : Int), (r : Int), (lo2 : Int), (hi2 : Int), (M : Int), (q : Int), i9, i10, i11, i12] [b0, false, false, false, false, false, false, false, false] = _
  refine st_itf (show false = false from by kernel_rfl) ?_
  refine st_ret ?_
  show some ([], [false, false]) = _
  rfl

set_option maxHeartbeats 4000000 in
theorem q56_5 {lo hi N r lo2 hi2 M q : Nat} (h : Rt lo hi N r) (h2 : Rt lo2 hi2 M q) : F56 [5, (lo : Int), (hi : Int), (N : Int), (r : Int), (lo2 : Int), (hi2 : Int), (M : Int), (q : Int)] [] = some ([], [decide ((lo : Int) > hi2), decide ((lo : Int) > hi2) || decide ((hi : Int) ≤ lo2)]) := by
  refine Eq.trans (Fd_of (n := 9) (m := 0) (t := XTransTight.t56) (C := Tab.fn a56) rfl rfl) ?_
  rw [XTransTight.t56]
  refine st_4_1 (e56_33) (g := true) rfl (l := [(lo : Int), (hi : Int), (N : Int), (r : Int), (lo2 : Int), (hi2 : Int), (M : Int), (q : Int)]) rfl (m := []) rfl (cl_t (q33 h h2)) fun i9 i10 i11 i12 b0 hi9 hi10 hi11 hi12 hb0 => ?_
  show T.den _ _ [(5 : Int), (lo : Int), (hi : Int), (N : Int), (r : Int), (lo2 : Int), (hi2 : Int), (M : Int), (q : Int), i9, i10, i11, i12] [b0] = _
  refine st_itf (show (((5 : Int) == 0) && (!b0)) = false from by kernel_rfl) ?_
  refine st_itf (show (((5 : Int) == 1) && (!b0)) = false from by kernel_rfl) ?_
  refine st_lbc (show (((5 : Int) == 3) && (decide ((hi : Int) < (lo2 : Int)))) = false from by kernel_rfl) ?_
  show T.den _ _ [(5 : Int), (lo : Int), (hi : Int), (N : Int), (r : Int), (lo2 : Int), (hi2 : Int), (M : Int), (q : Int), i9, i10, i11, i12] [b0, false] = _
  refine st_itf (show false = false from by kernel_rfl) ?_
  refine st_lb fun b2 hb2 => ?_
  replace hb2 : b2 = (((5 : Int) == 5) && (decide ((lo : Int) > (hi2 : Int)))) := hb2
  show T.den _ _ [(5 : Int), (lo : Int), (hi : Int), (N : Int), (r : Int), (lo2 : Int), (hi2 : Int), (M : Int), (q : Int), i9, i10, i11, i12] [b0, false, b2] = _
  refine st_ite (fun hc => ?_) (fun hc => ?_)
  · replace hc : b2 = true := hc
    have c1 := hc
    clear hc
    refine st_ite (fun hc => ?_) (fun hc => ?_)
    · replace hc : b2 = true := hc
      have c2 := hc
      clear hc
      refine st_ret ?_
      show some ([], [true, true]) = _
      rw [hb2] at c1
      rw [hb2] at c2
      simp only [beq_self_eq_true, Bool.true_and, Bool.not_eq_true', Bool.not_eq_false', decide_eq_true_eq, decide_eq_false_iff_not] at c1 c2
      refine r0b ?_ ?_ <;> (simp only [Bool.or_eq_true, Bool.or_eq_false_iff, decide_eq_true_eq, decide_eq_false_iff_not, eq_comm (a := true), eq_comm (a := false)]; omega)
    · replace hc : b2 = false := hc
      have c3 := hc
      clear hc
      refine st_lbc (show (((5 : Int) == 3) && (decide ((lo : Int) ≥ (hi2 : Int)))) = false from by kernel_rfl) ?_
      show T.den _ _ [(5 : Int), (lo : Int), (hi : Int), (N : Int), (r : Int), (lo2 : Int), (hi2 : Int), (M : Int), (q : Int), i9, i10, i11, i12] [b0, false, b2, false] = _
      refine st_itf (show false = false from by kernel_rfl) ?_
      refine st_lb fun b4 hb4 => ?_
      replace hb4 : b4 = (((5 : Int) == 5) && (decide ((hi : Int) ≤ (lo2 : Int)))) := hb4
      show T.den _ _ [(5 : Int), (lo : Int), (hi : Int), (N : Int), (r : Int), (lo2 : Int), (hi2 : Int), (M : Int), (q : Int), i9, i10, i11, i12] [b0, false, b2, false, b4] = _
      refine st_ite (fun hc => ?_) (fun hc => ?_)
      · replace hc : b4 = true := hc
        have c4 := hc
        clear hc
        refine st_ite (fun hc => ?_) (fun hc => ?_)
        · replace hc : b4 = true := hc
          have c5 := hc
          clear hc
          refine st_ret ?_
          show some ([], [false, true]) = _
          rw [hb2] at c1
          rw [hb2] at c3
          rw [hb4] at c4
          rw [hb4] at c5
          simp only [beq_self_eq_true, Bool.true_and, Bool.not_eq_true', Bool.not_eq_false', decide_eq_true_eq, decide_eq_false_iff_not] at c1 c3 c4 c5
          refine r0b ?_ ?_ <;> (simp only [Bool.or_eq_true, Bool.or_eq_false_iff, decide_eq_true_eq, decide_eq_false_iff_not, eq_comm (a := true), eq_comm (a := false)]; omega)
        · replace hc : b4 = false := hc
          have c6 := hc
          clear hc
          refine st_ret ?_
          show some ([], [false, false]) = _
          rw [hb2] at c1
          rw [hb2] at c3
          rw [hb4] at c4
          rw [hb4] at c6
          simp only [beq_self_eq_true, Bool.true_and, Bool.not_eq_true', Bool.not_eq_false', decide_eq_true_eq, decide_eq_false_iff_not] at c1 c3 c4 c6
          refine r0b ?_ ?_ <;> (simp only [Bool.or_eq_true, Bool.or_eq_false_iff, decide_eq_true_eq, decide_eq_false_iff_not, eq_comm (a := true), eq_comm (a := false)]; omega)
      · replace hc : b4 = false := hc
        have c7 := hc
        clear hc
        refine st_lbc (show (((5 : Int) == 7) && (decide ((lo : Int) > (hi2 : Int)))) = false from by kernel_rfl) ?_
        show T.den _ _ [(5 : Int), (lo : Int), (hi : Int), (N : Int), (r : Int), (lo2 : Int), (hi2 : Int), (M : Int), (q : Int), i9, i10, i11, i12] [b0, false, b2, false, b4, false] = _
        refine st_itf (show false = false from by kernel_rfl) ?_
        refine st_lbc (show (((5 : Int) == 9) && (decide ((hi : Int) < (lo2 : Int)))) = false from by kernel_rfl) ?_
        show T.den _ _ [(5 : Int), (lo : Int), (hi : Int), (N : Int), (r : Int), (lo2 : Int), (hi2 : Int), (M : Int), (q : Int), i9, i10, i11, i12] [b0, false, b2, false, b4, false, false] = _
        refine st_itf (show false = false from by kernel_rfl) ?_
        refine st_ret ?_
        show some ([], [false, false]) = _
        rw [hb2] at c1
        rw [hb2] at c3
        rw [hb4] at c7
        simp only [beq_self_eq_true, Bool.true_and, Bool.not_eq_true', Bool.not_eq_false', decide_eq_true_eq, decide_eq_false_iff_not] at c1 c3 c7
        refine r0b ?_ ?_ <;> (simp only [Bool.or_eq_true, Bool.or_eq_false_iff, decide_eq_true_eq, decide_eq_false_iff_not, eq_comm (a := true), eq_comm (a := false)]; omega)
  · replace hc : b2 = false := hc
    have c8 := hc
    clear hc
    refine st_lbc (show (((5 : Int) == 7) && (decide ((hi : Int) ≤ (lo2 : Int)))) = false from by kernel_rfl) ?_
    show T.den _ _ [(5 : Int), (lo : Int), (hi : Int), (N : Int), (r : Int), (lo2 : Int), (hi2 : Int), (M : Int), (q : Int), i9, i10, i11, i12] [b0, false, b2, false] = _
    refine st_itf (show false = false from by kernel_rfl) ?_
    refine st_lbc (show (((5 : Int) == 9) && (decide ((lo : Int) ≥ (hi2 : Int)))) = false from by kernel_rfl) ?_
    show T.den _ _ [(5 : Int), (lo : Int), (hi : Int), (N : Int), (r : Int), (lo2 : Int), (hi2 : Int), (M : Int), (q : Int), i9, i10, i11, i12] [b0, false, b2, false, false] = _
    refine st_itf (show false = false from by kernel_rfl) ?_
    refine st_lbc (show (((5 : Int) == 3) && (decide ((lo : Int) ≥ (hi2 : Int)))) = false from by kernel_rfl) ?_
    show T.den _ _ [(5 : Int), (lo : Int), (hi : Int), (N : Int), (r : Int), (lo2 : Int), (hi2 : Int), (M : Int), (q : Int), i9, i10, i11, i12] [b0, false, b2, false, false, false] = _
    refine st_itf (show false = false from by kernel_rfl) ?_
    refine st_lb fun b6 hb6 => ?_
    replace hb6 : b6 = (((5 : Int) == 5) && (decide ((hi : Int) ≤ (lo2 : Int)))) := hb6
    show T.den _ _ [(5 : Int), (lo : Int), (hi : Int), (N : Int), (r : Int), (lo2 : Int), (hi2 : Int), (M : Int), (q : Int), i9, i10, i11, i12] [b0, false, b2, false, false, false, b6] = _
    refine st_ite (fun hc => ?_) (fun hc => ?_)
    · replace hc : b6 = true := hc
      have c9 := hc
      clear hc
      refine st_ite (fun hc => ?_) (fun hc => ?_)
      · replace hc : b6 = true := hc
        have c10 := hc
        clear hc
        refine st_ret ?_
        show some ([], [false, true]) = _
        rw [hb2] at c8
        rw [hb6] at c9
        rw [hb6] at c10
        simp only [beq_self_eq_true, Bool.true_and, Bool.not_eq_true', Bool.not_eq_false', decide_eq_true_eq, decide_eq_false_iff_not] at c8 c9 c10
        refine r0b ?_ ?_ <;> (simp only [Bool.or_eq_true, Bool.or_eq_false_iff, decide_eq_true_eq, decide_eq_false_iff_not, eq_comm (a := true), eq_comm (a := false)]; omega)
      · replace hc : b6 = false := hc
        have c11 := hc
        clear hc
        refine st_ret ?_
        show some ([], [false, false]) = _
        rw [hb2] at c8
        rw [hb6] at c9
        rw [hb6] at c11
        simp only [beq_self_eq_true, Bool.true_and, Bool.not_eq_true', Bool.not_eq_false', decide_eq_true_eq, decide_eq_false_iff_not] at c8 c9 c11
        refine r0b ?_ ?_ <;> (simp only [Bool.or_eq_true, Bool.or_eq_false_iff, decide_eq_true_eq, decide_eq_false_iff_not, eq_comm (a := true), eq_comm (a := false)]; omega)
    · replace hc : b6 = false := hc
      have c12 := hc
      clear hc
      refine st_lbc (show (((5 : Int) == 7) && (decide ((lo : Int) > (hi2 : Int)))) = false from by kernel_rfl) ?_
      show T.den _ _ [(5 : Int), (lo : Int), (hi : Int), (N : Int), (r : Int), (lo2 : Int), (hi2 : Int), (M : Int), (q : Int), i9, i10, i11, i12] [b0, false, b2, false, false, false, b6, false] = _
      refine st_itf (show false = false from by kernel_rfl) ?_
      refine st_lbc (show (((5 : Int) == 9) && (decide ((hi : Int) < (lo2 : Int)))) = false from by kernel_rfl) ?_
      show T.den _ _ [(5 : Int), (lo : Int), (hi : Int), (N : Int), (r : Int), (lo2 : Int), (hi2 : Int), (M : Int), (q : Int), i9, i10, i11, i12] [b0, false, b2, false, false, false, b6, false, false] = _
      refine st_itf (show false = false from by kernel_rfl) ?_
      refine st_ret ?_
      show some ([], [false, false]) = _
      rw [hb2] at c8
      rw [hb6] at c12
      simp only [beq_self_eq_true, Bool.true_and, Bool.not_eq_true', Bool.not_eq_false', decide_eq_true_eq, decide_eq_false_iff_not] at c8 c12
      refine r0b ?_ ?_ <;> (simp only [Bool.or_eq_true, Bool.or_eq_false_iff, decide_eq_true_eq, decide_eq_false_iff_not, eq_comm (a := true), eq_comm (a := false)]; omega)

set_option maxHeartbeats 4000000 in
theorem q56_6 {lo hi N r lo2 hi2 M q : Nat} (h : Rt lo hi N r) (h2 : Rt lo2 hi2 M q) : F56 [6, (lo : Int), (hi : Int), (N : Int), (r : Int), (lo2 : Int), (hi2 : Int), (M : Int), (q : Int)] [] = some ([], [false, false]) := by
  refine Eq.trans (Fd_of (n := 9) (m := 0) (t := XTransTight.t56) (C := Tab.fn a56) rfl rfl) ?_
  rw [XTransTight.t56]
  refine st_4_1 (e56_33) (g := true) rfl (l := [(lo : Int), (hi : Int), (N : Int), (r : Int), (lo2 : Int), (hi2 : Int), (M : Int), (q : Int)]) rfl (m := []) rfl (cl_t (q33 h h2)) fun i9 i10 i11 i12 b0 hi9 hi10 hi11 hi12 hb0 => ?_
  show T.den _ _ [(6 : Int), (lo : Int), (hi : Int), (N : Int), (r : Int), (lo2 : Int), (hi2 : Int), (M : Int), (q : Int), i9, i10, i11, i12] [b0] = _
  refine st_itf (show (((6 : Int) == 0) && (!b0)) = false from by kernel_rfl) ?_
  refine st_itf (show (((6 : Int) == 1) && (!b0)) = false from by kernel_rfl) ?_
  refine st_lbc (show (((6 : Int) == 3) && (decide ((hi : Int) < (lo2 : Int)))) = false from by kernel_rfl) ?_
  show T.den _ _ [(6 : Int), (lo : Int), (hi : Int), (N : Int), (r : Int), (lo2 : Int), (hi2 : Int), (M : Int), (q : Int), i9, i10, i11, i12] [b0, false] = _
  refine st_itf (show false = false from by kernel_rfl) ?_
  refine st_lbc (show (((6 : Int) == 5) && (decide ((lo : Int) > (hi2 : Int)))) = false from by kernel_rfl) ?_
  show T.den _ _ [(6 : Int), (lo : Int), (hi : Int), (N : Int), (r : Int), (lo2 : Int), (hi2 : Int), (M : Int), (q : Int), i9, i10, i11, i12] [b0, false, false] = _
  refine st_itf (show false = false from by kernel_rfl) ?_
  refine st_lbc (show (((6 : Int) == 7) && (decide ((hi : Int) ≤ (lo2 : Int)))) = false from by kernel_rfl) ?_
  show T.den _ _ [(6 : Int), (lo : Int), (hi : Int), (N : Int), (r : Int), (lo2 : Int), (hi2 : Int), (M : Int), (q : Int), i9, i10, i11, i12] [b0, false, false, false] = _
  refine st_itf (show false = false from by kernel_rfl) ?_
  refine st_lbc (show (((6 : Int) == 9) && (decide ((lo : Int) ≥ (hi2 : Int)))) = false from by kernel_rfl) ?_
  show T.den _ _ [(6 : Int), (lo : Int), (hi : Int), (N : Int), (r : Int), (lo2 : Int), (hi2 : Int), (M : Int), (q : Int), i9, i10, i11, i12] [b0, false, false, false, false] = _
  refine st_itf (show false = false from by kernel_rfl) ?_
  refine st_lbc (show (((6 : Int) == 3) && (decide ((lo : Int) ≥ (hi2 : Int)))) = false from by kernel_rfl) ?_
  show T.den _ _ [(6 : Int), (lo : Int), (hi : Int), (N : Int), (r : Int), (lo2 : Int), (hi2 : Int), (M : Int), (q : Int), i9, i10, i11, i12] [b0, false, false, false, false, false] = _
  refine st_itf (show false = false from by kernel_rfl) ?_
  refine st_lbc (show (((6 : Int) == 5) && (decide ((hi : Int) ≤ (lo2 : Int)))) = false from by kernel_rfl) ?_
  show T.den _ _ [(6 : Int), (lo : Int), (hi : Int), (N : Int), (r : Int), (lo2 : Int), (hi2 : Int), (M : Int), (q : Int), i9, i10, i11, i12] [b0, false, false, false, false, false, false] = _
  refine st_itf (show false = false from by kernel_rfl) ?_
  refine st_lbc (show (((6 : Int) == 7) && (decide ((lo : Int) > (hi2 : Int)))) = false from by kernel_rfl) ?_
  show T.den _ _ [(6 : Int), (lo : Int), (hi : Int), (N : Int), (r : Int), (lo2 : Int), (hi2 : Int), (M : Int), (q : Int), i9, i10, i11, i12] [b0, false, false, false, false, false, false, false] = _
  refine st_itf (show false = false from by kernel_rfl) ?_
  refine st_lbc (show (((6 : Int) == 9) && (decide ((hi : Int) < (lo2 : Int)))) = false from by kernel_rfl) ?_
  show T.den _ _ [(6 : Int), (lo : Int), (hi : Int), (N : Int), (r : Int), (lo2 : Int), (hi2 : Int), (M : Int), (q : Int), i9, i10, i11, i12] [b0, false, false, false, false, false, false, false, false] = _
  refine st_itf (show false = false from by kernel_rfl) ?_
  refine st_ret ?_
  show some ([], [false, false]) = _
  rfl

set_option maxHeartbeats 4000000 in
theorem q56_7 {lo hi N r lo2 hi2 M q : Nat} (h : Rt lo hi N r) (h2 : Rt lo2 hi2 M q) : F56 [7, (lo : Int), (hi : Int), (N : Int), (r : Int), (lo2 : Int), (hi2 : Int), (M : Int), (q : Int)] [] = some ([], [decide ((hi : Int) ≤ lo2), decide ((hi : Int) ≤ lo2) || decide ((lo : Int) > hi2)]) := by
  refine Eq.trans (Fd_of (n := 9) (m := 0) (t := XTransTight.t56) (C := Tab.fn a56) rfl rfl) ?_
  rw [XTransTight.t56]
  refine st_4_1 (e56_33) (g := true) rfl (l := [(lo : Int), (hi : Int), (N : Int), (r : Int), (lo2 : Int), (hi2 : Int), (M : Int), (q : Int)]) rfl (m := []) rfl (cl_t (q33 h h2)) fun i9 i10 i11 i12 b0 hi9 hi10 hi11 hi12 hb0 => ?_
  show T.den _ _ [(7 : Int), (lo : Int), (hi : Int), (N : Int), (r : Int), (lo2 : Int), (hi2 : Int), (M : Int), (q : Int), i9, i10, i11, i12] [b0] = _
  refine st_itf (show (((7 : Int) == 0) && (!b0)) = false from by kernel_rfl) ?_
  refine st_itf (show (((7 : Int) == 1) && (!b0)) = false from by kernel_rfl) ?_
  refine st_lbc (show (((7 : Int) == 3) && (decide ((hi : Int) < (lo2 : Int)))) = false from by kernel_rfl) ?_
  show T.den _ _ [(7 : Int), (lo : Int), (hi : Int), (N : Int), (r : Int), (lo2 : Int), (hi2 : Int), (M : Int), (q : Int), i9, i10, i11, i12] [b0, false] = _
  refine st_itf (show false = false from by kernel_rfl) ?_
  refine st_lbc (show (((7 : Int) == 5) && (decide ((lo : Int) > (hi2 : Int)))) = false from by kernel_rfl) ?_
  show T.den _ _ [(7 : Int), (lo : Int), (hi : Int), (N : Int), (r : Int), (lo2 : Int), (hi2 : Int), (M : Int), (q : Int), i9, i10, i11, i12] [b0, false, false] = _
  refine st_itf (show false = false from by kernel_rfl) ?_
  refine st_lb fun b3 hb3 => ?_
  replace hb3 : b3 = (((7 : Int) == 7) && (decide ((hi : Int) ≤ (lo2 : Int)))) := hb3
  show T.den _ _ [(7 : Int), (lo : Int), (hi : Int), (N : Int), (r : Int), (lo2 : Int), (hi2 : Int), (M : Int), (q : Int), i9, i10, i11, i12] [b0, false, false, b3] = _
  refine st_ite (fun hc => ?_) (fun hc => ?_)
  · replace hc : b3 = true := hc
    have c1 := hc
    clear hc
    refine st_ite (fun hc => ?_) (fun hc => ?_)
    · replace hc : b3 = true := hc
      have c2 := hc
      clear hc
      refine st_ret ?_
      show some ([], [true, true]) = _
      rw [hb3] at c1
      rw [hb3] at c2
      simp only [beq_self_eq_true, Bool.true_and, Bool.not_eq_true', Bool.not_eq_false', decide_eq_true_eq, decide_eq_false_iff_not] at c1 c2
      refine r0b ?_ ?_ <;> (simp only [Bool.or_eq_true, Bool.or_eq_false_iff, decide_eq_true_eq, decide_eq_false_iff_not, eq_comm (a := true), eq_comm (a := false)]; omega)
    · replace hc : b3 = false := hc
      have c3 := hc
      clear hc
      refine st_lbc (show (((7 : Int) == 3) && (decide ((lo : Int) ≥ (hi2 : Int)))) = false from by kernel_rfl) ?_
      show T.den _ _ [(7 : Int), (lo : Int), (hi : Int), (N : Int), (r : Int), (lo2 : Int), (hi2 : Int), (M : Int), (q : Int), i9, i10, i11, i12] [b0, false, false, b3, false] = _
      refine st_itf (show false = false from by kernel_rfl) ?_
      refine st_lbc (show (((7 : Int) == 5) && (decide ((hi : Int) ≤ (lo2 : Int)))) = false from by kernel_rfl) ?_
      show T.den _ _ [(7 : Int), (lo : Int), (hi : Int), (N : Int), (r : Int), (lo2 : Int), (hi2 : Int), (M : Int), (q : Int), i9, i10, i11, i12] [b0, false, false, b3, false, false] = _
      refine st_itf (show false = false from by kernel_rfl) ?_
      refine st_lb fun b6 hb6 => ?_
      replace hb6 : b6 = (((7 : Int) == 7) && (decide ((lo : Int) > (hi2 : Int)))) := hb6
      show T.den _ _ [(7 : Int), (lo : Int), (hi : Int), (N : Int), (r : Int), (lo2 : Int), (hi2 : Int), (M : Int), (q : Int), i9, i10, i11, i12] [b0, false, false, b3, false, false, b6] = _
      refine st_ite (fun hc => ?_) (fun hc => ?_)
      · replace hc : b6 = true := hc
        have c4 := hc
        clear hc
        refine st_ite (fun hc => ?_) (fun hc => ?_)
        · replace hc : b6 = true := hc
          have c5 := hc
          clear hc
          refine st_ret ?_
          show some ([], [false, true]) = _
          rw [hb3] at c1
          rw [hb3] at c3
          rw [hb6] at c4
          rw [hb6] at c5
          simp only [beq_self_eq_true, Bool.true_and, Bool.not_eq_true', Bool.not_eq_false', decide_eq_true_eq, decide_eq_false_iff_not] at c1 c3 c4 c5
          refine r0b ?_ ?_ <;> (simp only [Bool.or_eq_true, Bool.or_eq_false_iff, decide_eq_true_eq, decide_eq_false_iff_not, eq_comm (a := true), eq_comm (a := false)]; omega)
        · replace hc : b6 = false := hc
          have c6 := hc
          clear hc
          refine st_ret ?_
          show some ([], [false, false]) = _
          rw [hb3] at c1
          rw [hb3] at c3
          rw [hb6] at c4
          rw [hb6] at c6
          simp only [beq_self_eq_true, Bool.true_and, Bool.not_eq_true', Bool.not_eq_false', decide_eq_true_eq, decide_eq_false_iff_not] at c1 c3 c4 c6
          refine r0b ?_ ?_ <;> (simp only [Bool.or_eq_true, Bool.or_eq_false_iff, decide_eq_true_eq, decide_eq_false_iff_not, eq_comm (a := true), eq_comm (a := false)]; omega)
      · replace hc : b6 = false := hc
        have c7 := hc
        clear hc
        refine st_lbc (show (((7 : Int) == 9) && (decide ((hi : Int) < (lo2 : Int)))) = false from by kernel_rfl) ?_
        show T.den _ _ [(7 : Int), (lo : Int), (hi : Int), (N : Int), (r : Int), (lo2 : Int), (hi2 : Int), (M : Int), (q : Int), i9, i10, i11, i12] [b0, false, false, b3, false, false, b6, false] = _
        refine st_itf (show false = false from by kernel_rfl) ?_
        refine st_ret ?_
        show some ([], [false, false]) = _
        rw [hb3] at c1
        rw [hb3] at c3
        rw [hb6] at c7
        simp only [beq_self_eq_true, Bool.true_and, Bool.not_eq_true', Bool.not_eq_false', decide_eq_true_eq, decide_eq_false_iff_not] at c1 c3 c7
        refine r0b ?_ ?_ <;> (simp only [Bool.or_eq_true, Bool.or_eq_false_iff, decide_eq_true_eq, decide_eq_false_iff_not, eq_comm (a := true), eq_comm (a := false)]; omega)
  · replace hc : b3 = false := hc
    have c8 := hc
    clear hc
    refine st_lbc (show (((7 : Int) == 9) && (decide ((lo : Int) ≥ (hi2 : Int)))) = false from by kernel_rfl) ?_
    show T.den _ _ [(7 : Int), (lo : Int), (hi : Int), (N : Int), (r : Int), (lo2 : Int), (hi2 : Int), (M : Int), (q : Int), i9, i10, i11, i12] [b0, false, false, b3, false] = _
    refine st_itf (show false = false from by kernel_rfl) ?_
    refine st_lbc (show (((7 : Int) == 3) && (decide ((lo : Int) ≥ (hi2 : Int)))) = false from by kernel_rfl) ?_
    show T.den _ _ [(7 : Int), (lo : Int), (hi : Int), (N : Int), (r : Int), (lo2 : Int), (hi2 : Int), (M : Int), (q : Int), i9, i10, i11, i12] [b0, false, false, b3, false, false] = _
    refine st_itf (show false = false from by kernel_rfl) ?_
    refine st_lbc (show (((7 : Int) == 5) && (decide ((hi : Int) ≤ (lo2 : Int)))) = false from by kernel_rfl) ?_
    show T.den _ _ [(7 : Int), (lo : Int), (hi : Int), (N : Int), (r : Int), (lo2 : Int), (hi2 : Int), (M : Int), (q : Int), i9, i10, i11, i12] [b0, false, false, b3, false, false, false] = _
    refine st_itf (show false = false from by kernel_rfl) ?_
    refine st_lb fun b7 hb7 => ?_
    replace hb7 : b7 = (((7 : Int) == 7) && (decide ((lo : Int) > (hi2 : Int)))) := hb7
    show T.den _ _ [(7 : Int), (lo : Int), (hi : Int), (N : Int), (r : Int), (lo2 : Int), (hi2 : Int), (M : Int), (q : Int), i9, i10, i11, i12] [b0, false, false, b3, false, false, false, b7] = _
    refine st_ite (fun hc => ?_) (fun hc => ?_)
    · replace hc : b7 = true := hc
      have c9 := hc
      clear hc
      refine st_ite (fun hc => ?_) (fun hc => ?_)
      · replace hc : b7 = true := hc
        have c10 := hc
        clear hc
        refine st_ret ?_
        show some ([], [false, true]) = _
        rw [hb3] at c8
        rw [hb7] at c9
        rw [hb7] at c10
        simp only [beq_self_eq_true, Bool.true_and, Bool.not_eq_true', Bool.not_eq_false', decide_eq_true_eq, decide_eq_false_iff_not] at c8 c9 c10
        refine r0b ?_ ?_ <;> (simp only [Bool.or_eq_true, Bool.or_eq_false_iff, decide_eq_true_eq, decide_eq_false_iff_not, eq_comm (a := true), eq_comm (a := false)]; omega)
      · replace hc : b7 = false := hc
        have c11 := hc
        clear hc
        refine st_ret ?_
        show some ([], [false, false]) = _
        rw [hb3] at c8
        rw [hb7] at c9
        rw [hb7] at c11
        simp only [beq_self_eq_true, Bool.true_and, Bool.not_eq_true', Bool.not_eq_false', decide_eq_true_eq, decide_eq_false_iff_not] at c8 c9 c11
        refine r0b ?_ ?_ <;> (simp only [Bool.or_eq_true, Bool.or_eq_false_iff, decide_eq_true_eq, decide_eq_false_iff_not, eq_comm (a := true), eq_comm (a := false)]; omega)
    · replace hc : b7 = false := hc
      have c12 := hc
      clear hc
      refine st_lbc (show (((7 : Int) == 9) && (decide ((hi : Int) < (lo2 : Int)))) = false from by kernel_rfl) ?_
      show T.den _ _ [(7 : Int), (lo : Int), (hi : Int), (N : Int), (r : Int), (lo2 : Int), (hi2 : Int), (M : Int), (q : Int), i9, i10, i11, i12] [b0, false, false, b3, false, false, false, b7, false] = _
      refine st_itf (show false = false from by kernel_rfl) ?_
      refine st_ret ?_
      show some ([], [false, false]) = _
      rw [hb3] at c8
      rw [hb7] at c12
      simp only [beq_self_eq_true, Bool.true_and, Bool.not_eq_true', Bool.not_eq_false', decide_eq_true_eq, decide_eq_false_iff_not] at c8 c12
      refine r0b ?_ ?_ <;> (simp only [Bool.or_eq_true, Bool.or_eq_false_iff, decide_eq_true_eq, decide_eq_false_iff_not, eq_comm (a := true), eq_comm (a := false)]; omega)

set_option maxHeartbeats 4000000 in
theorem q56_8 {lo hi N r lo2 hi2 M q : Nat} (h : Rt lo hi N r) (h2 : Rt lo2 hi2 M q) : F56 [8, (lo : Int), (hi : Int), (N : Int), (r : Int), (lo2 : Int), (hi2 : Int), (M : Int), (q : Int)] [] = some ([], [false, false]) := by
  refine Eq.trans (Fd_of (n := 9) (m := 0) (t := XTransTight.t56) (C := Tab.fn a56) rfl rfl) ?_
  rw [XTransTight.t56]
  refine st_4_1 (e56_33) (g := true) rfl (l := [(lo : Int), (hi : Int), (N : Int), (r : Int), (lo2 : Int), (hi2 : Int), (M : Int), (q : Int)]) rfl (m := []) rfl (cl_t (q33 h h2)) fun i9 i10 i11 i12 b0 hi9 hi10 hi11 hi12 hb0 => ?_
  show T.den _ _ [(8 : Int), (lo : Int), (hi : Int), (N : Int), (r : Int), (lo2 : Int), (hi2 : Int), (M : Int), (q : Int), i9, i10, i11, i12] [b0] = _
  refine st_itf (show (((8 : Int) == 0) && (!b0)) = false from by kernel_rfl) ?_
  refine st_itf (show (((8 : Int) == 1) && (!b0)) = false from by kernel_rfl) ?_
  refine st_lbc (show (((8 : Int) == 3) && (decide ((hi : Int) < (lo2 : Int)))) = false from by kernel_rfl) ?_
  show T.den _ _ [(8 : Int), (lo : Int), (hi : Int), (N : Int), (r : Int), (lo2 : Int), (hi2 : Int), (M : Int), (q : Int), i9, i10, i11, i12] [b0, false] = _
  refine st_itf (show false = false from by kernel_rfl) ?_
  refine st_lbc (show (((8 : Int) == 5) && (decide ((lo : Int) > (hi2 : Int)))) = false from by kernel_rfl) ?_
  show T.den _ _ [(8 : Int), (lo : Int), (hi : Int), (N : Int), (r : Int), (lo2 : Int), (hi2 : Int), (M : Int), (q : Int), i9, i10, i11, i12] [b0, false, false] = _
  refine st_itf (show false = false from by kernel_rfl) ?_
  refine st_lbc (show (((8 : Int) == 7) && (decide ((hi : Int) ≤ (lo2 : Int)))) = false from by kernel_rfl) ?_
  show T.den _ _ [(8 : Int), (lo : Int), (hi : Int), (N : Int), (r : Int), (lo2 : Int), (hi2 : Int), (M : Int), (q : Int), i9, i10, i11, i12] [b0, false, false, false] = _
  refine st_itf (show false = false from by kernel_rfl) ?_
  refine st_lbc (show (((8 : Int) == 9) && (decide ((lo : Int) ≥ (hi2 : Int)))) = false from by kernel_rfl) ?_
  show T.den _ _ [(8 : Int), (lo : Int), (hi : Int), (N : Int), (r : Int), (lo2 : Int), (hi2 : Int), (M : Int), (q : Int), i9, i10, i11, i12] [b0, false, false, false, false] = _
  refine st_itf (show false = false from by kernel_rfl) ?_
  refine st_lbc (show (((8 : Int) == 3) && (decide ((lo : Int) ≥ (hi2 : Int)))) = false from by kernel_rfl) ?_
  show T.den _ _ [(8 : Int), (lo : Int), (hi : Int), (N : Int), (r : Int), (lo2 : Int), (hi2 : Int), (M : Int), (q : Int), i9, i10, i11, i12] [b0, false, false, false, false, false] = _
  refine st_itf (show false = false from by kernel_rfl) ?_
  refine st_lbc (show (((8 : Int) == 5) && (decide ((hi : Int) ≤ (lo2 : Int)))) = false from by kernel_rfl) ?_
  show T.den _ _ [(8 : Int), (lo : Int), (hi : Int), (N : Int), (r : Int), (lo2 : Int), (hi2 : Int), (M : Int), (q : Int), i9, i10, i11, i12] [b0, false, false, false, false, false, false] = _
  refine st_itf (show false = false from by kernel_rfl) ?_
  refine st_lbc (show (((8 : Int) == 7) && (decide ((lo : Int) > (hi2 : Int)))) = false from by kernel_rfl) ?_
  show T.den _ _ [(8 : Int), (lo : Int), (hi : Int), (N : Int), (r : Int), (lo2 : Int), (hi2 : Int), (M : Int), (q : Int), i9, i10, i11, i12] [b0, false, false, false, false, false, false, false] = _
  refine st_itf (show false = false from by kernel_rfl) ?_
  refine st_lbc (show (((8 : Int) == 9) && (decide ((hi : Int) < (lo2 : Int)))) = false from by kernel_rfl) ?_
  show T.den _ _ [(8 : Int), (lo : Int), (hi : Int), (N : Int), (r : Int), (lo2 : Int), (hi2 : Int), (M : Int), (q : Int), i9, i10, i11, i12] [b0, false, false, false, false, false, false, false, false] = _
  refine st_itf (show false = false from by kernel_rfl) ?_
  refine st_ret ?_
  show some ([], [false, false]) = _
  rfl

set_option maxHeartbeats 4000000 in
theorem q56_9 {lo hi N r lo2 hi2 M q : Nat} (h : Rt lo hi N r) (h2 : Rt lo2 hi2 M q) : F56 [9, (lo : Int), (hi : Int), (N : Int), (r : Int), (lo2 : Int), (hi2 : Int), (M : Int), (q : Int)] [] = some ([], [decide ((lo : Int) ≥ hi2), decide ((lo : Int) ≥ hi2) || decide ((hi : Int) < lo2)]) := by
  refine Eq.trans (Fd_of (n := 9) (m := 0) (t := XTransTight.t56) (C := Tab.fn a56) rfl rfl) ?_
  rw [XTransTight.t56]
  refine st_4_1 (e56_33) (g := true) rfl (l := [(lo : Int), (hi : Int), (N : Int), (r : Int), (lo2 : Int), (hi2 : Int), (M : Int), (q : Int)]) rfl (m := []) rfl (cl_t (q33 h h2)) fun i9 i10 i11 i12 b0 hi9 hi10 hi11 hi12 hb0 => ?_
  show T.den _ _ [(9 : Int), (lo : Int), (hi : Int), (N : Int), (r : Int), (lo2 : Int), (hi2 : Int), (M : Int), (q : Int), i9, i10, i11, i12] [b0] = _
  refine st_itf (show (((9 : Int) == 0) && (!b0)) = false from by kernel_rfl) ?_
  refine st_itf (show (((9 : Int) == 1) && (!b0)) = false from by kernel_rfl) ?_
  refine st_lbc (show (((9 : Int) == 3) && (decide ((hi : Int) < (lo2 : Int)))) = false from by kernel_rfl) ?_
  show T.den _ _ [(9 : Int), (lo : Int), (hi : Int), (N : Int), (r : Int), (lo2 : Int), (hi2 : Int), (M : Int), (q : Int), i9, i10, i11, i12] [b0, false] = _
  refine st_itf (show false = false from by kernel_rfl) ?_
  refine st_lbc (show (((9 : Int) == 5) && (decide ((lo : Int) > (hi2 : Int)))) = false from by kernel_rfl) ?_
  show T.den _ _ [(9 : Int), (lo : Int), (hi : Int), (N : Int), (r : Int), (lo2 : Int), (hi2 : Int), (M : Int), (q : Int), i9, i10, i11, i12] [b0, false, false] = _
  refine st_itf (show false = false from by kernel_rfl) ?_
  refine st_lbc (show (((9 : Int) == 7) && (decide ((hi : Int) ≤ (lo2 : Int)))) = false from by kernel_rfl) ?_
  show T.den _ _ [(9 : Int), (lo : Int), (hi : Int), (N : Int), (r : Int), (lo2 : Int), (hi2 : Int), (M : Int), (q : Int), i9, i10, i11, i12] [b0, false, false, false] = _
  refine st_itf (show false = false from by kernel_rfl) ?_
  refine st_lb fun b4 hb4 => ?_
  replace hb4 : b4 = (((9 : Int) == 9) && (decide ((lo : Int) ≥ (hi2 : Int)))) := hb4
  show T.den _ _ [(9 : Int), (lo : Int), (hi : Int), (N : Int), (r : Int), (lo2 : Int), (hi2 : Int), (M : Int), (q : Int), i9, i10, i11, i12] [b0, false, false, false, b4] = _
  refine st_ite (fun hc => ?_) (fun hc => ?_)
  · replace hc : b4 = true := hc
    have c1 := hc
    clear hc
    refine st_ret ?_
    show some ([], [true, true]) = _
    rw [hb4] at c1
    simp only [beq_self_eq_true, Bool.true_and, Bool.not_eq_true', Bool.not_eq_false', decide_eq_true_eq, decide_eq_false_iff_not] at c1
    refine r0b ?_ ?_ <;> (simp only [Bool.or_eq_true, Bool.or_eq_false_iff, decide_eq_true_eq, decide_eq_false_iff_not, eq_comm (a := true), eq_comm (a := false)]; omega)
  · replace hc : b4 = false := hc
    have c2 := hc
    clear hc
    refine st_lbc (show (((9 : Int) == 3) && (decide ((lo : Int) ≥ (hi2 : Int)))) = false from by kernel_rfl) ?_
    show T.den _ _ [(9 : Int), (lo : Int), (hi : Int), (N : Int), (r : Int), (lo2 : Int), (hi2 : Int), (M : Int), (q : Int), i9, i10, i11, i12] [b0, false, false, false, b4, false] = _
    refine st_itf (show false = false from by kernel_rfl) ?_
    refine st_lbc (show (((9 : Int) == 5) && (decide ((hi : Int) ≤ (lo2 : Int)))) = false from by kernel_rfl) ?_
    show T.den _ _ [(9 : Int), (lo : Int), (hi : Int), (N : Int), (r : Int), (lo2 : Int), (hi2 : Int), (M : Int), (q : Int), i9, i10, i11, i12] [b0, false, false, false, b4, false, false] = _
    refine st_itf (show false = false from by kernel_rfl) ?_
    refine st_lbc (show (((9 : Int) == 7) && (decide ((lo : Int) > (hi2 : Int)))) = false from by kernel_rfl) ?_
    show T.den _ _ [(9 : Int), (lo : Int), (hi : Int), (N : Int), (r : Int), (lo2 : Int), (hi2 : Int), (M : Int), (q : Int), i9, i10, i11, i12] [b0, false, false, false, b4, false, false, false] = _
    refine st_itf (show false = false from by kernel_rfl) ?_
    refine st_lb fun b8 hb8 => ?_
    replace hb8 : b8 = (((9 : Int) == 9) && (decide ((hi : Int) < (lo2 : Int)))) := hb8
    show T.den _ _ [(9 : Int), (lo : Int), (hi : Int), (N : Int), (r : Int), (lo2 : Int), (hi2 : Int), (M : Int), (q : Int), i9, i10, i11, i12] [b0, false, false, false, b4, false, false, false, b8] = _
    refine st_ite (fun hc => ?_) (fun hc => ?_)
    · replace hc : b8 = true := hc
      have c3 := hc
      clear hc
      refine st_ret ?_
      show some ([], [false, true]) = _
      rw [hb4] at c2
      rw [hb8] at c3
      simp only [beq_self_eq_true, Bool.true_and, Bool.not_eq_true', Bool.not_eq_false', decide_eq_true_eq, decide_eq_false_iff_not] at c2 c3
      refine r0b ?_ ?_ <;> (simp only [Bool.or_eq_true, Bool.or_eq_false_iff, decide_eq_true_eq, decide_eq_false_iff_not, eq_comm (a := true), eq_comm (a := false)]; omega)
    · replace hc : b8 = false := hc
      have c4 := hc
      clear hc
      refine st_ret ?_
      show some ([], [false, false]) = _
      rw [hb4] at c2
      rw [hb8] at c4
      simp only [beq_self_eq_true, Bool.true_and, Bool.not_eq_true', Bool.not_eq_false', decide_eq_true_eq, decide_eq_false_iff_not] at c2 c4
      refine r0b ?_ ?_ <;> (simp only [Bool.or_eq_true, Bool.or_eq_false_iff, decide_eq_true_eq, decide_eq_false_iff_not, eq_comm (a := true), eq_comm (a := false)]; omega)
end Go.Proofs.YtlnikilodakjmaaDoor.RTransTight
