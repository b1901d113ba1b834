/-
  InstLays: the fixed answer of layer 13's statements.
-/
import Derived.Test.YtambhhochajgnaaSInstInstLays
namespace Go.Proofs.Ytambhhochajgnaa.AInstLays
set_option linter.all false
open Go.Proofs.Ytambhhochajgnaa.Vx Go.Proofs.Ytambhhochajgnaa.XInstLays Go.Proofs.Ytambhhochajgnaa.Vd Go.Proofs.Ytambhhochajgnaa.Vn Go.Proofs.Ytambhhochajgnaa.Vl Go.Proofs.Ytambhhochajgnaa.Vp Go.Proofs.Ytambhhochajgnaa.Vb Go.Proofs.Ytambhhochajgnaa.SInstLays Go.Proofs.Ytambhhochajgnaa.Vo Go.Proofs.Ytambhhochajgnaa.IInstLays
theorem q_ofA : F23 [] [] [[], [], [], [], [.st [.i 1, .b true, .i 3]], [], [], [], [], [], [], []] = some ([0, 0, 0, 0, 0], [false], [[], [], [], [], [.st [.i 1, .b true, .i 3]]]) := by kernel_rfl
theorem gA {Z : List D} (hZ : Z.length = 65536) : F13 [3, 2] [true] [Z, [], [], [], []] = some ([3, 1], [], [Z ++ List.replicate (65536 * 2) (D.i 0), [], [], [], []]) := by
  have h := q_Grow (cap := 3) (n := 2) (ok := true) (M := Z) (T := []) (G := []) (E' := []) (D' := []) ⟨by omega, by simp, by simp, by simp, by simp⟩ (by omega) (by omega)
  have hg : growB 3 2 true Z = true := by unfold growB; rw [hZ]; decide
  rw [if_pos hg, hZ] at h
  exact h
theorem gB {Z : List D} (hZ : Z.length = 65536) : F13 [3, 3] [true] [Z, [], [], [], []] = some ([3, 4294967295], [], [Z, [], [], [], []]) := by
  have h := q_Grow (cap := 3) (n := 3) (ok := true) (M := Z) (T := []) (G := []) (E' := []) (D' := []) ⟨by omega, by simp, by simp, by simp, by simp⟩ (by omega) (by omega)
  have hg : ¬ growB 3 3 true Z = true := by unfold growB; rw [hZ]; decide
  rw [if_neg hg] at h
  exact h
theorem a3 {b : Vx.T} (hb : b = b5_3 ∨ b = b5_7) {Z : List D} (hZ : Z.length = 65536) : b.den (Tab.fn a5) [0, 0, 0, 0, 0] [false] [[.st [.i 1, .b true, .i 3]], [], [], [], [], [], [], [.st [.i 1, .b true, .i 3]], Z] = some (.ret ([], [true], [])) := by
  have lZ : ((Z ++ List.replicate (65536 * 2) (D.i 0)).length : Int) = 196608 := by rw [List.length_append, List.length_replicate, hZ]; rfl
  generalize hY : Z ++ List.replicate (65536 * 2) (D.i 0) = Y at lZ
  rcases hb with rfl | rfl
  all_goals
    first | unfold b5_3 | unfold b5_7
    refine d_itF rfl ?_
    refine d_callx [3, 2] [true] [Z, [], [], [], []] ([3, 1], [], [Y, [], [], [], []]) e5_13 rfl rfl rfl (by rw [← hY]; exact gA hZ) rfl ?_
    refine d_callx [3, 3] [true] [Z, [], [], [], []] ([3, 4294967295], [], [Z, [], [], [], []]) e5_13 rfl rfl rfl (gB hZ) rfl ?_
    refine d_lb true ?_ (d_lb true ?_ rfl)
    · show (((Z.length : Int) == 65536) && ((1 : Int) == 1)) = true
      rw [hZ]; rfl
    · show ((true && ((Y.length : Int) == 196608)) && ((4294967295 : Int) == 4294967295)) = true
      rw [lZ]; rfl
theorem a6 {b : Vx.T} (hb : b = b5_6 ∨ b = b5_9) : b.den (Tab.fn a5) [] [] [[.st [.i 1, .b true, .i 3]], []] = some (.ret ([], [true], [])) := by
  have hm : arI .mul .i64 1 65536 = 65536 := by kernel_rfl
  have rq : (decide ((0 : Int) ≤ arI .mul .i64 1 65536) && decide (arI .mul .i64 1 65536 ≤ 17592186044416)) = true := by rw [hm]; rfl
  obtain ⟨Z, hZ⟩ : ∃ Z, Z = List.replicate 65536 (D.i 0) := ⟨_, rfl⟩
  have lZ : Z.length = 65536 := by rw [hZ, List.length_replicate]
  have ml : [List.replicate (arI .mul .i64 1 65536).toNat (D.i 0)] = [Z] := by rw [hm, hZ]; rfl
  clear hZ
  rcases hb with rfl | rfl
  all_goals
    first | unfold b5_6 | unfold b5_9
    refine d_lst [[]] rfl ?_
    refine d_callx [] [] [[], [], [], [], [.st [.i 1, .b true, .i 3]], [], [], [], [], [], [], []] ([0, 0, 0, 0, 0], [false], [[], [], [], [], [.st [.i 1, .b true, .i 3]]]) e5_23 rfl rfl rfl q_ofA rfl ?_
    refine d_itT rfl (d_itT rfl (d_both ?_ ?_))
    · exact d_rq rq (d_lst [Z] ml (d_itT rfl (a3 (by first | exact .inl rfl | exact .inr rfl) lZ)))
    · exact d_itT rfl (d_rq rq (d_lst [Z] ml (a3 (by first | exact .inl rfl | exact .inr rfl) lZ)))
theorem q_awake : F5 [] [] [] = some ([], [true], []) := by
  refine of_ret ?_
  unfold t5
  refine d_lst [[.st [.i 1, .b true, .i 3]]] rfl ?_
  have h6 := a6 (.inl rfl)
  have h9 := a6 (.inr rfl)
  exact d_both (d_lst [[]] rfl (d_both h6 h6)) (d_both (d_lst [[]] rfl (d_both h9 h9)) (d_both (d_lst [[]] rfl h6) (d_lst [[]] rfl h9)))
end Go.Proofs.Ytambhhochajgnaa.AInstLays
