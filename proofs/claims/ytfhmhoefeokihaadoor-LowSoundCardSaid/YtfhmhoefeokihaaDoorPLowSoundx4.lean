-- Written by a program of this session (wip/tools/myprint.py over the print of the kit).
import Derived.Test.YtfhmhoefeokihaaDoorPLowSoundx0
namespace Go.Proofs.YtfhmhoefeokihaaDoor.PLowSound
open Go.Proofs.YtfhmhoefeokihaaDoor.Ext
open Go.Proofs.YtfhmhoefeokihaaDoor.Tabs
open Go.RowKit Go.Proofs.YtfhmhoefeokihaaDoorW.PrintWords Go.Proofs.YtfhmhoefeokihaaDoorW.PrintLast Go.Proofs.YtfhmhoefeokihaaDoorW.PrintMore
attribute [local go_sem] max2_int min2_int max_two min_two max_three min_three max_four min_four   -- for this text's walks alone
set_option linter.unusedVariables false
set_option linter.unusedSimpArgs false

/-! ### num_divide: function 32 -/
mutual
def num_divide.j0 : Nat → Int → Int → Int → Int → Int → Bool → Option (Int × Int)
  | 0, _, _, _, _, _, _ => none
  | k + 1, x0, x1, x2, x3, x4, x17 => if x17 = true then (some (0, 7)) else (if x0 = 0 then (if x4 = 0 then (none) else (some (IntKind.u64.wrap (wrap64 (Int.tdiv x3 x4)), 0))) else (if x0 = 1 then (if x2 = 0 then (none) else (some (IntKind.u64.wrap (Int.tdiv x1 x2), 0))) else (if x0 = 2 then (num_divide.j1 k x0 x1 x2 x3 x4 (x4 == (-1))) else (num_divide.j1 k x0 x1 x2 x3 x4 false))))
def num_divide.j1 : Nat → Int → Int → Int → Int → Int → Bool → Option (Int × Int)
  | 0, _, _, _, _, _, _ => none
  | k + 1, x0, x1, x2, x3, x4, x42 => if x42 = true then (some (0, 0)) else (if x0 = 2 then (if x4 = 0 then (none) else (some (IntKind.u64.wrap (Int.tmod x3 x4), 0))) else (if x2 = 0 then (none) else (some (Int.tmod x1 x2, 0))))
end
def num_divide.f (k : Nat) (a0 : Int) (a1 : Int) (a2 : Int) (a3 : Int) (a4 : Int) (a5 : Int) : Option (Int × Int) := if a2 = 0 then (some (0, 6)) else (if a0 = 0 then (if a3 = a5 then (num_divide.j0 k a0 a1 a2 a3 a4 (a4 == (-1))) else (num_divide.j0 k a0 a1 a2 a3 a4 false)) else (num_divide.j0 k a0 a1 a2 a3 a4 false))
theorem num_divide.mono_l : ∀ k, (∀ y0 y1 y2 y3 y4 y5, LeO (num_divide.j0 k y0 y1 y2 y3 y4 y5) (num_divide.j0 (k + 1) y0 y1 y2 y3 y4 y5)) ∧ (∀ y0 y1 y2 y3 y4 y5, LeO (num_divide.j1 k y0 y1 y2 y3 y4 y5) (num_divide.j1 (k + 1) y0 y1 y2 y3 y4 y5))
  | 0 => ⟨fun _ _ _ _ _ _ r h => by simp [num_divide.j0] at h, fun _ _ _ _ _ _ r h => by simp [num_divide.j1] at h⟩
  | k + 1 => by
    obtain ⟨ih0, ih1⟩ := num_divide.mono_l k
    refine ⟨?_, ?_⟩
    · intro y0 y1 y2 y3 y4 y5
      unfold num_divide.j0
      repeat' first
      | (with_reducible exact ih0 _ _ _ _ _ _)
      | (with_reducible exact ih1 _ _ _ _ _ _)
      | (with_reducible exact LeO.refl _)
      | (with_reducible exact LeO.none _)
      | (with_reducible refine LeO.ite ?_ ?_)
      | (with_reducible refine LeO.bind ?_ (fun _ => ?_))
      | exact ih0 _ _ _ _ _ _
      | exact ih1 _ _ _ _ _ _
      | exact LeO.none _
      | refine LeO.ite ?_ ?_
      | refine LeO.bind ?_ (fun _ => ?_)
    · intro y0 y1 y2 y3 y4 y5
      unfold num_divide.j1
      repeat' first
      | (with_reducible exact ih0 _ _ _ _ _ _)
      | (with_reducible exact ih1 _ _ _ _ _ _)
      | (with_reducible exact LeO.refl _)
      | (with_reducible exact LeO.none _)
      | (with_reducible refine LeO.ite ?_ ?_)
      | (with_reducible refine LeO.bind ?_ (fun _ => ?_))
      | exact ih0 _ _ _ _ _ _
      | exact ih1 _ _ _ _ _ _
      | exact LeO.none _
      | refine LeO.ite ?_ ?_
      | refine LeO.bind ?_ (fun _ => ?_)
theorem num_divide.mono : ∀ a0 a1 a2 a3 a4 a5 k, LeO (num_divide.f k a0 a1 a2 a3 a4 a5) (num_divide.f (k + 1) a0 a1 a2 a3 a4 a5) := by
  intro a0 a1 a2 a3 a4 a5 k
  obtain ⟨ih0, ih1⟩ := num_divide.mono_l k
  unfold num_divide.f
  repeat' first
      | (with_reducible exact ih0 _ _ _ _ _ _)
      | (with_reducible exact ih1 _ _ _ _ _ _)
      | (with_reducible exact LeO.refl _)
      | (with_reducible exact LeO.none _)
      | (with_reducible refine LeO.ite ?_ ?_)
      | (with_reducible refine LeO.bind ?_ (fun _ => ?_))
      | exact ih0 _ _ _ _ _ _
      | exact ih1 _ _ _ _ _ _
      | exact LeO.none _
      | refine LeO.ite ?_ ?_
      | refine LeO.bind ?_ (fun _ => ?_)
set_option maxHeartbeats 8000000 in
set_option maxRecDepth 100000 in
theorem num_divide.calls (k : Nat) (a0 : Int) (a1 : Int) (a2 : Int) (a3 : Int) (a4 : Int) (a5 : Int) (r1 : Int) (r2 : Int) (w : World) (h : num_divide.f k a0 a1 a2 a3 a4 a5 = some (r1, r2)) :
    Calls Tryd.prog 32 #[.int .i64 a0, .int .u64 a1, .int .u64 a2, .int .i64 a3, .int .i64 a4, .int .i64 a5] w fun e w' => e = .returned (.tuple #[.int .u64 r1, .int .i64 r2]) ∧ Drawn0 w w' := by
  have H : (if a2 = 0 then (some (0, 6)) else (if a0 = 0 then (if a3 = a5 then (num_divide.j0 k a0 a1 a2 a3 a4 (a4 == (-1))) else (num_divide.j0 k a0 a1 a2 a3 a4 false)) else (num_divide.j0 k a0 a1 a2 a3 a4 false))) = some (r1, r2) := h
  clear h
  by_cases c7 : a2 = 0
  · rw [if_pos c7] at H
    have c7b0 : (a2 == 0) = true := beq_iff_eq.mpr c7
    have c7b1 : (a2 != 0) = false := bne_eq_false_iff_eq.mpr c7
    clear c7
    simp only [Option.some.injEq, Prod.mk.injEq] at H
    obtain ⟨rfl, rfl⟩ := H
    go_enter Tryd.func32, Tryd.ntmps32
    go_wp2
    go_ret2
    exact ⟨by first | rfl | (simp; done) | (simp [*]; done), by repeat (first | exact Drawn0.refl _ | apply Drawn0.step)⟩
  · rw [if_neg c7] at H
    have c7b0 : (a2 == 0) = false := beq_eq_false_iff_ne.mpr c7
    have c7b1 : (a2 != 0) = true := bne_iff_ne.mpr c7
    have HC8 := Aside0.mk H
    clear H
    go_enter Tryd.func32, Tryd.ntmps32
    go_upto_region 3 with (fail)
    go_cut [17] (fun v17 wc => ∃ (kq : Nat) (x17_7 : Bool), v17 = .bool x17_7 ∧ Aside0 (num_divide.j0 kq a0 a1 a2 a3 a4 x17_7 = some (r1, r2)) ∧ Aside0 (kq ≤ k) ∧ Drawn0 w wc)
    case first =>
      have H := HC8.out
      clear HC8
      by_cases c9 : a0 = 0
      · rw [if_pos c9] at H
        have c9b0 : (a0 == 0) = true := beq_iff_eq.mpr c9
        have c9b1 : (a0 != 0) = false := bne_eq_false_iff_eq.mpr c9
        clear c9
        (first | rw [c9b0] | (simp only [i64_w, i32_w]; rw [c9b0]) | skip)
        by_cases c10 : a3 = a5
        · rw [if_pos c10] at H
          have c10b0 : (a3 == a5) = true := beq_iff_eq.mpr c10
          have c10b1 : (a3 != a5) = false := bne_eq_false_iff_eq.mpr c10
          clear c10
          have H' := Aside0.mk H
          clear H
          go_wp2
          go_meet
          case rel => exact ⟨_, ((a4 == (-1))), (by first | rfl | (simp; done) | (simp [*]; done)), H', ⟨by first | omega | exact Nat.le_refl _⟩, by repeat (first | exact Drawn0.refl _ | apply Drawn0.step)⟩
        · rw [if_neg c10] at H
          have c10b0 : (a3 == a5) = false := beq_eq_false_iff_ne.mpr c10
          have c10b1 : (a3 != a5) = true := bne_iff_ne.mpr c10
          have H' := Aside0.mk H
          clear H
          go_wp2
          go_meet
          case rel => exact ⟨_, (false), (by first | rfl | (simp; done) | (simp [*]; done)), H', ⟨by first | omega | exact Nat.le_refl _⟩, by repeat (first | exact Drawn0.refl _ | apply Drawn0.step)⟩
      · rw [if_neg c9] at H
        have c9b0 : (a0 == 0) = false := beq_eq_false_iff_ne.mpr c9
        have c9b1 : (a0 != 0) = true := bne_iff_ne.mpr c9
        (first | rw [c9b0] | (simp only [i64_w, i32_w]; rw [c9b0]) | skip)
        have H' := Aside0.mk H
        clear H
        go_wp2
        go_meet
        case rel => exact ⟨_, (false), (by first | rfl | (simp; done) | (simp [*]; done)), H', ⟨by first | omega | exact Nat.le_refl _⟩, by repeat (first | exact Drawn0.refl _ | apply Drawn0.step)⟩
    case rest =>
      clear HC8
      try clear c1
      try clear p2
      try clear c3
      try clear c7
      try clear c7b0
      try clear c7b1
      try clear c9
      try clear c9b0
      try clear c9b1
      try clear c10
      try clear c10b0
      try clear c10b1
      obtain ⟨kq, x17_7, rfl, HA, HJ7, ⟨mc7, rfl⟩⟩ := hcut
      cases kq with
      | zero => exact absurd HA.out (by simp [num_divide.j0])
      | succ kj7 =>
        have H := HA.out
        clear HA
        simp only [num_divide.j0] at H
        by_cases c11 : x17_7 = true
        · subst c11
          have H1 : (some (0, 7)) = some (r1, r2) := by rw [if_pos rfl] at H; exact H
          clear H
          have H := H1
          clear H1
          simp only [Option.some.injEq, Prod.mk.injEq] at H
          obtain ⟨rfl, rfl⟩ := H
          go_wp2
          go_ret2
          exact ⟨by first | rfl | (simp; done) | (simp [*]; done), by repeat (first | exact Drawn0.refl _ | apply Drawn0.step)⟩
        · replace c11 := Bool.eq_false_iff.mpr c11
          subst c11
          have H1 : (if a0 = 0 then (if a4 = 0 then (none) else (some (IntKind.u64.wrap (wrap64 (Int.tdiv a3 a4)), 0))) else (if a0 = 1 then (if a2 = 0 then (none) else (some (IntKind.u64.wrap (Int.tdiv a1 a2), 0))) else (if a0 = 2 then (num_divide.j1 kj7 a0 a1 a2 a3 a4 (a4 == (-1))) else (num_divide.j1 kj7 a0 a1 a2 a3 a4 false)))) = some (r1, r2) := by rw [if_neg (show ¬ (false = true) by decide)] at H; exact H
          clear H
          have H := H1
          clear H1
          by_cases c12 : a0 = 0
          · rw [if_pos c12] at H
            have c12b0 : (a0 == 0) = true := beq_iff_eq.mpr c12
            have c12b1 : (a0 != 0) = false := bne_eq_false_iff_eq.mpr c12
            clear c12
            by_cases c13 : a4 = 0
            · rw [if_pos c13] at H
              exact absurd H (by simp)
            · rw [if_neg c13] at H
              have c13b0 : (a4 == 0) = false := beq_eq_false_iff_ne.mpr c13
              have c13b1 : (a4 != 0) = true := bne_iff_ne.mpr c13
              simp only [Option.some.injEq, Prod.mk.injEq] at H
              obtain ⟨rfl, rfl⟩ := H
              go_wp2
              go_ret2
              exact ⟨by first | rfl | (simp; done) | (simp [*]; done), by repeat (first | exact Drawn0.refl _ | apply Drawn0.step)⟩
          · rw [if_neg c12] at H
            have c12b0 : (a0 == 0) = false := beq_eq_false_iff_ne.mpr c12
            have c12b1 : (a0 != 0) = true := bne_iff_ne.mpr c12
            by_cases c14 : a0 = 1
            · rw [if_pos c14] at H
              have c14b0 : (a0 == 1) = true := beq_iff_eq.mpr c14
              have c14b1 : (a0 != 1) = false := bne_eq_false_iff_eq.mpr c14
              clear c14
              by_cases c15 : a2 = 0
              · rw [if_pos c15] at H
                exact absurd H (by simp)
              · rw [if_neg c15] at H
                have c15b0 : (a2 == 0) = false := beq_eq_false_iff_ne.mpr c15
                have c15b1 : (a2 != 0) = true := bne_iff_ne.mpr c15
                simp only [Option.some.injEq, Prod.mk.injEq] at H
                obtain ⟨rfl, rfl⟩ := H
                go_wp2
                go_ret2
                exact ⟨by first | rfl | (simp; done) | (simp [*]; done), by repeat (first | exact Drawn0.refl _ | apply Drawn0.step)⟩
            · rw [if_neg c14] at H
              have c14b0 : (a0 == 1) = false := beq_eq_false_iff_ne.mpr c14
              have c14b1 : (a0 != 1) = true := bne_iff_ne.mpr c14
              have HC16 := Aside0.mk H
              clear H
              go_upto_region 9 with (fail)
              go_cut [42] (fun v42 wc => ∃ (kq : Nat) (x42_15 : Bool), v42 = .bool x42_15 ∧ Aside0 (num_divide.j1 kq a0 a1 a2 a3 a4 x42_15 = some (r1, r2)) ∧ Aside0 (kq ≤ kj7) ∧ Drawn0 w wc)
              case first =>
                have H := HC16.out
                clear HC16
                by_cases c17 : a0 = 2
                · rw [if_pos c17] at H
                  have c17b0 : (a0 == 2) = true := beq_iff_eq.mpr c17
                  have c17b1 : (a0 != 2) = false := bne_eq_false_iff_eq.mpr c17
                  clear c17
                  (first | rw [c17b0] | (simp only [i64_w, i32_w]; rw [c17b0]) | skip)
                  have H' := Aside0.mk H
                  clear H
                  go_wp2
                  go_meet
                  case rel => exact ⟨_, ((a4 == (-1))), (by first | rfl | (simp; done) | (simp [*]; done)), H', ⟨by have := HJ7.out; first | omega | exact Nat.le_refl _⟩, by repeat (first | exact Drawn0.refl _ | apply Drawn0.step)⟩
                · rw [if_neg c17] at H
                  have c17b0 : (a0 == 2) = false := beq_eq_false_iff_ne.mpr c17
                  have c17b1 : (a0 != 2) = true := bne_iff_ne.mpr c17
                  (first | rw [c17b0] | (simp only [i64_w, i32_w]; rw [c17b0]) | skip)
                  have H' := Aside0.mk H
                  clear H
                  go_wp2
                  go_meet
                  case rel => exact ⟨_, (false), (by first | rfl | (simp; done) | (simp [*]; done)), H', ⟨by have := HJ7.out; first | omega | exact Nat.le_refl _⟩, by repeat (first | exact Drawn0.refl _ | apply Drawn0.step)⟩
              case rest =>
                clear HC16
                try clear c1
                try clear p2
                try clear c3
                try clear p6
                try clear c7
                try clear c7b0
                try clear c7b1
                try clear c9
                try clear c9b0
                try clear c9b1
                try clear c10
                try clear c10b0
                try clear c10b1
                try clear c11
                try clear c12
                try clear c12b0
                try clear c12b1
                try clear c13
                try clear c13b0
                try clear c13b1
                try clear c14
                try clear c14b0
                try clear c14b1
                try clear c15
                try clear c15b0
                try clear c15b1
                try clear c17
                try clear c17b0
                try clear c17b1
                try clear p2
                obtain ⟨kq, x42_15, rfl, HA, HJ15, ⟨mc15, rfl⟩⟩ := hcut
                cases kq with
                | zero => exact absurd HA.out (by simp [num_divide.j1])
                | succ kj15 =>
                  have H := HA.out
                  clear HA
                  simp only [num_divide.j1] at H
                  by_cases c18 : x42_15 = true
                  · subst c18
                    have H1 : (some (0, 0)) = some (r1, r2) := by rw [if_pos rfl] at H; exact H
                    clear H
                    have H := H1
                    clear H1
                    simp only [Option.some.injEq, Prod.mk.injEq] at H
                    obtain ⟨rfl, rfl⟩ := H
                    go_wp2
                    go_ret2
                    exact ⟨by first | rfl | (simp; done) | (simp [*]; done), by repeat (first | exact Drawn0.refl _ | apply Drawn0.step)⟩
                  · replace c18 := Bool.eq_false_iff.mpr c18
                    subst c18
                    have H1 : (if a0 = 2 then (if a4 = 0 then (none) else (some (IntKind.u64.wrap (Int.tmod a3 a4), 0))) else (if a2 = 0 then (none) else (some (Int.tmod a1 a2, 0)))) = some (r1, r2) := by rw [if_neg (show ¬ (false = true) by decide)] at H; exact H
                    clear H
                    have H := H1
                    clear H1
                    by_cases c19 : a0 = 2
                    · rw [if_pos c19] at H
                      have c19b0 : (a0 == 2) = true := beq_iff_eq.mpr c19
                      have c19b1 : (a0 != 2) = false := bne_eq_false_iff_eq.mpr c19
                      clear c19
                      by_cases c20 : a4 = 0
                      · rw [if_pos c20] at H
                        exact absurd H (by simp)
                      · rw [if_neg c20] at H
                        have c20b0 : (a4 == 0) = false := beq_eq_false_iff_ne.mpr c20
                        have c20b1 : (a4 != 0) = true := bne_iff_ne.mpr c20
                        simp only [Option.some.injEq, Prod.mk.injEq] at H
                        obtain ⟨rfl, rfl⟩ := H
                        go_wp2
                        go_ret2
                        exact ⟨by first | rfl | (simp; done) | (simp [*]; done), by repeat (first | exact Drawn0.refl _ | apply Drawn0.step)⟩
                    · rw [if_neg c19] at H
                      have c19b0 : (a0 == 2) = false := beq_eq_false_iff_ne.mpr c19
                      have c19b1 : (a0 != 2) = true := bne_iff_ne.mpr c19
                      by_cases c21 : a2 = 0
                      · rw [if_pos c21] at H
                        exact absurd H (by simp)
                      · rw [if_neg c21] at H
                        have c21b0 : (a2 == 0) = false := beq_eq_false_iff_ne.mpr c21
                        have c21b1 : (a2 != 0) = true := bne_iff_ne.mpr c21
                        simp only [Option.some.injEq, Prod.mk.injEq] at H
                        obtain ⟨rfl, rfl⟩ := H
                        go_wp2
                        go_ret2
                        exact ⟨by first | rfl | (simp; done) | (simp [*]; done), by repeat (first | exact Drawn0.refl _ | apply Drawn0.step)⟩

/-! ### num_reckon: function 31 -/
mutual
def num_reckon.j0 : Nat → Int → Int → Int → Int → Int → Int → Int → Option (Int × Int)
  | 0, _, _, _, _, _, _, _ => none
  | k + 1, x0, x1, x2, x3, x10, x11, x12 => if (IntKind.u64.wrap (x3)) = 0 then (none) else (if x0 = 0 then (some (IntKind.u64.wrap (x1 + x2), 0)) else (if x0 = 1 then (some (IntKind.u64.wrap (x1 - x2), 0)) else (if x0 = 2 then (some (IntKind.u64.wrap (x1 * x2), 0)) else (if x0 = 3 then (num_reckon.j1 k x0 x1 x2 x3 x10 x11 x12 (Int.tmod x2 (IntKind.u64.wrap (x3))) x0 (x0 == 3)) else (if x0 = 4 then (num_reckon.j1 k x0 x1 x2 x3 x10 x11 x12 (Int.tmod x2 (IntKind.u64.wrap (x3))) x0 (x0 == 4)) else (if x0 = 5 then (num_reckon.j1 k x0 x1 x2 x3 x10 x11 x12 (Int.tmod x2 (IntKind.u64.wrap (x3))) x0 (x0 == 5)) else (num_reckon.j1 k x0 x1 x2 x3 x10 x11 x12 (Int.tmod x2 (IntKind.u64.wrap (x3))) x0 (x0 == 6))))))))
def num_reckon.j1 : Nat → Int → Int → Int → Int → Int → Int → Int → Int → Int → Bool → Option (Int × Int)
  | 0, _, _, _, _, _, _, _, _, _, _ => none
  | k + 1, x0, x1, x2, x3, x10, x11, x12, x13, x30, x46 => if x46 = true then ((num_divide.f k (wrap64 (x0 - 3)) x1 x2 x10 x11 x12).bind fun bt160 => (some (bt160.1, bt160.2))) else (if x30 = 7 then (some (Go.bits .and .u64 x1 x2, 0)) else (if x30 = 8 then (some (Go.bits .or .u64 x1 x2, 0)) else (if x30 = 9 then (some (Go.bits .xor .u64 x1 x2, 0)) else (if x30 = 10 then (if 0 ≤ x13 then (some (shl .u64 x1 x13, 0)) else (none)) else (if x30 = 11 then (if 0 ≤ x13 then (some (IntKind.u64.wrap (shr .i64 x10 x13), 0)) else (none)) else (if x30 = 12 then (if 0 ≤ x13 then (some (shr .u64 x1 x13, 0)) else (none)) else (if x30 = 13 then (if 0 ≤ x13 then (if 0 ≤ (IntKind.u64.wrap ((IntKind.u64.wrap (x3)) - x13)) then (some (Go.bits .or .u64 (shl .u64 x1 x13) (shr .u64 x1 (IntKind.u64.wrap ((IntKind.u64.wrap (x3)) - x13))), 0)) else (none)) else (none)) else (if 0 ≤ x13 then (if 0 ≤ (IntKind.u64.wrap ((IntKind.u64.wrap (x3)) - x13)) then (some (Go.bits .or .u64 (shr .u64 x1 x13) (shl .u64 x1 (IntKind.u64.wrap ((IntKind.u64.wrap (x3)) - x13))), 0)) else (none)) else (none)))))))))
end
def num_reckon.f (k : Nat) (a0 : Int) (a1 : Int) (a2 : Int) (a3 : Int) : Option (Int × Int) := if a3 = 32 then (num_reckon.j0 k a0 a1 a2 a3 (wrap64 (wrap32 (a1))) (wrap64 (wrap32 (a2))) (-2147483648)) else (num_reckon.j0 k a0 a1 a2 a3 (wrap64 (a1)) (wrap64 (a2)) (-9223372036854775808))
theorem num_reckon.mono_l : ∀ k, (∀ y0 y1 y2 y3 y4 y5 y6, LeO (num_reckon.j0 k y0 y1 y2 y3 y4 y5 y6) (num_reckon.j0 (k + 1) y0 y1 y2 y3 y4 y5 y6)) ∧ (∀ y0 y1 y2 y3 y4 y5 y6 y7 y8 y9, LeO (num_reckon.j1 k y0 y1 y2 y3 y4 y5 y6 y7 y8 y9) (num_reckon.j1 (k + 1) y0 y1 y2 y3 y4 y5 y6 y7 y8 y9))
  | 0 => ⟨fun _ _ _ _ _ _ _ r h => by simp [num_reckon.j0] at h, fun _ _ _ _ _ _ _ _ _ _ r h => by simp [num_reckon.j1] at h⟩
  | k + 1 => by
    obtain ⟨ih0, ih1⟩ := num_reckon.mono_l k
    refine ⟨?_, ?_⟩
    · intro y0 y1 y2 y3 y4 y5 y6
      unfold num_reckon.j0
      repeat' first
      | (with_reducible exact ih0 _ _ _ _ _ _ _)
      | (with_reducible exact ih1 _ _ _ _ _ _ _ _ _ _)
      | (with_reducible exact num_divide.mono _ _ _ _ _ _ _)
      | (with_reducible exact LeO.refl _)
      | (with_reducible exact LeO.none _)
      | (with_reducible refine LeO.ite ?_ ?_)
      | (with_reducible refine LeO.bind ?_ (fun _ => ?_))
      | exact ih0 _ _ _ _ _ _ _
      | exact ih1 _ _ _ _ _ _ _ _ _ _
      | exact num_divide.mono _ _ _ _ _ _ _
      | exact LeO.none _
      | refine LeO.ite ?_ ?_
      | refine LeO.bind ?_ (fun _ => ?_)
    · intro y0 y1 y2 y3 y4 y5 y6 y7 y8 y9
      unfold num_reckon.j1
      repeat' first
      | (with_reducible exact ih0 _ _ _ _ _ _ _)
      | (with_reducible exact ih1 _ _ _ _ _ _ _ _ _ _)
      | (with_reducible exact num_divide.mono _ _ _ _ _ _ _)
      | (with_reducible exact LeO.refl _)
      | (with_reducible exact LeO.none _)
      | (with_reducible refine LeO.ite ?_ ?_)
      | (with_reducible refine LeO.bind ?_ (fun _ => ?_))
      | exact ih0 _ _ _ _ _ _ _
      | exact ih1 _ _ _ _ _ _ _ _ _ _
      | exact num_divide.mono _ _ _ _ _ _ _
      | exact LeO.none _
      | refine LeO.ite ?_ ?_
      | refine LeO.bind ?_ (fun _ => ?_)
theorem num_reckon.mono : ∀ a0 a1 a2 a3 k, LeO (num_reckon.f k a0 a1 a2 a3) (num_reckon.f (k + 1) a0 a1 a2 a3) := by
  intro a0 a1 a2 a3 k
  obtain ⟨ih0, ih1⟩ := num_reckon.mono_l k
  unfold num_reckon.f
  repeat' first
      | (with_reducible exact ih0 _ _ _ _ _ _ _)
      | (with_reducible exact ih1 _ _ _ _ _ _ _ _ _ _)
      | (with_reducible exact num_divide.mono _ _ _ _ _ _ _)
      | (with_reducible exact LeO.refl _)
      | (with_reducible exact LeO.none _)
      | (with_reducible refine LeO.ite ?_ ?_)
      | (with_reducible refine LeO.bind ?_ (fun _ => ?_))
      | exact ih0 _ _ _ _ _ _ _
      | exact ih1 _ _ _ _ _ _ _ _ _ _
      | exact num_divide.mono _ _ _ _ _ _ _
      | exact LeO.none _
      | refine LeO.ite ?_ ?_
      | refine LeO.bind ?_ (fun _ => ?_)
set_option maxHeartbeats 8000000 in
set_option maxRecDepth 100000 in
theorem num_reckon.calls (k : Nat) (a0 : Int) (a1 : Int) (a2 : Int) (a3 : Int) (r1 : Int) (r2 : Int) (w : World) (h : num_reckon.f k a0 a1 a2 a3 = some (r1, r2)) :
    Calls Tryd.prog 31 #[.int .i64 a0, .int .u64 a1, .int .u64 a2, .int .i64 a3] w fun e w' => e = .returned (.tuple #[.int .u64 r1, .int .i64 r2]) ∧ Drawn0 w w' := by
  have H : (if a3 = 32 then (num_reckon.j0 k a0 a1 a2 a3 (wrap64 (wrap32 (a1))) (wrap64 (wrap32 (a2))) (-2147483648)) else (num_reckon.j0 k a0 a1 a2 a3 (wrap64 (a1)) (wrap64 (a2)) (-9223372036854775808))) = some (r1, r2) := h
  clear h
  have HC5 := Aside0.mk H
  clear H
  go_enter Tryd.func31, Tryd.ntmps31
  go_upto_if 19 with (fail)
  go_cut [10, 11, 12] (fun v10 v11 v12 wc => ∃ (kq : Nat) (x10_4 : Int) (x11_4 : Int) (x12_4 : Int), v10 = .int .i64 x10_4 ∧ v11 = .int .i64 x11_4 ∧ v12 = .int .i64 x12_4 ∧ Aside0 (num_reckon.j0 kq a0 a1 a2 a3 x10_4 x11_4 x12_4 = some (r1, r2)) ∧ Aside0 (kq ≤ k) ∧ Drawn0 w wc)
  case first =>
    have H := HC5.out
    clear HC5
    by_cases c6 : a3 = 32
    · rw [if_pos c6] at H
      have c6b0 : (a3 == 32) = true := beq_iff_eq.mpr c6
      have c6b1 : (a3 != 32) = false := bne_eq_false_iff_eq.mpr c6
      clear c6
      (first | rw [c6b0] | (simp only [i64_w, i32_w]; rw [c6b0]) | skip)
      have H' := Aside0.mk H
      clear H
      go_wp2
      go_meet
      case rel => exact ⟨_, (wrap64 (wrap32 (a1))), (wrap64 (wrap32 (a2))), ((-2147483648)), (by first | rfl | (simp; done) | (simp [*]; done)), (by first | rfl | (simp; done) | (simp [*]; done)), (by first | rfl | (simp; done) | (simp [*]; done)), H', ⟨by first | omega | exact Nat.le_refl _⟩, by repeat (first | exact Drawn0.refl _ | apply Drawn0.step)⟩
    · rw [if_neg c6] at H
      have c6b0 : (a3 == 32) = false := beq_eq_false_iff_ne.mpr c6
      have c6b1 : (a3 != 32) = true := bne_iff_ne.mpr c6
      (first | rw [c6b0] | (simp only [i64_w, i32_w]; rw [c6b0]) | skip)
      have H' := Aside0.mk H
      clear H
      go_wp2
      go_meet
      case rel => exact ⟨_, (wrap64 (a1)), (wrap64 (a2)), ((-9223372036854775808)), (by first | rfl | (simp; done) | (simp [*]; done)), (by first | rfl | (simp; done) | (simp [*]; done)), (by first | rfl | (simp; done) | (simp [*]; done)), H', ⟨by first | omega | exact Nat.le_refl _⟩, by repeat (first | exact Drawn0.refl _ | apply Drawn0.step)⟩
  case rest =>
    clear HC5
    try clear p2
    try clear c3
    try clear p3
    try clear c6
    try clear c6b0
    try clear c6b1
    try clear p6
    obtain ⟨kq, x10_4, x11_4, x12_4, rfl, rfl, rfl, HA, HJ4, ⟨mc4, rfl⟩⟩ := hcut
    cases kq with
    | zero => exact absurd HA.out (by simp [num_reckon.j0])
    | succ kj4 =>
      have H := HA.out
      clear HA
      simp only [num_reckon.j0] at H
      by_cases c7 : (IntKind.u64.wrap (a3)) = 0
      · rw [if_pos c7] at H
        exact absurd H (by simp)
      · rw [if_neg c7] at H
        have c7b0 : ((IntKind.u64.wrap (a3)) == 0) = false := beq_eq_false_iff_ne.mpr c7
        have c7b1 : ((IntKind.u64.wrap (a3)) != 0) = true := bne_iff_ne.mpr c7
        by_cases c8 : a0 = 0
        · rw [if_pos c8] at H
          have c8b0 : (a0 == 0) = true := beq_iff_eq.mpr c8
          have c8b1 : (a0 != 0) = false := bne_eq_false_iff_eq.mpr c8
          clear c8
          simp only [Option.some.injEq, Prod.mk.injEq] at H
          obtain ⟨rfl, rfl⟩ := H
          go_wp2
          go_ret2
          exact ⟨by first | rfl | (simp; done) | (simp [*]; done), by repeat (first | exact Drawn0.refl _ | apply Drawn0.step)⟩
        · rw [if_neg c8] at H
          have c8b0 : (a0 == 0) = false := beq_eq_false_iff_ne.mpr c8
          have c8b1 : (a0 != 0) = true := bne_iff_ne.mpr c8
          by_cases c9 : a0 = 1
          · rw [if_pos c9] at H
            have c9b0 : (a0 == 1) = true := beq_iff_eq.mpr c9
            have c9b1 : (a0 != 1) = false := bne_eq_false_iff_eq.mpr c9
            clear c9
            simp only [Option.some.injEq, Prod.mk.injEq] at H
            obtain ⟨rfl, rfl⟩ := H
            go_wp2
            go_ret2
            exact ⟨by first | rfl | (simp; done) | (simp [*]; done), by repeat (first | exact Drawn0.refl _ | apply Drawn0.step)⟩
          · rw [if_neg c9] at H
            have c9b0 : (a0 == 1) = false := beq_eq_false_iff_ne.mpr c9
            have c9b1 : (a0 != 1) = true := bne_iff_ne.mpr c9
            by_cases c10 : a0 = 2
            · rw [if_pos c10] at H
              have c10b0 : (a0 == 2) = true := beq_iff_eq.mpr c10
              have c10b1 : (a0 != 2) = false := bne_eq_false_iff_eq.mpr c10
              clear c10
              simp only [Option.some.injEq, Prod.mk.injEq] at H
              obtain ⟨rfl, rfl⟩ := H
              go_wp2
              go_ret2
              exact ⟨by first | rfl | (simp; done) | (simp [*]; done), by repeat (first | exact Drawn0.refl _ | apply Drawn0.step)⟩
            · rw [if_neg c10] at H
              have c10b0 : (a0 == 2) = false := beq_eq_false_iff_ne.mpr c10
              have c10b1 : (a0 != 2) = true := bne_iff_ne.mpr c10
              have HC11 := Aside0.mk H
              clear H
              go_upto_if 46 with (fail)
              go_cut [46] (fun v46 wc => ∃ (kq : Nat) (x46_10 : Bool), v46 = .bool x46_10 ∧ Aside0 (num_reckon.j1 kq a0 a1 a2 a3 x10_4 x11_4 x12_4 (Int.tmod a2 (IntKind.u64.wrap (a3))) a0 x46_10 = some (r1, r2)) ∧ Aside0 (kq ≤ kj4) ∧ Drawn0 w wc)
              case first =>
                have H := HC11.out
                clear HC11
                by_cases c12 : a0 = 3
                · rw [if_pos c12] at H
                  have c12b0 : (a0 == 3) = true := beq_iff_eq.mpr c12
                  have c12b1 : (a0 != 3) = false := bne_eq_false_iff_eq.mpr c12
                  clear c12
                  (first | rw [c12b0] | (simp only [i64_w, i32_w]; rw [c12b0]) | skip)
                  have H' := Aside0.mk H
                  clear H
                  go_wp2
                  go_meet
                  case rel => exact ⟨_, ((a0 == 3)), (by first | rfl | (simp; done) | (simp [*]; done)), H', ⟨by have := HJ4.out; first | omega | exact Nat.le_refl _⟩, by repeat (first | exact Drawn0.refl _ | apply Drawn0.step)⟩
                · rw [if_neg c12] at H
                  have c12b0 : (a0 == 3) = false := beq_eq_false_iff_ne.mpr c12
                  have c12b1 : (a0 != 3) = true := bne_iff_ne.mpr c12
                  (first | rw [c12b0] | (simp only [i64_w, i32_w]; rw [c12b0]) | skip)
                  by_cases c13 : a0 = 4
                  · rw [if_pos c13] at H
                    have c13b0 : (a0 == 4) = true := beq_iff_eq.mpr c13
                    have c13b1 : (a0 != 4) = false := bne_eq_false_iff_eq.mpr c13
                    clear c13
                    have H' := Aside0.mk H
                    clear H
                    go_wp2
                    go_meet
                    case rel => exact ⟨_, ((a0 == 4)), (by first | rfl | (simp; done) | (simp [*]; done)), H', ⟨by have := HJ4.out; first | omega | exact Nat.le_refl _⟩, by repeat (first | exact Drawn0.refl _ | apply Drawn0.step)⟩
                  · rw [if_neg c13] at H
                    have c13b0 : (a0 == 4) = false := beq_eq_false_iff_ne.mpr c13
                    have c13b1 : (a0 != 4) = true := bne_iff_ne.mpr c13
                    by_cases c14 : a0 = 5
                    · rw [if_pos c14] at H
                      have c14b0 : (a0 == 5) = true := beq_iff_eq.mpr c14
                      have c14b1 : (a0 != 5) = false := bne_eq_false_iff_eq.mpr c14
                      clear c14
                      have H' := Aside0.mk H
                      clear H
                      go_wp2
                      go_meet
                      case rel => exact ⟨_, ((a0 == 5)), (by first | rfl | (simp; done) | (simp [*]; done)), H', ⟨by have := HJ4.out; first | omega | exact Nat.le_refl _⟩, by repeat (first | exact Drawn0.refl _ | apply Drawn0.step)⟩
                    · rw [if_neg c14] at H
                      have c14b0 : (a0 == 5) = false := beq_eq_false_iff_ne.mpr c14
                      have c14b1 : (a0 != 5) = true := bne_iff_ne.mpr c14
                      have H' := Aside0.mk H
                      clear H
                      go_wp2
                      go_meet
                      case rel => exact ⟨_, ((a0 == 6)), (by first | rfl | (simp; done) | (simp [*]; done)), H', ⟨by have := HJ4.out; first | omega | exact Nat.le_refl _⟩, by repeat (first | exact Drawn0.refl _ | apply Drawn0.step)⟩
              case rest =>
                clear HC11
                try clear c1
                try clear p2
                try clear c3
                try clear p3
                try clear c4
                try clear c6
                try clear c6b0
                try clear c6b1
                try clear p6
                try clear c7
                try clear c7b0
                try clear c7b1
                try clear c8
                try clear c8b0
                try clear c8b1
                try clear c9
                try clear c9b0
                try clear c9b1
                try clear c10
                try clear c10b0
                try clear c10b1
                try clear c12
                try clear c12b0
                try clear c12b1
                try clear c13
                try clear c13b0
                try clear c13b1
                try clear c14
                try clear c14b0
                try clear c14b1
                try clear p2
                try clear p3
                try clear p6
                obtain ⟨kq, x46_10, rfl, HA, HJ10, ⟨mc10, rfl⟩⟩ := hcut
                cases kq with
                | zero => exact absurd HA.out (by simp [num_reckon.j1])
                | succ kj10 =>
                  have H := HA.out
                  clear HA
                  simp only [num_reckon.j1] at H
                  by_cases c15 : x46_10 = true
                  · subst c15
                    have H1 : ((num_divide.f kj10 (wrap64 (a0 - 3)) a1 a2 x10_4 x11_4 x12_4).bind fun bt160 => (some (bt160.1, bt160.2))) = some (r1, r2) := by rw [if_pos rfl] at H; exact H
                    clear H
                    have H := H1
                    clear H1
                    replace H := Option.bind_eq_some_iff.mp H
                    obtain ⟨⟨t160, t161⟩, A160, H⟩ := H
                    replace H : (some (t160, t161)) = some (r1, r2) := H
                    have A16 := Aside0.mk A160
                    clear A160
                    simp only [Option.some.injEq, Prod.mk.injEq] at H
                    obtain ⟨rfl, rfl⟩ := H
                    go_wp2_with (first | ((with_reducible refine gate_callee (f := 32) rfl ?_); refine goesL_ (some 58) rfl rfl Tryd.func32 (by kernel_rfl) rfl #[.int .i64 (wrap64 (a0 - 3)), .int .u64 a1, .int .u64 a2, .int .i64 x10_4, .int .i64 x11_4, .int .i64 x12_4] rfl (by (try simp only [List.map_toArray, List.map_cons, List.map_nil]); first | done | rfl | (simp only [List.length_drop, List.length_take]; rfl)) ?_; (with_reducible refine (num_divide.calls kj10 (wrap64 (a0 - 3)) a1 a2 x10_4 x11_4 x12_4 t160 t161 _ A16.out).mono ?_); rintro e w' ⟨rfl, ⟨nd, rfl⟩⟩; refine ⟨_, rfl, ?_⟩))
                    go_ret2
                    exact ⟨by first | rfl | (simp; done) | (simp [*]; done), by repeat (first | exact Drawn0.refl _ | apply Drawn0.step)⟩
                  · replace c15 := Bool.eq_false_iff.mpr c15
                    subst c15
                    have H1 : (if a0 = 7 then (some (Go.bits .and .u64 a1 a2, 0)) else (if a0 = 8 then (some (Go.bits .or .u64 a1 a2, 0)) else (if a0 = 9 then (some (Go.bits .xor .u64 a1 a2, 0)) else (if a0 = 10 then (if 0 ≤ (Int.tmod a2 (IntKind.u64.wrap (a3))) then (some (shl .u64 a1 (Int.tmod a2 (IntKind.u64.wrap (a3))), 0)) else (none)) else (if a0 = 11 then (if 0 ≤ (Int.tmod a2 (IntKind.u64.wrap (a3))) then (some (IntKind.u64.wrap (shr .i64 x10_4 (Int.tmod a2 (IntKind.u64.wrap (a3)))), 0)) else (none)) else (if a0 = 12 then (if 0 ≤ (Int.tmod a2 (IntKind.u64.wrap (a3))) then (some (shr .u64 a1 (Int.tmod a2 (IntKind.u64.wrap (a3))), 0)) else (none)) else (if a0 = 13 then (if 0 ≤ (Int.tmod a2 (IntKind.u64.wrap (a3))) then (if 0 ≤ (IntKind.u64.wrap ((IntKind.u64.wrap (a3)) - (Int.tmod a2 (IntKind.u64.wrap (a3))))) then (some (Go.bits .or .u64 (shl .u64 a1 (Int.tmod a2 (IntKind.u64.wrap (a3)))) (shr .u64 a1 (IntKind.u64.wrap ((IntKind.u64.wrap (a3)) - (Int.tmod a2 (IntKind.u64.wrap (a3)))))), 0)) else (none)) else (none)) else (if 0 ≤ (Int.tmod a2 (IntKind.u64.wrap (a3))) then (if 0 ≤ (IntKind.u64.wrap ((IntKind.u64.wrap (a3)) - (Int.tmod a2 (IntKind.u64.wrap (a3))))) then (some (Go.bits .or .u64 (shr .u64 a1 (Int.tmod a2 (IntKind.u64.wrap (a3)))) (shl .u64 a1 (IntKind.u64.wrap ((IntKind.u64.wrap (a3)) - (Int.tmod a2 (IntKind.u64.wrap (a3)))))), 0)) else (none)) else (none))))))))) = some (r1, r2) := by rw [if_neg (show ¬ (false = true) by decide)] at H; exact H
                    clear H
                    have H := H1
                    clear H1
                    by_cases c17 : a0 = 7
                    · rw [if_pos c17] at H
                      have c17b0 : (a0 == 7) = true := beq_iff_eq.mpr c17
                      have c17b1 : (a0 != 7) = false := bne_eq_false_iff_eq.mpr c17
                      clear c17
                      simp only [Option.some.injEq, Prod.mk.injEq] at H
                      obtain ⟨rfl, rfl⟩ := H
                      go_wp2
                      go_ret2
                      exact ⟨by first | rfl | (simp; done) | (simp [*]; done), by repeat (first | exact Drawn0.refl _ | apply Drawn0.step)⟩
                    · rw [if_neg c17] at H
                      have c17b0 : (a0 == 7) = false := beq_eq_false_iff_ne.mpr c17
                      have c17b1 : (a0 != 7) = true := bne_iff_ne.mpr c17
                      by_cases c18 : a0 = 8
                      · rw [if_pos c18] at H
                        have c18b0 : (a0 == 8) = true := beq_iff_eq.mpr c18
                        have c18b1 : (a0 != 8) = false := bne_eq_false_iff_eq.mpr c18
                        clear c18
                        simp only [Option.some.injEq, Prod.mk.injEq] at H
                        obtain ⟨rfl, rfl⟩ := H
                        go_wp2
                        go_ret2
                        exact ⟨by first | rfl | (simp; done) | (simp [*]; done), by repeat (first | exact Drawn0.refl _ | apply Drawn0.step)⟩
                      · rw [if_neg c18] at H
                        have c18b0 : (a0 == 8) = false := beq_eq_false_iff_ne.mpr c18
                        have c18b1 : (a0 != 8) = true := bne_iff_ne.mpr c18
                        by_cases c19 : a0 = 9
                        · rw [if_pos c19] at H
                          have c19b0 : (a0 == 9) = true := beq_iff_eq.mpr c19
                          have c19b1 : (a0 != 9) = false := bne_eq_false_iff_eq.mpr c19
                          clear c19
                          simp only [Option.some.injEq, Prod.mk.injEq] at H
                          obtain ⟨rfl, rfl⟩ := H
                          go_wp2
                          go_ret2
                          exact ⟨by first | rfl | (simp; done) | (simp [*]; done), by repeat (first | exact Drawn0.refl _ | apply Drawn0.step)⟩
                        · rw [if_neg c19] at H
                          have c19b0 : (a0 == 9) = false := beq_eq_false_iff_ne.mpr c19
                          have c19b1 : (a0 != 9) = true := bne_iff_ne.mpr c19
                          by_cases c20 : a0 = 10
                          · rw [if_pos c20] at H
                            have c20b0 : (a0 == 10) = true := beq_iff_eq.mpr c20
                            have c20b1 : (a0 != 10) = false := bne_eq_false_iff_eq.mpr c20
                            clear c20
                            obtain ⟨ji21, hji21⟩ : ∃ j_ : Int, (Int.tmod a2 (IntKind.u64.wrap (a3))) = j_ := ⟨_, rfl⟩
                            replace H : (if 0 ≤ (ji21) then (some (shl .u64 a1 (ji21), 0)) else (none)) = some (r1, r2) := by first | (rw [hji21] at H; exact H) | (simp only [hji21] at H ⊢; exact H)
                            by_cases c22 : 0 ≤ (ji21)
                            · rw [if_pos c22] at H
                              have c22b0 := eq_true c22
                              have c22b1 : decide (0 ≤ (ji21)) = true := decide_eq_true c22
                              clear c22
                              obtain ⟨ji23, hji23⟩ : ∃ j_ : Int, (shl .u64 a1 (ji21)) = j_ := ⟨_, rfl⟩
                              replace H : (some (ji23, 0)) = some (r1, r2) := by first | (rw [hji23] at H; exact H) | (simp only [hji23] at H ⊢; exact H)
                              have hji23_ : (IntKind.u64.wrap (a1 * 2 ^ min (ji21).toNat 64)) = ji23 := hji23
                              have hji23z : (ji21) ≤ 64 → (IntKind.u64.wrap (a1 * 2 ^ (ji21).toNat)) = ji23 := shl_small hji23
                              simp only [Option.some.injEq, Prod.mk.injEq] at H
                              obtain ⟨rfl, rfl⟩ := H
                              go_wp2
                              go_ret2
                              exact ⟨by first | rfl | (simp; done) | (simp only [← hji21, ← hji23] <;> (first | rfl | simp)) | (simp [*]; done), by repeat (first | exact Drawn0.refl _ | apply Drawn0.step)⟩
                            · rw [if_neg c22] at H
                              exact absurd H (by simp)
                          · rw [if_neg c20] at H
                            have c20b0 : (a0 == 10) = false := beq_eq_false_iff_ne.mpr c20
                            have c20b1 : (a0 != 10) = true := bne_iff_ne.mpr c20
                            by_cases c24 : a0 = 11
                            · rw [if_pos c24] at H
                              have c24b0 : (a0 == 11) = true := beq_iff_eq.mpr c24
                              have c24b1 : (a0 != 11) = false := bne_eq_false_iff_eq.mpr c24
                              clear c24
                              obtain ⟨ji25, hji25⟩ : ∃ j_ : Int, (Int.tmod a2 (IntKind.u64.wrap (a3))) = j_ := ⟨_, rfl⟩
                              replace H : (if 0 ≤ (ji25) then (some (IntKind.u64.wrap (shr .i64 x10_4 (ji25)), 0)) else (none)) = some (r1, r2) := by first | (rw [hji25] at H; exact H) | (simp only [hji25] at H ⊢; exact H)
                              by_cases c26 : 0 ≤ (ji25)
                              · rw [if_pos c26] at H
                                have c26b0 := eq_true c26
                                have c26b1 : decide (0 ≤ (ji25)) = true := decide_eq_true c26
                                clear c26
                                obtain ⟨ji27, hji27⟩ : ∃ j_ : Int, (shr .i64 x10_4 (ji25)) = j_ := ⟨_, rfl⟩
                                replace H : (some (IntKind.u64.wrap (ji27), 0)) = some (r1, r2) := by first | (rw [hji27] at H; exact H) | (simp only [hji27] at H ⊢; exact H)
                                have hji27_ : (x10_4 / 2 ^ min (ji25).toNat 64) = ji27 := hji27
                                have hji27z : (ji25) ≤ 64 → (x10_4 / 2 ^ (ji25).toNat) = ji27 := shr_small hji27
                                simp only [Option.some.injEq, Prod.mk.injEq] at H
                                obtain ⟨rfl, rfl⟩ := H
                                go_wp2
                                go_ret2
                                exact ⟨by first | rfl | (simp; done) | (simp only [← hji25, ← hji27] <;> (first | rfl | simp)) | (simp [*]; done), by repeat (first | exact Drawn0.refl _ | apply Drawn0.step)⟩
                              · rw [if_neg c26] at H
                                exact absurd H (by simp)
                            · rw [if_neg c24] at H
                              have c24b0 : (a0 == 11) = false := beq_eq_false_iff_ne.mpr c24
                              have c24b1 : (a0 != 11) = true := bne_iff_ne.mpr c24
                              by_cases c28 : a0 = 12
                              · rw [if_pos c28] at H
                                have c28b0 : (a0 == 12) = true := beq_iff_eq.mpr c28
                                have c28b1 : (a0 != 12) = false := bne_eq_false_iff_eq.mpr c28
                                clear c28
                                obtain ⟨ji29, hji29⟩ : ∃ j_ : Int, (Int.tmod a2 (IntKind.u64.wrap (a3))) = j_ := ⟨_, rfl⟩
                                replace H : (if 0 ≤ (ji29) then (some (shr .u64 a1 (ji29), 0)) else (none)) = some (r1, r2) := by first | (rw [hji29] at H; exact H) | (simp only [hji29] at H ⊢; exact H)
                                by_cases c30 : 0 ≤ (ji29)
                                · rw [if_pos c30] at H
                                  have c30b0 := eq_true c30
                                  have c30b1 : decide (0 ≤ (ji29)) = true := decide_eq_true c30
                                  clear c30
                                  obtain ⟨ji31, hji31⟩ : ∃ j_ : Int, (shr .u64 a1 (ji29)) = j_ := ⟨_, rfl⟩
                                  replace H : (some (ji31, 0)) = some (r1, r2) := by first | (rw [hji31] at H; exact H) | (simp only [hji31] at H ⊢; exact H)
                                  have hji31_ : (a1 / 2 ^ min (ji29).toNat 64) = ji31 := hji31
                                  have hji31z : (ji29) ≤ 64 → (a1 / 2 ^ (ji29).toNat) = ji31 := shr_small hji31
                                  simp only [Option.some.injEq, Prod.mk.injEq] at H
                                  obtain ⟨rfl, rfl⟩ := H
                                  go_wp2
                                  go_ret2
                                  exact ⟨by first | rfl | (simp; done) | (simp only [← hji29, ← hji31] <;> (first | rfl | simp)) | (simp [*]; done), by repeat (first | exact Drawn0.refl _ | apply Drawn0.step)⟩
                                · rw [if_neg c30] at H
                                  exact absurd H (by simp)
                              · rw [if_neg c28] at H
                                have c28b0 : (a0 == 12) = false := beq_eq_false_iff_ne.mpr c28
                                have c28b1 : (a0 != 12) = true := bne_iff_ne.mpr c28
                                by_cases c32 : a0 = 13
                                · rw [if_pos c32] at H
                                  have c32b0 : (a0 == 13) = true := beq_iff_eq.mpr c32
                                  have c32b1 : (a0 != 13) = false := bne_eq_false_iff_eq.mpr c32
                                  clear c32
                                  obtain ⟨ji33, hji33⟩ : ∃ j_ : Int, (Int.tmod a2 (IntKind.u64.wrap (a3))) = j_ := ⟨_, rfl⟩
                                  replace H : (if 0 ≤ (ji33) then (if 0 ≤ (IntKind.u64.wrap ((IntKind.u64.wrap (a3)) - (ji33))) then (some (Go.bits .or .u64 (shl .u64 a1 (ji33)) (shr .u64 a1 (IntKind.u64.wrap ((IntKind.u64.wrap (a3)) - (ji33)))), 0)) else (none)) else (none)) = some (r1, r2) := by first | (rw [hji33] at H; exact H) | (simp only [hji33] at H ⊢; exact H)
                                  by_cases c34 : 0 ≤ (ji33)
                                  · rw [if_pos c34] at H
                                    have c34b0 := eq_true c34
                                    have c34b1 : decide (0 ≤ (ji33)) = true := decide_eq_true c34
                                    clear c34
                                    obtain ⟨ji35, hji35⟩ : ∃ j_ : Int, (shl .u64 a1 (ji33)) = j_ := ⟨_, rfl⟩
                                    replace H : (if 0 ≤ (IntKind.u64.wrap ((IntKind.u64.wrap (a3)) - (ji33))) then (some (Go.bits .or .u64 (ji35) (shr .u64 a1 (IntKind.u64.wrap ((IntKind.u64.wrap (a3)) - (ji33)))), 0)) else (none)) = some (r1, r2) := by first | (rw [hji35] at H; exact H) | (simp only [hji35] at H ⊢; exact H)
                                    have hji35_ : (IntKind.u64.wrap (a1 * 2 ^ min (ji33).toNat 64)) = ji35 := hji35
                                    have hji35z : (ji33) ≤ 64 → (IntKind.u64.wrap (a1 * 2 ^ (ji33).toNat)) = ji35 := shl_small hji35
                                    obtain ⟨ji36, hji36⟩ : ∃ j_ : Int, (IntKind.u64.wrap ((IntKind.u64.wrap (a3)) - (ji33))) = j_ := ⟨_, rfl⟩
                                    replace H : (if 0 ≤ (ji36) then (some (Go.bits .or .u64 (ji35) (shr .u64 a1 (ji36)), 0)) else (none)) = some (r1, r2) := by first | (rw [hji36] at H; exact H) | (simp only [hji36] at H ⊢; exact H)
                                    by_cases c37 : 0 ≤ (ji36)
                                    · rw [if_pos c37] at H
                                      have c37b0 := eq_true c37
                                      have c37b1 : decide (0 ≤ (ji36)) = true := decide_eq_true c37
                                      clear c37
                                      obtain ⟨ji38, hji38⟩ : ∃ j_ : Int, (shr .u64 a1 (ji36)) = j_ := ⟨_, rfl⟩
                                      replace H : (some (Go.bits .or .u64 (ji35) (ji38), 0)) = some (r1, r2) := by first | (rw [hji38] at H; exact H) | (simp only [hji38] at H ⊢; exact H)
                                      have hji38_ : (a1 / 2 ^ min (ji36).toNat 64) = ji38 := hji38
                                      have hji38z : (ji36) ≤ 64 → (a1 / 2 ^ (ji36).toNat) = ji38 := shr_small hji38
                                      simp only [Option.some.injEq, Prod.mk.injEq] at H
                                      obtain ⟨rfl, rfl⟩ := H
                                      go_wp2
                                      go_ret2
                                      exact ⟨by first | rfl | (simp; done) | (simp only [← hji33, ← hji35, ← hji36, ← hji38] <;> (first | rfl | simp)) | (simp [*]; done), by repeat (first | exact Drawn0.refl _ | apply Drawn0.step)⟩
                                    · rw [if_neg c37] at H
                                      exact absurd H (by simp)
                                  · rw [if_neg c34] at H
                                    exact absurd H (by simp)
                                · rw [if_neg c32] at H
                                  have c32b0 : (a0 == 13) = false := beq_eq_false_iff_ne.mpr c32
                                  have c32b1 : (a0 != 13) = true := bne_iff_ne.mpr c32
                                  obtain ⟨ji39, hji39⟩ : ∃ j_ : Int, (Int.tmod a2 (IntKind.u64.wrap (a3))) = j_ := ⟨_, rfl⟩
                                  replace H : (if 0 ≤ (ji39) then (if 0 ≤ (IntKind.u64.wrap ((IntKind.u64.wrap (a3)) - (ji39))) then (some (Go.bits .or .u64 (shr .u64 a1 (ji39)) (shl .u64 a1 (IntKind.u64.wrap ((IntKind.u64.wrap (a3)) - (ji39)))), 0)) else (none)) else (none)) = some (r1, r2) := by first | (rw [hji39] at H; exact H) | (simp only [hji39] at H ⊢; exact H)
                                  by_cases c40 : 0 ≤ (ji39)
                                  · rw [if_pos c40] at H
                                    have c40b0 := eq_true c40
                                    have c40b1 : decide (0 ≤ (ji39)) = true := decide_eq_true c40
                                    clear c40
                                    obtain ⟨ji41, hji41⟩ : ∃ j_ : Int, (shr .u64 a1 (ji39)) = j_ := ⟨_, rfl⟩
                                    replace H : (if 0 ≤ (IntKind.u64.wrap ((IntKind.u64.wrap (a3)) - (ji39))) then (some (Go.bits .or .u64 (ji41) (shl .u64 a1 (IntKind.u64.wrap ((IntKind.u64.wrap (a3)) - (ji39)))), 0)) else (none)) = some (r1, r2) := by first | (rw [hji41] at H; exact H) | (simp only [hji41] at H ⊢; exact H)
                                    have hji41_ : (a1 / 2 ^ min (ji39).toNat 64) = ji41 := hji41
                                    have hji41z : (ji39) ≤ 64 → (a1 / 2 ^ (ji39).toNat) = ji41 := shr_small hji41
                                    obtain ⟨ji42, hji42⟩ : ∃ j_ : Int, (IntKind.u64.wrap ((IntKind.u64.wrap (a3)) - (ji39))) = j_ := ⟨_, rfl⟩
                                    replace H : (if 0 ≤ (ji42) then (some (Go.bits .or .u64 (ji41) (shl .u64 a1 (ji42)), 0)) else (none)) = some (r1, r2) := by first | (rw [hji42] at H; exact H) | (simp only [hji42] at H ⊢; exact H)
                                    by_cases c43 : 0 ≤ (ji42)
                                    · rw [if_pos c43] at H
                                      have c43b0 := eq_true c43
                                      have c43b1 : decide (0 ≤ (ji42)) = true := decide_eq_true c43
                                      clear c43
                                      obtain ⟨ji44, hji44⟩ : ∃ j_ : Int, (shl .u64 a1 (ji42)) = j_ := ⟨_, rfl⟩
                                      replace H : (some (Go.bits .or .u64 (ji41) (ji44), 0)) = some (r1, r2) := by first | (rw [hji44] at H; exact H) | (simp only [hji44] at H ⊢; exact H)
                                      have hji44_ : (IntKind.u64.wrap (a1 * 2 ^ min (ji42).toNat 64)) = ji44 := hji44
                                      have hji44z : (ji42) ≤ 64 → (IntKind.u64.wrap (a1 * 2 ^ (ji42).toNat)) = ji44 := shl_small hji44
                                      simp only [Option.some.injEq, Prod.mk.injEq] at H
                                      obtain ⟨rfl, rfl⟩ := H
                                      go_wp2
                                      go_ret2
                                      exact ⟨by first | rfl | (simp; done) | (simp only [← hji39, ← hji41, ← hji42, ← hji44] <;> (first | rfl | simp)) | (simp [*]; done), by repeat (first | exact Drawn0.refl _ | apply Drawn0.step)⟩
                                    · rw [if_neg c43] at H
                                      exact absurd H (by simp)
                                  · rw [if_neg c40] at H
                                    exact absurd H (by simp)

end Go.Proofs.YtfhmhoefeokihaaDoor.PLowSound
