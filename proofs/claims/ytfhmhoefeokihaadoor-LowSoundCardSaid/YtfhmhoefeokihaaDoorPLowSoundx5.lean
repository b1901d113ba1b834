-- Written by a program of this session (wip/tools/myprint.py over the print of the kit).
import Derived.Test.YtfhmhoefeokihaaDoorPLowSoundx0
import Derived.Test.YtfhmhoefeokihaaDoorPLowSoundx2
import Derived.Test.YtfhmhoefeokihaaDoorPLowSoundx3
import Derived.Test.YtfhmhoefeokihaaDoorPLowSoundx4
namespace Go.Proofs.YtfhmhoefeokihaaDoor.PLowSound
open Go.Proofs.YtfhmhoefeokihaaDoor.Ext
open Go.Proofs.YtfhmhoefeokihaaDoor.Tabs
open Go.RowKit Go.Proofs.YtfhmhoefeokihaaDoorW.PrintWords Go.Proofs.YtfhmhoefeokihaaDoorW.PrintLast Go.Proofs.YtfhmhoefeokihaaDoorW.PrintMore
attribute [local go_sem] max2_int min2_int max_two min_two max_three min_three max_four min_four   -- for this text's walks alone
set_option linter.unusedVariables false
set_option linter.unusedSimpArgs false

/-! ### num_Bin: function 24 -/
mutual
def num_Bin.j0 : Nat → Int → Int → Int → Int → Int → Bool → Option (Int × Int × Bool)
  | 0, _, _, _, _, _, _ => none
  | k + 1, x0, x1, x2, x9, x10, x21 => if x21 = true then ((num_compare.f (wrap64 (x0 - 70)) x9 x10 (wrap64 (wrap32 (x9))) (wrap64 (wrap32 (x10)))).bind fun t162 => ((num_truth.f t162).bind fun t163 => (some (t163, 0, true)))) else (if x0 ≥ 81 then (num_Bin.j1 k x0 x1 x2 x9 x10 (decide (x0 ≤ 90))) else (num_Bin.j1 k x0 x1 x2 x9 x10 false))
def num_Bin.j1 : Nat → Int → Int → Int → Int → Int → Bool → Option (Int × Int × Bool)
  | 0, _, _, _, _, _, _ => none
  | k + 1, x0, x1, x2, x9, x10, x40 => if x40 = true then ((num_compare.f (wrap64 (x0 - 81)) x1 x2 (wrap64 (x1)) (wrap64 (x2))).bind fun t164 => ((num_truth.f t164).bind fun t165 => (some (t165, 0, true)))) else (if x0 ≥ 106 then (num_Bin.j2 k x0 x1 x2 x9 x10 (decide (x0 ≤ 120))) else (num_Bin.j2 k x0 x1 x2 x9 x10 false))
def num_Bin.j2 : Nat → Int → Int → Int → Int → Int → Bool → Option (Int × Int × Bool)
  | 0, _, _, _, _, _, _ => none
  | k + 1, x0, x1, x2, x9, x10, x57 => if x57 = true then ((num_reckon.f k (wrap64 (x0 - 106)) x9 x10 32).bind fun bt166 => (some ((bt166.1) % 4294967296, bt166.2, true))) else (if x0 ≥ 124 then (if x0 ≤ 138 then ((num_reckon.f k (wrap64 (x0 - 124)) x1 x2 64).bind fun bt168 => (some (bt168.1, bt168.2, true))) else (some (0, 0, false))) else (some (0, 0, false)))
end
def num_Bin.f (k : Nat) (a0 : Int) (a1 : Int) (a2 : Int) : Option (Int × Int × Bool) := if a0 ≥ 70 then (num_Bin.j0 k a0 a1 a2 ((a1) % 4294967296) ((a2) % 4294967296) (decide (a0 ≤ 79))) else (num_Bin.j0 k a0 a1 a2 ((a1) % 4294967296) ((a2) % 4294967296) false)
theorem num_Bin.mono_l : ∀ k, (∀ y0 y1 y2 y3 y4 y5, LeO (num_Bin.j0 k y0 y1 y2 y3 y4 y5) (num_Bin.j0 (k + 1) y0 y1 y2 y3 y4 y5)) ∧ (∀ y0 y1 y2 y3 y4 y5, LeO (num_Bin.j1 k y0 y1 y2 y3 y4 y5) (num_Bin.j1 (k + 1) y0 y1 y2 y3 y4 y5)) ∧ (∀ y0 y1 y2 y3 y4 y5, LeO (num_Bin.j2 k y0 y1 y2 y3 y4 y5) (num_Bin.j2 (k + 1) y0 y1 y2 y3 y4 y5))
  | 0 => ⟨fun _ _ _ _ _ _ r h => by simp [num_Bin.j0] at h, fun _ _ _ _ _ _ r h => by simp [num_Bin.j1] at h, fun _ _ _ _ _ _ r h => by simp [num_Bin.j2] at h⟩
  | k + 1 => by
    obtain ⟨ih0, ih1, ih2⟩ := num_Bin.mono_l k
    refine ⟨?_, ?_, ?_⟩
    · intro y0 y1 y2 y3 y4 y5
      unfold num_Bin.j0
      repeat' first
      | (with_reducible exact ih0 _ _ _ _ _ _)
      | (with_reducible exact ih1 _ _ _ _ _ _)
      | (with_reducible exact ih2 _ _ _ _ _ _)
      | (with_reducible exact num_reckon.mono _ _ _ _ _)
      | (with_reducible exact LeO.refl _)
      | (with_reducible exact LeO.none _)
      | (with_reducible refine LeO.ite ?_ ?_)
      | (with_reducible refine LeO.bind ?_ (fun _ => ?_))
      | exact ih0 _ _ _ _ _ _
      | exact ih1 _ _ _ _ _ _
      | exact ih2 _ _ _ _ _ _
      | exact num_reckon.mono _ _ _ _ _
      | exact LeO.none _
      | refine LeO.ite ?_ ?_
      | refine LeO.bind ?_ (fun _ => ?_)
    · intro y0 y1 y2 y3 y4 y5
      unfold num_Bin.j1
      repeat' first
      | (with_reducible exact ih0 _ _ _ _ _ _)
      | (with_reducible exact ih1 _ _ _ _ _ _)
      | (with_reducible exact ih2 _ _ _ _ _ _)
      | (with_reducible exact num_reckon.mono _ _ _ _ _)
      | (with_reducible exact LeO.refl _)
      | (with_reducible exact LeO.none _)
      | (with_reducible refine LeO.ite ?_ ?_)
      | (with_reducible refine LeO.bind ?_ (fun _ => ?_))
      | exact ih0 _ _ _ _ _ _
      | exact ih1 _ _ _ _ _ _
      | exact ih2 _ _ _ _ _ _
      | exact num_reckon.mono _ _ _ _ _
      | exact LeO.none _
      | refine LeO.ite ?_ ?_
      | refine LeO.bind ?_ (fun _ => ?_)
    · intro y0 y1 y2 y3 y4 y5
      unfold num_Bin.j2
      repeat' first
      | (with_reducible exact ih0 _ _ _ _ _ _)
      | (with_reducible exact ih1 _ _ _ _ _ _)
      | (with_reducible exact ih2 _ _ _ _ _ _)
      | (with_reducible exact num_reckon.mono _ _ _ _ _)
      | (with_reducible exact LeO.refl _)
      | (with_reducible exact LeO.none _)
      | (with_reducible refine LeO.ite ?_ ?_)
      | (with_reducible refine LeO.bind ?_ (fun _ => ?_))
      | exact ih0 _ _ _ _ _ _
      | exact ih1 _ _ _ _ _ _
      | exact ih2 _ _ _ _ _ _
      | exact num_reckon.mono _ _ _ _ _
      | exact LeO.none _
      | refine LeO.ite ?_ ?_
      | refine LeO.bind ?_ (fun _ => ?_)
theorem num_Bin.mono : ∀ a0 a1 a2 k, LeO (num_Bin.f k a0 a1 a2) (num_Bin.f (k + 1) a0 a1 a2) := by
  intro a0 a1 a2 k
  obtain ⟨ih0, ih1, ih2⟩ := num_Bin.mono_l k
  unfold num_Bin.f
  repeat' first
      | (with_reducible exact ih0 _ _ _ _ _ _)
      | (with_reducible exact ih1 _ _ _ _ _ _)
      | (with_reducible exact ih2 _ _ _ _ _ _)
      | (with_reducible exact num_reckon.mono _ _ _ _ _)
      | (with_reducible exact LeO.refl _)
      | (with_reducible exact LeO.none _)
      | (with_reducible refine LeO.ite ?_ ?_)
      | (with_reducible refine LeO.bind ?_ (fun _ => ?_))
      | exact ih0 _ _ _ _ _ _
      | exact ih1 _ _ _ _ _ _
      | exact ih2 _ _ _ _ _ _
      | exact num_reckon.mono _ _ _ _ _
      | exact LeO.none _
      | refine LeO.ite ?_ ?_
      | refine LeO.bind ?_ (fun _ => ?_)
set_option maxHeartbeats 8000000 in
set_option maxRecDepth 100000 in
theorem num_Bin.calls (k : Nat) (a0 : Int) (a1 : Int) (a2 : Int) (r1 : Int) (r2 : Int) (r3 : Bool) (w : World) (h : num_Bin.f k a0 a1 a2 = some (r1, r2, r3)) :
    Calls Tryd.prog 24 #[.int .i64 a0, .int .u64 a1, .int .u64 a2] w fun e w' => e = .returned (.tuple #[.int .u64 r1, .int .i64 r2, .bool r3]) ∧ Drawn0 w w' := by
  have H : (if a0 ≥ 70 then (num_Bin.j0 k a0 a1 a2 ((a1) % 4294967296) ((a2) % 4294967296) (decide (a0 ≤ 79))) else (num_Bin.j0 k a0 a1 a2 ((a1) % 4294967296) ((a2) % 4294967296) false)) = some (r1, r2, r3) := h
  clear h
  have HC4 := Aside0.mk H
  clear H
  go_enter Tryd.func24, Tryd.ntmps24
  go_upto_region 2 with (fail)
  go_cut [21] (fun v21 wc => ∃ (kq : Nat) (x21_3 : Bool), v21 = .bool x21_3 ∧ Aside0 (num_Bin.j0 kq a0 a1 a2 ((a1) % 4294967296) ((a2) % 4294967296) x21_3 = some (r1, r2, r3)) ∧ Aside0 (kq ≤ k) ∧ Drawn0 w wc)
  case first =>
    have H := HC4.out
    clear HC4
    by_cases c5 : a0 ≥ 70
    · rw [if_pos c5] at H
      have c5b0 : decide (70 ≤ a0) = true := decide_eq_true c5
      clear c5
      (first | rw [c5b0] | (simp only [i64_w, i32_w]; rw [c5b0]) | skip)
      have H' := Aside0.mk H
      clear H
      go_wp2
      go_meet
      case rel => exact ⟨_, (decide (a0 ≤ 79)), (by first | rfl | (simp; done) | (simp [*]; done)), H', ⟨by first | omega | exact Nat.le_refl _⟩, by repeat (first | exact Drawn0.refl _ | apply Drawn0.step)⟩
    · rw [if_neg c5] at H
      have c5b0 : decide (70 ≤ a0) = false := decide_eq_false c5
      clear c5
      (first | rw [c5b0] | (simp only [i64_w, i32_w]; rw [c5b0]) | skip)
      have H' := Aside0.mk H
      clear H
      go_wp2
      go_meet
      case rel => exact ⟨_, (false), (by first | rfl | (simp; done) | (simp [*]; done)), H', ⟨by first | omega | exact Nat.le_refl _⟩, by repeat (first | exact Drawn0.refl _ | apply Drawn0.step)⟩
  case rest =>
    clear HC4
    try clear c2
    try clear p2
    try clear c5
    try clear c5b0
    obtain ⟨kq, x21_3, rfl, HA, HJ3, ⟨mc3, rfl⟩⟩ := hcut
    cases kq with
    | zero => exact absurd HA.out (by simp [num_Bin.j0])
    | succ kj3 =>
      have H := HA.out
      clear HA
      simp only [num_Bin.j0] at H
      by_cases c6 : x21_3 = true
      · subst c6
        have H1 : ((num_compare.f (wrap64 (a0 - 70)) ((a1) % 4294967296) ((a2) % 4294967296) (wrap64 (wrap32 (((a1) % 4294967296)))) (wrap64 (wrap32 (((a2) % 4294967296))))).bind fun t162 => ((num_truth.f t162).bind fun t163 => (some (t163, 0, true)))) = some (r1, r2, r3) := by rw [if_pos rfl] at H; exact H
        clear H
        have H := H1
        clear H1
        replace H := Option.bind_eq_some_iff.mp H
        obtain ⟨t162, A70, H⟩ := H
        replace H : ((num_truth.f t162).bind fun t163 => (some (t163, 0, true))) = some (r1, r2, r3) := H
        have A7 := Aside0.mk A70
        clear A70
        replace H := Option.bind_eq_some_iff.mp H
        obtain ⟨t163, A80, H⟩ := H
        replace H : (some (t163, 0, true)) = some (r1, r2, r3) := H
        have A8 := Aside0.mk A80
        clear A80
        simp only [Option.some.injEq, Prod.mk.injEq] at H
        obtain ⟨rfl, rfl, rfl⟩ := H
        go_wp2_with (first | ((with_reducible refine gate_callee (f := 30) rfl ?_); refine goesL_ (some 38) rfl rfl Tryd.func30 (by kernel_rfl) rfl #[.int .i64 (wrap64 (a0 - 70)), .int .u64 ((a1) % 4294967296), .int .u64 ((a2) % 4294967296), .int .i64 (wrap64 (wrap32 (((a1) % 4294967296)))), .int .i64 (wrap64 (wrap32 (((a2) % 4294967296))))] rfl (by (try simp only [List.map_toArray, List.map_cons, List.map_nil]); first | done | rfl | (simp only [List.length_drop, List.length_take]; rfl)) ?_; (with_reducible refine (num_compare.calls (wrap64 (a0 - 70)) ((a1) % 4294967296) ((a2) % 4294967296) (wrap64 (wrap32 (((a1) % 4294967296)))) (wrap64 (wrap32 (((a2) % 4294967296)))) t162 _ A7.out).mono ?_); rintro e w' ⟨rfl, ⟨nd, rfl⟩⟩; refine ⟨_, rfl, ?_⟩) | ((with_reducible refine gate_callee (f := 29) rfl ?_); refine goesL_ (some 39) rfl rfl Tryd.func29 (by kernel_rfl) rfl #[.bool t162] rfl (by (try simp only [List.map_toArray, List.map_cons, List.map_nil]); first | done | rfl | (simp only [List.length_drop, List.length_take]; rfl)) ?_; (with_reducible refine (num_truth.calls t162 t163 _ A8.out).mono ?_); rintro e w' ⟨rfl, ⟨nd, rfl⟩⟩; refine ⟨_, rfl, ?_⟩))
        go_ret3
        exact ⟨by first | rfl | (simp; done) | (simp [*]; done), by repeat (first | exact Drawn0.refl _ | apply Drawn0.step)⟩
      · replace c6 := Bool.eq_false_iff.mpr c6
        subst c6
        have H1 : (if a0 ≥ 81 then (num_Bin.j1 kj3 a0 a1 a2 ((a1) % 4294967296) ((a2) % 4294967296) (decide (a0 ≤ 90))) else (num_Bin.j1 kj3 a0 a1 a2 ((a1) % 4294967296) ((a2) % 4294967296) false)) = some (r1, r2, r3) := by rw [if_neg (show ¬ (false = true) by decide)] at H; exact H
        clear H
        have H := H1
        clear H1
        have HC9 := Aside0.mk H
        clear H
        go_upto_region 4 with (fail)
        go_cut [40] (fun v40 wc => ∃ (kq : Nat) (x40_8 : Bool), v40 = .bool x40_8 ∧ Aside0 (num_Bin.j1 kq a0 a1 a2 ((a1) % 4294967296) ((a2) % 4294967296) x40_8 = some (r1, r2, r3)) ∧ Aside0 (kq ≤ kj3) ∧ Drawn0 w wc)
        case first =>
          have H := HC9.out
          clear HC9
          by_cases c10 : a0 ≥ 81
          · rw [if_pos c10] at H
            have c10b0 : decide (81 ≤ a0) = true := decide_eq_true c10
            clear c10
            (first | rw [c10b0] | (simp only [i64_w, i32_w]; rw [c10b0]) | skip)
            have H' := Aside0.mk H
            clear H
            go_wp2
            go_meet
            case rel => exact ⟨_, (decide (a0 ≤ 90)), (by first | rfl | (simp; done) | (simp [*]; done)), H', ⟨by have := HJ3.out; first | omega | exact Nat.le_refl _⟩, by repeat (first | exact Drawn0.refl _ | apply Drawn0.step)⟩
          · rw [if_neg c10] at H
            have c10b0 : decide (81 ≤ a0) = false := decide_eq_false c10
            clear c10
            (first | rw [c10b0] | (simp only [i64_w, i32_w]; rw [c10b0]) | skip)
            have H' := Aside0.mk H
            clear H
            go_wp2
            go_meet
            case rel => exact ⟨_, (false), (by first | rfl | (simp; done) | (simp [*]; done)), H', ⟨by have := HJ3.out; first | omega | exact Nat.le_refl _⟩, by repeat (first | exact Drawn0.refl _ | apply Drawn0.step)⟩
        case rest =>
          clear HC9
          try clear c1
          try clear c2
          try clear p2
          try clear c3
          try clear p3
          try clear c5
          try clear c5b0
          try clear c6
          try clear p6
          try clear c10
          try clear c10b0
          try clear p2
          obtain ⟨kq, x40_8, rfl, HA, HJ8, ⟨mc8, rfl⟩⟩ := hcut
          cases kq with
          | zero => exact absurd HA.out (by simp [num_Bin.j1])
          | succ kj8 =>
            have H := HA.out
            clear HA
            simp only [num_Bin.j1] at H
            by_cases c11 : x40_8 = true
            · subst c11
              have H1 : ((num_compare.f (wrap64 (a0 - 81)) a1 a2 (wrap64 (a1)) (wrap64 (a2))).bind fun t164 => ((num_truth.f t164).bind fun t165 => (some (t165, 0, true)))) = some (r1, r2, r3) := by rw [if_pos rfl] at H; exact H
              clear H
              have H := H1
              clear H1
              replace H := Option.bind_eq_some_iff.mp H
              obtain ⟨t164, A120, H⟩ := H
              replace H : ((num_truth.f t164).bind fun t165 => (some (t165, 0, true))) = some (r1, r2, r3) := H
              have A12 := Aside0.mk A120
              clear A120
              replace H := Option.bind_eq_some_iff.mp H
              obtain ⟨t165, A130, H⟩ := H
              replace H : (some (t165, 0, true)) = some (r1, r2, r3) := H
              have A13 := Aside0.mk A130
              clear A130
              simp only [Option.some.injEq, Prod.mk.injEq] at H
              obtain ⟨rfl, rfl, rfl⟩ := H
              go_wp2_with (first | ((with_reducible refine gate_callee (f := 30) rfl ?_); refine goesL_ (some 55) rfl rfl Tryd.func30 (by kernel_rfl) rfl #[.int .i64 (wrap64 (a0 - 81)), .int .u64 a1, .int .u64 a2, .int .i64 (wrap64 (a1)), .int .i64 (wrap64 (a2))] rfl (by (try simp only [List.map_toArray, List.map_cons, List.map_nil]); first | done | rfl | (simp only [List.length_drop, List.length_take]; rfl)) ?_; (with_reducible refine (num_compare.calls (wrap64 (a0 - 81)) a1 a2 (wrap64 (a1)) (wrap64 (a2)) t164 _ A12.out).mono ?_); rintro e w' ⟨rfl, ⟨nd, rfl⟩⟩; refine ⟨_, rfl, ?_⟩) | ((with_reducible refine gate_callee (f := 29) rfl ?_); refine goesL_ (some 56) rfl rfl Tryd.func29 (by kernel_rfl) rfl #[.bool t164] rfl (by (try simp only [List.map_toArray, List.map_cons, List.map_nil]); first | done | rfl | (simp only [List.length_drop, List.length_take]; rfl)) ?_; (with_reducible refine (num_truth.calls t164 t165 _ A13.out).mono ?_); rintro e w' ⟨rfl, ⟨nd, rfl⟩⟩; refine ⟨_, rfl, ?_⟩))
              go_ret3
              exact ⟨by first | rfl | (simp; done) | (simp [*]; done), by repeat (first | exact Drawn0.refl _ | apply Drawn0.step)⟩
            · replace c11 := Bool.eq_false_iff.mpr c11
              subst c11
              have H1 : (if a0 ≥ 106 then (num_Bin.j2 kj8 a0 a1 a2 ((a1) % 4294967296) ((a2) % 4294967296) (decide (a0 ≤ 120))) else (num_Bin.j2 kj8 a0 a1 a2 ((a1) % 4294967296) ((a2) % 4294967296) false)) = some (r1, r2, r3) := by rw [if_neg (show ¬ (false = true) by decide)] at H; exact H
              clear H
              have H := H1
              clear H1
              have HC14 := Aside0.mk H
              clear H
              go_upto_region 6 with (fail)
              go_cut [57] (fun v57 wc => ∃ (kq : Nat) (x57_13 : Bool), v57 = .bool x57_13 ∧ Aside0 (num_Bin.j2 kq a0 a1 a2 ((a1) % 4294967296) ((a2) % 4294967296) x57_13 = some (r1, r2, r3)) ∧ Aside0 (kq ≤ kj8) ∧ Drawn0 w wc)
              case first =>
                have H := HC14.out
                clear HC14
                by_cases c15 : a0 ≥ 106
                · rw [if_pos c15] at H
                  have c15b0 : decide (106 ≤ a0) = true := decide_eq_true c15
                  clear c15
                  (first | rw [c15b0] | (simp only [i64_w, i32_w]; rw [c15b0]) | skip)
                  have H' := Aside0.mk H
                  clear H
                  go_wp2
                  go_meet
                  case rel => exact ⟨_, (decide (a0 ≤ 120)), (by first | rfl | (simp; done) | (simp [*]; done)), H', ⟨by have := HJ3.out; have := HJ8.out; first | omega | exact Nat.le_refl _⟩, by repeat (first | exact Drawn0.refl _ | apply Drawn0.step)⟩
                · rw [if_neg c15] at H
                  have c15b0 : decide (106 ≤ a0) = false := decide_eq_false c15
                  clear c15
                  (first | rw [c15b0] | (simp only [i64_w, i32_w]; rw [c15b0]) | skip)
                  have H' := Aside0.mk H
                  clear H
                  go_wp2
                  go_meet
                  case rel => exact ⟨_, (false), (by first | rfl | (simp; done) | (simp [*]; done)), H', ⟨by have := HJ3.out; have := HJ8.out; first | omega | exact Nat.le_refl _⟩, by repeat (first | exact Drawn0.refl _ | apply Drawn0.step)⟩
              case rest =>
                clear HC14
                try clear c1
                try clear c2
                try clear p2
                try clear c3
                try clear p3
                try clear c5
                try clear c5b0
                try clear c6
                try clear p6
                try clear c8
                try clear c10
                try clear c10b0
                try clear c11
                try clear c15
                try clear c15b0
                try clear p2
                try clear p3
                try clear p6
                obtain ⟨kq, x57_13, rfl, HA, HJ13, ⟨mc13, rfl⟩⟩ := hcut
                cases kq with
                | zero => exact absurd HA.out (by simp [num_Bin.j2])
                | succ kj13 =>
                  have H := HA.out
                  clear HA
                  simp only [num_Bin.j2] at H
                  by_cases c16 : x57_13 = true
                  · subst c16
                    have H1 : ((num_reckon.f kj13 (wrap64 (a0 - 106)) ((a1) % 4294967296) ((a2) % 4294967296) 32).bind fun bt166 => (some ((bt166.1) % 4294967296, bt166.2, true))) = some (r1, r2, r3) := by rw [if_pos rfl] at H; exact H
                    clear H
                    have H := H1
                    clear H1
                    replace H := Option.bind_eq_some_iff.mp H
                    obtain ⟨⟨t166, t167⟩, A170, H⟩ := H
                    replace H : (some ((t166) % 4294967296, t167, true)) = some (r1, r2, r3) := H
                    have A17 := Aside0.mk A170
                    clear A170
                    simp only [Option.some.injEq, Prod.mk.injEq] at H
                    obtain ⟨rfl, rfl, rfl⟩ := H
                    go_wp2_with (first | ((with_reducible refine gate_callee (f := 31) rfl ?_); refine goesL_ (some 69) rfl rfl Tryd.func31 (by kernel_rfl) rfl #[.int .i64 (wrap64 (a0 - 106)), .int .u64 ((a1) % 4294967296), .int .u64 ((a2) % 4294967296), .int .i64 32] rfl (by (try simp only [List.map_toArray, List.map_cons, List.map_nil]); first | done | rfl | (simp only [List.length_drop, List.length_take]; rfl)) ?_; (with_reducible refine (num_reckon.calls kj13 (wrap64 (a0 - 106)) ((a1) % 4294967296) ((a2) % 4294967296) 32 t166 t167 _ A17.out).mono ?_); rintro e w' ⟨rfl, ⟨nd, rfl⟩⟩; refine ⟨_, rfl, ?_⟩))
                    go_ret3
                    exact ⟨by first | rfl | (simp; done) | (simp [*]; done), by repeat (first | exact Drawn0.refl _ | apply Drawn0.step)⟩
                  · replace c16 := Bool.eq_false_iff.mpr c16
                    subst c16
                    have H1 : (if a0 ≥ 124 then (if a0 ≤ 138 then ((num_reckon.f kj13 (wrap64 (a0 - 124)) a1 a2 64).bind fun bt168 => (some (bt168.1, bt168.2, true))) else (some (0, 0, false))) else (some (0, 0, false))) = some (r1, r2, r3) := by rw [if_neg (show ¬ (false = true) by decide)] at H; exact H
                    clear H
                    have H := H1
                    clear H1
                    by_cases c18 : a0 ≥ 124
                    · rw [if_pos c18] at H
                      have c18b0 : decide (124 ≤ a0) = true := decide_eq_true c18
                      clear c18
                      by_cases c19 : a0 ≤ 138
                      · rw [if_pos c19] at H
                        have c19b0 : decide (a0 ≤ 138) = true := decide_eq_true c19
                        clear c19
                        replace H := Option.bind_eq_some_iff.mp H
                        obtain ⟨⟨t168, t169⟩, A200, H⟩ := H
                        replace H : (some (t168, t169, true)) = some (r1, r2, r3) := H
                        have A20 := Aside0.mk A200
                        clear A200
                        simp only [Option.some.injEq, Prod.mk.injEq] at H
                        obtain ⟨rfl, rfl, rfl⟩ := H
                        go_wp2_with (first | ((with_reducible refine gate_callee (f := 31) rfl ?_); refine goesL_ (some 88) rfl rfl Tryd.func31 (by kernel_rfl) rfl #[.int .i64 (wrap64 (a0 - 124)), .int .u64 a1, .int .u64 a2, .int .i64 64] rfl (by (try simp only [List.map_toArray, List.map_cons, List.map_nil]); first | done | rfl | (simp only [List.length_drop, List.length_take]; rfl)) ?_; (with_reducible refine (num_reckon.calls kj13 (wrap64 (a0 - 124)) a1 a2 64 t168 t169 _ A20.out).mono ?_); rintro e w' ⟨rfl, ⟨nd, rfl⟩⟩; refine ⟨_, rfl, ?_⟩))
                        go_ret3
                        exact ⟨by first | rfl | (simp; done) | (simp [*]; done), by repeat (first | exact Drawn0.refl _ | apply Drawn0.step)⟩
                      · rw [if_neg c19] at H
                        have c19b0 : decide (a0 ≤ 138) = false := decide_eq_false c19
                        clear c19
                        simp only [Option.some.injEq, Prod.mk.injEq] at H
                        obtain ⟨rfl, rfl, rfl⟩ := H
                        go_wp2
                        go_ret3
                        exact ⟨by first | rfl | (simp; done) | (simp [*]; done), by repeat (first | exact Drawn0.refl _ | apply Drawn0.step)⟩
                    · rw [if_neg c18] at H
                      have c18b0 : decide (124 ≤ a0) = false := decide_eq_false c18
                      clear c18
                      simp only [Option.some.injEq, Prod.mk.injEq] at H
                      obtain ⟨rfl, rfl, rfl⟩ := H
                      go_wp2
                      go_ret3
                      exact ⟨by first | rfl | (simp; done) | (simp [*]; done), by repeat (first | exact Drawn0.refl _ | apply Drawn0.step)⟩

/-! ### trammellaw17_LowSound: function 6 -/
def trammellaw17_LowSound.j0 : Nat → Int → Int → Int → Int → Int → Int → Int → Int → Int → Option (Bool)
  | 0, _, _, _, _, _, _, _, _, _ => none
  | k + 1, x0, x1, x2, x3, x4, x5, x15, x16, x17 => (trammellaw17_some.f k (Go.bits .and .u64 x0 x17) x4).bind fun bt171 => ((trammellaw17_some.f k (Go.bits .and .u64 x1 x17) x5).bind fun bt173 => ((trammellaw17_other.f k bt171.1 bt171.2 (Go.bits .and .u64 x2 x17)).bind fun t177 => ((trammellaw17_other.f k bt173.1 bt173.2 (Go.bits .and .u64 x3 x17)).bind fun t178 => ((num_Bin.f k x16 t177 t178).bind fun bt179 => ((num_Bin.f k (wrap64 (x16 + 1)) t177 t178).bind fun bt182 => ((num_Bin.f k (wrap64 (x16 + 2)) t177 t178).bind fun bt185 => ((num_Bin.f k (wrap64 (x16 + 10)) t177 t178).bind fun bt188 => ((low_Add.f k bt171.1 bt171.2 bt173.1 bt173.2 x15).bind fun bt191 => ((low_Has.f bt191.1 bt191.2 bt179.1).bind fun t193 => (if t193 = true then ((low_Sub.f k bt171.1 bt171.2 bt173.1 bt173.2 x15).bind fun bt194 => ((low_Has.f bt194.1 bt194.2 bt182.1).bind fun t196 => (if t196 = true then ((low_Mul.f k bt171.1 bt171.2 bt173.1 bt173.2 x15).bind fun bt197 => ((low_Has.f bt197.1 bt197.2 bt185.1).bind fun t199 => (if t199 = true then ((low_And.f bt171.1 bt171.2 bt173.1 bt173.2).bind fun bt200 => ((low_Has.f bt200.1 bt200.2 (Go.bits .and .u64 t177 t178)).bind fun t202 => (if t202 = true then ((low_Or.f bt171.1 bt171.2 bt173.1 bt173.2).bind fun bt203 => ((low_Has.f bt203.1 bt203.2 (Go.bits .or .u64 t177 t178)).bind fun t205 => (if t205 = true then ((low_Xor.f bt171.1 bt171.2 bt173.1 bt173.2).bind fun bt206 => ((low_Has.f bt206.1 bt206.2 (Go.bits .xor .u64 t177 t178)).bind fun t208 => (if t208 = true then ((low_Shl.f k bt171.1 bt171.2 t178 x15).bind fun bt209 => ((low_Has.f bt209.1 bt209.2 bt188.1).bind fun t211 => (some t211))) else (some false)))) else (some false)))) else (some false)))) else (some false)))) else (some false)))) else (some false)))))))))))
def trammellaw17_LowSound.f (k : Nat) (a0 : Int) (a1 : Int) (a2 : Int) (a3 : Int) (a4 : Int) (a5 : Int) (a6 : Bool) : Option (Bool) := (trammellaw17_awake.f k).bind fun t170 => (if t170 = true then (if a6 = true then (trammellaw17_LowSound.j0 k a0 a1 a2 a3 a4 a5 64 124 18446744073709551615) else (trammellaw17_LowSound.j0 k a0 a1 a2 a3 a4 a5 32 106 4294967295)) else (some false))
theorem trammellaw17_LowSound.mono_l : ∀ k, (∀ y0 y1 y2 y3 y4 y5 y6 y7 y8, LeO (trammellaw17_LowSound.j0 k y0 y1 y2 y3 y4 y5 y6 y7 y8) (trammellaw17_LowSound.j0 (k + 1) y0 y1 y2 y3 y4 y5 y6 y7 y8))
  | 0 => fun _ _ _ _ _ _ _ _ _ r h => by simp [trammellaw17_LowSound.j0] at h
  | k + 1 => by
    have ih0 := trammellaw17_LowSound.mono_l k
    · intro y0 y1 y2 y3 y4 y5 y6 y7 y8
      unfold trammellaw17_LowSound.j0
      repeat' first
      | (with_reducible exact ih0 _ _ _ _ _ _ _ _ _)
      | (with_reducible exact low_Add.mono _ _ _ _ _ _)
      | (with_reducible exact low_Mul.mono _ _ _ _ _ _)
      | (with_reducible exact low_Shl.mono _ _ _ _ _)
      | (with_reducible exact low_Sub.mono _ _ _ _ _ _)
      | (with_reducible exact num_Bin.mono _ _ _ _)
      | (with_reducible exact trammellaw17_awake.mono _)
      | (with_reducible exact trammellaw17_other.mono _ _ _ _)
      | (with_reducible exact trammellaw17_some.mono _ _ _)
      | (with_reducible exact LeO.refl _)
      | (with_reducible exact LeO.none _)
      | (with_reducible refine LeO.ite ?_ ?_)
      | (with_reducible refine LeO.bind ?_ (fun _ => ?_))
      | exact ih0 _ _ _ _ _ _ _ _ _
      | exact low_Add.mono _ _ _ _ _ _
      | exact low_Mul.mono _ _ _ _ _ _
      | exact low_Shl.mono _ _ _ _ _
      | exact low_Sub.mono _ _ _ _ _ _
      | exact num_Bin.mono _ _ _ _
      | exact trammellaw17_awake.mono _
      | exact trammellaw17_other.mono _ _ _ _
      | exact trammellaw17_some.mono _ _ _
      | exact LeO.none _
      | refine LeO.ite ?_ ?_
      | refine LeO.bind ?_ (fun _ => ?_)
theorem trammellaw17_LowSound.mono : ∀ a0 a1 a2 a3 a4 a5 a6 k, LeO (trammellaw17_LowSound.f k a0 a1 a2 a3 a4 a5 a6) (trammellaw17_LowSound.f (k + 1) a0 a1 a2 a3 a4 a5 a6) := by
  intro a0 a1 a2 a3 a4 a5 a6 k
  have ih0 := trammellaw17_LowSound.mono_l k
  unfold trammellaw17_LowSound.f
  repeat' first
      | (with_reducible exact ih0 _ _ _ _ _ _ _ _ _)
      | (with_reducible exact low_Add.mono _ _ _ _ _ _)
      | (with_reducible exact low_Mul.mono _ _ _ _ _ _)
      | (with_reducible exact low_Shl.mono _ _ _ _ _)
      | (with_reducible exact low_Sub.mono _ _ _ _ _ _)
      | (with_reducible exact num_Bin.mono _ _ _ _)
      | (with_reducible exact trammellaw17_awake.mono _)
      | (with_reducible exact trammellaw17_other.mono _ _ _ _)
      | (with_reducible exact trammellaw17_some.mono _ _ _)
      | (with_reducible exact LeO.refl _)
      | (with_reducible exact LeO.none _)
      | (with_reducible refine LeO.ite ?_ ?_)
      | (with_reducible refine LeO.bind ?_ (fun _ => ?_))
      | exact ih0 _ _ _ _ _ _ _ _ _
      | exact low_Add.mono _ _ _ _ _ _
      | exact low_Mul.mono _ _ _ _ _ _
      | exact low_Shl.mono _ _ _ _ _
      | exact low_Sub.mono _ _ _ _ _ _
      | exact num_Bin.mono _ _ _ _
      | exact trammellaw17_awake.mono _
      | exact trammellaw17_other.mono _ _ _ _
      | exact trammellaw17_some.mono _ _ _
      | exact LeO.none _
      | refine LeO.ite ?_ ?_
      | refine LeO.bind ?_ (fun _ => ?_)
def trammellaw17_LowSound.T7 : Bool × List (List Nat × List Nat) := (true, [([], []), ([], []), ([], []), ([1, 2], [1, 2]), ([0, 3], [0, 3]), ([], []), ([], []), ([], []), ([6, 7], [6, 7]), ([5, 8, 4], [5, 8]), ([4, 9, 0, 1, 2, 3, 4], [4]), ([9, 10, 0, 1, 2, 3, 4, 5, 6, 7, 8, 9, 10], [9])])
def trammellaw17_LowSound.B7 : List Nat := [0, 0, 0, 6, 15, 0, 0, 0, 192, 511, 1023, 2047]
theorem trammellaw17_LowSound.tab7 : rtab .any (opsOf Tryd.f6 7) = trammellaw17_LowSound.T7 := by kernel_rfl
theorem trammellaw17_LowSound.bits7 : waitsOk trammellaw17_LowSound.T7.2 trammellaw17_LowSound.B7 = true := by kernel_rfl
set_option maxHeartbeats 8000000 in
set_option maxRecDepth 100000 in
theorem trammellaw17_LowSound.calls (k : Nat) (a0 : Int) (a1 : Int) (a2 : Int) (a3 : Int) (a4 : Int) (a5 : Int) (a6 : Bool) (r : Bool) (w : World) (hT : Tabs w) (hr : r = true) (h : trammellaw17_LowSound.f k a0 a1 a2 a3 a4 a5 a6 = some r) :
    Calls Tryd.prog 6 #[.int .u64 a0, .int .u64 a1, .int .u64 a2, .int .u64 a3, .int .u8 a4, .int .u8 a5, .bool a6] w fun e w' => e = .returned (.bool r) ∧ Below w.heap.size w w' := by
  have hu25 := Tryd.underlying25
  have HB := Aside0.mk (Below.refl w.heap.size w)
  have HT := Aside0.mk hT
  clear hT
  have H : ((trammellaw17_awake.f k).bind fun t170 => (if t170 = true then (if a6 = true then (trammellaw17_LowSound.j0 k a0 a1 a2 a3 a4 a5 64 124 18446744073709551615) else (trammellaw17_LowSound.j0 k a0 a1 a2 a3 a4 a5 32 106 4294967295)) else (some false))) = some r := h
  clear h
  replace H := Option.bind_eq_some_iff.mp H
  obtain ⟨t170, A80, H⟩ := H
  replace H : (if t170 = true then (if a6 = true then (trammellaw17_LowSound.j0 k a0 a1 a2 a3 a4 a5 64 124 18446744073709551615) else (trammellaw17_LowSound.j0 k a0 a1 a2 a3 a4 a5 32 106 4294967295)) else (some false)) = some r := H
  have A8 := Aside0.mk A80
  clear A80
  by_cases c9 : t170 = true
  · subst c9
    have H1 : (if a6 = true then (trammellaw17_LowSound.j0 k a0 a1 a2 a3 a4 a5 64 124 18446744073709551615) else (trammellaw17_LowSound.j0 k a0 a1 a2 a3 a4 a5 32 106 4294967295)) = some r := by rw [if_pos rfl] at H; exact H
    clear H
    have H := H1
    clear H1
    have HC10 := Aside0.mk H
    clear H
    go_enter Tryd.func6, Tryd.ntmps6
    go_upto_if 36 with (first | ((with_reducible refine gate_callee (f := 7) rfl ?_); refine goesL_ (some 34) rfl rfl Tryd.func7 (by kernel_rfl) rfl #[] rfl (by (try simp only [List.map_toArray, List.map_cons, List.map_nil]); first | done | rfl | (simp only [List.length_drop, List.length_take]; rfl)) ?_; (with_reducible refine (trammellaw17_awake.calls k  true _ A8.out).mono ?_); rintro e w11 ⟨rfl, hb⟩; refine ⟨_, rfl, ?_⟩; have n0_ := Aside0.mk (below_step (by repeat (first | (with_reducible first | exact HB.out | apply below_alloc | apply pw_below_drewN | apply below_drew1) | exact HB.out)) hb); clear HB; have HB := n0_; clear n0_; (try clear hb); (try clear hb2); (try clear hk); (try clear hi)))
    (try simp only [Act.put, List.setIfInBounds_toArray, List.set_cons_zero, List.set_cons_succ])
    go_cut [15, 16, 17] (fun v15 v16 v17 wc => ∃ (kq : Nat) (x15_9 : Int) (x16_9 : Int) (x17_9 : Int), v15 = .int .i64 x15_9 ∧ v16 = .int .i64 x16_9 ∧ v17 = .int .u64 x17_9 ∧ Aside0 (trammellaw17_LowSound.j0 kq a0 a1 a2 a3 a4 a5 x15_9 x16_9 x17_9 = some r) ∧ Aside0 (kq ≤ k) ∧ Aside0 (Below w.heap.size w wc))
    case first =>
      have H := HC10.out
      clear HC10
      by_cases c12 : a6 = true
      · subst c12
        have H1 : (trammellaw17_LowSound.j0 k a0 a1 a2 a3 a4 a5 64 124 18446744073709551615) = some r := by rw [if_pos rfl] at H; exact H
        clear H
        have H := H1
        clear H1
        have H' := Aside0.mk H
        clear H
        go_wp2
        go_meet
        case rel => exact ⟨_, (64), (124), (18446744073709551615), (by first | rfl | (simp; done) | (simp [*]; done)), (by first | rfl | (simp; done) | (simp [*]; done)), (by first | rfl | (simp; done) | (simp [*]; done)), H', ⟨by first | omega | exact Nat.le_refl _⟩, ⟨by repeat (first | (with_reducible first | exact HB.out | apply below_alloc | apply pw_below_drewN | apply below_drew1) | exact HB.out)⟩⟩
      · replace c12 := Bool.eq_false_iff.mpr c12
        subst c12
        have H1 : (trammellaw17_LowSound.j0 k a0 a1 a2 a3 a4 a5 32 106 4294967295) = some r := by rw [if_neg (show ¬ (false = true) by decide)] at H; exact H
        clear H
        have H := H1
        clear H1
        have H' := Aside0.mk H
        clear H
        go_wp2
        go_meet
        case rel => exact ⟨_, (32), (106), (4294967295), (by first | rfl | (simp; done) | (simp [*]; done)), (by first | rfl | (simp; done) | (simp [*]; done)), (by first | rfl | (simp; done) | (simp [*]; done)), H', ⟨by first | omega | exact Nat.le_refl _⟩, ⟨by repeat (first | (with_reducible first | exact HB.out | apply below_alloc | apply pw_below_drewN | apply below_drew1) | exact HB.out)⟩⟩
    case rest =>
      clear HC10
      try clear c1
      try clear p2
      try clear c6
      try clear c7
      try clear c9
      try clear c12
      obtain ⟨kq, x15_9, x16_9, x17_9, rfl, rfl, rfl, HA, HJ9, HB⟩ := hcut
      cases kq with
      | zero => exact absurd HA.out (by simp [trammellaw17_LowSound.j0])
      | succ kj9 =>
        have H := HA.out
        clear HA
        simp only [trammellaw17_LowSound.j0] at H
        replace H := Option.bind_eq_some_iff.mp H
        obtain ⟨⟨t171, t172⟩, A130, H⟩ := H
        replace H : ((trammellaw17_some.f kj9 (Go.bits .and .u64 a1 x17_9) a5).bind fun bt173 => ((trammellaw17_other.f kj9 t171 t172 (Go.bits .and .u64 a2 x17_9)).bind fun t177 => ((trammellaw17_other.f kj9 bt173.1 bt173.2 (Go.bits .and .u64 a3 x17_9)).bind fun t178 => ((num_Bin.f kj9 x16_9 t177 t178).bind fun bt179 => ((num_Bin.f kj9 (wrap64 (x16_9 + 1)) t177 t178).bind fun bt182 => ((num_Bin.f kj9 (wrap64 (x16_9 + 2)) t177 t178).bind fun bt185 => ((num_Bin.f kj9 (wrap64 (x16_9 + 10)) t177 t178).bind fun bt188 => ((low_Add.f kj9 t171 t172 bt173.1 bt173.2 x15_9).bind fun bt191 => ((low_Has.f bt191.1 bt191.2 bt179.1).bind fun t193 => (if t193 = true then ((low_Sub.f kj9 t171 t172 bt173.1 bt173.2 x15_9).bind fun bt194 => ((low_Has.f bt194.1 bt194.2 bt182.1).bind fun t196 => (if t196 = true then ((low_Mul.f kj9 t171 t172 bt173.1 bt173.2 x15_9).bind fun bt197 => ((low_Has.f bt197.1 bt197.2 bt185.1).bind fun t199 => (if t199 = true then ((low_And.f t171 t172 bt173.1 bt173.2).bind fun bt200 => ((low_Has.f bt200.1 bt200.2 (Go.bits .and .u64 t177 t178)).bind fun t202 => (if t202 = true then ((low_Or.f t171 t172 bt173.1 bt173.2).bind fun bt203 => ((low_Has.f bt203.1 bt203.2 (Go.bits .or .u64 t177 t178)).bind fun t205 => (if t205 = true then ((low_Xor.f t171 t172 bt173.1 bt173.2).bind fun bt206 => ((low_Has.f bt206.1 bt206.2 (Go.bits .xor .u64 t177 t178)).bind fun t208 => (if t208 = true then ((low_Shl.f kj9 t171 t172 t178 x15_9).bind fun bt209 => ((low_Has.f bt209.1 bt209.2 bt188.1).bind fun t211 => (some t211))) else (some false)))) else (some false)))) else (some false)))) else (some false)))) else (some false)))) else (some false))))))))))) = some r := H
        have A13 := Aside0.mk A130
        clear A130
        replace H := Option.bind_eq_some_iff.mp H
        obtain ⟨⟨t173, t174⟩, A140, H⟩ := H
        replace H : ((trammellaw17_other.f kj9 t171 t172 (Go.bits .and .u64 a2 x17_9)).bind fun t177 => ((trammellaw17_other.f kj9 t173 t174 (Go.bits .and .u64 a3 x17_9)).bind fun t178 => ((num_Bin.f kj9 x16_9 t177 t178).bind fun bt179 => ((num_Bin.f kj9 (wrap64 (x16_9 + 1)) t177 t178).bind fun bt182 => ((num_Bin.f kj9 (wrap64 (x16_9 + 2)) t177 t178).bind fun bt185 => ((num_Bin.f kj9 (wrap64 (x16_9 + 10)) t177 t178).bind fun bt188 => ((low_Add.f kj9 t171 t172 t173 t174 x15_9).bind fun bt191 => ((low_Has.f bt191.1 bt191.2 bt179.1).bind fun t193 => (if t193 = true then ((low_Sub.f kj9 t171 t172 t173 t174 x15_9).bind fun bt194 => ((low_Has.f bt194.1 bt194.2 bt182.1).bind fun t196 => (if t196 = true then ((low_Mul.f kj9 t171 t172 t173 t174 x15_9).bind fun bt197 => ((low_Has.f bt197.1 bt197.2 bt185.1).bind fun t199 => (if t199 = true then ((low_And.f t171 t172 t173 t174).bind fun bt200 => ((low_Has.f bt200.1 bt200.2 (Go.bits .and .u64 t177 t178)).bind fun t202 => (if t202 = true then ((low_Or.f t171 t172 t173 t174).bind fun bt203 => ((low_Has.f bt203.1 bt203.2 (Go.bits .or .u64 t177 t178)).bind fun t205 => (if t205 = true then ((low_Xor.f t171 t172 t173 t174).bind fun bt206 => ((low_Has.f bt206.1 bt206.2 (Go.bits .xor .u64 t177 t178)).bind fun t208 => (if t208 = true then ((low_Shl.f kj9 t171 t172 t178 x15_9).bind fun bt209 => ((low_Has.f bt209.1 bt209.2 bt188.1).bind fun t211 => (some t211))) else (some false)))) else (some false)))) else (some false)))) else (some false)))) else (some false)))) else (some false)))))))))) = some r := H
        have A14 := Aside0.mk A140
        clear A140
        replace H := Option.bind_eq_some_iff.mp H
        obtain ⟨t177, A150, H⟩ := H
        replace H : ((trammellaw17_other.f kj9 t173 t174 (Go.bits .and .u64 a3 x17_9)).bind fun t178 => ((num_Bin.f kj9 x16_9 t177 t178).bind fun bt179 => ((num_Bin.f kj9 (wrap64 (x16_9 + 1)) t177 t178).bind fun bt182 => ((num_Bin.f kj9 (wrap64 (x16_9 + 2)) t177 t178).bind fun bt185 => ((num_Bin.f kj9 (wrap64 (x16_9 + 10)) t177 t178).bind fun bt188 => ((low_Add.f kj9 t171 t172 t173 t174 x15_9).bind fun bt191 => ((low_Has.f bt191.1 bt191.2 bt179.1).bind fun t193 => (if t193 = true then ((low_Sub.f kj9 t171 t172 t173 t174 x15_9).bind fun bt194 => ((low_Has.f bt194.1 bt194.2 bt182.1).bind fun t196 => (if t196 = true then ((low_Mul.f kj9 t171 t172 t173 t174 x15_9).bind fun bt197 => ((low_Has.f bt197.1 bt197.2 bt185.1).bind fun t199 => (if t199 = true then ((low_And.f t171 t172 t173 t174).bind fun bt200 => ((low_Has.f bt200.1 bt200.2 (Go.bits .and .u64 t177 t178)).bind fun t202 => (if t202 = true then ((low_Or.f t171 t172 t173 t174).bind fun bt203 => ((low_Has.f bt203.1 bt203.2 (Go.bits .or .u64 t177 t178)).bind fun t205 => (if t205 = true then ((low_Xor.f t171 t172 t173 t174).bind fun bt206 => ((low_Has.f bt206.1 bt206.2 (Go.bits .xor .u64 t177 t178)).bind fun t208 => (if t208 = true then ((low_Shl.f kj9 t171 t172 t178 x15_9).bind fun bt209 => ((low_Has.f bt209.1 bt209.2 bt188.1).bind fun t211 => (some t211))) else (some false)))) else (some false)))) else (some false)))) else (some false)))) else (some false)))) else (some false))))))))) = some r := H
        have A15 := Aside0.mk A150
        clear A150
        replace H := Option.bind_eq_some_iff.mp H
        obtain ⟨t178, A160, H⟩ := H
        replace H : ((num_Bin.f kj9 x16_9 t177 t178).bind fun bt179 => ((num_Bin.f kj9 (wrap64 (x16_9 + 1)) t177 t178).bind fun bt182 => ((num_Bin.f kj9 (wrap64 (x16_9 + 2)) t177 t178).bind fun bt185 => ((num_Bin.f kj9 (wrap64 (x16_9 + 10)) t177 t178).bind fun bt188 => ((low_Add.f kj9 t171 t172 t173 t174 x15_9).bind fun bt191 => ((low_Has.f bt191.1 bt191.2 bt179.1).bind fun t193 => (if t193 = true then ((low_Sub.f kj9 t171 t172 t173 t174 x15_9).bind fun bt194 => ((low_Has.f bt194.1 bt194.2 bt182.1).bind fun t196 => (if t196 = true then ((low_Mul.f kj9 t171 t172 t173 t174 x15_9).bind fun bt197 => ((low_Has.f bt197.1 bt197.2 bt185.1).bind fun t199 => (if t199 = true then ((low_And.f t171 t172 t173 t174).bind fun bt200 => ((low_Has.f bt200.1 bt200.2 (Go.bits .and .u64 t177 t178)).bind fun t202 => (if t202 = true then ((low_Or.f t171 t172 t173 t174).bind fun bt203 => ((low_Has.f bt203.1 bt203.2 (Go.bits .or .u64 t177 t178)).bind fun t205 => (if t205 = true then ((low_Xor.f t171 t172 t173 t174).bind fun bt206 => ((low_Has.f bt206.1 bt206.2 (Go.bits .xor .u64 t177 t178)).bind fun t208 => (if t208 = true then ((low_Shl.f kj9 t171 t172 t178 x15_9).bind fun bt209 => ((low_Has.f bt209.1 bt209.2 bt188.1).bind fun t211 => (some t211))) else (some false)))) else (some false)))) else (some false)))) else (some false)))) else (some false)))) else (some false)))))))) = some r := H
        have A16 := Aside0.mk A160
        clear A160
        replace H := Option.bind_eq_some_iff.mp H
        obtain ⟨⟨t179, t180, t181⟩, A170, H⟩ := H
        replace H : ((num_Bin.f kj9 (wrap64 (x16_9 + 1)) t177 t178).bind fun bt182 => ((num_Bin.f kj9 (wrap64 (x16_9 + 2)) t177 t178).bind fun bt185 => ((num_Bin.f kj9 (wrap64 (x16_9 + 10)) t177 t178).bind fun bt188 => ((low_Add.f kj9 t171 t172 t173 t174 x15_9).bind fun bt191 => ((low_Has.f bt191.1 bt191.2 t179).bind fun t193 => (if t193 = true then ((low_Sub.f kj9 t171 t172 t173 t174 x15_9).bind fun bt194 => ((low_Has.f bt194.1 bt194.2 bt182.1).bind fun t196 => (if t196 = true then ((low_Mul.f kj9 t171 t172 t173 t174 x15_9).bind fun bt197 => ((low_Has.f bt197.1 bt197.2 bt185.1).bind fun t199 => (if t199 = true then ((low_And.f t171 t172 t173 t174).bind fun bt200 => ((low_Has.f bt200.1 bt200.2 (Go.bits .and .u64 t177 t178)).bind fun t202 => (if t202 = true then ((low_Or.f t171 t172 t173 t174).bind fun bt203 => ((low_Has.f bt203.1 bt203.2 (Go.bits .or .u64 t177 t178)).bind fun t205 => (if t205 = true then ((low_Xor.f t171 t172 t173 t174).bind fun bt206 => ((low_Has.f bt206.1 bt206.2 (Go.bits .xor .u64 t177 t178)).bind fun t208 => (if t208 = true then ((low_Shl.f kj9 t171 t172 t178 x15_9).bind fun bt209 => ((low_Has.f bt209.1 bt209.2 bt188.1).bind fun t211 => (some t211))) else (some false)))) else (some false)))) else (some false)))) else (some false)))) else (some false)))) else (some false))))))) = some r := H
        have A17 := Aside0.mk A170
        clear A170
        replace H := Option.bind_eq_some_iff.mp H
        obtain ⟨⟨t182, t183, t184⟩, A180, H⟩ := H
        replace H : ((num_Bin.f kj9 (wrap64 (x16_9 + 2)) t177 t178).bind fun bt185 => ((num_Bin.f kj9 (wrap64 (x16_9 + 10)) t177 t178).bind fun bt188 => ((low_Add.f kj9 t171 t172 t173 t174 x15_9).bind fun bt191 => ((low_Has.f bt191.1 bt191.2 t179).bind fun t193 => (if t193 = true then ((low_Sub.f kj9 t171 t172 t173 t174 x15_9).bind fun bt194 => ((low_Has.f bt194.1 bt194.2 t182).bind fun t196 => (if t196 = true then ((low_Mul.f kj9 t171 t172 t173 t174 x15_9).bind fun bt197 => ((low_Has.f bt197.1 bt197.2 bt185.1).bind fun t199 => (if t199 = true then ((low_And.f t171 t172 t173 t174).bind fun bt200 => ((low_Has.f bt200.1 bt200.2 (Go.bits .and .u64 t177 t178)).bind fun t202 => (if t202 = true then ((low_Or.f t171 t172 t173 t174).bind fun bt203 => ((low_Has.f bt203.1 bt203.2 (Go.bits .or .u64 t177 t178)).bind fun t205 => (if t205 = true then ((low_Xor.f t171 t172 t173 t174).bind fun bt206 => ((low_Has.f bt206.1 bt206.2 (Go.bits .xor .u64 t177 t178)).bind fun t208 => (if t208 = true then ((low_Shl.f kj9 t171 t172 t178 x15_9).bind fun bt209 => ((low_Has.f bt209.1 bt209.2 bt188.1).bind fun t211 => (some t211))) else (some false)))) else (some false)))) else (some false)))) else (some false)))) else (some false)))) else (some false)))))) = some r := H
        have A18 := Aside0.mk A180
        clear A180
        replace H := Option.bind_eq_some_iff.mp H
        obtain ⟨⟨t185, t186, t187⟩, A190, H⟩ := H
        replace H : ((num_Bin.f kj9 (wrap64 (x16_9 + 10)) t177 t178).bind fun bt188 => ((low_Add.f kj9 t171 t172 t173 t174 x15_9).bind fun bt191 => ((low_Has.f bt191.1 bt191.2 t179).bind fun t193 => (if t193 = true then ((low_Sub.f kj9 t171 t172 t173 t174 x15_9).bind fun bt194 => ((low_Has.f bt194.1 bt194.2 t182).bind fun t196 => (if t196 = true then ((low_Mul.f kj9 t171 t172 t173 t174 x15_9).bind fun bt197 => ((low_Has.f bt197.1 bt197.2 t185).bind fun t199 => (if t199 = true then ((low_And.f t171 t172 t173 t174).bind fun bt200 => ((low_Has.f bt200.1 bt200.2 (Go.bits .and .u64 t177 t178)).bind fun t202 => (if t202 = true then ((low_Or.f t171 t172 t173 t174).bind fun bt203 => ((low_Has.f bt203.1 bt203.2 (Go.bits .or .u64 t177 t178)).bind fun t205 => (if t205 = true then ((low_Xor.f t171 t172 t173 t174).bind fun bt206 => ((low_Has.f bt206.1 bt206.2 (Go.bits .xor .u64 t177 t178)).bind fun t208 => (if t208 = true then ((low_Shl.f kj9 t171 t172 t178 x15_9).bind fun bt209 => ((low_Has.f bt209.1 bt209.2 bt188.1).bind fun t211 => (some t211))) else (some false)))) else (some false)))) else (some false)))) else (some false)))) else (some false)))) else (some false))))) = some r := H
        have A19 := Aside0.mk A190
        clear A190
        replace H := Option.bind_eq_some_iff.mp H
        obtain ⟨⟨t188, t189, t190⟩, A200, H⟩ := H
        replace H : ((low_Add.f kj9 t171 t172 t173 t174 x15_9).bind fun bt191 => ((low_Has.f bt191.1 bt191.2 t179).bind fun t193 => (if t193 = true then ((low_Sub.f kj9 t171 t172 t173 t174 x15_9).bind fun bt194 => ((low_Has.f bt194.1 bt194.2 t182).bind fun t196 => (if t196 = true then ((low_Mul.f kj9 t171 t172 t173 t174 x15_9).bind fun bt197 => ((low_Has.f bt197.1 bt197.2 t185).bind fun t199 => (if t199 = true then ((low_And.f t171 t172 t173 t174).bind fun bt200 => ((low_Has.f bt200.1 bt200.2 (Go.bits .and .u64 t177 t178)).bind fun t202 => (if t202 = true then ((low_Or.f t171 t172 t173 t174).bind fun bt203 => ((low_Has.f bt203.1 bt203.2 (Go.bits .or .u64 t177 t178)).bind fun t205 => (if t205 = true then ((low_Xor.f t171 t172 t173 t174).bind fun bt206 => ((low_Has.f bt206.1 bt206.2 (Go.bits .xor .u64 t177 t178)).bind fun t208 => (if t208 = true then ((low_Shl.f kj9 t171 t172 t178 x15_9).bind fun bt209 => ((low_Has.f bt209.1 bt209.2 t188).bind fun t211 => (some t211))) else (some false)))) else (some false)))) else (some false)))) else (some false)))) else (some false)))) else (some false)))) = some r := H
        have A20 := Aside0.mk A200
        clear A200
        replace H := Option.bind_eq_some_iff.mp H
        obtain ⟨⟨t191, t192⟩, A210, H⟩ := H
        replace H : ((low_Has.f t191 t192 t179).bind fun t193 => (if t193 = true then ((low_Sub.f kj9 t171 t172 t173 t174 x15_9).bind fun bt194 => ((low_Has.f bt194.1 bt194.2 t182).bind fun t196 => (if t196 = true then ((low_Mul.f kj9 t171 t172 t173 t174 x15_9).bind fun bt197 => ((low_Has.f bt197.1 bt197.2 t185).bind fun t199 => (if t199 = true then ((low_And.f t171 t172 t173 t174).bind fun bt200 => ((low_Has.f bt200.1 bt200.2 (Go.bits .and .u64 t177 t178)).bind fun t202 => (if t202 = true then ((low_Or.f t171 t172 t173 t174).bind fun bt203 => ((low_Has.f bt203.1 bt203.2 (Go.bits .or .u64 t177 t178)).bind fun t205 => (if t205 = true then ((low_Xor.f t171 t172 t173 t174).bind fun bt206 => ((low_Has.f bt206.1 bt206.2 (Go.bits .xor .u64 t177 t178)).bind fun t208 => (if t208 = true then ((low_Shl.f kj9 t171 t172 t178 x15_9).bind fun bt209 => ((low_Has.f bt209.1 bt209.2 t188).bind fun t211 => (some t211))) else (some false)))) else (some false)))) else (some false)))) else (some false)))) else (some false)))) else (some false))) = some r := H
        have A21 := Aside0.mk A210
        clear A210
        replace H := Option.bind_eq_some_iff.mp H
        obtain ⟨t193, A220, H⟩ := H
        replace H : (if t193 = true then ((low_Sub.f kj9 t171 t172 t173 t174 x15_9).bind fun bt194 => ((low_Has.f bt194.1 bt194.2 t182).bind fun t196 => (if t196 = true then ((low_Mul.f kj9 t171 t172 t173 t174 x15_9).bind fun bt197 => ((low_Has.f bt197.1 bt197.2 t185).bind fun t199 => (if t199 = true then ((low_And.f t171 t172 t173 t174).bind fun bt200 => ((low_Has.f bt200.1 bt200.2 (Go.bits .and .u64 t177 t178)).bind fun t202 => (if t202 = true then ((low_Or.f t171 t172 t173 t174).bind fun bt203 => ((low_Has.f bt203.1 bt203.2 (Go.bits .or .u64 t177 t178)).bind fun t205 => (if t205 = true then ((low_Xor.f t171 t172 t173 t174).bind fun bt206 => ((low_Has.f bt206.1 bt206.2 (Go.bits .xor .u64 t177 t178)).bind fun t208 => (if t208 = true then ((low_Shl.f kj9 t171 t172 t178 x15_9).bind fun bt209 => ((low_Has.f bt209.1 bt209.2 t188).bind fun t211 => (some t211))) else (some false)))) else (some false)))) else (some false)))) else (some false)))) else (some false)))) else (some false)) = some r := H
        have A22 := Aside0.mk A220
        clear A220
        by_cases c23 : t193 = true
        · subst c23
          have H1 : ((low_Sub.f kj9 t171 t172 t173 t174 x15_9).bind fun bt194 => ((low_Has.f bt194.1 bt194.2 t182).bind fun t196 => (if t196 = true then ((low_Mul.f kj9 t171 t172 t173 t174 x15_9).bind fun bt197 => ((low_Has.f bt197.1 bt197.2 t185).bind fun t199 => (if t199 = true then ((low_And.f t171 t172 t173 t174).bind fun bt200 => ((low_Has.f bt200.1 bt200.2 (Go.bits .and .u64 t177 t178)).bind fun t202 => (if t202 = true then ((low_Or.f t171 t172 t173 t174).bind fun bt203 => ((low_Has.f bt203.1 bt203.2 (Go.bits .or .u64 t177 t178)).bind fun t205 => (if t205 = true then ((low_Xor.f t171 t172 t173 t174).bind fun bt206 => ((low_Has.f bt206.1 bt206.2 (Go.bits .xor .u64 t177 t178)).bind fun t208 => (if t208 = true then ((low_Shl.f kj9 t171 t172 t178 x15_9).bind fun bt209 => ((low_Has.f bt209.1 bt209.2 t188).bind fun t211 => (some t211))) else (some false)))) else (some false)))) else (some false)))) else (some false)))) else (some false)))) = some r := by rw [if_pos rfl] at H; exact H
          clear H
          have H := H1
          clear H1
          replace H := Option.bind_eq_some_iff.mp H
          obtain ⟨⟨t194, t195⟩, A240, H⟩ := H
          replace H : ((low_Has.f t194 t195 t182).bind fun t196 => (if t196 = true then ((low_Mul.f kj9 t171 t172 t173 t174 x15_9).bind fun bt197 => ((low_Has.f bt197.1 bt197.2 t185).bind fun t199 => (if t199 = true then ((low_And.f t171 t172 t173 t174).bind fun bt200 => ((low_Has.f bt200.1 bt200.2 (Go.bits .and .u64 t177 t178)).bind fun t202 => (if t202 = true then ((low_Or.f t171 t172 t173 t174).bind fun bt203 => ((low_Has.f bt203.1 bt203.2 (Go.bits .or .u64 t177 t178)).bind fun t205 => (if t205 = true then ((low_Xor.f t171 t172 t173 t174).bind fun bt206 => ((low_Has.f bt206.1 bt206.2 (Go.bits .xor .u64 t177 t178)).bind fun t208 => (if t208 = true then ((low_Shl.f kj9 t171 t172 t178 x15_9).bind fun bt209 => ((low_Has.f bt209.1 bt209.2 t188).bind fun t211 => (some t211))) else (some false)))) else (some false)))) else (some false)))) else (some false)))) else (some false))) = some r := H
          have A24 := Aside0.mk A240
          clear A240
          replace H := Option.bind_eq_some_iff.mp H
          obtain ⟨t196, A250, H⟩ := H
          replace H : (if t196 = true then ((low_Mul.f kj9 t171 t172 t173 t174 x15_9).bind fun bt197 => ((low_Has.f bt197.1 bt197.2 t185).bind fun t199 => (if t199 = true then ((low_And.f t171 t172 t173 t174).bind fun bt200 => ((low_Has.f bt200.1 bt200.2 (Go.bits .and .u64 t177 t178)).bind fun t202 => (if t202 = true then ((low_Or.f t171 t172 t173 t174).bind fun bt203 => ((low_Has.f bt203.1 bt203.2 (Go.bits .or .u64 t177 t178)).bind fun t205 => (if t205 = true then ((low_Xor.f t171 t172 t173 t174).bind fun bt206 => ((low_Has.f bt206.1 bt206.2 (Go.bits .xor .u64 t177 t178)).bind fun t208 => (if t208 = true then ((low_Shl.f kj9 t171 t172 t178 x15_9).bind fun bt209 => ((low_Has.f bt209.1 bt209.2 t188).bind fun t211 => (some t211))) else (some false)))) else (some false)))) else (some false)))) else (some false)))) else (some false)) = some r := H
          have A25 := Aside0.mk A250
          clear A250
          by_cases c26 : t196 = true
          · subst c26
            have H1 : ((low_Mul.f kj9 t171 t172 t173 t174 x15_9).bind fun bt197 => ((low_Has.f bt197.1 bt197.2 t185).bind fun t199 => (if t199 = true then ((low_And.f t171 t172 t173 t174).bind fun bt200 => ((low_Has.f bt200.1 bt200.2 (Go.bits .and .u64 t177 t178)).bind fun t202 => (if t202 = true then ((low_Or.f t171 t172 t173 t174).bind fun bt203 => ((low_Has.f bt203.1 bt203.2 (Go.bits .or .u64 t177 t178)).bind fun t205 => (if t205 = true then ((low_Xor.f t171 t172 t173 t174).bind fun bt206 => ((low_Has.f bt206.1 bt206.2 (Go.bits .xor .u64 t177 t178)).bind fun t208 => (if t208 = true then ((low_Shl.f kj9 t171 t172 t178 x15_9).bind fun bt209 => ((low_Has.f bt209.1 bt209.2 t188).bind fun t211 => (some t211))) else (some false)))) else (some false)))) else (some false)))) else (some false)))) = some r := by rw [if_pos rfl] at H; exact H
            clear H
            have H := H1
            clear H1
            replace H := Option.bind_eq_some_iff.mp H
            obtain ⟨⟨t197, t198⟩, A270, H⟩ := H
            replace H : ((low_Has.f t197 t198 t185).bind fun t199 => (if t199 = true then ((low_And.f t171 t172 t173 t174).bind fun bt200 => ((low_Has.f bt200.1 bt200.2 (Go.bits .and .u64 t177 t178)).bind fun t202 => (if t202 = true then ((low_Or.f t171 t172 t173 t174).bind fun bt203 => ((low_Has.f bt203.1 bt203.2 (Go.bits .or .u64 t177 t178)).bind fun t205 => (if t205 = true then ((low_Xor.f t171 t172 t173 t174).bind fun bt206 => ((low_Has.f bt206.1 bt206.2 (Go.bits .xor .u64 t177 t178)).bind fun t208 => (if t208 = true then ((low_Shl.f kj9 t171 t172 t178 x15_9).bind fun bt209 => ((low_Has.f bt209.1 bt209.2 t188).bind fun t211 => (some t211))) else (some false)))) else (some false)))) else (some false)))) else (some false))) = some r := H
            have A27 := Aside0.mk A270
            clear A270
            replace H := Option.bind_eq_some_iff.mp H
            obtain ⟨t199, A280, H⟩ := H
            replace H : (if t199 = true then ((low_And.f t171 t172 t173 t174).bind fun bt200 => ((low_Has.f bt200.1 bt200.2 (Go.bits .and .u64 t177 t178)).bind fun t202 => (if t202 = true then ((low_Or.f t171 t172 t173 t174).bind fun bt203 => ((low_Has.f bt203.1 bt203.2 (Go.bits .or .u64 t177 t178)).bind fun t205 => (if t205 = true then ((low_Xor.f t171 t172 t173 t174).bind fun bt206 => ((low_Has.f bt206.1 bt206.2 (Go.bits .xor .u64 t177 t178)).bind fun t208 => (if t208 = true then ((low_Shl.f kj9 t171 t172 t178 x15_9).bind fun bt209 => ((low_Has.f bt209.1 bt209.2 t188).bind fun t211 => (some t211))) else (some false)))) else (some false)))) else (some false)))) else (some false)) = some r := H
            have A28 := Aside0.mk A280
            clear A280
            by_cases c29 : t199 = true
            · subst c29
              have H1 : ((low_And.f t171 t172 t173 t174).bind fun bt200 => ((low_Has.f bt200.1 bt200.2 (Go.bits .and .u64 t177 t178)).bind fun t202 => (if t202 = true then ((low_Or.f t171 t172 t173 t174).bind fun bt203 => ((low_Has.f bt203.1 bt203.2 (Go.bits .or .u64 t177 t178)).bind fun t205 => (if t205 = true then ((low_Xor.f t171 t172 t173 t174).bind fun bt206 => ((low_Has.f bt206.1 bt206.2 (Go.bits .xor .u64 t177 t178)).bind fun t208 => (if t208 = true then ((low_Shl.f kj9 t171 t172 t178 x15_9).bind fun bt209 => ((low_Has.f bt209.1 bt209.2 t188).bind fun t211 => (some t211))) else (some false)))) else (some false)))) else (some false)))) = some r := by rw [if_pos rfl] at H; exact H
              clear H
              have H := H1
              clear H1
              replace H := Option.bind_eq_some_iff.mp H
              obtain ⟨⟨t200, t201⟩, A300, H⟩ := H
              replace H : ((low_Has.f t200 t201 (Go.bits .and .u64 t177 t178)).bind fun t202 => (if t202 = true then ((low_Or.f t171 t172 t173 t174).bind fun bt203 => ((low_Has.f bt203.1 bt203.2 (Go.bits .or .u64 t177 t178)).bind fun t205 => (if t205 = true then ((low_Xor.f t171 t172 t173 t174).bind fun bt206 => ((low_Has.f bt206.1 bt206.2 (Go.bits .xor .u64 t177 t178)).bind fun t208 => (if t208 = true then ((low_Shl.f kj9 t171 t172 t178 x15_9).bind fun bt209 => ((low_Has.f bt209.1 bt209.2 t188).bind fun t211 => (some t211))) else (some false)))) else (some false)))) else (some false))) = some r := H
              have A30 := Aside0.mk A300
              clear A300
              replace H := Option.bind_eq_some_iff.mp H
              obtain ⟨t202, A310, H⟩ := H
              replace H : (if t202 = true then ((low_Or.f t171 t172 t173 t174).bind fun bt203 => ((low_Has.f bt203.1 bt203.2 (Go.bits .or .u64 t177 t178)).bind fun t205 => (if t205 = true then ((low_Xor.f t171 t172 t173 t174).bind fun bt206 => ((low_Has.f bt206.1 bt206.2 (Go.bits .xor .u64 t177 t178)).bind fun t208 => (if t208 = true then ((low_Shl.f kj9 t171 t172 t178 x15_9).bind fun bt209 => ((low_Has.f bt209.1 bt209.2 t188).bind fun t211 => (some t211))) else (some false)))) else (some false)))) else (some false)) = some r := H
              have A31 := Aside0.mk A310
              clear A310
              by_cases c32 : t202 = true
              · subst c32
                have H1 : ((low_Or.f t171 t172 t173 t174).bind fun bt203 => ((low_Has.f bt203.1 bt203.2 (Go.bits .or .u64 t177 t178)).bind fun t205 => (if t205 = true then ((low_Xor.f t171 t172 t173 t174).bind fun bt206 => ((low_Has.f bt206.1 bt206.2 (Go.bits .xor .u64 t177 t178)).bind fun t208 => (if t208 = true then ((low_Shl.f kj9 t171 t172 t178 x15_9).bind fun bt209 => ((low_Has.f bt209.1 bt209.2 t188).bind fun t211 => (some t211))) else (some false)))) else (some false)))) = some r := by rw [if_pos rfl] at H; exact H
                clear H
                have H := H1
                clear H1
                replace H := Option.bind_eq_some_iff.mp H
                obtain ⟨⟨t203, t204⟩, A330, H⟩ := H
                replace H : ((low_Has.f t203 t204 (Go.bits .or .u64 t177 t178)).bind fun t205 => (if t205 = true then ((low_Xor.f t171 t172 t173 t174).bind fun bt206 => ((low_Has.f bt206.1 bt206.2 (Go.bits .xor .u64 t177 t178)).bind fun t208 => (if t208 = true then ((low_Shl.f kj9 t171 t172 t178 x15_9).bind fun bt209 => ((low_Has.f bt209.1 bt209.2 t188).bind fun t211 => (some t211))) else (some false)))) else (some false))) = some r := H
                have A33 := Aside0.mk A330
                clear A330
                replace H := Option.bind_eq_some_iff.mp H
                obtain ⟨t205, A340, H⟩ := H
                replace H : (if t205 = true then ((low_Xor.f t171 t172 t173 t174).bind fun bt206 => ((low_Has.f bt206.1 bt206.2 (Go.bits .xor .u64 t177 t178)).bind fun t208 => (if t208 = true then ((low_Shl.f kj9 t171 t172 t178 x15_9).bind fun bt209 => ((low_Has.f bt209.1 bt209.2 t188).bind fun t211 => (some t211))) else (some false)))) else (some false)) = some r := H
                have A34 := Aside0.mk A340
                clear A340
                by_cases c35 : t205 = true
                · subst c35
                  have H1 : ((low_Xor.f t171 t172 t173 t174).bind fun bt206 => ((low_Has.f bt206.1 bt206.2 (Go.bits .xor .u64 t177 t178)).bind fun t208 => (if t208 = true then ((low_Shl.f kj9 t171 t172 t178 x15_9).bind fun bt209 => ((low_Has.f bt209.1 bt209.2 t188).bind fun t211 => (some t211))) else (some false)))) = some r := by rw [if_pos rfl] at H; exact H
                  clear H
                  have H := H1
                  clear H1
                  replace H := Option.bind_eq_some_iff.mp H
                  obtain ⟨⟨t206, t207⟩, A360, H⟩ := H
                  replace H : ((low_Has.f t206 t207 (Go.bits .xor .u64 t177 t178)).bind fun t208 => (if t208 = true then ((low_Shl.f kj9 t171 t172 t178 x15_9).bind fun bt209 => ((low_Has.f bt209.1 bt209.2 t188).bind fun t211 => (some t211))) else (some false))) = some r := H
                  have A36 := Aside0.mk A360
                  clear A360
                  replace H := Option.bind_eq_some_iff.mp H
                  obtain ⟨t208, A370, H⟩ := H
                  replace H : (if t208 = true then ((low_Shl.f kj9 t171 t172 t178 x15_9).bind fun bt209 => ((low_Has.f bt209.1 bt209.2 t188).bind fun t211 => (some t211))) else (some false)) = some r := H
                  have A37 := Aside0.mk A370
                  clear A370
                  by_cases c38 : t208 = true
                  · subst c38
                    have H1 : ((low_Shl.f kj9 t171 t172 t178 x15_9).bind fun bt209 => ((low_Has.f bt209.1 bt209.2 t188).bind fun t211 => (some t211))) = some r := by rw [if_pos rfl] at H; exact H
                    clear H
                    have H := H1
                    clear H1
                    replace H := Option.bind_eq_some_iff.mp H
                    obtain ⟨⟨t209, t210⟩, A390, H⟩ := H
                    replace H : ((low_Has.f t209 t210 t188).bind fun t211 => (some t211)) = some r := H
                    have A39 := Aside0.mk A390
                    clear A390
                    replace H := Option.bind_eq_some_iff.mp H
                    obtain ⟨t211, A400, H⟩ := H
                    replace H : (some t211) = some r := H
                    have A40 := Aside0.mk A400
                    clear A400
                    obtain rfl := Option.some.inj H
                    try go_wp2_with (first | ((with_reducible refine gate_callee (f := 8) rfl ?_); refine goesL_ (some 41) rfl rfl Tryd.func8 (by kernel_rfl) rfl #[.int .u64 (Go.bits .and .u64 a0 x17_9), .int .u8 a4] rfl (by (try simp only [List.map_toArray, List.map_cons, List.map_nil]); first | done | rfl | (simp only [List.length_drop, List.length_take]; rfl)) ?_; (with_reducible refine (trammellaw17_some.calls kj9 (Go.bits .and .u64 a0 x17_9) a4 t171 t172 _ A13.out).mono ?_); rintro e w41 ⟨rfl, hb⟩; refine ⟨_, rfl, ?_⟩; have n0_ := Aside0.mk (below_step (by repeat (first | (with_reducible first | exact HB.out | apply below_alloc | apply pw_below_drewN | apply below_drew1) | exact HB.out)) hb); clear HB; have HB := n0_; clear n0_; (try clear hb); (try clear hb2); (try clear hk); (try clear hi)) | ((with_reducible refine gate_callee (f := 8) rfl ?_); refine goesL_ (some 46) rfl rfl Tryd.func8 (by kernel_rfl) rfl #[.int .u64 (Go.bits .and .u64 a1 x17_9), .int .u8 a5] rfl (by (try simp only [List.map_toArray, List.map_cons, List.map_nil]); first | done | rfl | (simp only [List.length_drop, List.length_take]; rfl)) ?_; (with_reducible refine (trammellaw17_some.calls kj9 (Go.bits .and .u64 a1 x17_9) a5 t173 t174 _ A14.out).mono ?_); rintro e w42 ⟨rfl, hb⟩; refine ⟨_, rfl, ?_⟩; have n0_ := Aside0.mk (below_step (by repeat (first | (with_reducible first | exact HB.out | apply below_alloc | apply pw_below_drewN | apply below_drew1) | exact HB.out)) hb); clear HB; have HB := n0_; clear n0_; (try clear hb); (try clear hb2); (try clear hk); (try clear hi)) | ((with_reducible refine gate_dst (N := 18) rfl ?_); refine box_event ?hg (N := 18) ?hd (cs := #[.int .i64 0, .int .u64 0]) (t := 25) ?hr ?_; (case hd => rfl); (case hg => rfl); (case hr => first | (go_simp; done) | (go_simp; rfl)); intro gb175 hg w43 hbox hb; have n0_ := Aside0.mk (below_step (by repeat (first | (with_reducible first | exact HB.out | apply below_alloc | apply pw_below_drewN | apply below_drew1) | exact HB.out)) hb); have n1_ := Aside0.mk (hbox); have n2_ := Aside0.mk ((by rw [hg]; exact (below_size (by repeat (first | (with_reducible first | exact HB.out | apply below_alloc | apply pw_below_drewN | apply below_drew1) | exact HB.out))) : w.heap.size ≤ gb175)); have n3_ := Aside0.mk ((by rw [hg]; exact (below_size (by repeat (first | (with_reducible first | exact HB.out | apply below_alloc | apply pw_below_drewN | apply below_drew1) | exact HB.out))) : w.heap.size ≤ gb175)); clear HB; have HB := n0_; have BK175 := n1_; have GW175 := n2_; have GE175 := n3_; clear n0_ n1_ n2_ n3_; clear hb hbox hg) | ((with_reducible refine gate_dst (N := 19) rfl ?_); refine box_event ?hg (N := 19) ?hd (cs := #[.int .i64 0, .int .u64 0]) (t := 25) ?hr ?_; (case hd => rfl); (case hg => rfl); (case hr => first | (go_simp; done) | (go_simp; rfl)); intro gb176 hg w44 hbox hb; have n0_ := Aside0.mk (blk_below (g := gb175) (o := .cells #[.int .i64 0, .int .u64 0] 25 (0, 0)) (by (with_reducible repeat (first | refine blk_drewN ?_ _ | refine blk_drew ?_ | refine blk_alloc ?_ _)); exact BK175.out) hb); have n1_ := Aside0.mk (below_step (by repeat (first | (with_reducible first | exact HB.out | apply below_alloc | apply pw_below_drewN | apply below_drew1 | refine below_set ?_ GE175.out) | exact HB.out)) hb); have n2_ := Aside0.mk (hbox); have n3_ := Aside0.mk ((by rw [hg]; exact (below_size (by repeat (first | (with_reducible first | exact HB.out | apply below_alloc | apply pw_below_drewN | apply below_drew1 | refine below_set ?_ GE175.out) | exact HB.out))) : w.heap.size ≤ gb176)); have n4_ := Aside0.mk ((by rw [hg]; exact (below_size (by repeat (first | (with_reducible first | exact HB.out | apply below_alloc | apply pw_below_drewN | apply below_drew1 | refine below_set ?_ GE175.out) | exact HB.out))) : w.heap.size ≤ gb176)); have n5_ := Aside0.mk ((by rw [hg]; exact Nat.ne_of_lt (blk_lt (g := gb175) (o := .cells #[.int .i64 0, .int .u64 0] 25 (0, 0)) (by (with_reducible repeat (first | refine blk_drewN ?_ _ | refine blk_drew ?_ | refine blk_alloc ?_ _)); exact BK175.out)) : gb175 ≠ gb176)); have n6_ := Aside0.mk ((by rw [hg]; exact Nat.ne_of_gt (blk_lt (g := gb175) (o := .cells #[.int .i64 0, .int .u64 0] 25 (0, 0)) (by (with_reducible repeat (first | refine blk_drewN ?_ _ | refine blk_drew ?_ | refine blk_alloc ?_ _)); exact BK175.out)) : gb176 ≠ gb175)); clear BK175; clear HB; have BK175 := n0_; have HB := n1_; have BK176 := n2_; have GW176 := n3_; have GE176 := n4_; have NB175_176 := n5_; have NB176_175 := n6_; clear n0_ n1_ n2_ n3_ n4_ n5_ n6_; clear hb hbox hg; have hnb45 := NB175_176.out; have hnc45 := NB176_175.out; have hcz46_0 : w44.cell? ⟨gb175, 0, none⟩ = some (.int .i64 0) := (blk_cell BK175.out 0).trans rfl; have hcz46_1 : w44.cell? ⟨gb175, 1, none⟩ = some (.int .u64 0) := (blk_cell BK175.out 1).trans rfl; have hfz46_0 := blk_frozen BK175.out 0; have hfz46_1 := blk_frozen BK175.out 1; have hcz47_0 : w44.cell? ⟨gb176, 0, none⟩ = some (.int .i64 0) := (blk_cell BK176.out 0).trans rfl; have hcz47_1 : w44.cell? ⟨gb176, 1, none⟩ = some (.int .u64 0) := (blk_cell BK176.out 1).trans rfl; have hfz47_0 := blk_frozen BK176.out 0; have hfz47_1 := blk_frozen BK176.out 1))
                    have n0_ : Aside0 (((((w44.setCell ⟨gb175, 0, none⟩ (.int .i64 t171)).setCell ⟨gb175, 1, none⟩ (.int .u64 t172)).setCell ⟨gb176, 0, none⟩ (.int .i64 t173)).setCell ⟨gb176, 1, none⟩ (.int .u64 t174)).heap[gb175]? = some (.cells #[.int .i64 t171, .int .u64 t172] 25 (0, 0))) := ⟨by (with_reducible repeat (first | refine blk_drewN ?_ _ | refine blk_drew ?_ | refine blk_alloc ?_ _)); refine blk_far ?_ NB175_176.out _; (with_reducible repeat (first | refine blk_drewN ?_ _ | refine blk_drew ?_ | refine blk_alloc ?_ _)); refine blk_far ?_ NB175_176.out _; (with_reducible repeat (first | refine blk_drewN ?_ _ | refine blk_drew ?_ | refine blk_alloc ?_ _)); refine blk_put (cs := #[.int .i64 t171, .int .u64 0]) ?_ 1 _ (by first | rfl | (simp_all; done)); (with_reducible repeat (first | refine blk_drewN ?_ _ | refine blk_drew ?_ | refine blk_alloc ?_ _)); refine blk_put (cs := #[.int .i64 0, .int .u64 0]) ?_ 0 _ (by first | rfl | (simp_all; done)); (with_reducible repeat (first | refine blk_drewN ?_ _ | refine blk_drew ?_ | refine blk_alloc ?_ _)); exact BK175.out⟩
                    have n1_ : Aside0 (((((w44.setCell ⟨gb175, 0, none⟩ (.int .i64 t171)).setCell ⟨gb175, 1, none⟩ (.int .u64 t172)).setCell ⟨gb176, 0, none⟩ (.int .i64 t173)).setCell ⟨gb176, 1, none⟩ (.int .u64 t174)).heap[gb176]? = some (.cells #[.int .i64 t173, .int .u64 t174] 25 (0, 0))) := ⟨by (with_reducible repeat (first | refine blk_drewN ?_ _ | refine blk_drew ?_ | refine blk_alloc ?_ _)); refine blk_put (cs := #[.int .i64 t173, .int .u64 0]) ?_ 1 _ (by first | rfl | (simp_all; done)); (with_reducible repeat (first | refine blk_drewN ?_ _ | refine blk_drew ?_ | refine blk_alloc ?_ _)); refine blk_put (cs := #[.int .i64 0, .int .u64 0]) ?_ 0 _ (by first | rfl | (simp_all; done)); (with_reducible repeat (first | refine blk_drewN ?_ _ | refine blk_drew ?_ | refine blk_alloc ?_ _)); refine blk_far ?_ NB176_175.out _; (with_reducible repeat (first | refine blk_drewN ?_ _ | refine blk_drew ?_ | refine blk_alloc ?_ _)); refine blk_far ?_ NB176_175.out _; (with_reducible repeat (first | refine blk_drewN ?_ _ | refine blk_drew ?_ | refine blk_alloc ?_ _)); exact BK176.out⟩
                    have n2_ : Aside0 (Below w.heap.size w ((((w44.setCell ⟨gb175, 0, none⟩ (.int .i64 t171)).setCell ⟨gb175, 1, none⟩ (.int .u64 t172)).setCell ⟨gb176, 0, none⟩ (.int .i64 t173)).setCell ⟨gb176, 1, none⟩ (.int .u64 t174))) := ⟨by repeat (first | (with_reducible first | exact HB.out | apply below_alloc | apply pw_below_drewN | apply below_drew1 | refine below_set ?_ GE175.out | refine below_set ?_ GE176.out) | exact HB.out)⟩
                    (try clear BK175)
                    (try clear BK176)
                    (try clear HB)
                    generalize ((((w44.setCell ⟨gb175, 0, none⟩ (.int .i64 t171)).setCell ⟨gb175, 1, none⟩ (.int .u64 t172)).setCell ⟨gb176, 0, none⟩ (.int .i64 t173)).setCell ⟨gb176, 1, none⟩ (.int .u64 t174)) = w48 at n0_ n1_ n2_ ⊢
                    have BK175 := n0_
                    have BK176 := n1_
                    have HB := n2_
                    clear n0_ n1_ n2_
                    have n0_ := Aside0.mk (blk_drew BK175.out)
                    have n1_ := Aside0.mk (blk_drew BK176.out)
                    have n2_ := Aside0.mk (below_drew1 HB.out)
                    clear BK175
                    clear BK176
                    clear HB
                    have BK175 := n0_
                    have BK176 := n1_
                    have HB := n2_
                    clear n0_ n1_ n2_
                    refine start_ (n := 12) (S := fun w' => w'.cell? ⟨gb175, 0, none⟩ = some (.int .i64 t171) ∧ w'.cell? ⟨gb175, 1, none⟩ = some (.int .u64 t172) ∧ w'.cell? ⟨gb176, 0, none⟩ = some (.int .i64 t173) ∧ w'.cell? ⟨gb176, 1, none⟩ = some (.int .u64 t174)) (ds := []) #[false, false, false, false, false, false, false, false, false, false, false, false] (by kernel_rfl) rfl rfl ⟨(blk_cell BK175.out 0).trans rfl, (blk_cell BK175.out 1).trans rfl, (blk_cell BK176.out 0).trans rfl, (blk_cell BK176.out 1).trans rfl⟩ (fun hHeld => ?_); refine with_tabW trammellaw17_LowSound.tab7 trammellaw17_LowSound.bits7 (fun HT_ HW_ => ?_)
                    generalize w48.drew = w49 at BK175 BK176 HB hHeld ⊢
                    refine pure_ (i := 1) (N := some 48) (v := ?_) (a' := ?_) #[false, true, false, false, false, false, false, false, false, false, false, false] rfl rfl (any_of HT_.out (by kernel_rfl)) (fun _ _ _ h => h) (Or.inl ⟨by rfl, ?_⟩) ?_ ?_
                    rotate_left
                    · intro w'
                      go_simp
                      with_reducible rfl
                    rotate_left
                    · simp only [Act.put, List.setIfInBounds_toArray, List.set_cons_zero, List.set_cons_succ, i64_w, i32_w]
                      rfl
                    refine pure_ (i := 2) (N := some 49) (v := ?_) (a' := ?_) #[false, true, true, false, false, false, false, false, false, false, false, false] rfl rfl (any_of HT_.out (by kernel_rfl)) (fun _ _ _ h => h) (Or.inl ⟨by rfl, ?_⟩) ?_ ?_
                    rotate_left
                    · intro w'
                      go_simp
                      with_reducible rfl
                    rotate_left
                    · simp only [Act.put, List.setIfInBounds_toArray, List.set_cons_zero, List.set_cons_succ, i64_w, i32_w]
                      rfl
                    refine pure_ (i := 3) (N := some 50) (v := ?_) (a' := ?_) #[false, true, true, true, false, false, false, false, false, false, false, false] rfl rfl (any_of HT_.out (by kernel_rfl)) (fun _ _ _ h => h) (Or.inl ⟨by rfl, ?_⟩) ?_ ?_
                    rotate_left
                    · intro w'
                      go_simp
                      with_reducible rfl
                    rotate_left
                    · simp only [Act.put, List.setIfInBounds_toArray, List.set_cons_zero, List.set_cons_succ, i64_w, i32_w]
                      rfl
                    refine pure_ (i := 6) (N := some 53) (v := ?_) (a' := ?_) #[false, true, true, true, false, false, true, false, false, false, false, false] rfl rfl (any_of HT_.out (by kernel_rfl)) (fun _ _ _ h => h) (Or.inl ⟨by rfl, ?_⟩) ?_ ?_
                    rotate_left
                    · intro w'
                      go_simp
                      with_reducible rfl
                    rotate_left
                    · simp only [Act.put, List.setIfInBounds_toArray, List.set_cons_zero, List.set_cons_succ, i64_w, i32_w]
                      rfl
                    refine pure_ (i := 7) (N := some 54) (v := ?_) (a' := ?_) #[false, true, true, true, false, false, true, true, false, false, false, false] rfl rfl (any_of HT_.out (by kernel_rfl)) (fun _ _ _ h => h) (Or.inl ⟨by rfl, ?_⟩) ?_ ?_
                    rotate_left
                    · intro w'
                      go_simp
                      with_reducible rfl
                    rotate_left
                    · simp only [Act.put, List.setIfInBounds_toArray, List.set_cons_zero, List.set_cons_succ, i64_w, i32_w]
                      rfl
                    refine pure_ (i := 8) (N := some 55) (v := ?_) (a' := ?_) #[false, true, true, true, false, false, true, true, true, false, false, false] rfl rfl (any_of HT_.out (by kernel_rfl)) (fun _ _ _ h => h) (Or.inl ⟨by rfl, ?_⟩) ?_ ?_
                    rotate_left
                    · intro w'
                      go_simp
                      with_reducible rfl
                    rotate_left
                    · simp only [Act.put, List.setIfInBounds_toArray, List.set_cons_zero, List.set_cons_succ, i64_w, i32_w]
                      rfl
                    refine take_ (i := 0) (N := some 47) (v := ?_) (a' := ?_) #[true, true, true, true, false, false, true, true, true, false, false, false] rfl rfl (take_ofW HT_.out HW_.out (by kernel_rfl)) (fun _ _ _ h => h) (Or.inl ⟨by rfl, ?_⟩) hHeld ?_ ?_
                    rotate_left
                    · rintro w' ⟨s0, s1, s2, s3⟩
                      go_simp
                      with_reducible rfl
                    rotate_left
                    · simp only [Act.put, List.setIfInBounds_toArray, List.set_cons_zero, List.set_cons_succ, i64_w, i32_w]
                      rfl
                    refine take_ (i := 5) (N := some 52) (v := ?_) (a' := ?_) #[true, true, true, true, false, true, true, true, true, false, false, false] rfl rfl (take_ofW HT_.out HW_.out (by kernel_rfl)) (fun _ _ _ h => h) (Or.inl ⟨by rfl, ?_⟩) hHeld ?_ ?_
                    rotate_left
                    · rintro w' ⟨s0, s1, s2, s3⟩
                      go_simp
                      with_reducible rfl
                    rotate_left
                    · simp only [Act.put, List.setIfInBounds_toArray, List.set_cons_zero, List.set_cons_succ, i64_w, i32_w]
                      rfl
                    refine one_ (i := 4) (N := some 51) #[true, true, true, true, true, true, true, true, true, false, false, false] rfl rfl (one_of HT_.out (by kernel_rfl)) (by decide) (fun K hK => ?_)
                    refine goes_ Tryd.func17 (by kernel_rfl) rfl #[.agg #[.int .i64 t171, .int .u64 t172], .int .u64 (Go.bits .and .u64 a2 x17_9)] (by rfl) rfl rfl (by (try simp only [List.map_toArray, List.map_cons, List.map_nil]); first | done | rfl | (simp only [List.length_drop, List.length_take]; rfl)) ?_
                    with_reducible refine (trammellaw17_other.calls kj9 t171 t172 (Go.bits .and .u64 a2 x17_9) t177 _ A15.out).mono ?_
                    rintro e w50 ⟨rfl, hb⟩
                    refine ⟨_, rfl, ?_⟩
                    have n0_ := Aside0.mk (blk_below (g := gb175) (o := .cells #[.int .i64 t171, .int .u64 t172] 25 (0, 0)) (by (with_reducible repeat (first | refine blk_drewN ?_ _ | refine blk_drew ?_ | refine blk_alloc ?_ _)); exact BK175.out) hb)
                    have n1_ := Aside0.mk (blk_below (g := gb176) (o := .cells #[.int .i64 t173, .int .u64 t174] 25 (0, 0)) (by (with_reducible repeat (first | refine blk_drewN ?_ _ | refine blk_drew ?_ | refine blk_alloc ?_ _)); exact BK176.out) hb)
                    have n2_ := Aside0.mk (below_step (by repeat (first | (with_reducible first | exact HB.out | apply below_alloc | apply pw_below_drewN | apply below_drew1 | refine below_set ?_ GE175.out | refine below_set ?_ GE176.out) | exact HB.out)) hb)
                    clear BK175
                    clear BK176
                    clear HB
                    have BK175 := n0_
                    have BK176 := n1_
                    have HB := n2_
                    clear n0_ n1_ n2_
                    (try clear hb)
                    (try clear hb2)
                    (try clear hk)
                    (try clear hi)
                    refine hK.out _ _ ⟨(blk_cell BK175.out 0).trans rfl, (blk_cell BK175.out 1).trans rfl, (blk_cell BK176.out 0).trans rfl, (blk_cell BK176.out 1).trans rfl⟩ (fun hHeld => ?_)
                    clear hK K
                    refine norm_ (a' := ?_) ?_ ?_
                    rotate_left
                    · show Act.put _ (some 51) _ = _
                      simp only [Act.put, List.setIfInBounds_toArray, List.set_cons_zero, List.set_cons_succ, i64_w, i32_w]
                      rfl
                    refine one_ (i := 9) (N := some 56) #[true, true, true, true, true, true, true, true, true, true, false, false] rfl rfl (one_of HT_.out (by kernel_rfl)) (by decide) (fun K hK => ?_)
                    refine goes_ Tryd.func17 (by kernel_rfl) rfl #[.agg #[.int .i64 t173, .int .u64 t174], .int .u64 (Go.bits .and .u64 a3 x17_9)] (by rfl) rfl rfl (by (try simp only [List.map_toArray, List.map_cons, List.map_nil]); first | done | rfl | (simp only [List.length_drop, List.length_take]; rfl)) ?_
                    with_reducible refine (trammellaw17_other.calls kj9 t173 t174 (Go.bits .and .u64 a3 x17_9) t178 _ A16.out).mono ?_
                    rintro e w51 ⟨rfl, hb⟩
                    refine ⟨_, rfl, ?_⟩
                    have n0_ := Aside0.mk (blk_below (g := gb175) (o := .cells #[.int .i64 t171, .int .u64 t172] 25 (0, 0)) (by (with_reducible repeat (first | refine blk_drewN ?_ _ | refine blk_drew ?_ | refine blk_alloc ?_ _)); exact BK175.out) hb)
                    have n1_ := Aside0.mk (blk_below (g := gb176) (o := .cells #[.int .i64 t173, .int .u64 t174] 25 (0, 0)) (by (with_reducible repeat (first | refine blk_drewN ?_ _ | refine blk_drew ?_ | refine blk_alloc ?_ _)); exact BK176.out) hb)
                    have n2_ := Aside0.mk (below_step (by repeat (first | (with_reducible first | exact HB.out | apply below_alloc | apply pw_below_drewN | apply below_drew1 | refine below_set ?_ GE175.out | refine below_set ?_ GE176.out) | exact HB.out)) hb)
                    clear BK175
                    clear BK176
                    clear HB
                    have BK175 := n0_
                    have BK176 := n1_
                    have HB := n2_
                    clear n0_ n1_ n2_
                    (try clear hb)
                    (try clear hb2)
                    (try clear hk)
                    (try clear hi)
                    refine hK.out _ _ ⟨(blk_cell BK175.out 0).trans rfl, (blk_cell BK175.out 1).trans rfl, (blk_cell BK176.out 0).trans rfl, (blk_cell BK176.out 1).trans rfl⟩ (fun hHeld => ?_)
                    clear hK K
                    refine norm_ (a' := ?_) ?_ ?_
                    rotate_left
                    · show Act.put _ (some 56) _ = _
                      simp only [Act.put, List.setIfInBounds_toArray, List.set_cons_zero, List.set_cons_succ, i64_w, i32_w]
                      rfl
                    refine pure_ (i := 10) (N := some 20) (v := ?_) (a' := ?_) #[true, true, true, true, true, true, true, true, true, true, true, false] rfl rfl (any_of HT_.out (by kernel_rfl)) (fun _ _ _ h => h) (Or.inl ⟨by rfl, ?_⟩) ?_ ?_
                    rotate_left
                    · intro w'
                      go_simp
                      with_reducible rfl
                    rotate_left
                    · simp only [Act.put, List.setIfInBounds_toArray, List.set_cons_zero, List.set_cons_succ, i64_w, i32_w]
                      rfl
                    refine pure_ (i := 11) (N := some 21) (v := ?_) (a' := ?_) #[true, true, true, true, true, true, true, true, true, true, true, true] rfl rfl (any_of HT_.out (by kernel_rfl)) (fun _ _ _ h => h) (Or.inl ⟨by rfl, ?_⟩) ?_ ?_
                    rotate_left
                    · intro w'
                      go_simp
                      with_reducible rfl
                    rotate_left
                    · simp only [Act.put, List.setIfInBounds_toArray, List.set_cons_zero, List.set_cons_succ, i64_w, i32_w]
                      rfl
                    refine done_ (done_of HT_.out (by kernel_rfl)) ?_
                    try go_wp2_with (first | ((with_reducible refine gate_callee (f := 24) rfl ?_); refine goesL_ (some 61) rfl rfl Tryd.func24 (by kernel_rfl) rfl #[.int .i64 x16_9, .int .u64 t177, .int .u64 t178] rfl (by (try simp only [List.map_toArray, List.map_cons, List.map_nil]); first | done | rfl | (simp only [List.length_drop, List.length_take]; rfl)) ?_; (with_reducible refine (num_Bin.calls kj9 x16_9 t177 t178 t179 t180 t181 _ A17.out).mono ?_); rintro e w' ⟨rfl, ⟨nd, rfl⟩⟩; refine ⟨_, rfl, ?_⟩) | ((with_reducible refine gate_callee (f := 24) rfl ?_); refine goesL_ (some 70) rfl rfl Tryd.func24 (by kernel_rfl) rfl #[.int .i64 (wrap64 (x16_9 + 1)), .int .u64 t177, .int .u64 t178] rfl (by (try simp only [List.map_toArray, List.map_cons, List.map_nil]); first | done | rfl | (simp only [List.length_drop, List.length_take]; rfl)) ?_; (with_reducible refine (num_Bin.calls kj9 (wrap64 (x16_9 + 1)) t177 t178 t182 t183 t184 _ A18.out).mono ?_); rintro e w' ⟨rfl, ⟨nd, rfl⟩⟩; refine ⟨_, rfl, ?_⟩) | ((with_reducible refine gate_callee (f := 24) rfl ?_); refine goesL_ (some 79) rfl rfl Tryd.func24 (by kernel_rfl) rfl #[.int .i64 (wrap64 (x16_9 + 2)), .int .u64 t177, .int .u64 t178] rfl (by (try simp only [List.map_toArray, List.map_cons, List.map_nil]); first | done | rfl | (simp only [List.length_drop, List.length_take]; rfl)) ?_; (with_reducible refine (num_Bin.calls kj9 (wrap64 (x16_9 + 2)) t177 t178 t185 t186 t187 _ A19.out).mono ?_); rintro e w' ⟨rfl, ⟨nd, rfl⟩⟩; refine ⟨_, rfl, ?_⟩) | ((with_reducible refine gate_callee (f := 24) rfl ?_); refine goesL_ (some 88) rfl rfl Tryd.func24 (by kernel_rfl) rfl #[.int .i64 (wrap64 (x16_9 + 10)), .int .u64 t177, .int .u64 t178] rfl (by (try simp only [List.map_toArray, List.map_cons, List.map_nil]); first | done | rfl | (simp only [List.length_drop, List.length_take]; rfl)) ?_; (with_reducible refine (num_Bin.calls kj9 (wrap64 (x16_9 + 10)) t177 t178 t188 t189 t190 _ A20.out).mono ?_); rintro e w' ⟨rfl, ⟨nd, rfl⟩⟩; refine ⟨_, rfl, ?_⟩; have hcz52_0 : w51.cell? ⟨gb175, 0, none⟩ = some (.int .i64 t171) := (blk_cell BK175.out 0).trans rfl; have hcz52_1 : w51.cell? ⟨gb175, 1, none⟩ = some (.int .u64 t172) := (blk_cell BK175.out 1).trans rfl; have hfz52_0 := blk_frozen BK175.out 0; have hfz52_1 := blk_frozen BK175.out 1; have hcz53_0 : w51.cell? ⟨gb176, 0, none⟩ = some (.int .i64 t173) := (blk_cell BK176.out 0).trans rfl; have hcz53_1 : w51.cell? ⟨gb176, 1, none⟩ = some (.int .u64 t174) := (blk_cell BK176.out 1).trans rfl; have hfz53_0 := blk_frozen BK176.out 0; have hfz53_1 := blk_frozen BK176.out 1) | ((with_reducible refine gate_callee (f := 11) rfl ?_); refine goesL_ (some 95) rfl rfl Tryd.func11 (by kernel_rfl) rfl #[.agg #[.int .i64 t171, .int .u64 t172], .agg #[.int .i64 t173, .int .u64 t174], .int .i64 x15_9] rfl (by (try simp only [List.map_toArray, List.map_cons, List.map_nil]); first | done | rfl | (simp only [List.length_drop, List.length_take]; rfl)) ?_; (with_reducible refine (low_Add.calls kj9 t171 t172 t173 t174 x15_9 t191 t192 _ A21.out).mono ?_); rintro e w54 ⟨rfl, hb⟩; refine ⟨_, rfl, ?_⟩; have n0_ := Aside0.mk (blk_below (g := gb175) (o := .cells #[.int .i64 t171, .int .u64 t172] 25 (0, 0)) (by (with_reducible repeat (first | refine blk_drewN ?_ _ | refine blk_drew ?_ | refine blk_alloc ?_ _)); exact BK175.out) hb); have n1_ := Aside0.mk (blk_below (g := gb176) (o := .cells #[.int .i64 t173, .int .u64 t174] 25 (0, 0)) (by (with_reducible repeat (first | refine blk_drewN ?_ _ | refine blk_drew ?_ | refine blk_alloc ?_ _)); exact BK176.out) hb); have n2_ := Aside0.mk (below_step (by repeat (first | (with_reducible first | exact HB.out | apply below_alloc | apply pw_below_drewN | apply below_drew1 | refine below_set ?_ GE175.out | refine below_set ?_ GE176.out) | exact HB.out)) hb); clear BK175; clear BK176; clear HB; have BK175 := n0_; have BK176 := n1_; have HB := n2_; clear n0_ n1_ n2_; (try clear hb); (try clear hb2); (try clear hk); (try clear hi)) | ((with_reducible refine gate_callee (f := 19) rfl ?_); refine goesL_ (some 97) rfl rfl Tryd.func19 (by kernel_rfl) rfl #[.agg #[.int .i64 t191, .int .u64 t192], .int .u64 t179] rfl (by (try simp only [List.map_toArray, List.map_cons, List.map_nil]); first | done | rfl | (simp only [List.length_drop, List.length_take]; rfl)) ?_; (with_reducible refine (low_Has.calls t191 t192 t179 true _ A22.out).mono ?_); rintro e w55 ⟨rfl, hb⟩; refine ⟨_, rfl, ?_⟩; have n0_ := Aside0.mk (blk_below (g := gb175) (o := .cells #[.int .i64 t171, .int .u64 t172] 25 (0, 0)) (by (with_reducible repeat (first | refine blk_drewN ?_ _ | refine blk_drew ?_ | refine blk_alloc ?_ _)); exact BK175.out) hb); have n1_ := Aside0.mk (blk_below (g := gb176) (o := .cells #[.int .i64 t173, .int .u64 t174] 25 (0, 0)) (by (with_reducible repeat (first | refine blk_drewN ?_ _ | refine blk_drew ?_ | refine blk_alloc ?_ _)); exact BK176.out) hb); have n2_ := Aside0.mk (below_step (by repeat (first | (with_reducible first | exact HB.out | apply below_alloc | apply pw_below_drewN | apply below_drew1 | refine below_set ?_ GE175.out | refine below_set ?_ GE176.out) | exact HB.out)) hb); clear BK175; clear BK176; clear HB; have BK175 := n0_; have BK176 := n1_; have HB := n2_; clear n0_ n1_ n2_; (try clear hb); (try clear hb2); (try clear hk); (try clear hi); have hcz56_0 : w55.cell? ⟨gb175, 0, none⟩ = some (.int .i64 t171) := (blk_cell BK175.out 0).trans rfl; have hcz56_1 : w55.cell? ⟨gb175, 1, none⟩ = some (.int .u64 t172) := (blk_cell BK175.out 1).trans rfl; have hfz56_0 := blk_frozen BK175.out 0; have hfz56_1 := blk_frozen BK175.out 1; have hcz57_0 : w55.cell? ⟨gb176, 0, none⟩ = some (.int .i64 t173) := (blk_cell BK176.out 0).trans rfl; have hcz57_1 : w55.cell? ⟨gb176, 1, none⟩ = some (.int .u64 t174) := (blk_cell BK176.out 1).trans rfl; have hfz57_0 := blk_frozen BK176.out 0; have hfz57_1 := blk_frozen BK176.out 1) | (go_at_call 12; (with_reducible refine (low_Sub.calls kj9 t171 t172 t173 t174 x15_9 t194 t195 _ A24.out).mono ?_); rintro e w58 ⟨rfl, hb⟩; have n0_ := Aside0.mk (blk_below (g := gb175) (o := .cells #[.int .i64 t171, .int .u64 t172] 25 (0, 0)) (by (with_reducible repeat (first | refine blk_drewN ?_ _ | refine blk_drew ?_ | refine blk_alloc ?_ _)); exact BK175.out) hb); have n1_ := Aside0.mk (blk_below (g := gb176) (o := .cells #[.int .i64 t173, .int .u64 t174] 25 (0, 0)) (by (with_reducible repeat (first | refine blk_drewN ?_ _ | refine blk_drew ?_ | refine blk_alloc ?_ _)); exact BK176.out) hb); have n2_ := Aside0.mk (below_step (by repeat (first | (with_reducible first | exact HB.out | apply below_alloc | apply pw_below_drewN | apply below_drew1 | refine below_set ?_ GE175.out | refine below_set ?_ GE176.out) | exact HB.out)) hb); clear BK175; clear BK176; clear HB; have BK175 := n0_; have BK176 := n1_; have HB := n2_; clear n0_ n1_ n2_; (try clear hb); (try clear hb2); (try clear hk); (try clear hi)) | (go_at_call 19; (with_reducible refine (low_Has.calls t194 t195 t182 true _ A25.out).mono ?_); rintro e w59 ⟨rfl, hb⟩; have n0_ := Aside0.mk (blk_below (g := gb175) (o := .cells #[.int .i64 t171, .int .u64 t172] 25 (0, 0)) (by (with_reducible repeat (first | refine blk_drewN ?_ _ | refine blk_drew ?_ | refine blk_alloc ?_ _)); exact BK175.out) hb); have n1_ := Aside0.mk (blk_below (g := gb176) (o := .cells #[.int .i64 t173, .int .u64 t174] 25 (0, 0)) (by (with_reducible repeat (first | refine blk_drewN ?_ _ | refine blk_drew ?_ | refine blk_alloc ?_ _)); exact BK176.out) hb); have n2_ := Aside0.mk (below_step (by repeat (first | (with_reducible first | exact HB.out | apply below_alloc | apply pw_below_drewN | apply below_drew1 | refine below_set ?_ GE175.out | refine below_set ?_ GE176.out) | exact HB.out)) hb); clear BK175; clear BK176; clear HB; have BK175 := n0_; have BK176 := n1_; have HB := n2_; clear n0_ n1_ n2_; (try clear hb); (try clear hb2); (try clear hk); (try clear hi); have hcz60_0 : w59.cell? ⟨gb175, 0, none⟩ = some (.int .i64 t171) := (blk_cell BK175.out 0).trans rfl; have hcz60_1 : w59.cell? ⟨gb175, 1, none⟩ = some (.int .u64 t172) := (blk_cell BK175.out 1).trans rfl; have hfz60_0 := blk_frozen BK175.out 0; have hfz60_1 := blk_frozen BK175.out 1; have hcz61_0 : w59.cell? ⟨gb176, 0, none⟩ = some (.int .i64 t173) := (blk_cell BK176.out 0).trans rfl; have hcz61_1 : w59.cell? ⟨gb176, 1, none⟩ = some (.int .u64 t174) := (blk_cell BK176.out 1).trans rfl; have hfz61_0 := blk_frozen BK176.out 0; have hfz61_1 := blk_frozen BK176.out 1) | (go_at_call 13; (with_reducible refine (low_Mul.calls kj9 t171 t172 t173 t174 x15_9 t197 t198 _ A27.out).mono ?_); rintro e w62 ⟨rfl, hb⟩; have n0_ := Aside0.mk (blk_below (g := gb175) (o := .cells #[.int .i64 t171, .int .u64 t172] 25 (0, 0)) (by (with_reducible repeat (first | refine blk_drewN ?_ _ | refine blk_drew ?_ | refine blk_alloc ?_ _)); exact BK175.out) hb); have n1_ := Aside0.mk (blk_below (g := gb176) (o := .cells #[.int .i64 t173, .int .u64 t174] 25 (0, 0)) (by (with_reducible repeat (first | refine blk_drewN ?_ _ | refine blk_drew ?_ | refine blk_alloc ?_ _)); exact BK176.out) hb); have n2_ := Aside0.mk (below_step (by repeat (first | (with_reducible first | exact HB.out | apply below_alloc | apply pw_below_drewN | apply below_drew1 | refine below_set ?_ GE175.out | refine below_set ?_ GE176.out) | exact HB.out)) hb); clear BK175; clear BK176; clear HB; have BK175 := n0_; have BK176 := n1_; have HB := n2_; clear n0_ n1_ n2_; (try clear hb); (try clear hb2); (try clear hk); (try clear hi)) | (go_at_call 19; (with_reducible refine (low_Has.calls t197 t198 t185 true _ A28.out).mono ?_); rintro e w63 ⟨rfl, hb⟩; have n0_ := Aside0.mk (blk_below (g := gb175) (o := .cells #[.int .i64 t171, .int .u64 t172] 25 (0, 0)) (by (with_reducible repeat (first | refine blk_drewN ?_ _ | refine blk_drew ?_ | refine blk_alloc ?_ _)); exact BK175.out) hb); have n1_ := Aside0.mk (blk_below (g := gb176) (o := .cells #[.int .i64 t173, .int .u64 t174] 25 (0, 0)) (by (with_reducible repeat (first | refine blk_drewN ?_ _ | refine blk_drew ?_ | refine blk_alloc ?_ _)); exact BK176.out) hb); have n2_ := Aside0.mk (below_step (by repeat (first | (with_reducible first | exact HB.out | apply below_alloc | apply pw_below_drewN | apply below_drew1 | refine below_set ?_ GE175.out | refine below_set ?_ GE176.out) | exact HB.out)) hb); clear BK175; clear BK176; clear HB; have BK175 := n0_; have BK176 := n1_; have HB := n2_; clear n0_ n1_ n2_; (try clear hb); (try clear hb2); (try clear hk); (try clear hi); have hcz64_0 : w63.cell? ⟨gb175, 0, none⟩ = some (.int .i64 t171) := (blk_cell BK175.out 0).trans rfl; have hcz64_1 : w63.cell? ⟨gb175, 1, none⟩ = some (.int .u64 t172) := (blk_cell BK175.out 1).trans rfl; have hfz64_0 := blk_frozen BK175.out 0; have hfz64_1 := blk_frozen BK175.out 1; have hcz65_0 : w63.cell? ⟨gb176, 0, none⟩ = some (.int .i64 t173) := (blk_cell BK176.out 0).trans rfl; have hcz65_1 : w63.cell? ⟨gb176, 1, none⟩ = some (.int .u64 t174) := (blk_cell BK176.out 1).trans rfl; have hfz65_0 := blk_frozen BK176.out 0; have hfz65_1 := blk_frozen BK176.out 1) | (go_at_call 14; (with_reducible refine (low_And.calls t171 t172 t173 t174 t200 t201 _ ?side1 A30.out).mono ?_); (case side1 => exact tabs_below HT.out (by repeat (first | (with_reducible first | exact HB.out | apply below_alloc | apply pw_below_drewN | apply below_drew1 | refine below_set ?_ GE175.out | refine below_set ?_ GE176.out) | exact HB.out))); rintro e w66 ⟨rfl, hb⟩; have n0_ := Aside0.mk (blk_below (g := gb175) (o := .cells #[.int .i64 t171, .int .u64 t172] 25 (0, 0)) (by (with_reducible repeat (first | refine blk_drewN ?_ _ | refine blk_drew ?_ | refine blk_alloc ?_ _)); exact BK175.out) hb); have n1_ := Aside0.mk (blk_below (g := gb176) (o := .cells #[.int .i64 t173, .int .u64 t174] 25 (0, 0)) (by (with_reducible repeat (first | refine blk_drewN ?_ _ | refine blk_drew ?_ | refine blk_alloc ?_ _)); exact BK176.out) hb); have n2_ := Aside0.mk (below_step (by repeat (first | (with_reducible first | exact HB.out | apply below_alloc | apply pw_below_drewN | apply below_drew1 | refine below_set ?_ GE175.out | refine below_set ?_ GE176.out) | exact HB.out)) hb); clear BK175; clear BK176; clear HB; have BK175 := n0_; have BK176 := n1_; have HB := n2_; clear n0_ n1_ n2_; (try clear hb); (try clear hb2); (try clear hk); (try clear hi)) | (go_at_call 19; (with_reducible refine (low_Has.calls t200 t201 (Go.bits .and .u64 t177 t178) true _ A31.out).mono ?_); rintro e w67 ⟨rfl, hb⟩; have n0_ := Aside0.mk (blk_below (g := gb175) (o := .cells #[.int .i64 t171, .int .u64 t172] 25 (0, 0)) (by (with_reducible repeat (first | refine blk_drewN ?_ _ | refine blk_drew ?_ | refine blk_alloc ?_ _)); exact BK175.out) hb); have n1_ := Aside0.mk (blk_below (g := gb176) (o := .cells #[.int .i64 t173, .int .u64 t174] 25 (0, 0)) (by (with_reducible repeat (first | refine blk_drewN ?_ _ | refine blk_drew ?_ | refine blk_alloc ?_ _)); exact BK176.out) hb); have n2_ := Aside0.mk (below_step (by repeat (first | (with_reducible first | exact HB.out | apply below_alloc | apply pw_below_drewN | apply below_drew1 | refine below_set ?_ GE175.out | refine below_set ?_ GE176.out) | exact HB.out)) hb); clear BK175; clear BK176; clear HB; have BK175 := n0_; have BK176 := n1_; have HB := n2_; clear n0_ n1_ n2_; (try clear hb); (try clear hb2); (try clear hk); (try clear hi); have hcz68_0 : w67.cell? ⟨gb175, 0, none⟩ = some (.int .i64 t171) := (blk_cell BK175.out 0).trans rfl; have hcz68_1 : w67.cell? ⟨gb175, 1, none⟩ = some (.int .u64 t172) := (blk_cell BK175.out 1).trans rfl; have hfz68_0 := blk_frozen BK175.out 0; have hfz68_1 := blk_frozen BK175.out 1; have hcz69_0 : w67.cell? ⟨gb176, 0, none⟩ = some (.int .i64 t173) := (blk_cell BK176.out 0).trans rfl; have hcz69_1 : w67.cell? ⟨gb176, 1, none⟩ = some (.int .u64 t174) := (blk_cell BK176.out 1).trans rfl; have hfz69_0 := blk_frozen BK176.out 0; have hfz69_1 := blk_frozen BK176.out 1) | (go_at_call 15; (with_reducible refine (low_Or.calls t171 t172 t173 t174 t203 t204 _ A33.out).mono ?_); rintro e w70 ⟨rfl, hb⟩; have n0_ := Aside0.mk (blk_below (g := gb175) (o := .cells #[.int .i64 t171, .int .u64 t172] 25 (0, 0)) (by (with_reducible repeat (first | refine blk_drewN ?_ _ | refine blk_drew ?_ | refine blk_alloc ?_ _)); exact BK175.out) hb); have n1_ := Aside0.mk (blk_below (g := gb176) (o := .cells #[.int .i64 t173, .int .u64 t174] 25 (0, 0)) (by (with_reducible repeat (first | refine blk_drewN ?_ _ | refine blk_drew ?_ | refine blk_alloc ?_ _)); exact BK176.out) hb); have n2_ := Aside0.mk (below_step (by repeat (first | (with_reducible first | exact HB.out | apply below_alloc | apply pw_below_drewN | apply below_drew1 | refine below_set ?_ GE175.out | refine below_set ?_ GE176.out) | exact HB.out)) hb); clear BK175; clear BK176; clear HB; have BK175 := n0_; have BK176 := n1_; have HB := n2_; clear n0_ n1_ n2_; (try clear hb); (try clear hb2); (try clear hk); (try clear hi)) | (go_at_call 19; (with_reducible refine (low_Has.calls t203 t204 (Go.bits .or .u64 t177 t178) true _ A34.out).mono ?_); rintro e w71 ⟨rfl, hb⟩; have n0_ := Aside0.mk (blk_below (g := gb175) (o := .cells #[.int .i64 t171, .int .u64 t172] 25 (0, 0)) (by (with_reducible repeat (first | refine blk_drewN ?_ _ | refine blk_drew ?_ | refine blk_alloc ?_ _)); exact BK175.out) hb); have n1_ := Aside0.mk (blk_below (g := gb176) (o := .cells #[.int .i64 t173, .int .u64 t174] 25 (0, 0)) (by (with_reducible repeat (first | refine blk_drewN ?_ _ | refine blk_drew ?_ | refine blk_alloc ?_ _)); exact BK176.out) hb); have n2_ := Aside0.mk (below_step (by repeat (first | (with_reducible first | exact HB.out | apply below_alloc | apply pw_below_drewN | apply below_drew1 | refine below_set ?_ GE175.out | refine below_set ?_ GE176.out) | exact HB.out)) hb); clear BK175; clear BK176; clear HB; have BK175 := n0_; have BK176 := n1_; have HB := n2_; clear n0_ n1_ n2_; (try clear hb); (try clear hb2); (try clear hk); (try clear hi); have hcz72_0 : w71.cell? ⟨gb175, 0, none⟩ = some (.int .i64 t171) := (blk_cell BK175.out 0).trans rfl; have hcz72_1 : w71.cell? ⟨gb175, 1, none⟩ = some (.int .u64 t172) := (blk_cell BK175.out 1).trans rfl; have hfz72_0 := blk_frozen BK175.out 0; have hfz72_1 := blk_frozen BK175.out 1; have hcz73_0 : w71.cell? ⟨gb176, 0, none⟩ = some (.int .i64 t173) := (blk_cell BK176.out 0).trans rfl; have hcz73_1 : w71.cell? ⟨gb176, 1, none⟩ = some (.int .u64 t174) := (blk_cell BK176.out 1).trans rfl; have hfz73_0 := blk_frozen BK176.out 0; have hfz73_1 := blk_frozen BK176.out 1) | (go_at_call 16; (with_reducible refine (low_Xor.calls t171 t172 t173 t174 t206 t207 _ A36.out).mono ?_); rintro e w74 ⟨rfl, hb⟩; have n0_ := Aside0.mk (blk_below (g := gb175) (o := .cells #[.int .i64 t171, .int .u64 t172] 25 (0, 0)) (by (with_reducible repeat (first | refine blk_drewN ?_ _ | refine blk_drew ?_ | refine blk_alloc ?_ _)); exact BK175.out) hb); have n1_ := Aside0.mk (blk_below (g := gb176) (o := .cells #[.int .i64 t173, .int .u64 t174] 25 (0, 0)) (by (with_reducible repeat (first | refine blk_drewN ?_ _ | refine blk_drew ?_ | refine blk_alloc ?_ _)); exact BK176.out) hb); have n2_ := Aside0.mk (below_step (by repeat (first | (with_reducible first | exact HB.out | apply below_alloc | apply pw_below_drewN | apply below_drew1 | refine below_set ?_ GE175.out | refine below_set ?_ GE176.out) | exact HB.out)) hb); clear BK175; clear BK176; clear HB; have BK175 := n0_; have BK176 := n1_; have HB := n2_; clear n0_ n1_ n2_; (try clear hb); (try clear hb2); (try clear hk); (try clear hi)) | (go_at_call 19; (with_reducible refine (low_Has.calls t206 t207 (Go.bits .xor .u64 t177 t178) true _ A37.out).mono ?_); rintro e w75 ⟨rfl, hb⟩; have n0_ := Aside0.mk (blk_below (g := gb175) (o := .cells #[.int .i64 t171, .int .u64 t172] 25 (0, 0)) (by (with_reducible repeat (first | refine blk_drewN ?_ _ | refine blk_drew ?_ | refine blk_alloc ?_ _)); exact BK175.out) hb); have n1_ := Aside0.mk (blk_below (g := gb176) (o := .cells #[.int .i64 t173, .int .u64 t174] 25 (0, 0)) (by (with_reducible repeat (first | refine blk_drewN ?_ _ | refine blk_drew ?_ | refine blk_alloc ?_ _)); exact BK176.out) hb); have n2_ := Aside0.mk (below_step (by repeat (first | (with_reducible first | exact HB.out | apply below_alloc | apply pw_below_drewN | apply below_drew1 | refine below_set ?_ GE175.out | refine below_set ?_ GE176.out) | exact HB.out)) hb); clear BK175; clear BK176; clear HB; have BK175 := n0_; have BK176 := n1_; have HB := n2_; clear n0_ n1_ n2_; (try clear hb); (try clear hb2); (try clear hk); (try clear hi); have hcz76_0 : w75.cell? ⟨gb175, 0, none⟩ = some (.int .i64 t171) := (blk_cell BK175.out 0).trans rfl; have hcz76_1 : w75.cell? ⟨gb175, 1, none⟩ = some (.int .u64 t172) := (blk_cell BK175.out 1).trans rfl; have hfz76_0 := blk_frozen BK175.out 0; have hfz76_1 := blk_frozen BK175.out 1) | (go_at_call 23; (with_reducible refine (low_Shl.calls kj9 t171 t172 t178 x15_9 t209 t210 _ A39.out).mono ?_); rintro e w77 ⟨rfl, hb⟩; have n0_ := Aside0.mk (blk_below (g := gb175) (o := .cells #[.int .i64 t171, .int .u64 t172] 25 (0, 0)) (by (with_reducible repeat (first | refine blk_drewN ?_ _ | refine blk_drew ?_ | refine blk_alloc ?_ _)); exact BK175.out) hb); have n1_ := Aside0.mk (blk_below (g := gb176) (o := .cells #[.int .i64 t173, .int .u64 t174] 25 (0, 0)) (by (with_reducible repeat (first | refine blk_drewN ?_ _ | refine blk_drew ?_ | refine blk_alloc ?_ _)); exact BK176.out) hb); have n2_ := Aside0.mk (below_step (by repeat (first | (with_reducible first | exact HB.out | apply below_alloc | apply pw_below_drewN | apply below_drew1 | refine below_set ?_ GE175.out | refine below_set ?_ GE176.out) | exact HB.out)) hb); clear BK175; clear BK176; clear HB; have BK175 := n0_; have BK176 := n1_; have HB := n2_; clear n0_ n1_ n2_; (try clear hb); (try clear hb2); (try clear hk); (try clear hi)) | (go_at_call 19; (with_reducible refine (low_Has.calls t209 t210 t188 t211 _ A40.out).mono ?_); rintro e w78 ⟨rfl, hb⟩; have n0_ := Aside0.mk (blk_below (g := gb175) (o := .cells #[.int .i64 t171, .int .u64 t172] 25 (0, 0)) (by (with_reducible repeat (first | refine blk_drewN ?_ _ | refine blk_drew ?_ | refine blk_alloc ?_ _)); exact BK175.out) hb); have n1_ := Aside0.mk (blk_below (g := gb176) (o := .cells #[.int .i64 t173, .int .u64 t174] 25 (0, 0)) (by (with_reducible repeat (first | refine blk_drewN ?_ _ | refine blk_drew ?_ | refine blk_alloc ?_ _)); exact BK176.out) hb); have n2_ := Aside0.mk (below_step (by repeat (first | (with_reducible first | exact HB.out | apply below_alloc | apply pw_below_drewN | apply below_drew1 | refine below_set ?_ GE175.out | refine below_set ?_ GE176.out) | exact HB.out)) hb); clear BK175; clear BK176; clear HB; have BK175 := n0_; have BK176 := n1_; have HB := n2_; clear n0_ n1_ n2_; (try clear hb); (try clear hb2); (try clear hk); (try clear hi)))
                    go_ret
                    exact ⟨by first | rfl | (simp [errW_none, errW_some] <;> rfl) | (simp [*, errW_none, errW_some] <;> rfl), by repeat (first | (with_reducible first | exact HB.out | apply below_alloc | apply pw_below_drewN | apply below_drew1 | refine below_set ?_ GE175.out | refine below_set ?_ GE176.out) | exact HB.out)⟩
                  · replace c38 := Bool.eq_false_iff.mpr c38
                    subst c38
                    have H1 : (some false) = some r := by rw [if_neg (show ¬ (false = true) by decide)] at H; exact H
                    clear H
                    have H := H1
                    clear H1
                    exact absurd (Option.some.inj H) (by rw [hr]; decide)
                · replace c35 := Bool.eq_false_iff.mpr c35
                  subst c35
                  have H1 : (some false) = some r := by rw [if_neg (show ¬ (false = true) by decide)] at H; exact H
                  clear H
                  have H := H1
                  clear H1
                  exact absurd (Option.some.inj H) (by rw [hr]; decide)
              · replace c32 := Bool.eq_false_iff.mpr c32
                subst c32
                have H1 : (some false) = some r := by rw [if_neg (show ¬ (false = true) by decide)] at H; exact H
                clear H
                have H := H1
                clear H1
                exact absurd (Option.some.inj H) (by rw [hr]; decide)
            · replace c29 := Bool.eq_false_iff.mpr c29
              subst c29
              have H1 : (some false) = some r := by rw [if_neg (show ¬ (false = true) by decide)] at H; exact H
              clear H
              have H := H1
              clear H1
              exact absurd (Option.some.inj H) (by rw [hr]; decide)
          · replace c26 := Bool.eq_false_iff.mpr c26
            subst c26
            have H1 : (some false) = some r := by rw [if_neg (show ¬ (false = true) by decide)] at H; exact H
            clear H
            have H := H1
            clear H1
            exact absurd (Option.some.inj H) (by rw [hr]; decide)
        · replace c23 := Bool.eq_false_iff.mpr c23
          subst c23
          have H1 : (some false) = some r := by rw [if_neg (show ¬ (false = true) by decide)] at H; exact H
          clear H
          have H := H1
          clear H1
          exact absurd (Option.some.inj H) (by rw [hr]; decide)
  · replace c9 := Bool.eq_false_iff.mpr c9
    subst c9
    have H1 : (some false) = some r := by rw [if_neg (show ¬ (false = true) by decide)] at H; exact H
    clear H
    have H := H1
    clear H1
    exact absurd (Option.some.inj H) (by rw [hr]; decide)

end Go.Proofs.YtfhmhoefeokihaaDoor.PLowSound
