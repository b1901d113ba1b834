-- Written by a program of this session (wip/tools/myprint.py over the print of the kit).
import Derived.Test.YticpdchlknbodaaPAbsTightx0
import Derived.Test.YticpdchlknbodaaPAbsTightx2
import Derived.Test.YticpdchlknbodaaPAbsTightx3
import Derived.Test.YticpdchlknbodaaPAbsTightx4
import Derived.Test.YticpdchlknbodaaPAbsTightx5
namespace Go.Proofs.Yticpdchlknbodaa.PAbsTight
open Go.Proofs.Yticpdchlknbodaa.Ext
open Go.RowKit Go.Proofs.YticpdchlknbodaaW.PrintWords Go.Proofs.YticpdchlknbodaaW.PrintLast Go.Proofs.YticpdchlknbodaaW.PrintMore
attribute [local go_sem] max2_int min2_int max_two min_two max_three min_three max_four min_four   -- for this text's walks alone
set_option linter.unusedVariables false
set_option linter.unusedSimpArgs false

attribute [local go_sem high] eqA26 eqA28
/-! ### trammellaw18_AbsTight: function 3 -/
def trammellaw18_AbsTight.j0 : Nat → Int → Bool → Int → Int → Int → Int → Int → Int → Int → Int → Option (Bool)
  | 0, _, _, _, _, _, _, _, _, _, _ => none
  | k + 1, x1, x93, x149000, x149001, x149002, x149003, x157000, x157001, x157002, x157003 => if x93 = true then (some false) else ((abs_Has.f x149000 x149001 x149002 x149003 x1).bind fun t167 => ((abs_Has.f x157000 x157001 x157002 x157003 x1).bind fun t168 => (if (t167 == t168) = true then ((abs_Within.f x157000 x157001 x157002 x157003 x149000 x149001 x149002 x149003).bind fun t169 => (some t169)) else (some false))))
def trammellaw18_AbsTight.f (k : Nat) (a0_0 : Int) (a0_1 : Int) (a0_2 : Int) (a0_3 : Int) (a1 : Int) : Option (Bool) := (trammellaw18_awake.f k).bind fun t149 => (if t149 = true then ((abs_Right.f a0_0 a0_1 a0_2 a0_3).bind fun t150 => (if t150 = true then ((abs_Tight.f k a0_0 a0_1 a0_2 a0_3).bind fun bt151 => (if bt151.2.2.2.2 = true then ((abs_Tight.f k bt151.1 bt151.2.1 bt151.2.2.1 bt151.2.2.2.1).bind fun bt158 => (if bt158.2.2.2.2 = true then (if ((!(bt158.1 == bt151.1) || (!(bt158.2.1 == bt151.2.1))) || ((!(bt158.2.2.1 == bt151.2.2.1) || (!(bt158.2.2.2.1 == bt151.2.2.2.1))))) = true then (trammellaw18_AbsTight.j0 k a1 true a0_0 a0_1 a0_2 a0_3 bt151.1 bt151.2.1 bt151.2.2.1 bt151.2.2.2.1) else ((abs_Right.f bt151.1 bt151.2.1 bt151.2.2.1 bt151.2.2.2.1).bind fun t164 => (if t164 = true then ((abs_Has.f a0_0 a0_1 a0_2 a0_3 bt151.1).bind fun t165 => (if t165 = true then ((abs_Has.f a0_0 a0_1 a0_2 a0_3 bt151.2.1).bind fun t166 => (if t166 = true then (if bt151.1 = bt151.2.1 then (if bt151.2.2.1 = 64 then (trammellaw18_AbsTight.j0 k a1 false a0_0 a0_1 a0_2 a0_3 bt151.1 bt151.2.1 bt151.2.2.1 bt151.2.2.2.1) else (trammellaw18_AbsTight.j0 k a1 true a0_0 a0_1 a0_2 a0_3 bt151.1 bt151.2.1 bt151.2.2.1 bt151.2.2.2.1)) else (trammellaw18_AbsTight.j0 k a1 (!(bt151.2.2.1 == a0_2) || (!(bt151.2.2.2.1 == a0_3))) a0_0 a0_1 a0_2 a0_3 bt151.1 bt151.2.1 bt151.2.2.1 bt151.2.2.2.1)) else (trammellaw18_AbsTight.j0 k a1 true a0_0 a0_1 a0_2 a0_3 bt151.1 bt151.2.1 bt151.2.2.1 bt151.2.2.2.1))) else (trammellaw18_AbsTight.j0 k a1 true a0_0 a0_1 a0_2 a0_3 bt151.1 bt151.2.1 bt151.2.2.1 bt151.2.2.2.1))) else (trammellaw18_AbsTight.j0 k a1 true a0_0 a0_1 a0_2 a0_3 bt151.1 bt151.2.1 bt151.2.2.1 bt151.2.2.2.1)))) else (trammellaw18_AbsTight.j0 k a1 true a0_0 a0_1 a0_2 a0_3 bt151.1 bt151.2.1 bt151.2.2.1 bt151.2.2.2.1))) else ((abs_Has.f a0_0 a0_1 a0_2 a0_3 a1).bind fun t157 => (if t157 = true then (some false) else (some ((bt151.1 == 0 && (bt151.2.1 == 0)) && ((bt151.2.2.1 == 0 && (bt151.2.2.2.1 == 0))))))))) else (some true))) else (some false))
theorem trammellaw18_AbsTight.mono_l : ∀ k, (∀ y0 y1 y2 y3 y4 y5 y6 y7 y8 y9, LeO (trammellaw18_AbsTight.j0 k y0 y1 y2 y3 y4 y5 y6 y7 y8 y9) (trammellaw18_AbsTight.j0 (k + 1) y0 y1 y2 y3 y4 y5 y6 y7 y8 y9))
  | 0 => fun _ _ _ _ _ _ _ _ _ _ r h => by simp [trammellaw18_AbsTight.j0] at h
  | k + 1 => by
    have ih0 := trammellaw18_AbsTight.mono_l k
    · intro y0 y1 y2 y3 y4 y5 y6 y7 y8 y9
      unfold trammellaw18_AbsTight.j0
      repeat' first
      | (with_reducible exact ih0 _ _ _ _ _ _ _ _ _ _)
      | (with_reducible exact abs_Tight.mono _ _ _ _ _)
      | (with_reducible exact trammellaw18_awake.mono _)
      | (with_reducible exact LeO.refl _)
      | (with_reducible exact LeO.none _)
      | (with_reducible refine LeO.ite ?_ ?_)
      | (with_reducible refine LeO.bind ?_ (fun _ => ?_))
      | exact ih0 _ _ _ _ _ _ _ _ _ _
      | exact abs_Tight.mono _ _ _ _ _
      | exact trammellaw18_awake.mono _
      | exact LeO.none _
      | refine LeO.ite ?_ ?_
      | refine LeO.bind ?_ (fun _ => ?_)
theorem trammellaw18_AbsTight.mono : ∀ a0 a1 a2 a3 a4 k, LeO (trammellaw18_AbsTight.f k a0 a1 a2 a3 a4) (trammellaw18_AbsTight.f (k + 1) a0 a1 a2 a3 a4) := by
  intro a0 a1 a2 a3 a4 k
  have ih0 := trammellaw18_AbsTight.mono_l k
  unfold trammellaw18_AbsTight.f
  repeat' first
      | (with_reducible exact ih0 _ _ _ _ _ _ _ _ _ _)
      | (with_reducible exact abs_Tight.mono _ _ _ _ _)
      | (with_reducible exact trammellaw18_awake.mono _)
      | (with_reducible exact LeO.refl _)
      | (with_reducible exact LeO.none _)
      | (with_reducible refine LeO.ite ?_ ?_)
      | (with_reducible refine LeO.bind ?_ (fun _ => ?_))
      | exact ih0 _ _ _ _ _ _ _ _ _ _
      | exact abs_Tight.mono _ _ _ _ _
      | exact trammellaw18_awake.mono _
      | exact LeO.none _
      | refine LeO.ite ?_ ?_
      | refine LeO.bind ?_ (fun _ => ?_)
def trammellaw18_AbsTight.T11 : Bool × List (List Nat × List Nat) := (true, [([], []), ([], []), ([0, 1], [0, 1]), ([], []), ([], []), ([3, 4, 2], [3, 4]), ([2, 5], [2, 5]), ([6, 5], [6]), ([7], [7]), ([7], [7]), ([8, 9, 7, 7], [7, 8, 9]), ([7, 10], [7, 10]), ([11, 10, 0, 1, 2, 3, 4, 5, 6, 7, 8, 9, 10, 11], [11])])
def trammellaw18_AbsTight.B11 : List Nat := [0, 0, 3, 0, 0, 31, 63, 127, 255, 255, 1023, 2047, 4095]
theorem trammellaw18_AbsTight.tab11 : rtab .any (opsOf Try.f3 11) = trammellaw18_AbsTight.T11 := by kernel_rfl
theorem trammellaw18_AbsTight.bits11 : waitsOk trammellaw18_AbsTight.T11.2 trammellaw18_AbsTight.B11 = true := by kernel_rfl
set_option maxHeartbeats 8000000 in
set_option maxRecDepth 100000 in
theorem trammellaw18_AbsTight.calls (k : Nat) (a0_0 : Int) (a0_1 : Int) (a0_2 : Int) (a0_3 : Int) (a1 : Int) (r : Bool) (w : World) (hr : r = true) (h : trammellaw18_AbsTight.f k a0_0 a0_1 a0_2 a0_3 a1 = some r) :
    Calls Try.prog 3 #[.agg #[.int .u64 a0_0, .int .u64 a0_1, .int .i64 a0_2, .int .u64 a0_3], .int .u64 a1] w fun e w' => e = .returned (.bool r) ∧ Below w.heap.size w w' := by
  have hu28 := Try.underlying28
  have hu26 := Try.underlying26
  have HB := Aside0.mk (Below.refl w.heap.size w)
  have H : ((trammellaw18_awake.f k).bind fun t149 => (if t149 = true then ((abs_Right.f a0_0 a0_1 a0_2 a0_3).bind fun t150 => (if t150 = true then ((abs_Tight.f k a0_0 a0_1 a0_2 a0_3).bind fun bt151 => (if bt151.2.2.2.2 = true then ((abs_Tight.f k bt151.1 bt151.2.1 bt151.2.2.1 bt151.2.2.2.1).bind fun bt158 => (if bt158.2.2.2.2 = true then (if ((!(bt158.1 == bt151.1) || (!(bt158.2.1 == bt151.2.1))) || ((!(bt158.2.2.1 == bt151.2.2.1) || (!(bt158.2.2.2.1 == bt151.2.2.2.1))))) = true then (trammellaw18_AbsTight.j0 k a1 true a0_0 a0_1 a0_2 a0_3 bt151.1 bt151.2.1 bt151.2.2.1 bt151.2.2.2.1) else ((abs_Right.f bt151.1 bt151.2.1 bt151.2.2.1 bt151.2.2.2.1).bind fun t164 => (if t164 = true then ((abs_Has.f a0_0 a0_1 a0_2 a0_3 bt151.1).bind fun t165 => (if t165 = true then ((abs_Has.f a0_0 a0_1 a0_2 a0_3 bt151.2.1).bind fun t166 => (if t166 = true then (if bt151.1 = bt151.2.1 then (if bt151.2.2.1 = 64 then (trammellaw18_AbsTight.j0 k a1 false a0_0 a0_1 a0_2 a0_3 bt151.1 bt151.2.1 bt151.2.2.1 bt151.2.2.2.1) else (trammellaw18_AbsTight.j0 k a1 true a0_0 a0_1 a0_2 a0_3 bt151.1 bt151.2.1 bt151.2.2.1 bt151.2.2.2.1)) else (trammellaw18_AbsTight.j0 k a1 (!(bt151.2.2.1 == a0_2) || (!(bt151.2.2.2.1 == a0_3))) a0_0 a0_1 a0_2 a0_3 bt151.1 bt151.2.1 bt151.2.2.1 bt151.2.2.2.1)) else (trammellaw18_AbsTight.j0 k a1 true a0_0 a0_1 a0_2 a0_3 bt151.1 bt151.2.1 bt151.2.2.1 bt151.2.2.2.1))) else (trammellaw18_AbsTight.j0 k a1 true a0_0 a0_1 a0_2 a0_3 bt151.1 bt151.2.1 bt151.2.2.1 bt151.2.2.2.1))) else (trammellaw18_AbsTight.j0 k a1 true a0_0 a0_1 a0_2 a0_3 bt151.1 bt151.2.1 bt151.2.2.1 bt151.2.2.2.1)))) else (trammellaw18_AbsTight.j0 k a1 true a0_0 a0_1 a0_2 a0_3 bt151.1 bt151.2.1 bt151.2.2.1 bt151.2.2.2.1))) else ((abs_Has.f a0_0 a0_1 a0_2 a0_3 a1).bind fun t157 => (if t157 = true then (some false) else (some ((bt151.1 == 0 && (bt151.2.1 == 0)) && ((bt151.2.2.1 == 0 && (bt151.2.2.2.1 == 0))))))))) else (some true))) else (some false))) = some r := h
  clear h
  replace H := Option.bind_eq_some_iff.mp H
  obtain ⟨t149, A30, H⟩ := H
  replace H : (if t149 = true then ((abs_Right.f a0_0 a0_1 a0_2 a0_3).bind fun t150 => (if t150 = true then ((abs_Tight.f k a0_0 a0_1 a0_2 a0_3).bind fun bt151 => (if bt151.2.2.2.2 = true then ((abs_Tight.f k bt151.1 bt151.2.1 bt151.2.2.1 bt151.2.2.2.1).bind fun bt158 => (if bt158.2.2.2.2 = true then (if ((!(bt158.1 == bt151.1) || (!(bt158.2.1 == bt151.2.1))) || ((!(bt158.2.2.1 == bt151.2.2.1) || (!(bt158.2.2.2.1 == bt151.2.2.2.1))))) = true then (trammellaw18_AbsTight.j0 k a1 true a0_0 a0_1 a0_2 a0_3 bt151.1 bt151.2.1 bt151.2.2.1 bt151.2.2.2.1) else ((abs_Right.f bt151.1 bt151.2.1 bt151.2.2.1 bt151.2.2.2.1).bind fun t164 => (if t164 = true then ((abs_Has.f a0_0 a0_1 a0_2 a0_3 bt151.1).bind fun t165 => (if t165 = true then ((abs_Has.f a0_0 a0_1 a0_2 a0_3 bt151.2.1).bind fun t166 => (if t166 = true then (if bt151.1 = bt151.2.1 then (if bt151.2.2.1 = 64 then (trammellaw18_AbsTight.j0 k a1 false a0_0 a0_1 a0_2 a0_3 bt151.1 bt151.2.1 bt151.2.2.1 bt151.2.2.2.1) else (trammellaw18_AbsTight.j0 k a1 true a0_0 a0_1 a0_2 a0_3 bt151.1 bt151.2.1 bt151.2.2.1 bt151.2.2.2.1)) else (trammellaw18_AbsTight.j0 k a1 (!(bt151.2.2.1 == a0_2) || (!(bt151.2.2.2.1 == a0_3))) a0_0 a0_1 a0_2 a0_3 bt151.1 bt151.2.1 bt151.2.2.1 bt151.2.2.2.1)) else (trammellaw18_AbsTight.j0 k a1 true a0_0 a0_1 a0_2 a0_3 bt151.1 bt151.2.1 bt151.2.2.1 bt151.2.2.2.1))) else (trammellaw18_AbsTight.j0 k a1 true a0_0 a0_1 a0_2 a0_3 bt151.1 bt151.2.1 bt151.2.2.1 bt151.2.2.2.1))) else (trammellaw18_AbsTight.j0 k a1 true a0_0 a0_1 a0_2 a0_3 bt151.1 bt151.2.1 bt151.2.2.1 bt151.2.2.2.1)))) else (trammellaw18_AbsTight.j0 k a1 true a0_0 a0_1 a0_2 a0_3 bt151.1 bt151.2.1 bt151.2.2.1 bt151.2.2.2.1))) else ((abs_Has.f a0_0 a0_1 a0_2 a0_3 a1).bind fun t157 => (if t157 = true then (some false) else (some ((bt151.1 == 0 && (bt151.2.1 == 0)) && ((bt151.2.2.1 == 0 && (bt151.2.2.2.1 == 0))))))))) else (some true))) else (some false)) = some r := H
  have A3 := Aside0.mk A30
  clear A30
  by_cases c4 : t149 = true
  · subst c4
    have H1 : ((abs_Right.f a0_0 a0_1 a0_2 a0_3).bind fun t150 => (if t150 = true then ((abs_Tight.f k a0_0 a0_1 a0_2 a0_3).bind fun bt151 => (if bt151.2.2.2.2 = true then ((abs_Tight.f k bt151.1 bt151.2.1 bt151.2.2.1 bt151.2.2.2.1).bind fun bt158 => (if bt158.2.2.2.2 = true then (if ((!(bt158.1 == bt151.1) || (!(bt158.2.1 == bt151.2.1))) || ((!(bt158.2.2.1 == bt151.2.2.1) || (!(bt158.2.2.2.1 == bt151.2.2.2.1))))) = true then (trammellaw18_AbsTight.j0 k a1 true a0_0 a0_1 a0_2 a0_3 bt151.1 bt151.2.1 bt151.2.2.1 bt151.2.2.2.1) else ((abs_Right.f bt151.1 bt151.2.1 bt151.2.2.1 bt151.2.2.2.1).bind fun t164 => (if t164 = true then ((abs_Has.f a0_0 a0_1 a0_2 a0_3 bt151.1).bind fun t165 => (if t165 = true then ((abs_Has.f a0_0 a0_1 a0_2 a0_3 bt151.2.1).bind fun t166 => (if t166 = true then (if bt151.1 = bt151.2.1 then (if bt151.2.2.1 = 64 then (trammellaw18_AbsTight.j0 k a1 false a0_0 a0_1 a0_2 a0_3 bt151.1 bt151.2.1 bt151.2.2.1 bt151.2.2.2.1) else (trammellaw18_AbsTight.j0 k a1 true a0_0 a0_1 a0_2 a0_3 bt151.1 bt151.2.1 bt151.2.2.1 bt151.2.2.2.1)) else (trammellaw18_AbsTight.j0 k a1 (!(bt151.2.2.1 == a0_2) || (!(bt151.2.2.2.1 == a0_3))) a0_0 a0_1 a0_2 a0_3 bt151.1 bt151.2.1 bt151.2.2.1 bt151.2.2.2.1)) else (trammellaw18_AbsTight.j0 k a1 true a0_0 a0_1 a0_2 a0_3 bt151.1 bt151.2.1 bt151.2.2.1 bt151.2.2.2.1))) else (trammellaw18_AbsTight.j0 k a1 true a0_0 a0_1 a0_2 a0_3 bt151.1 bt151.2.1 bt151.2.2.1 bt151.2.2.2.1))) else (trammellaw18_AbsTight.j0 k a1 true a0_0 a0_1 a0_2 a0_3 bt151.1 bt151.2.1 bt151.2.2.1 bt151.2.2.2.1)))) else (trammellaw18_AbsTight.j0 k a1 true a0_0 a0_1 a0_2 a0_3 bt151.1 bt151.2.1 bt151.2.2.1 bt151.2.2.2.1))) else ((abs_Has.f a0_0 a0_1 a0_2 a0_3 a1).bind fun t157 => (if t157 = true then (some false) else (some ((bt151.1 == 0 && (bt151.2.1 == 0)) && ((bt151.2.2.1 == 0 && (bt151.2.2.2.1 == 0))))))))) else (some true))) = some r := by rw [if_pos rfl] at H; exact H
    clear H
    have H := H1
    clear H1
    replace H := Option.bind_eq_some_iff.mp H
    obtain ⟨t150, A50, H⟩ := H
    replace H : (if t150 = true then ((abs_Tight.f k a0_0 a0_1 a0_2 a0_3).bind fun bt151 => (if bt151.2.2.2.2 = true then ((abs_Tight.f k bt151.1 bt151.2.1 bt151.2.2.1 bt151.2.2.2.1).bind fun bt158 => (if bt158.2.2.2.2 = true then (if ((!(bt158.1 == bt151.1) || (!(bt158.2.1 == bt151.2.1))) || ((!(bt158.2.2.1 == bt151.2.2.1) || (!(bt158.2.2.2.1 == bt151.2.2.2.1))))) = true then (trammellaw18_AbsTight.j0 k a1 true a0_0 a0_1 a0_2 a0_3 bt151.1 bt151.2.1 bt151.2.2.1 bt151.2.2.2.1) else ((abs_Right.f bt151.1 bt151.2.1 bt151.2.2.1 bt151.2.2.2.1).bind fun t164 => (if t164 = true then ((abs_Has.f a0_0 a0_1 a0_2 a0_3 bt151.1).bind fun t165 => (if t165 = true then ((abs_Has.f a0_0 a0_1 a0_2 a0_3 bt151.2.1).bind fun t166 => (if t166 = true then (if bt151.1 = bt151.2.1 then (if bt151.2.2.1 = 64 then (trammellaw18_AbsTight.j0 k a1 false a0_0 a0_1 a0_2 a0_3 bt151.1 bt151.2.1 bt151.2.2.1 bt151.2.2.2.1) else (trammellaw18_AbsTight.j0 k a1 true a0_0 a0_1 a0_2 a0_3 bt151.1 bt151.2.1 bt151.2.2.1 bt151.2.2.2.1)) else (trammellaw18_AbsTight.j0 k a1 (!(bt151.2.2.1 == a0_2) || (!(bt151.2.2.2.1 == a0_3))) a0_0 a0_1 a0_2 a0_3 bt151.1 bt151.2.1 bt151.2.2.1 bt151.2.2.2.1)) else (trammellaw18_AbsTight.j0 k a1 true a0_0 a0_1 a0_2 a0_3 bt151.1 bt151.2.1 bt151.2.2.1 bt151.2.2.2.1))) else (trammellaw18_AbsTight.j0 k a1 true a0_0 a0_1 a0_2 a0_3 bt151.1 bt151.2.1 bt151.2.2.1 bt151.2.2.2.1))) else (trammellaw18_AbsTight.j0 k a1 true a0_0 a0_1 a0_2 a0_3 bt151.1 bt151.2.1 bt151.2.2.1 bt151.2.2.2.1)))) else (trammellaw18_AbsTight.j0 k a1 true a0_0 a0_1 a0_2 a0_3 bt151.1 bt151.2.1 bt151.2.2.1 bt151.2.2.2.1))) else ((abs_Has.f a0_0 a0_1 a0_2 a0_3 a1).bind fun t157 => (if t157 = true then (some false) else (some ((bt151.1 == 0 && (bt151.2.1 == 0)) && ((bt151.2.2.1 == 0 && (bt151.2.2.2.1 == 0))))))))) else (some true)) = some r := H
    have A5 := Aside0.mk A50
    clear A50
    by_cases c6 : t150 = true
    · subst c6
      have H1 : ((abs_Tight.f k a0_0 a0_1 a0_2 a0_3).bind fun bt151 => (if bt151.2.2.2.2 = true then ((abs_Tight.f k bt151.1 bt151.2.1 bt151.2.2.1 bt151.2.2.2.1).bind fun bt158 => (if bt158.2.2.2.2 = true then (if ((!(bt158.1 == bt151.1) || (!(bt158.2.1 == bt151.2.1))) || ((!(bt158.2.2.1 == bt151.2.2.1) || (!(bt158.2.2.2.1 == bt151.2.2.2.1))))) = true then (trammellaw18_AbsTight.j0 k a1 true a0_0 a0_1 a0_2 a0_3 bt151.1 bt151.2.1 bt151.2.2.1 bt151.2.2.2.1) else ((abs_Right.f bt151.1 bt151.2.1 bt151.2.2.1 bt151.2.2.2.1).bind fun t164 => (if t164 = true then ((abs_Has.f a0_0 a0_1 a0_2 a0_3 bt151.1).bind fun t165 => (if t165 = true then ((abs_Has.f a0_0 a0_1 a0_2 a0_3 bt151.2.1).bind fun t166 => (if t166 = true then (if bt151.1 = bt151.2.1 then (if bt151.2.2.1 = 64 then (trammellaw18_AbsTight.j0 k a1 false a0_0 a0_1 a0_2 a0_3 bt151.1 bt151.2.1 bt151.2.2.1 bt151.2.2.2.1) else (trammellaw18_AbsTight.j0 k a1 true a0_0 a0_1 a0_2 a0_3 bt151.1 bt151.2.1 bt151.2.2.1 bt151.2.2.2.1)) else (trammellaw18_AbsTight.j0 k a1 (!(bt151.2.2.1 == a0_2) || (!(bt151.2.2.2.1 == a0_3))) a0_0 a0_1 a0_2 a0_3 bt151.1 bt151.2.1 bt151.2.2.1 bt151.2.2.2.1)) else (trammellaw18_AbsTight.j0 k a1 true a0_0 a0_1 a0_2 a0_3 bt151.1 bt151.2.1 bt151.2.2.1 bt151.2.2.2.1))) else (trammellaw18_AbsTight.j0 k a1 true a0_0 a0_1 a0_2 a0_3 bt151.1 bt151.2.1 bt151.2.2.1 bt151.2.2.2.1))) else (trammellaw18_AbsTight.j0 k a1 true a0_0 a0_1 a0_2 a0_3 bt151.1 bt151.2.1 bt151.2.2.1 bt151.2.2.2.1)))) else (trammellaw18_AbsTight.j0 k a1 true a0_0 a0_1 a0_2 a0_3 bt151.1 bt151.2.1 bt151.2.2.1 bt151.2.2.2.1))) else ((abs_Has.f a0_0 a0_1 a0_2 a0_3 a1).bind fun t157 => (if t157 = true then (some false) else (some ((bt151.1 == 0 && (bt151.2.1 == 0)) && ((bt151.2.2.1 == 0 && (bt151.2.2.2.1 == 0))))))))) = some r := by rw [if_pos rfl] at H; exact H
      clear H
      have H := H1
      clear H1
      replace H := Option.bind_eq_some_iff.mp H
      obtain ⟨⟨t151, t152, t153, t154, t155⟩, A70, H⟩ := H
      replace H : (if t155 = true then ((abs_Tight.f k t151 t152 t153 t154).bind fun bt158 => (if bt158.2.2.2.2 = true then (if ((!(bt158.1 == t151) || (!(bt158.2.1 == t152))) || ((!(bt158.2.2.1 == t153) || (!(bt158.2.2.2.1 == t154))))) = true then (trammellaw18_AbsTight.j0 k a1 true a0_0 a0_1 a0_2 a0_3 t151 t152 t153 t154) else ((abs_Right.f t151 t152 t153 t154).bind fun t164 => (if t164 = true then ((abs_Has.f a0_0 a0_1 a0_2 a0_3 t151).bind fun t165 => (if t165 = true then ((abs_Has.f a0_0 a0_1 a0_2 a0_3 t152).bind fun t166 => (if t166 = true then (if t151 = t152 then (if t153 = 64 then (trammellaw18_AbsTight.j0 k a1 false a0_0 a0_1 a0_2 a0_3 t151 t152 t153 t154) else (trammellaw18_AbsTight.j0 k a1 true a0_0 a0_1 a0_2 a0_3 t151 t152 t153 t154)) else (trammellaw18_AbsTight.j0 k a1 (!(t153 == a0_2) || (!(t154 == a0_3))) a0_0 a0_1 a0_2 a0_3 t151 t152 t153 t154)) else (trammellaw18_AbsTight.j0 k a1 true a0_0 a0_1 a0_2 a0_3 t151 t152 t153 t154))) else (trammellaw18_AbsTight.j0 k a1 true a0_0 a0_1 a0_2 a0_3 t151 t152 t153 t154))) else (trammellaw18_AbsTight.j0 k a1 true a0_0 a0_1 a0_2 a0_3 t151 t152 t153 t154)))) else (trammellaw18_AbsTight.j0 k a1 true a0_0 a0_1 a0_2 a0_3 t151 t152 t153 t154))) else ((abs_Has.f a0_0 a0_1 a0_2 a0_3 a1).bind fun t157 => (if t157 = true then (some false) else (some ((t151 == 0 && (t152 == 0)) && ((t153 == 0 && (t154 == 0)))))))) = some r := H
      have A7 := Aside0.mk A70
      clear A70
      by_cases c8 : t155 = true
      · subst c8
        have H1 : ((abs_Tight.f k t151 t152 t153 t154).bind fun bt158 => (if bt158.2.2.2.2 = true then (if ((!(bt158.1 == t151) || (!(bt158.2.1 == t152))) || ((!(bt158.2.2.1 == t153) || (!(bt158.2.2.2.1 == t154))))) = true then (trammellaw18_AbsTight.j0 k a1 true a0_0 a0_1 a0_2 a0_3 t151 t152 t153 t154) else ((abs_Right.f t151 t152 t153 t154).bind fun t164 => (if t164 = true then ((abs_Has.f a0_0 a0_1 a0_2 a0_3 t151).bind fun t165 => (if t165 = true then ((abs_Has.f a0_0 a0_1 a0_2 a0_3 t152).bind fun t166 => (if t166 = true then (if t151 = t152 then (if t153 = 64 then (trammellaw18_AbsTight.j0 k a1 false a0_0 a0_1 a0_2 a0_3 t151 t152 t153 t154) else (trammellaw18_AbsTight.j0 k a1 true a0_0 a0_1 a0_2 a0_3 t151 t152 t153 t154)) else (trammellaw18_AbsTight.j0 k a1 (!(t153 == a0_2) || (!(t154 == a0_3))) a0_0 a0_1 a0_2 a0_3 t151 t152 t153 t154)) else (trammellaw18_AbsTight.j0 k a1 true a0_0 a0_1 a0_2 a0_3 t151 t152 t153 t154))) else (trammellaw18_AbsTight.j0 k a1 true a0_0 a0_1 a0_2 a0_3 t151 t152 t153 t154))) else (trammellaw18_AbsTight.j0 k a1 true a0_0 a0_1 a0_2 a0_3 t151 t152 t153 t154)))) else (trammellaw18_AbsTight.j0 k a1 true a0_0 a0_1 a0_2 a0_3 t151 t152 t153 t154))) = some r := by rw [if_pos rfl] at H; exact H
        clear H
        have H := H1
        clear H1
        replace H := Option.bind_eq_some_iff.mp H
        obtain ⟨⟨t158, t159, t160, t161, t162⟩, A90, H⟩ := H
        replace H : (if t162 = true then (if ((!(t158 == t151) || (!(t159 == t152))) || ((!(t160 == t153) || (!(t161 == t154))))) = true then (trammellaw18_AbsTight.j0 k a1 true a0_0 a0_1 a0_2 a0_3 t151 t152 t153 t154) else ((abs_Right.f t151 t152 t153 t154).bind fun t164 => (if t164 = true then ((abs_Has.f a0_0 a0_1 a0_2 a0_3 t151).bind fun t165 => (if t165 = true then ((abs_Has.f a0_0 a0_1 a0_2 a0_3 t152).bind fun t166 => (if t166 = true then (if t151 = t152 then (if t153 = 64 then (trammellaw18_AbsTight.j0 k a1 false a0_0 a0_1 a0_2 a0_3 t151 t152 t153 t154) else (trammellaw18_AbsTight.j0 k a1 true a0_0 a0_1 a0_2 a0_3 t151 t152 t153 t154)) else (trammellaw18_AbsTight.j0 k a1 (!(t153 == a0_2) || (!(t154 == a0_3))) a0_0 a0_1 a0_2 a0_3 t151 t152 t153 t154)) else (trammellaw18_AbsTight.j0 k a1 true a0_0 a0_1 a0_2 a0_3 t151 t152 t153 t154))) else (trammellaw18_AbsTight.j0 k a1 true a0_0 a0_1 a0_2 a0_3 t151 t152 t153 t154))) else (trammellaw18_AbsTight.j0 k a1 true a0_0 a0_1 a0_2 a0_3 t151 t152 t153 t154)))) else (trammellaw18_AbsTight.j0 k a1 true a0_0 a0_1 a0_2 a0_3 t151 t152 t153 t154)) = some r := H
        have A9 := Aside0.mk A90
        clear A90
        have HC10 := Aside0.mk H
        clear H
        go_enter Try.func3, Try.ntmps3
        go_upto_region 9 with (first | ((with_reducible refine gate_dst (N := 2) rfl ?_); refine box_event ?hg (N := 2) ?hd (cs := #[.int .u64 a0_0, .int .u64 a0_1, .int .i64 a0_2, .int .u64 a0_3]) (t := 28) ?hr ?_; (case hd => rfl); (case hg => rfl); (case hr => first | (go_simp; done) | (go_simp; rfl)); intro gb148 hg w11 hbox hb; have n0_ := Aside0.mk (below_step (by repeat (first | (with_reducible first | exact HB.out | apply below_alloc | apply pw_below_drewN | apply below_drew1) | exact HB.out)) hb); have n1_ := Aside0.mk (hbox); have n2_ := Aside0.mk ((by rw [hg]; exact (below_size (by repeat (first | (with_reducible first | exact HB.out | apply below_alloc | apply pw_below_drewN | apply below_drew1) | exact HB.out))) : w.heap.size ≤ gb148)); have n3_ := Aside0.mk ((by rw [hg]; exact (below_size (by repeat (first | (with_reducible first | exact HB.out | apply below_alloc | apply pw_below_drewN | apply below_drew1) | exact HB.out))) : w.heap.size ≤ gb148)); clear HB; have HB := n0_; have BK148 := n1_; have GW148 := n2_; have GE148 := n3_; clear n0_ n1_ n2_ n3_; clear hb hbox hg) | ((with_reducible refine gate_callee (f := 5) rfl ?_); refine goesL_ (some 9) rfl rfl Try.func5 (by kernel_rfl) rfl #[] rfl (by (try simp only [List.map_toArray, List.map_cons, List.map_nil]); first | done | rfl | (simp only [List.length_drop, List.length_take]; rfl)) ?_; (with_reducible refine (trammellaw18_awake.calls k  true _ A3.out).mono ?_); rintro e w12 ⟨rfl, hb⟩; refine ⟨_, rfl, ?_⟩; have n0_ := Aside0.mk (blk_below (g := gb148) (o := .cells #[.int .u64 a0_0, .int .u64 a0_1, .int .i64 a0_2, .int .u64 a0_3] 28 (0, 0)) (by (with_reducible repeat (first | refine blk_drewN ?_ _ | refine blk_drew ?_ | refine blk_alloc ?_ _)); exact BK148.out) hb); have n1_ := Aside0.mk (below_step (by repeat (first | (with_reducible first | exact HB.out | apply below_alloc | apply pw_below_drewN | apply below_drew1 | refine below_set ?_ GE148.out) | exact HB.out)) hb); clear BK148; clear HB; have BK148 := n0_; have HB := n1_; clear n0_ n1_; (try clear hb); (try clear hb2); (try clear hk); (try clear hi); have hcz13_0 : w12.cell? ⟨gb148, 0, none⟩ = some (.int .u64 a0_0) := (blk_cell BK148.out 0).trans rfl; have hcz13_1 : w12.cell? ⟨gb148, 1, none⟩ = some (.int .u64 a0_1) := (blk_cell BK148.out 1).trans rfl; have hcz13_2 : w12.cell? ⟨gb148, 2, none⟩ = some (.int .i64 a0_2) := (blk_cell BK148.out 2).trans rfl; have hcz13_3 : w12.cell? ⟨gb148, 3, none⟩ = some (.int .u64 a0_3) := (blk_cell BK148.out 3).trans rfl; have hfz13_0 := blk_frozen BK148.out 0; have hfz13_1 := blk_frozen BK148.out 1; have hfz13_2 := blk_frozen BK148.out 2; have hfz13_3 := blk_frozen BK148.out 3) | ((with_reducible refine gate_callee (f := 6) rfl ?_); refine goesL_ (some 12) rfl rfl Try.func6 (by kernel_rfl) rfl #[.agg #[.int .u64 a0_0, .int .u64 a0_1, .int .i64 a0_2, .int .u64 a0_3]] rfl (by (try simp only [List.map_toArray, List.map_cons, List.map_nil]); first | done | rfl | (simp only [List.length_drop, List.length_take]; rfl)) ?_; (with_reducible refine (abs_Right.calls a0_0 a0_1 a0_2 a0_3 true _ A5.out).mono ?_); rintro e w14 ⟨rfl, hb⟩; refine ⟨_, rfl, ?_⟩; have n0_ := Aside0.mk (blk_below (g := gb148) (o := .cells #[.int .u64 a0_0, .int .u64 a0_1, .int .i64 a0_2, .int .u64 a0_3] 28 (0, 0)) (by (with_reducible repeat (first | refine blk_drewN ?_ _ | refine blk_drew ?_ | refine blk_alloc ?_ _)); exact BK148.out) hb); have n1_ := Aside0.mk (below_step (by repeat (first | (with_reducible first | exact HB.out | apply below_alloc | apply pw_below_drewN | apply below_drew1 | refine below_set ?_ GE148.out) | exact HB.out)) hb); clear BK148; clear HB; have BK148 := n0_; have HB := n1_; clear n0_ n1_; (try clear hb); (try clear hb2); (try clear hk); (try clear hi); have hcz15_0 : w14.cell? ⟨gb148, 0, none⟩ = some (.int .u64 a0_0) := (blk_cell BK148.out 0).trans rfl; have hcz15_1 : w14.cell? ⟨gb148, 1, none⟩ = some (.int .u64 a0_1) := (blk_cell BK148.out 1).trans rfl; have hcz15_2 : w14.cell? ⟨gb148, 2, none⟩ = some (.int .i64 a0_2) := (blk_cell BK148.out 2).trans rfl; have hcz15_3 : w14.cell? ⟨gb148, 3, none⟩ = some (.int .u64 a0_3) := (blk_cell BK148.out 3).trans rfl; have hfz15_0 := blk_frozen BK148.out 0; have hfz15_1 := blk_frozen BK148.out 1; have hfz15_2 := blk_frozen BK148.out 2; have hfz15_3 := blk_frozen BK148.out 3) | ((with_reducible refine gate_callee (f := 7) rfl ?_); refine goesL_ (some 16) rfl rfl Try.func7 (by kernel_rfl) rfl #[.agg #[.int .u64 a0_0, .int .u64 a0_1, .int .i64 a0_2, .int .u64 a0_3]] rfl (by (try simp only [List.map_toArray, List.map_cons, List.map_nil]); first | done | rfl | (simp only [List.length_drop, List.length_take]; rfl)) ?_; (with_reducible refine (abs_Tight.calls k a0_0 a0_1 a0_2 a0_3 t151 t152 t153 t154 true _ A7.out).mono ?_); rintro e w16 ⟨rfl, hb⟩; refine ⟨_, rfl, ?_⟩; have n0_ := Aside0.mk (blk_below (g := gb148) (o := .cells #[.int .u64 a0_0, .int .u64 a0_1, .int .i64 a0_2, .int .u64 a0_3] 28 (0, 0)) (by (with_reducible repeat (first | refine blk_drewN ?_ _ | refine blk_drew ?_ | refine blk_alloc ?_ _)); exact BK148.out) hb); have n1_ := Aside0.mk (below_step (by repeat (first | (with_reducible first | exact HB.out | apply below_alloc | apply pw_below_drewN | apply below_drew1 | refine below_set ?_ GE148.out) | exact HB.out)) hb); clear BK148; clear HB; have BK148 := n0_; have HB := n1_; clear n0_ n1_; (try clear hb); (try clear hb2); (try clear hk); (try clear hi)) | ((with_reducible refine gate_dst (N := 5) rfl ?_); refine box_event ?hg (N := 5) ?hd (cs := #[.int .u64 0, .int .u64 0, .int .i64 0, .int .u64 0]) (t := 28) ?hr ?_; (case hd => rfl); (case hg => rfl); (case hr => first | (go_simp; done) | (go_simp; rfl)); intro gb156 hg w17 hbox hb; have n0_ := Aside0.mk (blk_below (g := gb148) (o := .cells #[.int .u64 a0_0, .int .u64 a0_1, .int .i64 a0_2, .int .u64 a0_3] 28 (0, 0)) (by (with_reducible repeat (first | refine blk_drewN ?_ _ | refine blk_drew ?_ | refine blk_alloc ?_ _)); exact BK148.out) hb); have n1_ := Aside0.mk (below_step (by repeat (first | (with_reducible first | exact HB.out | apply below_alloc | apply pw_below_drewN | apply below_drew1 | refine below_set ?_ GE148.out) | exact HB.out)) hb); have n2_ := Aside0.mk (hbox); have n3_ := Aside0.mk ((by rw [hg]; exact (below_size (by repeat (first | (with_reducible first | exact HB.out | apply below_alloc | apply pw_below_drewN | apply below_drew1 | refine below_set ?_ GE148.out) | exact HB.out))) : w.heap.size ≤ gb156)); have n4_ := Aside0.mk ((by rw [hg]; exact (below_size (by repeat (first | (with_reducible first | exact HB.out | apply below_alloc | apply pw_below_drewN | apply below_drew1 | refine below_set ?_ GE148.out) | exact HB.out))) : w.heap.size ≤ gb156)); have n5_ := Aside0.mk ((by rw [hg]; exact Nat.ne_of_lt (blk_lt (g := gb148) (o := .cells #[.int .u64 a0_0, .int .u64 a0_1, .int .i64 a0_2, .int .u64 a0_3] 28 (0, 0)) (by (with_reducible repeat (first | refine blk_drewN ?_ _ | refine blk_drew ?_ | refine blk_alloc ?_ _)); exact BK148.out)) : gb148 ≠ gb156)); have n6_ := Aside0.mk ((by rw [hg]; exact Nat.ne_of_gt (blk_lt (g := gb148) (o := .cells #[.int .u64 a0_0, .int .u64 a0_1, .int .i64 a0_2, .int .u64 a0_3] 28 (0, 0)) (by (with_reducible repeat (first | refine blk_drewN ?_ _ | refine blk_drew ?_ | refine blk_alloc ?_ _)); exact BK148.out)) : gb156 ≠ gb148)); clear BK148; clear HB; have BK148 := n0_; have HB := n1_; have BK156 := n2_; have GW156 := n3_; have GE156 := n4_; have NB148_156 := n5_; have NB156_148 := n6_; clear n0_ n1_ n2_ n3_ n4_ n5_ n6_; clear hb hbox hg; have hnb18 := NB156_148.out; have hnc18 := NB148_156.out; have hcz19_0 : w17.cell? ⟨gb156, 0, none⟩ = some (.int .u64 0) := (blk_cell BK156.out 0).trans rfl; have hcz19_1 : w17.cell? ⟨gb156, 1, none⟩ = some (.int .u64 0) := (blk_cell BK156.out 1).trans rfl; have hcz19_2 : w17.cell? ⟨gb156, 2, none⟩ = some (.int .i64 0) := (blk_cell BK156.out 2).trans rfl; have hcz19_3 : w17.cell? ⟨gb156, 3, none⟩ = some (.int .u64 0) := (blk_cell BK156.out 3).trans rfl; have hfz19_0 := blk_frozen BK156.out 0; have hfz19_1 := blk_frozen BK156.out 1; have hfz19_2 := blk_frozen BK156.out 2; have hfz19_3 := blk_frozen BK156.out 3) | ((with_reducible refine gate_callee (f := 7) rfl ?_); refine goesL_ (some 32) rfl rfl Try.func7 (by kernel_rfl) rfl #[.agg #[.int .u64 t151, .int .u64 t152, .int .i64 t153, .int .u64 t154]] rfl (by (try simp only [List.map_toArray, List.map_cons, List.map_nil]); first | done | rfl | (simp only [List.length_drop, List.length_take]; rfl)) ?_; (with_reducible refine (abs_Tight.calls k t151 t152 t153 t154 t158 t159 t160 t161 t162 _ A9.out).mono ?_); rintro e w20 ⟨rfl, hb⟩; refine ⟨_, rfl, ?_⟩; have n0_ := Aside0.mk (blk_below (g := gb148) (o := .cells #[.int .u64 a0_0, .int .u64 a0_1, .int .i64 a0_2, .int .u64 a0_3] 28 (0, 0)) (by (with_reducible repeat (first | refine blk_drewN ?_ _ | refine blk_drew ?_ | refine blk_alloc ?_ _)); refine blk_far ?_ NB148_156.out _; (with_reducible repeat (first | refine blk_drewN ?_ _ | refine blk_drew ?_ | refine blk_alloc ?_ _)); refine blk_far ?_ NB148_156.out _; (with_reducible repeat (first | refine blk_drewN ?_ _ | refine blk_drew ?_ | refine blk_alloc ?_ _)); refine blk_far ?_ NB148_156.out _; (with_reducible repeat (first | refine blk_drewN ?_ _ | refine blk_drew ?_ | refine blk_alloc ?_ _)); refine blk_far ?_ NB148_156.out _; (with_reducible repeat (first | refine blk_drewN ?_ _ | refine blk_drew ?_ | refine blk_alloc ?_ _)); exact BK148.out) hb); have n1_ := Aside0.mk (blk_below (g := gb156) (o := .cells #[.int .u64 t151, .int .u64 t152, .int .i64 t153, .int .u64 t154] 28 (0, 0)) (by (with_reducible repeat (first | refine blk_drewN ?_ _ | refine blk_drew ?_ | refine blk_alloc ?_ _)); refine blk_put (cs := #[.int .u64 t151, .int .u64 t152, .int .i64 t153, .int .u64 0]) ?_ 3 _ (by first | rfl | (simp_all; done)); (with_reducible repeat (first | refine blk_drewN ?_ _ | refine blk_drew ?_ | refine blk_alloc ?_ _)); refine blk_put (cs := #[.int .u64 t151, .int .u64 t152, .int .i64 0, .int .u64 0]) ?_ 2 _ (by first | rfl | (simp_all; done)); (with_reducible repeat (first | refine blk_drewN ?_ _ | refine blk_drew ?_ | refine blk_alloc ?_ _)); refine blk_put (cs := #[.int .u64 t151, .int .u64 0, .int .i64 0, .int .u64 0]) ?_ 1 _ (by first | rfl | (simp_all; done)); (with_reducible repeat (first | refine blk_drewN ?_ _ | refine blk_drew ?_ | refine blk_alloc ?_ _)); refine blk_put (cs := #[.int .u64 0, .int .u64 0, .int .i64 0, .int .u64 0]) ?_ 0 _ (by first | rfl | (simp_all; done)); (with_reducible repeat (first | refine blk_drewN ?_ _ | refine blk_drew ?_ | refine blk_alloc ?_ _)); exact BK156.out) hb); have n2_ := Aside0.mk (below_step (by repeat (first | (with_reducible first | exact HB.out | apply below_alloc | apply pw_below_drewN | apply below_drew1 | refine below_set ?_ GE148.out | refine below_set ?_ GE156.out) | exact HB.out)) hb); clear BK148; clear BK156; clear HB; have BK148 := n0_; have BK156 := n1_; have HB := n2_; clear n0_ n1_ n2_; (try clear hb); (try clear hb2); (try clear hk); (try clear hi)) | ((with_reducible refine gate_dst (N := 7) rfl ?_); refine box_event ?hg (N := 7) ?hd (cs := #[.int .u64 0, .int .u64 0, .int .i64 0, .int .u64 0]) (t := 28) ?hr ?_; (case hd => rfl); (case hg => rfl); (case hr => first | (go_simp; done) | (go_simp; rfl)); intro gb163 hg w21 hbox hb; have n0_ := Aside0.mk (blk_below (g := gb148) (o := .cells #[.int .u64 a0_0, .int .u64 a0_1, .int .i64 a0_2, .int .u64 a0_3] 28 (0, 0)) (by (with_reducible repeat (first | refine blk_drewN ?_ _ | refine blk_drew ?_ | refine blk_alloc ?_ _)); exact BK148.out) hb); have n1_ := Aside0.mk (blk_below (g := gb156) (o := .cells #[.int .u64 t151, .int .u64 t152, .int .i64 t153, .int .u64 t154] 28 (0, 0)) (by (with_reducible repeat (first | refine blk_drewN ?_ _ | refine blk_drew ?_ | refine blk_alloc ?_ _)); exact BK156.out) hb); have n2_ := Aside0.mk (below_step (by repeat (first | (with_reducible first | exact HB.out | apply below_alloc | apply pw_below_drewN | apply below_drew1 | refine below_set ?_ GE148.out | refine below_set ?_ GE156.out) | exact HB.out)) hb); have n3_ := Aside0.mk (hbox); have n4_ := Aside0.mk ((by rw [hg]; exact (below_size (by repeat (first | (with_reducible first | exact HB.out | apply below_alloc | apply pw_below_drewN | apply below_drew1 | refine below_set ?_ GE148.out | refine below_set ?_ GE156.out) | exact HB.out))) : w.heap.size ≤ gb163)); have n5_ := Aside0.mk ((by rw [hg]; exact (below_size (by repeat (first | (with_reducible first | exact HB.out | apply below_alloc | apply pw_below_drewN | apply below_drew1 | refine below_set ?_ GE148.out | refine below_set ?_ GE156.out) | exact HB.out))) : w.heap.size ≤ gb163)); have n6_ := Aside0.mk ((by rw [hg]; exact Nat.ne_of_lt (blk_lt (g := gb148) (o := .cells #[.int .u64 a0_0, .int .u64 a0_1, .int .i64 a0_2, .int .u64 a0_3] 28 (0, 0)) (by (with_reducible repeat (first | refine blk_drewN ?_ _ | refine blk_drew ?_ | refine blk_alloc ?_ _)); exact BK148.out)) : gb148 ≠ gb163)); have n7_ := Aside0.mk ((by rw [hg]; exact Nat.ne_of_gt (blk_lt (g := gb148) (o := .cells #[.int .u64 a0_0, .int .u64 a0_1, .int .i64 a0_2, .int .u64 a0_3] 28 (0, 0)) (by (with_reducible repeat (first | refine blk_drewN ?_ _ | refine blk_drew ?_ | refine blk_alloc ?_ _)); exact BK148.out)) : gb163 ≠ gb148)); have n8_ := Aside0.mk ((by rw [hg]; exact Nat.ne_of_lt (blk_lt (g := gb156) (o := .cells #[.int .u64 t151, .int .u64 t152, .int .i64 t153, .int .u64 t154] 28 (0, 0)) (by (with_reducible repeat (first | refine blk_drewN ?_ _ | refine blk_drew ?_ | refine blk_alloc ?_ _)); exact BK156.out)) : gb156 ≠ gb163)); have n9_ := Aside0.mk ((by rw [hg]; exact Nat.ne_of_gt (blk_lt (g := gb156) (o := .cells #[.int .u64 t151, .int .u64 t152, .int .i64 t153, .int .u64 t154] 28 (0, 0)) (by (with_reducible repeat (first | refine blk_drewN ?_ _ | refine blk_drew ?_ | refine blk_alloc ?_ _)); exact BK156.out)) : gb163 ≠ gb156)); clear BK148; clear BK156; clear HB; have BK148 := n0_; have BK156 := n1_; have HB := n2_; have BK163 := n3_; have GW163 := n4_; have GE163 := n5_; have NB148_163 := n6_; have NB163_148 := n7_; have NB156_163 := n8_; have NB163_156 := n9_; clear n0_ n1_ n2_ n3_ n4_ n5_ n6_ n7_ n8_ n9_; clear hb hbox hg; have hnb22 := NB163_148.out; have hnc22 := NB148_163.out; have hnb23 := NB163_156.out; have hnc23 := NB156_163.out; have hcz24_0 : w21.cell? ⟨gb163, 0, none⟩ = some (.int .u64 0) := (blk_cell BK163.out 0).trans rfl; have hcz24_1 : w21.cell? ⟨gb163, 1, none⟩ = some (.int .u64 0) := (blk_cell BK163.out 1).trans rfl; have hcz24_2 : w21.cell? ⟨gb163, 2, none⟩ = some (.int .i64 0) := (blk_cell BK163.out 2).trans rfl; have hcz24_3 : w21.cell? ⟨gb163, 3, none⟩ = some (.int .u64 0) := (blk_cell BK163.out 3).trans rfl; have hfz24_0 := blk_frozen BK163.out 0; have hfz24_1 := blk_frozen BK163.out 1; have hfz24_2 := blk_frozen BK163.out 2; have hfz24_3 := blk_frozen BK163.out 3))
        (try simp only [Act.put, List.setIfInBounds_toArray, List.set_cons_zero, List.set_cons_succ])
        go_cut [93] (fun v93 wc => ∃ (kq : Nat) (x93_9 : Bool), v93 = .bool x93_9 ∧ Aside0 (trammellaw18_AbsTight.j0 kq a1 x93_9 a0_0 a0_1 a0_2 a0_3 t151 t152 t153 t154 = some r) ∧ Aside0 (kq ≤ k) ∧ Aside0 (wc.heap[gb148]? = some (.cells #[.int .u64 a0_0, .int .u64 a0_1, .int .i64 a0_2, .int .u64 a0_3] 28 (0, 0))) ∧ Aside0 (wc.heap[gb156]? = some (.cells #[.int .u64 t151, .int .u64 t152, .int .i64 t153, .int .u64 t154] 28 (0, 0))) ∧ Aside0 (wc.heap[gb163]? = some (.cells #[.int .u64 t158, .int .u64 t159, .int .i64 t160, .int .u64 t161] 28 (0, 0))) ∧ Aside0 (Below w.heap.size w wc))
        case first =>
          have H := HC10.out
          clear HC10
          by_cases c25 : t162 = true
          · subst c25
            have H1 : (if ((!(t158 == t151) || (!(t159 == t152))) || ((!(t160 == t153) || (!(t161 == t154))))) = true then (trammellaw18_AbsTight.j0 k a1 true a0_0 a0_1 a0_2 a0_3 t151 t152 t153 t154) else ((abs_Right.f t151 t152 t153 t154).bind fun t164 => (if t164 = true then ((abs_Has.f a0_0 a0_1 a0_2 a0_3 t151).bind fun t165 => (if t165 = true then ((abs_Has.f a0_0 a0_1 a0_2 a0_3 t152).bind fun t166 => (if t166 = true then (if t151 = t152 then (if t153 = 64 then (trammellaw18_AbsTight.j0 k a1 false a0_0 a0_1 a0_2 a0_3 t151 t152 t153 t154) else (trammellaw18_AbsTight.j0 k a1 true a0_0 a0_1 a0_2 a0_3 t151 t152 t153 t154)) else (trammellaw18_AbsTight.j0 k a1 (!(t153 == a0_2) || (!(t154 == a0_3))) a0_0 a0_1 a0_2 a0_3 t151 t152 t153 t154)) else (trammellaw18_AbsTight.j0 k a1 true a0_0 a0_1 a0_2 a0_3 t151 t152 t153 t154))) else (trammellaw18_AbsTight.j0 k a1 true a0_0 a0_1 a0_2 a0_3 t151 t152 t153 t154))) else (trammellaw18_AbsTight.j0 k a1 true a0_0 a0_1 a0_2 a0_3 t151 t152 t153 t154)))) = some r := by rw [if_pos rfl] at H; exact H
            clear H
            have H := H1
            clear H1
            by_cases c26 : ((!(t158 == t151) || (!(t159 == t152))) || ((!(t160 == t153) || (!(t161 == t154))))) = true
            · rw [if_pos c26] at H
              have c26b0 : ((!(t158 == t151) || (!(t159 == t152))) || ((!(t160 == t153) || (!(t161 == t154))))) = true := c26
              clear c26
              (first | rw [c26b0] | (simp only [i64_w, i32_w]; rw [c26b0]) | skip)
              have H' := Aside0.mk H
              clear H
              have hnb27 := NB163_148.out
              have hnc27 := NB148_163.out
              have hnb28 := NB163_156.out
              have hnc28 := NB156_163.out
              have hcz29_0 : w21.cell? ⟨gb163, 0, none⟩ = some (.int .u64 0) := (blk_cell BK163.out 0).trans rfl
              have hcz29_1 : w21.cell? ⟨gb163, 1, none⟩ = some (.int .u64 0) := (blk_cell BK163.out 1).trans rfl
              have hcz29_2 : w21.cell? ⟨gb163, 2, none⟩ = some (.int .i64 0) := (blk_cell BK163.out 2).trans rfl
              have hcz29_3 : w21.cell? ⟨gb163, 3, none⟩ = some (.int .u64 0) := (blk_cell BK163.out 3).trans rfl
              have hfz29_0 := blk_frozen BK163.out 0
              have hfz29_1 := blk_frozen BK163.out 1
              have hfz29_2 := blk_frozen BK163.out 2
              have hfz29_3 := blk_frozen BK163.out 3
              have hnb30 := NB156_148.out
              have hnc30 := NB148_156.out
              have hcz31_0 : w21.cell? ⟨gb156, 0, none⟩ = some (.int .u64 t151) := (blk_cell BK156.out 0).trans rfl
              have hcz31_1 : w21.cell? ⟨gb156, 1, none⟩ = some (.int .u64 t152) := (blk_cell BK156.out 1).trans rfl
              have hcz31_2 : w21.cell? ⟨gb156, 2, none⟩ = some (.int .i64 t153) := (blk_cell BK156.out 2).trans rfl
              have hcz31_3 : w21.cell? ⟨gb156, 3, none⟩ = some (.int .u64 t154) := (blk_cell BK156.out 3).trans rfl
              have hfz31_0 := blk_frozen BK156.out 0
              have hfz31_1 := blk_frozen BK156.out 1
              have hfz31_2 := blk_frozen BK156.out 2
              have hfz31_3 := blk_frozen BK156.out 3
              go_wp2
              go_meet
              case rel => exact ⟨_, (true), (by first | rfl | (simp; done) | (simp [*]; done)), H', ⟨by first | omega | exact Nat.le_refl _⟩, ⟨by (with_reducible repeat (first | refine blk_drewN ?_ _ | refine blk_drew ?_ | refine blk_alloc ?_ _)); refine blk_far ?_ NB148_163.out _; (with_reducible repeat (first | refine blk_drewN ?_ _ | refine blk_drew ?_ | refine blk_alloc ?_ _)); refine blk_far ?_ NB148_163.out _; (with_reducible repeat (first | refine blk_drewN ?_ _ | refine blk_drew ?_ | refine blk_alloc ?_ _)); refine blk_far ?_ NB148_163.out _; (with_reducible repeat (first | refine blk_drewN ?_ _ | refine blk_drew ?_ | refine blk_alloc ?_ _)); refine blk_far ?_ NB148_163.out _; (with_reducible repeat (first | refine blk_drewN ?_ _ | refine blk_drew ?_ | refine blk_alloc ?_ _)); exact BK148.out⟩, ⟨by (with_reducible repeat (first | refine blk_drewN ?_ _ | refine blk_drew ?_ | refine blk_alloc ?_ _)); refine blk_far ?_ NB156_163.out _; (with_reducible repeat (first | refine blk_drewN ?_ _ | refine blk_drew ?_ | refine blk_alloc ?_ _)); refine blk_far ?_ NB156_163.out _; (with_reducible repeat (first | refine blk_drewN ?_ _ | refine blk_drew ?_ | refine blk_alloc ?_ _)); refine blk_far ?_ NB156_163.out _; (with_reducible repeat (first | refine blk_drewN ?_ _ | refine blk_drew ?_ | refine blk_alloc ?_ _)); refine blk_far ?_ NB156_163.out _; (with_reducible repeat (first | refine blk_drewN ?_ _ | refine blk_drew ?_ | refine blk_alloc ?_ _)); exact BK156.out⟩, ⟨by (with_reducible repeat (first | refine blk_drewN ?_ _ | refine blk_drew ?_ | refine blk_alloc ?_ _)); refine blk_put (cs := #[.int .u64 t158, .int .u64 t159, .int .i64 t160, .int .u64 0]) ?_ 3 _ (by first | rfl | (simp_all; done)); (with_reducible repeat (first | refine blk_drewN ?_ _ | refine blk_drew ?_ | refine blk_alloc ?_ _)); refine blk_put (cs := #[.int .u64 t158, .int .u64 t159, .int .i64 0, .int .u64 0]) ?_ 2 _ (by first | rfl | (simp_all; done)); (with_reducible repeat (first | refine blk_drewN ?_ _ | refine blk_drew ?_ | refine blk_alloc ?_ _)); refine blk_put (cs := #[.int .u64 t158, .int .u64 0, .int .i64 0, .int .u64 0]) ?_ 1 _ (by first | rfl | (simp_all; done)); (with_reducible repeat (first | refine blk_drewN ?_ _ | refine blk_drew ?_ | refine blk_alloc ?_ _)); refine blk_put (cs := #[.int .u64 0, .int .u64 0, .int .i64 0, .int .u64 0]) ?_ 0 _ (by first | rfl | (simp_all; done)); (with_reducible repeat (first | refine blk_drewN ?_ _ | refine blk_drew ?_ | refine blk_alloc ?_ _)); exact BK163.out⟩, ⟨by repeat (first | (with_reducible first | exact HB.out | apply below_alloc | apply pw_below_drewN | apply below_drew1 | refine below_set ?_ GE148.out | refine below_set ?_ GE156.out | refine below_set ?_ GE163.out) | exact HB.out)⟩⟩
            · rw [if_neg c26] at H
              have c26b0 : ((!(t158 == t151) || (!(t159 == t152))) || ((!(t160 == t153) || (!(t161 == t154))))) = false := by simpa using c26
              clear c26
              (first | rw [c26b0] | (simp only [i64_w, i32_w]; rw [c26b0]) | skip)
              replace H := Option.bind_eq_some_iff.mp H
              obtain ⟨t164, A320, H⟩ := H
              replace H : (if t164 = true then ((abs_Has.f a0_0 a0_1 a0_2 a0_3 t151).bind fun t165 => (if t165 = true then ((abs_Has.f a0_0 a0_1 a0_2 a0_3 t152).bind fun t166 => (if t166 = true then (if t151 = t152 then (if t153 = 64 then (trammellaw18_AbsTight.j0 k a1 false a0_0 a0_1 a0_2 a0_3 t151 t152 t153 t154) else (trammellaw18_AbsTight.j0 k a1 true a0_0 a0_1 a0_2 a0_3 t151 t152 t153 t154)) else (trammellaw18_AbsTight.j0 k a1 (!(t153 == a0_2) || (!(t154 == a0_3))) a0_0 a0_1 a0_2 a0_3 t151 t152 t153 t154)) else (trammellaw18_AbsTight.j0 k a1 true a0_0 a0_1 a0_2 a0_3 t151 t152 t153 t154))) else (trammellaw18_AbsTight.j0 k a1 true a0_0 a0_1 a0_2 a0_3 t151 t152 t153 t154))) else (trammellaw18_AbsTight.j0 k a1 true a0_0 a0_1 a0_2 a0_3 t151 t152 t153 t154)) = some r := H
              have A32 := Aside0.mk A320
              clear A320
              by_cases c33 : t164 = true
              · subst c33
                have H1 : ((abs_Has.f a0_0 a0_1 a0_2 a0_3 t151).bind fun t165 => (if t165 = true then ((abs_Has.f a0_0 a0_1 a0_2 a0_3 t152).bind fun t166 => (if t166 = true then (if t151 = t152 then (if t153 = 64 then (trammellaw18_AbsTight.j0 k a1 false a0_0 a0_1 a0_2 a0_3 t151 t152 t153 t154) else (trammellaw18_AbsTight.j0 k a1 true a0_0 a0_1 a0_2 a0_3 t151 t152 t153 t154)) else (trammellaw18_AbsTight.j0 k a1 (!(t153 == a0_2) || (!(t154 == a0_3))) a0_0 a0_1 a0_2 a0_3 t151 t152 t153 t154)) else (trammellaw18_AbsTight.j0 k a1 true a0_0 a0_1 a0_2 a0_3 t151 t152 t153 t154))) else (trammellaw18_AbsTight.j0 k a1 true a0_0 a0_1 a0_2 a0_3 t151 t152 t153 t154))) = some r := by rw [if_pos rfl] at H; exact H
                clear H
                have H := H1
                clear H1
                replace H := Option.bind_eq_some_iff.mp H
                obtain ⟨t165, A340, H⟩ := H
                replace H : (if t165 = true then ((abs_Has.f a0_0 a0_1 a0_2 a0_3 t152).bind fun t166 => (if t166 = true then (if t151 = t152 then (if t153 = 64 then (trammellaw18_AbsTight.j0 k a1 false a0_0 a0_1 a0_2 a0_3 t151 t152 t153 t154) else (trammellaw18_AbsTight.j0 k a1 true a0_0 a0_1 a0_2 a0_3 t151 t152 t153 t154)) else (trammellaw18_AbsTight.j0 k a1 (!(t153 == a0_2) || (!(t154 == a0_3))) a0_0 a0_1 a0_2 a0_3 t151 t152 t153 t154)) else (trammellaw18_AbsTight.j0 k a1 true a0_0 a0_1 a0_2 a0_3 t151 t152 t153 t154))) else (trammellaw18_AbsTight.j0 k a1 true a0_0 a0_1 a0_2 a0_3 t151 t152 t153 t154)) = some r := H
                have A34 := Aside0.mk A340
                clear A340
                by_cases c35 : t165 = true
                · subst c35
                  have H1 : ((abs_Has.f a0_0 a0_1 a0_2 a0_3 t152).bind fun t166 => (if t166 = true then (if t151 = t152 then (if t153 = 64 then (trammellaw18_AbsTight.j0 k a1 false a0_0 a0_1 a0_2 a0_3 t151 t152 t153 t154) else (trammellaw18_AbsTight.j0 k a1 true a0_0 a0_1 a0_2 a0_3 t151 t152 t153 t154)) else (trammellaw18_AbsTight.j0 k a1 (!(t153 == a0_2) || (!(t154 == a0_3))) a0_0 a0_1 a0_2 a0_3 t151 t152 t153 t154)) else (trammellaw18_AbsTight.j0 k a1 true a0_0 a0_1 a0_2 a0_3 t151 t152 t153 t154))) = some r := by rw [if_pos rfl] at H; exact H
                  clear H
                  have H := H1
                  clear H1
                  replace H := Option.bind_eq_some_iff.mp H
                  obtain ⟨t166, A360, H⟩ := H
                  replace H : (if t166 = true then (if t151 = t152 then (if t153 = 64 then (trammellaw18_AbsTight.j0 k a1 false a0_0 a0_1 a0_2 a0_3 t151 t152 t153 t154) else (trammellaw18_AbsTight.j0 k a1 true a0_0 a0_1 a0_2 a0_3 t151 t152 t153 t154)) else (trammellaw18_AbsTight.j0 k a1 (!(t153 == a0_2) || (!(t154 == a0_3))) a0_0 a0_1 a0_2 a0_3 t151 t152 t153 t154)) else (trammellaw18_AbsTight.j0 k a1 true a0_0 a0_1 a0_2 a0_3 t151 t152 t153 t154)) = some r := H
                  have A36 := Aside0.mk A360
                  clear A360
                  by_cases c37 : t166 = true
                  · subst c37
                    have H1 : (if t151 = t152 then (if t153 = 64 then (trammellaw18_AbsTight.j0 k a1 false a0_0 a0_1 a0_2 a0_3 t151 t152 t153 t154) else (trammellaw18_AbsTight.j0 k a1 true a0_0 a0_1 a0_2 a0_3 t151 t152 t153 t154)) else (trammellaw18_AbsTight.j0 k a1 (!(t153 == a0_2) || (!(t154 == a0_3))) a0_0 a0_1 a0_2 a0_3 t151 t152 t153 t154)) = some r := by rw [if_pos rfl] at H; exact H
                    clear H
                    have H := H1
                    clear H1
                    by_cases c38 : t151 = t152
                    · rw [if_pos c38] at H
                      have c38b0 : (t151 == t152) = true := beq_iff_eq.mpr c38
                      have c38b1 : (t151 != t152) = false := bne_eq_false_iff_eq.mpr c38
                      clear c38
                      by_cases c39 : t153 = 64
                      · rw [if_pos c39] at H
                        have c39b0 : (t153 == 64) = true := beq_iff_eq.mpr c39
                        have c39b1 : (t153 != 64) = false := bne_eq_false_iff_eq.mpr c39
                        clear c39
                        have H' := Aside0.mk H
                        clear H
                        have hnb40 := NB163_148.out
                        have hnc40 := NB148_163.out
                        have hnb41 := NB163_156.out
                        have hnc41 := NB156_163.out
                        have hcz42_0 : w21.cell? ⟨gb163, 0, none⟩ = some (.int .u64 0) := (blk_cell BK163.out 0).trans rfl
                        have hcz42_1 : w21.cell? ⟨gb163, 1, none⟩ = some (.int .u64 0) := (blk_cell BK163.out 1).trans rfl
                        have hcz42_2 : w21.cell? ⟨gb163, 2, none⟩ = some (.int .i64 0) := (blk_cell BK163.out 2).trans rfl
                        have hcz42_3 : w21.cell? ⟨gb163, 3, none⟩ = some (.int .u64 0) := (blk_cell BK163.out 3).trans rfl
                        have hfz42_0 := blk_frozen BK163.out 0
                        have hfz42_1 := blk_frozen BK163.out 1
                        have hfz42_2 := blk_frozen BK163.out 2
                        have hfz42_3 := blk_frozen BK163.out 3
                        have hnb43 := NB156_148.out
                        have hnc43 := NB148_156.out
                        have hcz44_0 : w21.cell? ⟨gb156, 0, none⟩ = some (.int .u64 t151) := (blk_cell BK156.out 0).trans rfl
                        have hcz44_1 : w21.cell? ⟨gb156, 1, none⟩ = some (.int .u64 t152) := (blk_cell BK156.out 1).trans rfl
                        have hcz44_2 : w21.cell? ⟨gb156, 2, none⟩ = some (.int .i64 t153) := (blk_cell BK156.out 2).trans rfl
                        have hcz44_3 : w21.cell? ⟨gb156, 3, none⟩ = some (.int .u64 t154) := (blk_cell BK156.out 3).trans rfl
                        have hfz44_0 := blk_frozen BK156.out 0
                        have hfz44_1 := blk_frozen BK156.out 1
                        have hfz44_2 := blk_frozen BK156.out 2
                        have hfz44_3 := blk_frozen BK156.out 3
                        go_wp2_with (first | (go_at_call 6; (with_reducible refine (abs_Right.calls t151 t152 t153 t154 true _ A32.out).mono ?_); rintro e w45 ⟨rfl, hb⟩; have n0_ := Aside0.mk (blk_below (g := gb148) (o := .cells #[.int .u64 a0_0, .int .u64 a0_1, .int .i64 a0_2, .int .u64 a0_3] 28 (0, 0)) (by (with_reducible repeat (first | refine blk_drewN ?_ _ | refine blk_drew ?_ | refine blk_alloc ?_ _)); refine blk_far ?_ NB148_163.out _; (with_reducible repeat (first | refine blk_drewN ?_ _ | refine blk_drew ?_ | refine blk_alloc ?_ _)); refine blk_far ?_ NB148_163.out _; (with_reducible repeat (first | refine blk_drewN ?_ _ | refine blk_drew ?_ | refine blk_alloc ?_ _)); refine blk_far ?_ NB148_163.out _; (with_reducible repeat (first | refine blk_drewN ?_ _ | refine blk_drew ?_ | refine blk_alloc ?_ _)); refine blk_far ?_ NB148_163.out _; (with_reducible repeat (first | refine blk_drewN ?_ _ | refine blk_drew ?_ | refine blk_alloc ?_ _)); exact BK148.out) hb); have n1_ := Aside0.mk (blk_below (g := gb156) (o := .cells #[.int .u64 t151, .int .u64 t152, .int .i64 t153, .int .u64 t154] 28 (0, 0)) (by (with_reducible repeat (first | refine blk_drewN ?_ _ | refine blk_drew ?_ | refine blk_alloc ?_ _)); refine blk_far ?_ NB156_163.out _; (with_reducible repeat (first | refine blk_drewN ?_ _ | refine blk_drew ?_ | refine blk_alloc ?_ _)); refine blk_far ?_ NB156_163.out _; (with_reducible repeat (first | refine blk_drewN ?_ _ | refine blk_drew ?_ | refine blk_alloc ?_ _)); refine blk_far ?_ NB156_163.out _; (with_reducible repeat (first | refine blk_drewN ?_ _ | refine blk_drew ?_ | refine blk_alloc ?_ _)); refine blk_far ?_ NB156_163.out _; (with_reducible repeat (first | refine blk_drewN ?_ _ | refine blk_drew ?_ | refine blk_alloc ?_ _)); exact BK156.out) hb); have n2_ := Aside0.mk (blk_below (g := gb163) (o := .cells #[.int .u64 t158, .int .u64 t159, .int .i64 t160, .int .u64 t161] 28 (0, 0)) (by (with_reducible repeat (first | refine blk_drewN ?_ _ | refine blk_drew ?_ | refine blk_alloc ?_ _)); refine blk_put (cs := #[.int .u64 t158, .int .u64 t159, .int .i64 t160, .int .u64 0]) ?_ 3 _ (by first | rfl | (simp_all; done)); (with_reducible repeat (first | refine blk_drewN ?_ _ | refine blk_drew ?_ | refine blk_alloc ?_ _)); refine blk_put (cs := #[.int .u64 t158, .int .u64 t159, .int .i64 0, .int .u64 0]) ?_ 2 _ (by first | rfl | (simp_all; done)); (with_reducible repeat (first | refine blk_drewN ?_ _ | refine blk_drew ?_ | refine blk_alloc ?_ _)); refine blk_put (cs := #[.int .u64 t158, .int .u64 0, .int .i64 0, .int .u64 0]) ?_ 1 _ (by first | rfl | (simp_all; done)); (with_reducible repeat (first | refine blk_drewN ?_ _ | refine blk_drew ?_ | refine blk_alloc ?_ _)); refine blk_put (cs := #[.int .u64 0, .int .u64 0, .int .i64 0, .int .u64 0]) ?_ 0 _ (by first | rfl | (simp_all; done)); (with_reducible repeat (first | refine blk_drewN ?_ _ | refine blk_drew ?_ | refine blk_alloc ?_ _)); exact BK163.out) hb); have n3_ := Aside0.mk (below_step (by repeat (first | (with_reducible first | exact HB.out | apply below_alloc | apply pw_below_drewN | apply below_drew1 | refine below_set ?_ GE148.out | refine below_set ?_ GE156.out | refine below_set ?_ GE163.out) | exact HB.out)) hb); clear BK148; clear BK156; clear BK163; clear HB; have BK148 := n0_; have BK156 := n1_; have BK163 := n2_; have HB := n3_; clear n0_ n1_ n2_ n3_; (try clear hb); (try clear hb2); (try clear hk); (try clear hi); have hcz46_0 : w45.cell? ⟨gb148, 0, none⟩ = some (.int .u64 a0_0) := (blk_cell BK148.out 0).trans rfl; have hcz46_1 : w45.cell? ⟨gb148, 1, none⟩ = some (.int .u64 a0_1) := (blk_cell BK148.out 1).trans rfl; have hcz46_2 : w45.cell? ⟨gb148, 2, none⟩ = some (.int .i64 a0_2) := (blk_cell BK148.out 2).trans rfl; have hcz46_3 : w45.cell? ⟨gb148, 3, none⟩ = some (.int .u64 a0_3) := (blk_cell BK148.out 3).trans rfl; have hfz46_0 := blk_frozen BK148.out 0; have hfz46_1 := blk_frozen BK148.out 1; have hfz46_2 := blk_frozen BK148.out 2; have hfz46_3 := blk_frozen BK148.out 3; have hcz47_0 : w45.cell? ⟨gb156, 0, none⟩ = some (.int .u64 t151) := (blk_cell BK156.out 0).trans rfl; have hcz47_1 : w45.cell? ⟨gb156, 1, none⟩ = some (.int .u64 t152) := (blk_cell BK156.out 1).trans rfl; have hcz47_2 : w45.cell? ⟨gb156, 2, none⟩ = some (.int .i64 t153) := (blk_cell BK156.out 2).trans rfl; have hcz47_3 : w45.cell? ⟨gb156, 3, none⟩ = some (.int .u64 t154) := (blk_cell BK156.out 3).trans rfl; have hfz47_0 := blk_frozen BK156.out 0; have hfz47_1 := blk_frozen BK156.out 1; have hfz47_2 := blk_frozen BK156.out 2; have hfz47_3 := blk_frozen BK156.out 3) | (go_at_call 8; (with_reducible refine (abs_Has.calls a0_0 a0_1 a0_2 a0_3 t151 true _ A34.out).mono ?_); rintro e w48 ⟨rfl, hb⟩; have n0_ := Aside0.mk (blk_below (g := gb148) (o := .cells #[.int .u64 a0_0, .int .u64 a0_1, .int .i64 a0_2, .int .u64 a0_3] 28 (0, 0)) (by (with_reducible repeat (first | refine blk_drewN ?_ _ | refine blk_drew ?_ | refine blk_alloc ?_ _)); exact BK148.out) hb); have n1_ := Aside0.mk (blk_below (g := gb156) (o := .cells #[.int .u64 t151, .int .u64 t152, .int .i64 t153, .int .u64 t154] 28 (0, 0)) (by (with_reducible repeat (first | refine blk_drewN ?_ _ | refine blk_drew ?_ | refine blk_alloc ?_ _)); exact BK156.out) hb); have n2_ := Aside0.mk (blk_below (g := gb163) (o := .cells #[.int .u64 t158, .int .u64 t159, .int .i64 t160, .int .u64 t161] 28 (0, 0)) (by (with_reducible repeat (first | refine blk_drewN ?_ _ | refine blk_drew ?_ | refine blk_alloc ?_ _)); exact BK163.out) hb); have n3_ := Aside0.mk (below_step (by repeat (first | (with_reducible first | exact HB.out | apply below_alloc | apply pw_below_drewN | apply below_drew1 | refine below_set ?_ GE148.out | refine below_set ?_ GE156.out | refine below_set ?_ GE163.out) | exact HB.out)) hb); clear BK148; clear BK156; clear BK163; clear HB; have BK148 := n0_; have BK156 := n1_; have BK163 := n2_; have HB := n3_; clear n0_ n1_ n2_ n3_; (try clear hb); (try clear hb2); (try clear hk); (try clear hi); have hcz49_0 : w48.cell? ⟨gb148, 0, none⟩ = some (.int .u64 a0_0) := (blk_cell BK148.out 0).trans rfl; have hcz49_1 : w48.cell? ⟨gb148, 1, none⟩ = some (.int .u64 a0_1) := (blk_cell BK148.out 1).trans rfl; have hcz49_2 : w48.cell? ⟨gb148, 2, none⟩ = some (.int .i64 a0_2) := (blk_cell BK148.out 2).trans rfl; have hcz49_3 : w48.cell? ⟨gb148, 3, none⟩ = some (.int .u64 a0_3) := (blk_cell BK148.out 3).trans rfl; have hfz49_0 := blk_frozen BK148.out 0; have hfz49_1 := blk_frozen BK148.out 1; have hfz49_2 := blk_frozen BK148.out 2; have hfz49_3 := blk_frozen BK148.out 3; have hcz50_0 : w48.cell? ⟨gb156, 0, none⟩ = some (.int .u64 t151) := (blk_cell BK156.out 0).trans rfl; have hcz50_1 : w48.cell? ⟨gb156, 1, none⟩ = some (.int .u64 t152) := (blk_cell BK156.out 1).trans rfl; have hcz50_2 : w48.cell? ⟨gb156, 2, none⟩ = some (.int .i64 t153) := (blk_cell BK156.out 2).trans rfl; have hcz50_3 : w48.cell? ⟨gb156, 3, none⟩ = some (.int .u64 t154) := (blk_cell BK156.out 3).trans rfl; have hfz50_0 := blk_frozen BK156.out 0; have hfz50_1 := blk_frozen BK156.out 1; have hfz50_2 := blk_frozen BK156.out 2; have hfz50_3 := blk_frozen BK156.out 3) | (go_at_call 8; (with_reducible refine (abs_Has.calls a0_0 a0_1 a0_2 a0_3 t152 true _ A36.out).mono ?_); rintro e w51 ⟨rfl, hb⟩; have n0_ := Aside0.mk (blk_below (g := gb148) (o := .cells #[.int .u64 a0_0, .int .u64 a0_1, .int .i64 a0_2, .int .u64 a0_3] 28 (0, 0)) (by (with_reducible repeat (first | refine blk_drewN ?_ _ | refine blk_drew ?_ | refine blk_alloc ?_ _)); exact BK148.out) hb); have n1_ := Aside0.mk (blk_below (g := gb156) (o := .cells #[.int .u64 t151, .int .u64 t152, .int .i64 t153, .int .u64 t154] 28 (0, 0)) (by (with_reducible repeat (first | refine blk_drewN ?_ _ | refine blk_drew ?_ | refine blk_alloc ?_ _)); exact BK156.out) hb); have n2_ := Aside0.mk (blk_below (g := gb163) (o := .cells #[.int .u64 t158, .int .u64 t159, .int .i64 t160, .int .u64 t161] 28 (0, 0)) (by (with_reducible repeat (first | refine blk_drewN ?_ _ | refine blk_drew ?_ | refine blk_alloc ?_ _)); exact BK163.out) hb); have n3_ := Aside0.mk (below_step (by repeat (first | (with_reducible first | exact HB.out | apply below_alloc | apply pw_below_drewN | apply below_drew1 | refine below_set ?_ GE148.out | refine below_set ?_ GE156.out | refine below_set ?_ GE163.out) | exact HB.out)) hb); clear BK148; clear BK156; clear BK163; clear HB; have BK148 := n0_; have BK156 := n1_; have BK163 := n2_; have HB := n3_; clear n0_ n1_ n2_ n3_; (try clear hb); (try clear hb2); (try clear hk); (try clear hi); have hcz52_0 : w51.cell? ⟨gb156, 0, none⟩ = some (.int .u64 t151) := (blk_cell BK156.out 0).trans rfl; have hcz52_1 : w51.cell? ⟨gb156, 1, none⟩ = some (.int .u64 t152) := (blk_cell BK156.out 1).trans rfl; have hcz52_2 : w51.cell? ⟨gb156, 2, none⟩ = some (.int .i64 t153) := (blk_cell BK156.out 2).trans rfl; have hcz52_3 : w51.cell? ⟨gb156, 3, none⟩ = some (.int .u64 t154) := (blk_cell BK156.out 3).trans rfl; have hfz52_0 := blk_frozen BK156.out 0; have hfz52_1 := blk_frozen BK156.out 1; have hfz52_2 := blk_frozen BK156.out 2; have hfz52_3 := blk_frozen BK156.out 3))
                        go_meet
                        case rel => exact ⟨_, (false), (by first | rfl | (simp; done) | (simp [*]; done)), H', ⟨by first | omega | exact Nat.le_refl _⟩, ⟨by (with_reducible repeat (first | refine blk_drewN ?_ _ | refine blk_drew ?_ | refine blk_alloc ?_ _)); exact BK148.out⟩, ⟨by (with_reducible repeat (first | refine blk_drewN ?_ _ | refine blk_drew ?_ | refine blk_alloc ?_ _)); exact BK156.out⟩, ⟨by (with_reducible repeat (first | refine blk_drewN ?_ _ | refine blk_drew ?_ | refine blk_alloc ?_ _)); exact BK163.out⟩, ⟨by repeat (first | (with_reducible first | exact HB.out | apply below_alloc | apply pw_below_drewN | apply below_drew1 | refine below_set ?_ GE148.out | refine below_set ?_ GE156.out | refine below_set ?_ GE163.out) | exact HB.out)⟩⟩
                      · rw [if_neg c39] at H
                        have c39b0 : (t153 == 64) = false := beq_eq_false_iff_ne.mpr c39
                        have c39b1 : (t153 != 64) = true := bne_iff_ne.mpr c39
                        have H' := Aside0.mk H
                        clear H
                        have hnb53 := NB163_148.out
                        have hnc53 := NB148_163.out
                        have hnb54 := NB163_156.out
                        have hnc54 := NB156_163.out
                        have hcz55_0 : w21.cell? ⟨gb163, 0, none⟩ = some (.int .u64 0) := (blk_cell BK163.out 0).trans rfl
                        have hcz55_1 : w21.cell? ⟨gb163, 1, none⟩ = some (.int .u64 0) := (blk_cell BK163.out 1).trans rfl
                        have hcz55_2 : w21.cell? ⟨gb163, 2, none⟩ = some (.int .i64 0) := (blk_cell BK163.out 2).trans rfl
                        have hcz55_3 : w21.cell? ⟨gb163, 3, none⟩ = some (.int .u64 0) := (blk_cell BK163.out 3).trans rfl
                        have hfz55_0 := blk_frozen BK163.out 0
                        have hfz55_1 := blk_frozen BK163.out 1
                        have hfz55_2 := blk_frozen BK163.out 2
                        have hfz55_3 := blk_frozen BK163.out 3
                        have hnb56 := NB156_148.out
                        have hnc56 := NB148_156.out
                        have hcz57_0 : w21.cell? ⟨gb156, 0, none⟩ = some (.int .u64 t151) := (blk_cell BK156.out 0).trans rfl
                        have hcz57_1 : w21.cell? ⟨gb156, 1, none⟩ = some (.int .u64 t152) := (blk_cell BK156.out 1).trans rfl
                        have hcz57_2 : w21.cell? ⟨gb156, 2, none⟩ = some (.int .i64 t153) := (blk_cell BK156.out 2).trans rfl
                        have hcz57_3 : w21.cell? ⟨gb156, 3, none⟩ = some (.int .u64 t154) := (blk_cell BK156.out 3).trans rfl
                        have hfz57_0 := blk_frozen BK156.out 0
                        have hfz57_1 := blk_frozen BK156.out 1
                        have hfz57_2 := blk_frozen BK156.out 2
                        have hfz57_3 := blk_frozen BK156.out 3
                        go_wp2_with (first | (go_at_call 6; (with_reducible refine (abs_Right.calls t151 t152 t153 t154 true _ A32.out).mono ?_); rintro e w58 ⟨rfl, hb⟩; have n0_ := Aside0.mk (blk_below (g := gb148) (o := .cells #[.int .u64 a0_0, .int .u64 a0_1, .int .i64 a0_2, .int .u64 a0_3] 28 (0, 0)) (by (with_reducible repeat (first | refine blk_drewN ?_ _ | refine blk_drew ?_ | refine blk_alloc ?_ _)); refine blk_far ?_ NB148_163.out _; (with_reducible repeat (first | refine blk_drewN ?_ _ | refine blk_drew ?_ | refine blk_alloc ?_ _)); refine blk_far ?_ NB148_163.out _; (with_reducible repeat (first | refine blk_drewN ?_ _ | refine blk_drew ?_ | refine blk_alloc ?_ _)); refine blk_far ?_ NB148_163.out _; (with_reducible repeat (first | refine blk_drewN ?_ _ | refine blk_drew ?_ | refine blk_alloc ?_ _)); refine blk_far ?_ NB148_163.out _; (with_reducible repeat (first | refine blk_drewN ?_ _ | refine blk_drew ?_ | refine blk_alloc ?_ _)); exact BK148.out) hb); have n1_ := Aside0.mk (blk_below (g := gb156) (o := .cells #[.int .u64 t151, .int .u64 t152, .int .i64 t153, .int .u64 t154] 28 (0, 0)) (by (with_reducible repeat (first | refine blk_drewN ?_ _ | refine blk_drew ?_ | refine blk_alloc ?_ _)); refine blk_far ?_ NB156_163.out _; (with_reducible repeat (first | refine blk_drewN ?_ _ | refine blk_drew ?_ | refine blk_alloc ?_ _)); refine blk_far ?_ NB156_163.out _; (with_reducible repeat (first | refine blk_drewN ?_ _ | refine blk_drew ?_ | refine blk_alloc ?_ _)); refine blk_far ?_ NB156_163.out _; (with_reducible repeat (first | refine blk_drewN ?_ _ | refine blk_drew ?_ | refine blk_alloc ?_ _)); refine blk_far ?_ NB156_163.out _; (with_reducible repeat (first | refine blk_drewN ?_ _ | refine blk_drew ?_ | refine blk_alloc ?_ _)); exact BK156.out) hb); have n2_ := Aside0.mk (blk_below (g := gb163) (o := .cells #[.int .u64 t158, .int .u64 t159, .int .i64 t160, .int .u64 t161] 28 (0, 0)) (by (with_reducible repeat (first | refine blk_drewN ?_ _ | refine blk_drew ?_ | refine blk_alloc ?_ _)); refine blk_put (cs := #[.int .u64 t158, .int .u64 t159, .int .i64 t160, .int .u64 0]) ?_ 3 _ (by first | rfl | (simp_all; done)); (with_reducible repeat (first | refine blk_drewN ?_ _ | refine blk_drew ?_ | refine blk_alloc ?_ _)); refine blk_put (cs := #[.int .u64 t158, .int .u64 t159, .int .i64 0, .int .u64 0]) ?_ 2 _ (by first | rfl | (simp_all; done)); (with_reducible repeat (first | refine blk_drewN ?_ _ | refine blk_drew ?_ | refine blk_alloc ?_ _)); refine blk_put (cs := #[.int .u64 t158, .int .u64 0, .int .i64 0, .int .u64 0]) ?_ 1 _ (by first | rfl | (simp_all; done)); (with_reducible repeat (first | refine blk_drewN ?_ _ | refine blk_drew ?_ | refine blk_alloc ?_ _)); refine blk_put (cs := #[.int .u64 0, .int .u64 0, .int .i64 0, .int .u64 0]) ?_ 0 _ (by first | rfl | (simp_all; done)); (with_reducible repeat (first | refine blk_drewN ?_ _ | refine blk_drew ?_ | refine blk_alloc ?_ _)); exact BK163.out) hb); have n3_ := Aside0.mk (below_step (by repeat (first | (with_reducible first | exact HB.out | apply below_alloc | apply pw_below_drewN | apply below_drew1 | refine below_set ?_ GE148.out | refine below_set ?_ GE156.out | refine below_set ?_ GE163.out) | exact HB.out)) hb); clear BK148; clear BK156; clear BK163; clear HB; have BK148 := n0_; have BK156 := n1_; have BK163 := n2_; have HB := n3_; clear n0_ n1_ n2_ n3_; (try clear hb); (try clear hb2); (try clear hk); (try clear hi); have hcz59_0 : w58.cell? ⟨gb148, 0, none⟩ = some (.int .u64 a0_0) := (blk_cell BK148.out 0).trans rfl; have hcz59_1 : w58.cell? ⟨gb148, 1, none⟩ = some (.int .u64 a0_1) := (blk_cell BK148.out 1).trans rfl; have hcz59_2 : w58.cell? ⟨gb148, 2, none⟩ = some (.int .i64 a0_2) := (blk_cell BK148.out 2).trans rfl; have hcz59_3 : w58.cell? ⟨gb148, 3, none⟩ = some (.int .u64 a0_3) := (blk_cell BK148.out 3).trans rfl; have hfz59_0 := blk_frozen BK148.out 0; have hfz59_1 := blk_frozen BK148.out 1; have hfz59_2 := blk_frozen BK148.out 2; have hfz59_3 := blk_frozen BK148.out 3; have hcz60_0 : w58.cell? ⟨gb156, 0, none⟩ = some (.int .u64 t151) := (blk_cell BK156.out 0).trans rfl; have hcz60_1 : w58.cell? ⟨gb156, 1, none⟩ = some (.int .u64 t152) := (blk_cell BK156.out 1).trans rfl; have hcz60_2 : w58.cell? ⟨gb156, 2, none⟩ = some (.int .i64 t153) := (blk_cell BK156.out 2).trans rfl; have hcz60_3 : w58.cell? ⟨gb156, 3, none⟩ = some (.int .u64 t154) := (blk_cell BK156.out 3).trans rfl; have hfz60_0 := blk_frozen BK156.out 0; have hfz60_1 := blk_frozen BK156.out 1; have hfz60_2 := blk_frozen BK156.out 2; have hfz60_3 := blk_frozen BK156.out 3) | (go_at_call 8; (with_reducible refine (abs_Has.calls a0_0 a0_1 a0_2 a0_3 t151 true _ A34.out).mono ?_); rintro e w61 ⟨rfl, hb⟩; have n0_ := Aside0.mk (blk_below (g := gb148) (o := .cells #[.int .u64 a0_0, .int .u64 a0_1, .int .i64 a0_2, .int .u64 a0_3] 28 (0, 0)) (by (with_reducible repeat (first | refine blk_drewN ?_ _ | refine blk_drew ?_ | refine blk_alloc ?_ _)); exact BK148.out) hb); have n1_ := Aside0.mk (blk_below (g := gb156) (o := .cells #[.int .u64 t151, .int .u64 t152, .int .i64 t153, .int .u64 t154] 28 (0, 0)) (by (with_reducible repeat (first | refine blk_drewN ?_ _ | refine blk_drew ?_ | refine blk_alloc ?_ _)); exact BK156.out) hb); have n2_ := Aside0.mk (blk_below (g := gb163) (o := .cells #[.int .u64 t158, .int .u64 t159, .int .i64 t160, .int .u64 t161] 28 (0, 0)) (by (with_reducible repeat (first | refine blk_drewN ?_ _ | refine blk_drew ?_ | refine blk_alloc ?_ _)); exact BK163.out) hb); have n3_ := Aside0.mk (below_step (by repeat (first | (with_reducible first | exact HB.out | apply below_alloc | apply pw_below_drewN | apply below_drew1 | refine below_set ?_ GE148.out | refine below_set ?_ GE156.out | refine below_set ?_ GE163.out) | exact HB.out)) hb); clear BK148; clear BK156; clear BK163; clear HB; have BK148 := n0_; have BK156 := n1_; have BK163 := n2_; have HB := n3_; clear n0_ n1_ n2_ n3_; (try clear hb); (try clear hb2); (try clear hk); (try clear hi); have hcz62_0 : w61.cell? ⟨gb148, 0, none⟩ = some (.int .u64 a0_0) := (blk_cell BK148.out 0).trans rfl; have hcz62_1 : w61.cell? ⟨gb148, 1, none⟩ = some (.int .u64 a0_1) := (blk_cell BK148.out 1).trans rfl; have hcz62_2 : w61.cell? ⟨gb148, 2, none⟩ = some (.int .i64 a0_2) := (blk_cell BK148.out 2).trans rfl; have hcz62_3 : w61.cell? ⟨gb148, 3, none⟩ = some (.int .u64 a0_3) := (blk_cell BK148.out 3).trans rfl; have hfz62_0 := blk_frozen BK148.out 0; have hfz62_1 := blk_frozen BK148.out 1; have hfz62_2 := blk_frozen BK148.out 2; have hfz62_3 := blk_frozen BK148.out 3; have hcz63_0 : w61.cell? ⟨gb156, 0, none⟩ = some (.int .u64 t151) := (blk_cell BK156.out 0).trans rfl; have hcz63_1 : w61.cell? ⟨gb156, 1, none⟩ = some (.int .u64 t152) := (blk_cell BK156.out 1).trans rfl; have hcz63_2 : w61.cell? ⟨gb156, 2, none⟩ = some (.int .i64 t153) := (blk_cell BK156.out 2).trans rfl; have hcz63_3 : w61.cell? ⟨gb156, 3, none⟩ = some (.int .u64 t154) := (blk_cell BK156.out 3).trans rfl; have hfz63_0 := blk_frozen BK156.out 0; have hfz63_1 := blk_frozen BK156.out 1; have hfz63_2 := blk_frozen BK156.out 2; have hfz63_3 := blk_frozen BK156.out 3) | (go_at_call 8; (with_reducible refine (abs_Has.calls a0_0 a0_1 a0_2 a0_3 t152 true _ A36.out).mono ?_); rintro e w64 ⟨rfl, hb⟩; have n0_ := Aside0.mk (blk_below (g := gb148) (o := .cells #[.int .u64 a0_0, .int .u64 a0_1, .int .i64 a0_2, .int .u64 a0_3] 28 (0, 0)) (by (with_reducible repeat (first | refine blk_drewN ?_ _ | refine blk_drew ?_ | refine blk_alloc ?_ _)); exact BK148.out) hb); have n1_ := Aside0.mk (blk_below (g := gb156) (o := .cells #[.int .u64 t151, .int .u64 t152, .int .i64 t153, .int .u64 t154] 28 (0, 0)) (by (with_reducible repeat (first | refine blk_drewN ?_ _ | refine blk_drew ?_ | refine blk_alloc ?_ _)); exact BK156.out) hb); have n2_ := Aside0.mk (blk_below (g := gb163) (o := .cells #[.int .u64 t158, .int .u64 t159, .int .i64 t160, .int .u64 t161] 28 (0, 0)) (by (with_reducible repeat (first | refine blk_drewN ?_ _ | refine blk_drew ?_ | refine blk_alloc ?_ _)); exact BK163.out) hb); have n3_ := Aside0.mk (below_step (by repeat (first | (with_reducible first | exact HB.out | apply below_alloc | apply pw_below_drewN | apply below_drew1 | refine below_set ?_ GE148.out | refine below_set ?_ GE156.out | refine below_set ?_ GE163.out) | exact HB.out)) hb); clear BK148; clear BK156; clear BK163; clear HB; have BK148 := n0_; have BK156 := n1_; have BK163 := n2_; have HB := n3_; clear n0_ n1_ n2_ n3_; (try clear hb); (try clear hb2); (try clear hk); (try clear hi); have hcz65_0 : w64.cell? ⟨gb156, 0, none⟩ = some (.int .u64 t151) := (blk_cell BK156.out 0).trans rfl; have hcz65_1 : w64.cell? ⟨gb156, 1, none⟩ = some (.int .u64 t152) := (blk_cell BK156.out 1).trans rfl; have hcz65_2 : w64.cell? ⟨gb156, 2, none⟩ = some (.int .i64 t153) := (blk_cell BK156.out 2).trans rfl; have hcz65_3 : w64.cell? ⟨gb156, 3, none⟩ = some (.int .u64 t154) := (blk_cell BK156.out 3).trans rfl; have hfz65_0 := blk_frozen BK156.out 0; have hfz65_1 := blk_frozen BK156.out 1; have hfz65_2 := blk_frozen BK156.out 2; have hfz65_3 := blk_frozen BK156.out 3))
                        go_meet
                        case rel => exact ⟨_, (true), (by first | rfl | (simp; done) | (simp [*]; done)), H', ⟨by first | omega | exact Nat.le_refl _⟩, ⟨by (with_reducible repeat (first | refine blk_drewN ?_ _ | refine blk_drew ?_ | refine blk_alloc ?_ _)); exact BK148.out⟩, ⟨by (with_reducible repeat (first | refine blk_drewN ?_ _ | refine blk_drew ?_ | refine blk_alloc ?_ _)); exact BK156.out⟩, ⟨by (with_reducible repeat (first | refine blk_drewN ?_ _ | refine blk_drew ?_ | refine blk_alloc ?_ _)); exact BK163.out⟩, ⟨by repeat (first | (with_reducible first | exact HB.out | apply below_alloc | apply pw_below_drewN | apply below_drew1 | refine below_set ?_ GE148.out | refine below_set ?_ GE156.out | refine below_set ?_ GE163.out) | exact HB.out)⟩⟩
                    · rw [if_neg c38] at H
                      have c38b0 : (t151 == t152) = false := beq_eq_false_iff_ne.mpr c38
                      have c38b1 : (t151 != t152) = true := bne_iff_ne.mpr c38
                      have H' := Aside0.mk H
                      clear H
                      have hnb66 := NB163_148.out
                      have hnc66 := NB148_163.out
                      have hnb67 := NB163_156.out
                      have hnc67 := NB156_163.out
                      have hcz68_0 : w21.cell? ⟨gb163, 0, none⟩ = some (.int .u64 0) := (blk_cell BK163.out 0).trans rfl
                      have hcz68_1 : w21.cell? ⟨gb163, 1, none⟩ = some (.int .u64 0) := (blk_cell BK163.out 1).trans rfl
                      have hcz68_2 : w21.cell? ⟨gb163, 2, none⟩ = some (.int .i64 0) := (blk_cell BK163.out 2).trans rfl
                      have hcz68_3 : w21.cell? ⟨gb163, 3, none⟩ = some (.int .u64 0) := (blk_cell BK163.out 3).trans rfl
                      have hfz68_0 := blk_frozen BK163.out 0
                      have hfz68_1 := blk_frozen BK163.out 1
                      have hfz68_2 := blk_frozen BK163.out 2
                      have hfz68_3 := blk_frozen BK163.out 3
                      have hnb69 := NB156_148.out
                      have hnc69 := NB148_156.out
                      have hcz70_0 : w21.cell? ⟨gb156, 0, none⟩ = some (.int .u64 t151) := (blk_cell BK156.out 0).trans rfl
                      have hcz70_1 : w21.cell? ⟨gb156, 1, none⟩ = some (.int .u64 t152) := (blk_cell BK156.out 1).trans rfl
                      have hcz70_2 : w21.cell? ⟨gb156, 2, none⟩ = some (.int .i64 t153) := (blk_cell BK156.out 2).trans rfl
                      have hcz70_3 : w21.cell? ⟨gb156, 3, none⟩ = some (.int .u64 t154) := (blk_cell BK156.out 3).trans rfl
                      have hfz70_0 := blk_frozen BK156.out 0
                      have hfz70_1 := blk_frozen BK156.out 1
                      have hfz70_2 := blk_frozen BK156.out 2
                      have hfz70_3 := blk_frozen BK156.out 3
                      go_wp2_with (first | (go_at_call 6; (with_reducible refine (abs_Right.calls t151 t152 t153 t154 true _ A32.out).mono ?_); rintro e w71 ⟨rfl, hb⟩; have n0_ := Aside0.mk (blk_below (g := gb148) (o := .cells #[.int .u64 a0_0, .int .u64 a0_1, .int .i64 a0_2, .int .u64 a0_3] 28 (0, 0)) (by (with_reducible repeat (first | refine blk_drewN ?_ _ | refine blk_drew ?_ | refine blk_alloc ?_ _)); refine blk_far ?_ NB148_163.out _; (with_reducible repeat (first | refine blk_drewN ?_ _ | refine blk_drew ?_ | refine blk_alloc ?_ _)); refine blk_far ?_ NB148_163.out _; (with_reducible repeat (first | refine blk_drewN ?_ _ | refine blk_drew ?_ | refine blk_alloc ?_ _)); refine blk_far ?_ NB148_163.out _; (with_reducible repeat (first | refine blk_drewN ?_ _ | refine blk_drew ?_ | refine blk_alloc ?_ _)); refine blk_far ?_ NB148_163.out _; (with_reducible repeat (first | refine blk_drewN ?_ _ | refine blk_drew ?_ | refine blk_alloc ?_ _)); exact BK148.out) hb); have n1_ := Aside0.mk (blk_below (g := gb156) (o := .cells #[.int .u64 t151, .int .u64 t152, .int .i64 t153, .int .u64 t154] 28 (0, 0)) (by (with_reducible repeat (first | refine blk_drewN ?_ _ | refine blk_drew ?_ | refine blk_alloc ?_ _)); refine blk_far ?_ NB156_163.out _; (with_reducible repeat (first | refine blk_drewN ?_ _ | refine blk_drew ?_ | refine blk_alloc ?_ _)); refine blk_far ?_ NB156_163.out _; (with_reducible repeat (first | refine blk_drewN ?_ _ | refine blk_drew ?_ | refine blk_alloc ?_ _)); refine blk_far ?_ NB156_163.out _; (with_reducible repeat (first | refine blk_drewN ?_ _ | refine blk_drew ?_ | refine blk_alloc ?_ _)); refine blk_far ?_ NB156_163.out _; (with_reducible repeat (first | refine blk_drewN ?_ _ | refine blk_drew ?_ | refine blk_alloc ?_ _)); exact BK156.out) hb); have n2_ := Aside0.mk (blk_below (g := gb163) (o := .cells #[.int .u64 t158, .int .u64 t159, .int .i64 t160, .int .u64 t161] 28 (0, 0)) (by (with_reducible repeat (first | refine blk_drewN ?_ _ | refine blk_drew ?_ | refine blk_alloc ?_ _)); refine blk_put (cs := #[.int .u64 t158, .int .u64 t159, .int .i64 t160, .int .u64 0]) ?_ 3 _ (by first | rfl | (simp_all; done)); (with_reducible repeat (first | refine blk_drewN ?_ _ | refine blk_drew ?_ | refine blk_alloc ?_ _)); refine blk_put (cs := #[.int .u64 t158, .int .u64 t159, .int .i64 0, .int .u64 0]) ?_ 2 _ (by first | rfl | (simp_all; done)); (with_reducible repeat (first | refine blk_drewN ?_ _ | refine blk_drew ?_ | refine blk_alloc ?_ _)); refine blk_put (cs := #[.int .u64 t158, .int .u64 0, .int .i64 0, .int .u64 0]) ?_ 1 _ (by first | rfl | (simp_all; done)); (with_reducible repeat (first | refine blk_drewN ?_ _ | refine blk_drew ?_ | refine blk_alloc ?_ _)); refine blk_put (cs := #[.int .u64 0, .int .u64 0, .int .i64 0, .int .u64 0]) ?_ 0 _ (by first | rfl | (simp_all; done)); (with_reducible repeat (first | refine blk_drewN ?_ _ | refine blk_drew ?_ | refine blk_alloc ?_ _)); exact BK163.out) hb); have n3_ := Aside0.mk (below_step (by repeat (first | (with_reducible first | exact HB.out | apply below_alloc | apply pw_below_drewN | apply below_drew1 | refine below_set ?_ GE148.out | refine below_set ?_ GE156.out | refine below_set ?_ GE163.out) | exact HB.out)) hb); clear BK148; clear BK156; clear BK163; clear HB; have BK148 := n0_; have BK156 := n1_; have BK163 := n2_; have HB := n3_; clear n0_ n1_ n2_ n3_; (try clear hb); (try clear hb2); (try clear hk); (try clear hi); have hcz72_0 : w71.cell? ⟨gb148, 0, none⟩ = some (.int .u64 a0_0) := (blk_cell BK148.out 0).trans rfl; have hcz72_1 : w71.cell? ⟨gb148, 1, none⟩ = some (.int .u64 a0_1) := (blk_cell BK148.out 1).trans rfl; have hcz72_2 : w71.cell? ⟨gb148, 2, none⟩ = some (.int .i64 a0_2) := (blk_cell BK148.out 2).trans rfl; have hcz72_3 : w71.cell? ⟨gb148, 3, none⟩ = some (.int .u64 a0_3) := (blk_cell BK148.out 3).trans rfl; have hfz72_0 := blk_frozen BK148.out 0; have hfz72_1 := blk_frozen BK148.out 1; have hfz72_2 := blk_frozen BK148.out 2; have hfz72_3 := blk_frozen BK148.out 3; have hcz73_0 : w71.cell? ⟨gb156, 0, none⟩ = some (.int .u64 t151) := (blk_cell BK156.out 0).trans rfl; have hcz73_1 : w71.cell? ⟨gb156, 1, none⟩ = some (.int .u64 t152) := (blk_cell BK156.out 1).trans rfl; have hcz73_2 : w71.cell? ⟨gb156, 2, none⟩ = some (.int .i64 t153) := (blk_cell BK156.out 2).trans rfl; have hcz73_3 : w71.cell? ⟨gb156, 3, none⟩ = some (.int .u64 t154) := (blk_cell BK156.out 3).trans rfl; have hfz73_0 := blk_frozen BK156.out 0; have hfz73_1 := blk_frozen BK156.out 1; have hfz73_2 := blk_frozen BK156.out 2; have hfz73_3 := blk_frozen BK156.out 3) | (go_at_call 8; (with_reducible refine (abs_Has.calls a0_0 a0_1 a0_2 a0_3 t151 true _ A34.out).mono ?_); rintro e w74 ⟨rfl, hb⟩; have n0_ := Aside0.mk (blk_below (g := gb148) (o := .cells #[.int .u64 a0_0, .int .u64 a0_1, .int .i64 a0_2, .int .u64 a0_3] 28 (0, 0)) (by (with_reducible repeat (first | refine blk_drewN ?_ _ | refine blk_drew ?_ | refine blk_alloc ?_ _)); exact BK148.out) hb); have n1_ := Aside0.mk (blk_below (g := gb156) (o := .cells #[.int .u64 t151, .int .u64 t152, .int .i64 t153, .int .u64 t154] 28 (0, 0)) (by (with_reducible repeat (first | refine blk_drewN ?_ _ | refine blk_drew ?_ | refine blk_alloc ?_ _)); exact BK156.out) hb); have n2_ := Aside0.mk (blk_below (g := gb163) (o := .cells #[.int .u64 t158, .int .u64 t159, .int .i64 t160, .int .u64 t161] 28 (0, 0)) (by (with_reducible repeat (first | refine blk_drewN ?_ _ | refine blk_drew ?_ | refine blk_alloc ?_ _)); exact BK163.out) hb); have n3_ := Aside0.mk (below_step (by repeat (first | (with_reducible first | exact HB.out | apply below_alloc | apply pw_below_drewN | apply below_drew1 | refine below_set ?_ GE148.out | refine below_set ?_ GE156.out | refine below_set ?_ GE163.out) | exact HB.out)) hb); clear BK148; clear BK156; clear BK163; clear HB; have BK148 := n0_; have BK156 := n1_; have BK163 := n2_; have HB := n3_; clear n0_ n1_ n2_ n3_; (try clear hb); (try clear hb2); (try clear hk); (try clear hi); have hcz75_0 : w74.cell? ⟨gb148, 0, none⟩ = some (.int .u64 a0_0) := (blk_cell BK148.out 0).trans rfl; have hcz75_1 : w74.cell? ⟨gb148, 1, none⟩ = some (.int .u64 a0_1) := (blk_cell BK148.out 1).trans rfl; have hcz75_2 : w74.cell? ⟨gb148, 2, none⟩ = some (.int .i64 a0_2) := (blk_cell BK148.out 2).trans rfl; have hcz75_3 : w74.cell? ⟨gb148, 3, none⟩ = some (.int .u64 a0_3) := (blk_cell BK148.out 3).trans rfl; have hfz75_0 := blk_frozen BK148.out 0; have hfz75_1 := blk_frozen BK148.out 1; have hfz75_2 := blk_frozen BK148.out 2; have hfz75_3 := blk_frozen BK148.out 3; have hcz76_0 : w74.cell? ⟨gb156, 0, none⟩ = some (.int .u64 t151) := (blk_cell BK156.out 0).trans rfl; have hcz76_1 : w74.cell? ⟨gb156, 1, none⟩ = some (.int .u64 t152) := (blk_cell BK156.out 1).trans rfl; have hcz76_2 : w74.cell? ⟨gb156, 2, none⟩ = some (.int .i64 t153) := (blk_cell BK156.out 2).trans rfl; have hcz76_3 : w74.cell? ⟨gb156, 3, none⟩ = some (.int .u64 t154) := (blk_cell BK156.out 3).trans rfl; have hfz76_0 := blk_frozen BK156.out 0; have hfz76_1 := blk_frozen BK156.out 1; have hfz76_2 := blk_frozen BK156.out 2; have hfz76_3 := blk_frozen BK156.out 3) | (go_at_call 8; (with_reducible refine (abs_Has.calls a0_0 a0_1 a0_2 a0_3 t152 true _ A36.out).mono ?_); rintro e w77 ⟨rfl, hb⟩; have n0_ := Aside0.mk (blk_below (g := gb148) (o := .cells #[.int .u64 a0_0, .int .u64 a0_1, .int .i64 a0_2, .int .u64 a0_3] 28 (0, 0)) (by (with_reducible repeat (first | refine blk_drewN ?_ _ | refine blk_drew ?_ | refine blk_alloc ?_ _)); exact BK148.out) hb); have n1_ := Aside0.mk (blk_below (g := gb156) (o := .cells #[.int .u64 t151, .int .u64 t152, .int .i64 t153, .int .u64 t154] 28 (0, 0)) (by (with_reducible repeat (first | refine blk_drewN ?_ _ | refine blk_drew ?_ | refine blk_alloc ?_ _)); exact BK156.out) hb); have n2_ := Aside0.mk (blk_below (g := gb163) (o := .cells #[.int .u64 t158, .int .u64 t159, .int .i64 t160, .int .u64 t161] 28 (0, 0)) (by (with_reducible repeat (first | refine blk_drewN ?_ _ | refine blk_drew ?_ | refine blk_alloc ?_ _)); exact BK163.out) hb); have n3_ := Aside0.mk (below_step (by repeat (first | (with_reducible first | exact HB.out | apply below_alloc | apply pw_below_drewN | apply below_drew1 | refine below_set ?_ GE148.out | refine below_set ?_ GE156.out | refine below_set ?_ GE163.out) | exact HB.out)) hb); clear BK148; clear BK156; clear BK163; clear HB; have BK148 := n0_; have BK156 := n1_; have BK163 := n2_; have HB := n3_; clear n0_ n1_ n2_ n3_; (try clear hb); (try clear hb2); (try clear hk); (try clear hi); have hcz78_0 : w77.cell? ⟨gb156, 0, none⟩ = some (.int .u64 t151) := (blk_cell BK156.out 0).trans rfl; have hcz78_1 : w77.cell? ⟨gb156, 1, none⟩ = some (.int .u64 t152) := (blk_cell BK156.out 1).trans rfl; have hcz78_2 : w77.cell? ⟨gb156, 2, none⟩ = some (.int .i64 t153) := (blk_cell BK156.out 2).trans rfl; have hcz78_3 : w77.cell? ⟨gb156, 3, none⟩ = some (.int .u64 t154) := (blk_cell BK156.out 3).trans rfl; have hfz78_0 := blk_frozen BK156.out 0; have hfz78_1 := blk_frozen BK156.out 1; have hfz78_2 := blk_frozen BK156.out 2; have hfz78_3 := blk_frozen BK156.out 3; have hcz79_0 : w77.cell? ⟨gb148, 0, none⟩ = some (.int .u64 a0_0) := (blk_cell BK148.out 0).trans rfl; have hcz79_1 : w77.cell? ⟨gb148, 1, none⟩ = some (.int .u64 a0_1) := (blk_cell BK148.out 1).trans rfl; have hcz79_2 : w77.cell? ⟨gb148, 2, none⟩ = some (.int .i64 a0_2) := (blk_cell BK148.out 2).trans rfl; have hcz79_3 : w77.cell? ⟨gb148, 3, none⟩ = some (.int .u64 a0_3) := (blk_cell BK148.out 3).trans rfl; have hfz79_0 := blk_frozen BK148.out 0; have hfz79_1 := blk_frozen BK148.out 1; have hfz79_2 := blk_frozen BK148.out 2; have hfz79_3 := blk_frozen BK148.out 3))
                      go_meet
                      case rel => exact ⟨_, ((!(t153 == a0_2) || (!(t154 == a0_3)))), (by first | rfl | (simp; done) | (simp [*]; done)), H', ⟨by first | omega | exact Nat.le_refl _⟩, ⟨by (with_reducible repeat (first | refine blk_drewN ?_ _ | refine blk_drew ?_ | refine blk_alloc ?_ _)); exact BK148.out⟩, ⟨by (with_reducible repeat (first | refine blk_drewN ?_ _ | refine blk_drew ?_ | refine blk_alloc ?_ _)); exact BK156.out⟩, ⟨by (with_reducible repeat (first | refine blk_drewN ?_ _ | refine blk_drew ?_ | refine blk_alloc ?_ _)); exact BK163.out⟩, ⟨by repeat (first | (with_reducible first | exact HB.out | apply below_alloc | apply pw_below_drewN | apply below_drew1 | refine below_set ?_ GE148.out | refine below_set ?_ GE156.out | refine below_set ?_ GE163.out) | exact HB.out)⟩⟩
                  · replace c37 := Bool.eq_false_iff.mpr c37
                    subst c37
                    have H1 : (trammellaw18_AbsTight.j0 k a1 true a0_0 a0_1 a0_2 a0_3 t151 t152 t153 t154) = some r := by rw [if_neg (show ¬ (false = true) by decide)] at H; exact H
                    clear H
                    have H := H1
                    clear H1
                    have H' := Aside0.mk H
                    clear H
                    have hnb80 := NB163_148.out
                    have hnc80 := NB148_163.out
                    have hnb81 := NB163_156.out
                    have hnc81 := NB156_163.out
                    have hcz82_0 : w21.cell? ⟨gb163, 0, none⟩ = some (.int .u64 0) := (blk_cell BK163.out 0).trans rfl
                    have hcz82_1 : w21.cell? ⟨gb163, 1, none⟩ = some (.int .u64 0) := (blk_cell BK163.out 1).trans rfl
                    have hcz82_2 : w21.cell? ⟨gb163, 2, none⟩ = some (.int .i64 0) := (blk_cell BK163.out 2).trans rfl
                    have hcz82_3 : w21.cell? ⟨gb163, 3, none⟩ = some (.int .u64 0) := (blk_cell BK163.out 3).trans rfl
                    have hfz82_0 := blk_frozen BK163.out 0
                    have hfz82_1 := blk_frozen BK163.out 1
                    have hfz82_2 := blk_frozen BK163.out 2
                    have hfz82_3 := blk_frozen BK163.out 3
                    have hnb83 := NB156_148.out
                    have hnc83 := NB148_156.out
                    have hcz84_0 : w21.cell? ⟨gb156, 0, none⟩ = some (.int .u64 t151) := (blk_cell BK156.out 0).trans rfl
                    have hcz84_1 : w21.cell? ⟨gb156, 1, none⟩ = some (.int .u64 t152) := (blk_cell BK156.out 1).trans rfl
                    have hcz84_2 : w21.cell? ⟨gb156, 2, none⟩ = some (.int .i64 t153) := (blk_cell BK156.out 2).trans rfl
                    have hcz84_3 : w21.cell? ⟨gb156, 3, none⟩ = some (.int .u64 t154) := (blk_cell BK156.out 3).trans rfl
                    have hfz84_0 := blk_frozen BK156.out 0
                    have hfz84_1 := blk_frozen BK156.out 1
                    have hfz84_2 := blk_frozen BK156.out 2
                    have hfz84_3 := blk_frozen BK156.out 3
                    go_wp2_with (first | (go_at_call 6; (with_reducible refine (abs_Right.calls t151 t152 t153 t154 true _ A32.out).mono ?_); rintro e w85 ⟨rfl, hb⟩; have n0_ := Aside0.mk (blk_below (g := gb148) (o := .cells #[.int .u64 a0_0, .int .u64 a0_1, .int .i64 a0_2, .int .u64 a0_3] 28 (0, 0)) (by (with_reducible repeat (first | refine blk_drewN ?_ _ | refine blk_drew ?_ | refine blk_alloc ?_ _)); refine blk_far ?_ NB148_163.out _; (with_reducible repeat (first | refine blk_drewN ?_ _ | refine blk_drew ?_ | refine blk_alloc ?_ _)); refine blk_far ?_ NB148_163.out _; (with_reducible repeat (first | refine blk_drewN ?_ _ | refine blk_drew ?_ | refine blk_alloc ?_ _)); refine blk_far ?_ NB148_163.out _; (with_reducible repeat (first | refine blk_drewN ?_ _ | refine blk_drew ?_ | refine blk_alloc ?_ _)); refine blk_far ?_ NB148_163.out _; (with_reducible repeat (first | refine blk_drewN ?_ _ | refine blk_drew ?_ | refine blk_alloc ?_ _)); exact BK148.out) hb); have n1_ := Aside0.mk (blk_below (g := gb156) (o := .cells #[.int .u64 t151, .int .u64 t152, .int .i64 t153, .int .u64 t154] 28 (0, 0)) (by (with_reducible repeat (first | refine blk_drewN ?_ _ | refine blk_drew ?_ | refine blk_alloc ?_ _)); refine blk_far ?_ NB156_163.out _; (with_reducible repeat (first | refine blk_drewN ?_ _ | refine blk_drew ?_ | refine blk_alloc ?_ _)); refine blk_far ?_ NB156_163.out _; (with_reducible repeat (first | refine blk_drewN ?_ _ | refine blk_drew ?_ | refine blk_alloc ?_ _)); refine blk_far ?_ NB156_163.out _; (with_reducible repeat (first | refine blk_drewN ?_ _ | refine blk_drew ?_ | refine blk_alloc ?_ _)); refine blk_far ?_ NB156_163.out _; (with_reducible repeat (first | refine blk_drewN ?_ _ | refine blk_drew ?_ | refine blk_alloc ?_ _)); exact BK156.out) hb); have n2_ := Aside0.mk (blk_below (g := gb163) (o := .cells #[.int .u64 t158, .int .u64 t159, .int .i64 t160, .int .u64 t161] 28 (0, 0)) (by (with_reducible repeat (first | refine blk_drewN ?_ _ | refine blk_drew ?_ | refine blk_alloc ?_ _)); refine blk_put (cs := #[.int .u64 t158, .int .u64 t159, .int .i64 t160, .int .u64 0]) ?_ 3 _ (by first | rfl | (simp_all; done)); (with_reducible repeat (first | refine blk_drewN ?_ _ | refine blk_drew ?_ | refine blk_alloc ?_ _)); refine blk_put (cs := #[.int .u64 t158, .int .u64 t159, .int .i64 0, .int .u64 0]) ?_ 2 _ (by first | rfl | (simp_all; done)); (with_reducible repeat (first | refine blk_drewN ?_ _ | refine blk_drew ?_ | refine blk_alloc ?_ _)); refine blk_put (cs := #[.int .u64 t158, .int .u64 0, .int .i64 0, .int .u64 0]) ?_ 1 _ (by first | rfl | (simp_all; done)); (with_reducible repeat (first | refine blk_drewN ?_ _ | refine blk_drew ?_ | refine blk_alloc ?_ _)); refine blk_put (cs := #[.int .u64 0, .int .u64 0, .int .i64 0, .int .u64 0]) ?_ 0 _ (by first | rfl | (simp_all; done)); (with_reducible repeat (first | refine blk_drewN ?_ _ | refine blk_drew ?_ | refine blk_alloc ?_ _)); exact BK163.out) hb); have n3_ := Aside0.mk (below_step (by repeat (first | (with_reducible first | exact HB.out | apply below_alloc | apply pw_below_drewN | apply below_drew1 | refine below_set ?_ GE148.out | refine below_set ?_ GE156.out | refine below_set ?_ GE163.out) | exact HB.out)) hb); clear BK148; clear BK156; clear BK163; clear HB; have BK148 := n0_; have BK156 := n1_; have BK163 := n2_; have HB := n3_; clear n0_ n1_ n2_ n3_; (try clear hb); (try clear hb2); (try clear hk); (try clear hi); have hcz86_0 : w85.cell? ⟨gb148, 0, none⟩ = some (.int .u64 a0_0) := (blk_cell BK148.out 0).trans rfl; have hcz86_1 : w85.cell? ⟨gb148, 1, none⟩ = some (.int .u64 a0_1) := (blk_cell BK148.out 1).trans rfl; have hcz86_2 : w85.cell? ⟨gb148, 2, none⟩ = some (.int .i64 a0_2) := (blk_cell BK148.out 2).trans rfl; have hcz86_3 : w85.cell? ⟨gb148, 3, none⟩ = some (.int .u64 a0_3) := (blk_cell BK148.out 3).trans rfl; have hfz86_0 := blk_frozen BK148.out 0; have hfz86_1 := blk_frozen BK148.out 1; have hfz86_2 := blk_frozen BK148.out 2; have hfz86_3 := blk_frozen BK148.out 3; have hcz87_0 : w85.cell? ⟨gb156, 0, none⟩ = some (.int .u64 t151) := (blk_cell BK156.out 0).trans rfl; have hcz87_1 : w85.cell? ⟨gb156, 1, none⟩ = some (.int .u64 t152) := (blk_cell BK156.out 1).trans rfl; have hcz87_2 : w85.cell? ⟨gb156, 2, none⟩ = some (.int .i64 t153) := (blk_cell BK156.out 2).trans rfl; have hcz87_3 : w85.cell? ⟨gb156, 3, none⟩ = some (.int .u64 t154) := (blk_cell BK156.out 3).trans rfl; have hfz87_0 := blk_frozen BK156.out 0; have hfz87_1 := blk_frozen BK156.out 1; have hfz87_2 := blk_frozen BK156.out 2; have hfz87_3 := blk_frozen BK156.out 3) | (go_at_call 8; (with_reducible refine (abs_Has.calls a0_0 a0_1 a0_2 a0_3 t151 true _ A34.out).mono ?_); rintro e w88 ⟨rfl, hb⟩; have n0_ := Aside0.mk (blk_below (g := gb148) (o := .cells #[.int .u64 a0_0, .int .u64 a0_1, .int .i64 a0_2, .int .u64 a0_3] 28 (0, 0)) (by (with_reducible repeat (first | refine blk_drewN ?_ _ | refine blk_drew ?_ | refine blk_alloc ?_ _)); exact BK148.out) hb); have n1_ := Aside0.mk (blk_below (g := gb156) (o := .cells #[.int .u64 t151, .int .u64 t152, .int .i64 t153, .int .u64 t154] 28 (0, 0)) (by (with_reducible repeat (first | refine blk_drewN ?_ _ | refine blk_drew ?_ | refine blk_alloc ?_ _)); exact BK156.out) hb); have n2_ := Aside0.mk (blk_below (g := gb163) (o := .cells #[.int .u64 t158, .int .u64 t159, .int .i64 t160, .int .u64 t161] 28 (0, 0)) (by (with_reducible repeat (first | refine blk_drewN ?_ _ | refine blk_drew ?_ | refine blk_alloc ?_ _)); exact BK163.out) hb); have n3_ := Aside0.mk (below_step (by repeat (first | (with_reducible first | exact HB.out | apply below_alloc | apply pw_below_drewN | apply below_drew1 | refine below_set ?_ GE148.out | refine below_set ?_ GE156.out | refine below_set ?_ GE163.out) | exact HB.out)) hb); clear BK148; clear BK156; clear BK163; clear HB; have BK148 := n0_; have BK156 := n1_; have BK163 := n2_; have HB := n3_; clear n0_ n1_ n2_ n3_; (try clear hb); (try clear hb2); (try clear hk); (try clear hi); have hcz89_0 : w88.cell? ⟨gb148, 0, none⟩ = some (.int .u64 a0_0) := (blk_cell BK148.out 0).trans rfl; have hcz89_1 : w88.cell? ⟨gb148, 1, none⟩ = some (.int .u64 a0_1) := (blk_cell BK148.out 1).trans rfl; have hcz89_2 : w88.cell? ⟨gb148, 2, none⟩ = some (.int .i64 a0_2) := (blk_cell BK148.out 2).trans rfl; have hcz89_3 : w88.cell? ⟨gb148, 3, none⟩ = some (.int .u64 a0_3) := (blk_cell BK148.out 3).trans rfl; have hfz89_0 := blk_frozen BK148.out 0; have hfz89_1 := blk_frozen BK148.out 1; have hfz89_2 := blk_frozen BK148.out 2; have hfz89_3 := blk_frozen BK148.out 3; have hcz90_0 : w88.cell? ⟨gb156, 0, none⟩ = some (.int .u64 t151) := (blk_cell BK156.out 0).trans rfl; have hcz90_1 : w88.cell? ⟨gb156, 1, none⟩ = some (.int .u64 t152) := (blk_cell BK156.out 1).trans rfl; have hcz90_2 : w88.cell? ⟨gb156, 2, none⟩ = some (.int .i64 t153) := (blk_cell BK156.out 2).trans rfl; have hcz90_3 : w88.cell? ⟨gb156, 3, none⟩ = some (.int .u64 t154) := (blk_cell BK156.out 3).trans rfl; have hfz90_0 := blk_frozen BK156.out 0; have hfz90_1 := blk_frozen BK156.out 1; have hfz90_2 := blk_frozen BK156.out 2; have hfz90_3 := blk_frozen BK156.out 3) | (go_at_call 8; (with_reducible refine (abs_Has.calls a0_0 a0_1 a0_2 a0_3 t152 false _ A36.out).mono ?_); rintro e w91 ⟨rfl, hb⟩; have n0_ := Aside0.mk (blk_below (g := gb148) (o := .cells #[.int .u64 a0_0, .int .u64 a0_1, .int .i64 a0_2, .int .u64 a0_3] 28 (0, 0)) (by (with_reducible repeat (first | refine blk_drewN ?_ _ | refine blk_drew ?_ | refine blk_alloc ?_ _)); exact BK148.out) hb); have n1_ := Aside0.mk (blk_below (g := gb156) (o := .cells #[.int .u64 t151, .int .u64 t152, .int .i64 t153, .int .u64 t154] 28 (0, 0)) (by (with_reducible repeat (first | refine blk_drewN ?_ _ | refine blk_drew ?_ | refine blk_alloc ?_ _)); exact BK156.out) hb); have n2_ := Aside0.mk (blk_below (g := gb163) (o := .cells #[.int .u64 t158, .int .u64 t159, .int .i64 t160, .int .u64 t161] 28 (0, 0)) (by (with_reducible repeat (first | refine blk_drewN ?_ _ | refine blk_drew ?_ | refine blk_alloc ?_ _)); exact BK163.out) hb); have n3_ := Aside0.mk (below_step (by repeat (first | (with_reducible first | exact HB.out | apply below_alloc | apply pw_below_drewN | apply below_drew1 | refine below_set ?_ GE148.out | refine below_set ?_ GE156.out | refine below_set ?_ GE163.out) | exact HB.out)) hb); clear BK148; clear BK156; clear BK163; clear HB; have BK148 := n0_; have BK156 := n1_; have BK163 := n2_; have HB := n3_; clear n0_ n1_ n2_ n3_; (try clear hb); (try clear hb2); (try clear hk); (try clear hi)))
                    go_meet
                    case rel => exact ⟨_, (true), (by first | rfl | (simp; done) | (simp [*]; done)), H', ⟨by first | omega | exact Nat.le_refl _⟩, ⟨by (with_reducible repeat (first | refine blk_drewN ?_ _ | refine blk_drew ?_ | refine blk_alloc ?_ _)); exact BK148.out⟩, ⟨by (with_reducible repeat (first | refine blk_drewN ?_ _ | refine blk_drew ?_ | refine blk_alloc ?_ _)); exact BK156.out⟩, ⟨by (with_reducible repeat (first | refine blk_drewN ?_ _ | refine blk_drew ?_ | refine blk_alloc ?_ _)); exact BK163.out⟩, ⟨by repeat (first | (with_reducible first | exact HB.out | apply below_alloc | apply pw_below_drewN | apply below_drew1 | refine below_set ?_ GE148.out | refine below_set ?_ GE156.out | refine below_set ?_ GE163.out) | exact HB.out)⟩⟩
                · replace c35 := Bool.eq_false_iff.mpr c35
                  subst c35
                  have H1 : (trammellaw18_AbsTight.j0 k a1 true a0_0 a0_1 a0_2 a0_3 t151 t152 t153 t154) = some r := by rw [if_neg (show ¬ (false = true) by decide)] at H; exact H
                  clear H
                  have H := H1
                  clear H1
                  have H' := Aside0.mk H
                  clear H
                  have hnb92 := NB163_148.out
                  have hnc92 := NB148_163.out
                  have hnb93 := NB163_156.out
                  have hnc93 := NB156_163.out
                  have hcz94_0 : w21.cell? ⟨gb163, 0, none⟩ = some (.int .u64 0) := (blk_cell BK163.out 0).trans rfl
                  have hcz94_1 : w21.cell? ⟨gb163, 1, none⟩ = some (.int .u64 0) := (blk_cell BK163.out 1).trans rfl
                  have hcz94_2 : w21.cell? ⟨gb163, 2, none⟩ = some (.int .i64 0) := (blk_cell BK163.out 2).trans rfl
                  have hcz94_3 : w21.cell? ⟨gb163, 3, none⟩ = some (.int .u64 0) := (blk_cell BK163.out 3).trans rfl
                  have hfz94_0 := blk_frozen BK163.out 0
                  have hfz94_1 := blk_frozen BK163.out 1
                  have hfz94_2 := blk_frozen BK163.out 2
                  have hfz94_3 := blk_frozen BK163.out 3
                  have hnb95 := NB156_148.out
                  have hnc95 := NB148_156.out
                  have hcz96_0 : w21.cell? ⟨gb156, 0, none⟩ = some (.int .u64 t151) := (blk_cell BK156.out 0).trans rfl
                  have hcz96_1 : w21.cell? ⟨gb156, 1, none⟩ = some (.int .u64 t152) := (blk_cell BK156.out 1).trans rfl
                  have hcz96_2 : w21.cell? ⟨gb156, 2, none⟩ = some (.int .i64 t153) := (blk_cell BK156.out 2).trans rfl
                  have hcz96_3 : w21.cell? ⟨gb156, 3, none⟩ = some (.int .u64 t154) := (blk_cell BK156.out 3).trans rfl
                  have hfz96_0 := blk_frozen BK156.out 0
                  have hfz96_1 := blk_frozen BK156.out 1
                  have hfz96_2 := blk_frozen BK156.out 2
                  have hfz96_3 := blk_frozen BK156.out 3
                  go_wp2_with (first | (go_at_call 6; (with_reducible refine (abs_Right.calls t151 t152 t153 t154 true _ A32.out).mono ?_); rintro e w97 ⟨rfl, hb⟩; have n0_ := Aside0.mk (blk_below (g := gb148) (o := .cells #[.int .u64 a0_0, .int .u64 a0_1, .int .i64 a0_2, .int .u64 a0_3] 28 (0, 0)) (by (with_reducible repeat (first | refine blk_drewN ?_ _ | refine blk_drew ?_ | refine blk_alloc ?_ _)); refine blk_far ?_ NB148_163.out _; (with_reducible repeat (first | refine blk_drewN ?_ _ | refine blk_drew ?_ | refine blk_alloc ?_ _)); refine blk_far ?_ NB148_163.out _; (with_reducible repeat (first | refine blk_drewN ?_ _ | refine blk_drew ?_ | refine blk_alloc ?_ _)); refine blk_far ?_ NB148_163.out _; (with_reducible repeat (first | refine blk_drewN ?_ _ | refine blk_drew ?_ | refine blk_alloc ?_ _)); refine blk_far ?_ NB148_163.out _; (with_reducible repeat (first | refine blk_drewN ?_ _ | refine blk_drew ?_ | refine blk_alloc ?_ _)); exact BK148.out) hb); have n1_ := Aside0.mk (blk_below (g := gb156) (o := .cells #[.int .u64 t151, .int .u64 t152, .int .i64 t153, .int .u64 t154] 28 (0, 0)) (by (with_reducible repeat (first | refine blk_drewN ?_ _ | refine blk_drew ?_ | refine blk_alloc ?_ _)); refine blk_far ?_ NB156_163.out _; (with_reducible repeat (first | refine blk_drewN ?_ _ | refine blk_drew ?_ | refine blk_alloc ?_ _)); refine blk_far ?_ NB156_163.out _; (with_reducible repeat (first | refine blk_drewN ?_ _ | refine blk_drew ?_ | refine blk_alloc ?_ _)); refine blk_far ?_ NB156_163.out _; (with_reducible repeat (first | refine blk_drewN ?_ _ | refine blk_drew ?_ | refine blk_alloc ?_ _)); refine blk_far ?_ NB156_163.out _; (with_reducible repeat (first | refine blk_drewN ?_ _ | refine blk_drew ?_ | refine blk_alloc ?_ _)); exact BK156.out) hb); have n2_ := Aside0.mk (blk_below (g := gb163) (o := .cells #[.int .u64 t158, .int .u64 t159, .int .i64 t160, .int .u64 t161] 28 (0, 0)) (by (with_reducible repeat (first | refine blk_drewN ?_ _ | refine blk_drew ?_ | refine blk_alloc ?_ _)); refine blk_put (cs := #[.int .u64 t158, .int .u64 t159, .int .i64 t160, .int .u64 0]) ?_ 3 _ (by first | rfl | (simp_all; done)); (with_reducible repeat (first | refine blk_drewN ?_ _ | refine blk_drew ?_ | refine blk_alloc ?_ _)); refine blk_put (cs := #[.int .u64 t158, .int .u64 t159, .int .i64 0, .int .u64 0]) ?_ 2 _ (by first | rfl | (simp_all; done)); (with_reducible repeat (first | refine blk_drewN ?_ _ | refine blk_drew ?_ | refine blk_alloc ?_ _)); refine blk_put (cs := #[.int .u64 t158, .int .u64 0, .int .i64 0, .int .u64 0]) ?_ 1 _ (by first | rfl | (simp_all; done)); (with_reducible repeat (first | refine blk_drewN ?_ _ | refine blk_drew ?_ | refine blk_alloc ?_ _)); refine blk_put (cs := #[.int .u64 0, .int .u64 0, .int .i64 0, .int .u64 0]) ?_ 0 _ (by first | rfl | (simp_all; done)); (with_reducible repeat (first | refine blk_drewN ?_ _ | refine blk_drew ?_ | refine blk_alloc ?_ _)); exact BK163.out) hb); have n3_ := Aside0.mk (below_step (by repeat (first | (with_reducible first | exact HB.out | apply below_alloc | apply pw_below_drewN | apply below_drew1 | refine below_set ?_ GE148.out | refine below_set ?_ GE156.out | refine below_set ?_ GE163.out) | exact HB.out)) hb); clear BK148; clear BK156; clear BK163; clear HB; have BK148 := n0_; have BK156 := n1_; have BK163 := n2_; have HB := n3_; clear n0_ n1_ n2_ n3_; (try clear hb); (try clear hb2); (try clear hk); (try clear hi); have hcz98_0 : w97.cell? ⟨gb148, 0, none⟩ = some (.int .u64 a0_0) := (blk_cell BK148.out 0).trans rfl; have hcz98_1 : w97.cell? ⟨gb148, 1, none⟩ = some (.int .u64 a0_1) := (blk_cell BK148.out 1).trans rfl; have hcz98_2 : w97.cell? ⟨gb148, 2, none⟩ = some (.int .i64 a0_2) := (blk_cell BK148.out 2).trans rfl; have hcz98_3 : w97.cell? ⟨gb148, 3, none⟩ = some (.int .u64 a0_3) := (blk_cell BK148.out 3).trans rfl; have hfz98_0 := blk_frozen BK148.out 0; have hfz98_1 := blk_frozen BK148.out 1; have hfz98_2 := blk_frozen BK148.out 2; have hfz98_3 := blk_frozen BK148.out 3; have hcz99_0 : w97.cell? ⟨gb156, 0, none⟩ = some (.int .u64 t151) := (blk_cell BK156.out 0).trans rfl; have hcz99_1 : w97.cell? ⟨gb156, 1, none⟩ = some (.int .u64 t152) := (blk_cell BK156.out 1).trans rfl; have hcz99_2 : w97.cell? ⟨gb156, 2, none⟩ = some (.int .i64 t153) := (blk_cell BK156.out 2).trans rfl; have hcz99_3 : w97.cell? ⟨gb156, 3, none⟩ = some (.int .u64 t154) := (blk_cell BK156.out 3).trans rfl; have hfz99_0 := blk_frozen BK156.out 0; have hfz99_1 := blk_frozen BK156.out 1; have hfz99_2 := blk_frozen BK156.out 2; have hfz99_3 := blk_frozen BK156.out 3) | (go_at_call 8; (with_reducible refine (abs_Has.calls a0_0 a0_1 a0_2 a0_3 t151 false _ A34.out).mono ?_); rintro e w100 ⟨rfl, hb⟩; have n0_ := Aside0.mk (blk_below (g := gb148) (o := .cells #[.int .u64 a0_0, .int .u64 a0_1, .int .i64 a0_2, .int .u64 a0_3] 28 (0, 0)) (by (with_reducible repeat (first | refine blk_drewN ?_ _ | refine blk_drew ?_ | refine blk_alloc ?_ _)); exact BK148.out) hb); have n1_ := Aside0.mk (blk_below (g := gb156) (o := .cells #[.int .u64 t151, .int .u64 t152, .int .i64 t153, .int .u64 t154] 28 (0, 0)) (by (with_reducible repeat (first | refine blk_drewN ?_ _ | refine blk_drew ?_ | refine blk_alloc ?_ _)); exact BK156.out) hb); have n2_ := Aside0.mk (blk_below (g := gb163) (o := .cells #[.int .u64 t158, .int .u64 t159, .int .i64 t160, .int .u64 t161] 28 (0, 0)) (by (with_reducible repeat (first | refine blk_drewN ?_ _ | refine blk_drew ?_ | refine blk_alloc ?_ _)); exact BK163.out) hb); have n3_ := Aside0.mk (below_step (by repeat (first | (with_reducible first | exact HB.out | apply below_alloc | apply pw_below_drewN | apply below_drew1 | refine below_set ?_ GE148.out | refine below_set ?_ GE156.out | refine below_set ?_ GE163.out) | exact HB.out)) hb); clear BK148; clear BK156; clear BK163; clear HB; have BK148 := n0_; have BK156 := n1_; have BK163 := n2_; have HB := n3_; clear n0_ n1_ n2_ n3_; (try clear hb); (try clear hb2); (try clear hk); (try clear hi)))
                  go_meet
                  case rel => exact ⟨_, (true), (by first | rfl | (simp; done) | (simp [*]; done)), H', ⟨by first | omega | exact Nat.le_refl _⟩, ⟨by (with_reducible repeat (first | refine blk_drewN ?_ _ | refine blk_drew ?_ | refine blk_alloc ?_ _)); exact BK148.out⟩, ⟨by (with_reducible repeat (first | refine blk_drewN ?_ _ | refine blk_drew ?_ | refine blk_alloc ?_ _)); exact BK156.out⟩, ⟨by (with_reducible repeat (first | refine blk_drewN ?_ _ | refine blk_drew ?_ | refine blk_alloc ?_ _)); exact BK163.out⟩, ⟨by repeat (first | (with_reducible first | exact HB.out | apply below_alloc | apply pw_below_drewN | apply below_drew1 | refine below_set ?_ GE148.out | refine below_set ?_ GE156.out | refine below_set ?_ GE163.out) | exact HB.out)⟩⟩
              · replace c33 := Bool.eq_false_iff.mpr c33
                subst c33
                have H1 : (trammellaw18_AbsTight.j0 k a1 true a0_0 a0_1 a0_2 a0_3 t151 t152 t153 t154) = some r := by rw [if_neg (show ¬ (false = true) by decide)] at H; exact H
                clear H
                have H := H1
                clear H1
                have H' := Aside0.mk H
                clear H
                have hnb101 := NB163_148.out
                have hnc101 := NB148_163.out
                have hnb102 := NB163_156.out
                have hnc102 := NB156_163.out
                have hcz103_0 : w21.cell? ⟨gb163, 0, none⟩ = some (.int .u64 0) := (blk_cell BK163.out 0).trans rfl
                have hcz103_1 : w21.cell? ⟨gb163, 1, none⟩ = some (.int .u64 0) := (blk_cell BK163.out 1).trans rfl
                have hcz103_2 : w21.cell? ⟨gb163, 2, none⟩ = some (.int .i64 0) := (blk_cell BK163.out 2).trans rfl
                have hcz103_3 : w21.cell? ⟨gb163, 3, none⟩ = some (.int .u64 0) := (blk_cell BK163.out 3).trans rfl
                have hfz103_0 := blk_frozen BK163.out 0
                have hfz103_1 := blk_frozen BK163.out 1
                have hfz103_2 := blk_frozen BK163.out 2
                have hfz103_3 := blk_frozen BK163.out 3
                have hnb104 := NB156_148.out
                have hnc104 := NB148_156.out
                have hcz105_0 : w21.cell? ⟨gb156, 0, none⟩ = some (.int .u64 t151) := (blk_cell BK156.out 0).trans rfl
                have hcz105_1 : w21.cell? ⟨gb156, 1, none⟩ = some (.int .u64 t152) := (blk_cell BK156.out 1).trans rfl
                have hcz105_2 : w21.cell? ⟨gb156, 2, none⟩ = some (.int .i64 t153) := (blk_cell BK156.out 2).trans rfl
                have hcz105_3 : w21.cell? ⟨gb156, 3, none⟩ = some (.int .u64 t154) := (blk_cell BK156.out 3).trans rfl
                have hfz105_0 := blk_frozen BK156.out 0
                have hfz105_1 := blk_frozen BK156.out 1
                have hfz105_2 := blk_frozen BK156.out 2
                have hfz105_3 := blk_frozen BK156.out 3
                go_wp2_with (first | (go_at_call 6; (with_reducible refine (abs_Right.calls t151 t152 t153 t154 false _ A32.out).mono ?_); rintro e w106 ⟨rfl, hb⟩; have n0_ := Aside0.mk (blk_below (g := gb148) (o := .cells #[.int .u64 a0_0, .int .u64 a0_1, .int .i64 a0_2, .int .u64 a0_3] 28 (0, 0)) (by (with_reducible repeat (first | refine blk_drewN ?_ _ | refine blk_drew ?_ | refine blk_alloc ?_ _)); refine blk_far ?_ NB148_163.out _; (with_reducible repeat (first | refine blk_drewN ?_ _ | refine blk_drew ?_ | refine blk_alloc ?_ _)); refine blk_far ?_ NB148_163.out _; (with_reducible repeat (first | refine blk_drewN ?_ _ | refine blk_drew ?_ | refine blk_alloc ?_ _)); refine blk_far ?_ NB148_163.out _; (with_reducible repeat (first | refine blk_drewN ?_ _ | refine blk_drew ?_ | refine blk_alloc ?_ _)); refine blk_far ?_ NB148_163.out _; (with_reducible repeat (first | refine blk_drewN ?_ _ | refine blk_drew ?_ | refine blk_alloc ?_ _)); exact BK148.out) hb); have n1_ := Aside0.mk (blk_below (g := gb156) (o := .cells #[.int .u64 t151, .int .u64 t152, .int .i64 t153, .int .u64 t154] 28 (0, 0)) (by (with_reducible repeat (first | refine blk_drewN ?_ _ | refine blk_drew ?_ | refine blk_alloc ?_ _)); refine blk_far ?_ NB156_163.out _; (with_reducible repeat (first | refine blk_drewN ?_ _ | refine blk_drew ?_ | refine blk_alloc ?_ _)); refine blk_far ?_ NB156_163.out _; (with_reducible repeat (first | refine blk_drewN ?_ _ | refine blk_drew ?_ | refine blk_alloc ?_ _)); refine blk_far ?_ NB156_163.out _; (with_reducible repeat (first | refine blk_drewN ?_ _ | refine blk_drew ?_ | refine blk_alloc ?_ _)); refine blk_far ?_ NB156_163.out _; (with_reducible repeat (first | refine blk_drewN ?_ _ | refine blk_drew ?_ | refine blk_alloc ?_ _)); exact BK156.out) hb); have n2_ := Aside0.mk (blk_below (g := gb163) (o := .cells #[.int .u64 t158, .int .u64 t159, .int .i64 t160, .int .u64 t161] 28 (0, 0)) (by (with_reducible repeat (first | refine blk_drewN ?_ _ | refine blk_drew ?_ | refine blk_alloc ?_ _)); refine blk_put (cs := #[.int .u64 t158, .int .u64 t159, .int .i64 t160, .int .u64 0]) ?_ 3 _ (by first | rfl | (simp_all; done)); (with_reducible repeat (first | refine blk_drewN ?_ _ | refine blk_drew ?_ | refine blk_alloc ?_ _)); refine blk_put (cs := #[.int .u64 t158, .int .u64 t159, .int .i64 0, .int .u64 0]) ?_ 2 _ (by first | rfl | (simp_all; done)); (with_reducible repeat (first | refine blk_drewN ?_ _ | refine blk_drew ?_ | refine blk_alloc ?_ _)); refine blk_put (cs := #[.int .u64 t158, .int .u64 0, .int .i64 0, .int .u64 0]) ?_ 1 _ (by first | rfl | (simp_all; done)); (with_reducible repeat (first | refine blk_drewN ?_ _ | refine blk_drew ?_ | refine blk_alloc ?_ _)); refine blk_put (cs := #[.int .u64 0, .int .u64 0, .int .i64 0, .int .u64 0]) ?_ 0 _ (by first | rfl | (simp_all; done)); (with_reducible repeat (first | refine blk_drewN ?_ _ | refine blk_drew ?_ | refine blk_alloc ?_ _)); exact BK163.out) hb); have n3_ := Aside0.mk (below_step (by repeat (first | (with_reducible first | exact HB.out | apply below_alloc | apply pw_below_drewN | apply below_drew1 | refine below_set ?_ GE148.out | refine below_set ?_ GE156.out | refine below_set ?_ GE163.out) | exact HB.out)) hb); clear BK148; clear BK156; clear BK163; clear HB; have BK148 := n0_; have BK156 := n1_; have BK163 := n2_; have HB := n3_; clear n0_ n1_ n2_ n3_; (try clear hb); (try clear hb2); (try clear hk); (try clear hi)))
                go_meet
                case rel => exact ⟨_, (true), (by first | rfl | (simp; done) | (simp [*]; done)), H', ⟨by first | omega | exact Nat.le_refl _⟩, ⟨by (with_reducible repeat (first | refine blk_drewN ?_ _ | refine blk_drew ?_ | refine blk_alloc ?_ _)); exact BK148.out⟩, ⟨by (with_reducible repeat (first | refine blk_drewN ?_ _ | refine blk_drew ?_ | refine blk_alloc ?_ _)); exact BK156.out⟩, ⟨by (with_reducible repeat (first | refine blk_drewN ?_ _ | refine blk_drew ?_ | refine blk_alloc ?_ _)); exact BK163.out⟩, ⟨by repeat (first | (with_reducible first | exact HB.out | apply below_alloc | apply pw_below_drewN | apply below_drew1 | refine below_set ?_ GE148.out | refine below_set ?_ GE156.out | refine below_set ?_ GE163.out) | exact HB.out)⟩⟩
          · replace c25 := Bool.eq_false_iff.mpr c25
            subst c25
            have H1 : (trammellaw18_AbsTight.j0 k a1 true a0_0 a0_1 a0_2 a0_3 t151 t152 t153 t154) = some r := by rw [if_neg (show ¬ (false = true) by decide)] at H; exact H
            clear H
            have H := H1
            clear H1
            have H' := Aside0.mk H
            clear H
            go_wp2
            go_meet
            case rel => exact ⟨_, (true), (by first | rfl | (simp; done) | (simp [*]; done)), H', ⟨by first | omega | exact Nat.le_refl _⟩, ⟨by (with_reducible repeat (first | refine blk_drewN ?_ _ | refine blk_drew ?_ | refine blk_alloc ?_ _)); refine blk_far ?_ NB148_163.out _; (with_reducible repeat (first | refine blk_drewN ?_ _ | refine blk_drew ?_ | refine blk_alloc ?_ _)); refine blk_far ?_ NB148_163.out _; (with_reducible repeat (first | refine blk_drewN ?_ _ | refine blk_drew ?_ | refine blk_alloc ?_ _)); refine blk_far ?_ NB148_163.out _; (with_reducible repeat (first | refine blk_drewN ?_ _ | refine blk_drew ?_ | refine blk_alloc ?_ _)); refine blk_far ?_ NB148_163.out _; (with_reducible repeat (first | refine blk_drewN ?_ _ | refine blk_drew ?_ | refine blk_alloc ?_ _)); exact BK148.out⟩, ⟨by (with_reducible repeat (first | refine blk_drewN ?_ _ | refine blk_drew ?_ | refine blk_alloc ?_ _)); refine blk_far ?_ NB156_163.out _; (with_reducible repeat (first | refine blk_drewN ?_ _ | refine blk_drew ?_ | refine blk_alloc ?_ _)); refine blk_far ?_ NB156_163.out _; (with_reducible repeat (first | refine blk_drewN ?_ _ | refine blk_drew ?_ | refine blk_alloc ?_ _)); refine blk_far ?_ NB156_163.out _; (with_reducible repeat (first | refine blk_drewN ?_ _ | refine blk_drew ?_ | refine blk_alloc ?_ _)); refine blk_far ?_ NB156_163.out _; (with_reducible repeat (first | refine blk_drewN ?_ _ | refine blk_drew ?_ | refine blk_alloc ?_ _)); exact BK156.out⟩, ⟨by (with_reducible repeat (first | refine blk_drewN ?_ _ | refine blk_drew ?_ | refine blk_alloc ?_ _)); refine blk_put (cs := #[.int .u64 t158, .int .u64 t159, .int .i64 t160, .int .u64 0]) ?_ 3 _ (by first | rfl | (simp_all; done)); (with_reducible repeat (first | refine blk_drewN ?_ _ | refine blk_drew ?_ | refine blk_alloc ?_ _)); refine blk_put (cs := #[.int .u64 t158, .int .u64 t159, .int .i64 0, .int .u64 0]) ?_ 2 _ (by first | rfl | (simp_all; done)); (with_reducible repeat (first | refine blk_drewN ?_ _ | refine blk_drew ?_ | refine blk_alloc ?_ _)); refine blk_put (cs := #[.int .u64 t158, .int .u64 0, .int .i64 0, .int .u64 0]) ?_ 1 _ (by first | rfl | (simp_all; done)); (with_reducible repeat (first | refine blk_drewN ?_ _ | refine blk_drew ?_ | refine blk_alloc ?_ _)); refine blk_put (cs := #[.int .u64 0, .int .u64 0, .int .i64 0, .int .u64 0]) ?_ 0 _ (by first | rfl | (simp_all; done)); (with_reducible repeat (first | refine blk_drewN ?_ _ | refine blk_drew ?_ | refine blk_alloc ?_ _)); exact BK163.out⟩, ⟨by repeat (first | (with_reducible first | exact HB.out | apply below_alloc | apply pw_below_drewN | apply below_drew1 | refine below_set ?_ GE148.out | refine below_set ?_ GE156.out | refine below_set ?_ GE163.out) | exact HB.out)⟩⟩
        case rest =>
          clear HC10
          try clear c1
          try clear c2
          try clear p2
          try clear c3
          try clear c4
          try clear c5
          try clear c6
          try clear c7
          try clear c8
          try clear c9
          try clear c10
          try clear c18
          try clear c22
          try clear c23
          try clear c25
          try clear c26
          try clear c26b0
          try clear c27
          try clear c28
          try clear c30
          try clear c33
          try clear c35
          try clear c37
          try clear c38
          try clear c38b0
          try clear c38b1
          try clear c39
          try clear c39b0
          try clear c39b1
          try clear c40
          try clear c41
          try clear c43
          try clear c53
          try clear c54
          try clear c56
          try clear c66
          try clear c67
          try clear c69
          try clear c80
          try clear c81
          try clear c83
          try clear c92
          try clear c93
          try clear c95
          try clear c101
          try clear c102
          try clear c104
          try clear hcz103_0
          try clear hcz103_1
          try clear hcz103_2
          try clear hcz103_3
          try clear hcz105_0
          try clear hcz105_1
          try clear hcz105_2
          try clear hcz105_3
          try clear hcz13_0
          try clear hcz13_1
          try clear hcz13_2
          try clear hcz13_3
          try clear hcz15_0
          try clear hcz15_1
          try clear hcz15_2
          try clear hcz15_3
          try clear hcz19_0
          try clear hcz19_1
          try clear hcz19_2
          try clear hcz19_3
          try clear hcz24_0
          try clear hcz24_1
          try clear hcz24_2
          try clear hcz24_3
          try clear hcz29_0
          try clear hcz29_1
          try clear hcz29_2
          try clear hcz29_3
          try clear hcz31_0
          try clear hcz31_1
          try clear hcz31_2
          try clear hcz31_3
          try clear hcz42_0
          try clear hcz42_1
          try clear hcz42_2
          try clear hcz42_3
          try clear hcz44_0
          try clear hcz44_1
          try clear hcz44_2
          try clear hcz44_3
          try clear hcz46_0
          try clear hcz46_1
          try clear hcz46_2
          try clear hcz46_3
          try clear hcz47_0
          try clear hcz47_1
          try clear hcz47_2
          try clear hcz47_3
          try clear hcz49_0
          try clear hcz49_1
          try clear hcz49_2
          try clear hcz49_3
          try clear hcz50_0
          try clear hcz50_1
          try clear hcz50_2
          try clear hcz50_3
          try clear hcz52_0
          try clear hcz52_1
          try clear hcz52_2
          try clear hcz52_3
          try clear hcz55_0
          try clear hcz55_1
          try clear hcz55_2
          try clear hcz55_3
          try clear hcz57_0
          try clear hcz57_1
          try clear hcz57_2
          try clear hcz57_3
          try clear hcz59_0
          try clear hcz59_1
          try clear hcz59_2
          try clear hcz59_3
          try clear hcz60_0
          try clear hcz60_1
          try clear hcz60_2
          try clear hcz60_3
          try clear hcz62_0
          try clear hcz62_1
          try clear hcz62_2
          try clear hcz62_3
          try clear hcz63_0
          try clear hcz63_1
          try clear hcz63_2
          try clear hcz63_3
          try clear hcz65_0
          try clear hcz65_1
          try clear hcz65_2
          try clear hcz65_3
          try clear hcz68_0
          try clear hcz68_1
          try clear hcz68_2
          try clear hcz68_3
          try clear hcz70_0
          try clear hcz70_1
          try clear hcz70_2
          try clear hcz70_3
          try clear hcz72_0
          try clear hcz72_1
          try clear hcz72_2
          try clear hcz72_3
          try clear hcz73_0
          try clear hcz73_1
          try clear hcz73_2
          try clear hcz73_3
          try clear hcz75_0
          try clear hcz75_1
          try clear hcz75_2
          try clear hcz75_3
          try clear hcz76_0
          try clear hcz76_1
          try clear hcz76_2
          try clear hcz76_3
          try clear hcz78_0
          try clear hcz78_1
          try clear hcz78_2
          try clear hcz78_3
          try clear hcz79_0
          try clear hcz79_1
          try clear hcz79_2
          try clear hcz79_3
          try clear hcz82_0
          try clear hcz82_1
          try clear hcz82_2
          try clear hcz82_3
          try clear hcz84_0
          try clear hcz84_1
          try clear hcz84_2
          try clear hcz84_3
          try clear hcz86_0
          try clear hcz86_1
          try clear hcz86_2
          try clear hcz86_3
          try clear hcz87_0
          try clear hcz87_1
          try clear hcz87_2
          try clear hcz87_3
          try clear hcz89_0
          try clear hcz89_1
          try clear hcz89_2
          try clear hcz89_3
          try clear hcz90_0
          try clear hcz90_1
          try clear hcz90_2
          try clear hcz90_3
          try clear hcz94_0
          try clear hcz94_1
          try clear hcz94_2
          try clear hcz94_3
          try clear hcz96_0
          try clear hcz96_1
          try clear hcz96_2
          try clear hcz96_3
          try clear hcz98_0
          try clear hcz98_1
          try clear hcz98_2
          try clear hcz98_3
          try clear hcz99_0
          try clear hcz99_1
          try clear hcz99_2
          try clear hcz99_3
          try clear hfz103_0
          try clear hfz103_1
          try clear hfz103_2
          try clear hfz103_3
          try clear hfz105_0
          try clear hfz105_1
          try clear hfz105_2
          try clear hfz105_3
          try clear hfz13_0
          try clear hfz13_1
          try clear hfz13_2
          try clear hfz13_3
          try clear hfz15_0
          try clear hfz15_1
          try clear hfz15_2
          try clear hfz15_3
          try clear hfz19_0
          try clear hfz19_1
          try clear hfz19_2
          try clear hfz19_3
          try clear hfz24_0
          try clear hfz24_1
          try clear hfz24_2
          try clear hfz24_3
          try clear hfz29_0
          try clear hfz29_1
          try clear hfz29_2
          try clear hfz29_3
          try clear hfz31_0
          try clear hfz31_1
          try clear hfz31_2
          try clear hfz31_3
          try clear hfz42_0
          try clear hfz42_1
          try clear hfz42_2
          try clear hfz42_3
          try clear hfz44_0
          try clear hfz44_1
          try clear hfz44_2
          try clear hfz44_3
          try clear hfz46_0
          try clear hfz46_1
          try clear hfz46_2
          try clear hfz46_3
          try clear hfz47_0
          try clear hfz47_1
          try clear hfz47_2
          try clear hfz47_3
          try clear hfz49_0
          try clear hfz49_1
          try clear hfz49_2
          try clear hfz49_3
          try clear hfz50_0
          try clear hfz50_1
          try clear hfz50_2
          try clear hfz50_3
          try clear hfz52_0
          try clear hfz52_1
          try clear hfz52_2
          try clear hfz52_3
          try clear hfz55_0
          try clear hfz55_1
          try clear hfz55_2
          try clear hfz55_3
          try clear hfz57_0
          try clear hfz57_1
          try clear hfz57_2
          try clear hfz57_3
          try clear hfz59_0
          try clear hfz59_1
          try clear hfz59_2
          try clear hfz59_3
          try clear hfz60_0
          try clear hfz60_1
          try clear hfz60_2
          try clear hfz60_3
          try clear hfz62_0
          try clear hfz62_1
          try clear hfz62_2
          try clear hfz62_3
          try clear hfz63_0
          try clear hfz63_1
          try clear hfz63_2
          try clear hfz63_3
          try clear hfz65_0
          try clear hfz65_1
          try clear hfz65_2
          try clear hfz65_3
          try clear hfz68_0
          try clear hfz68_1
          try clear hfz68_2
          try clear hfz68_3
          try clear hfz70_0
          try clear hfz70_1
          try clear hfz70_2
          try clear hfz70_3
          try clear hfz72_0
          try clear hfz72_1
          try clear hfz72_2
          try clear hfz72_3
          try clear hfz73_0
          try clear hfz73_1
          try clear hfz73_2
          try clear hfz73_3
          try clear hfz75_0
          try clear hfz75_1
          try clear hfz75_2
          try clear hfz75_3
          try clear hfz76_0
          try clear hfz76_1
          try clear hfz76_2
          try clear hfz76_3
          try clear hfz78_0
          try clear hfz78_1
          try clear hfz78_2
          try clear hfz78_3
          try clear hfz79_0
          try clear hfz79_1
          try clear hfz79_2
          try clear hfz79_3
          try clear hfz82_0
          try clear hfz82_1
          try clear hfz82_2
          try clear hfz82_3
          try clear hfz84_0
          try clear hfz84_1
          try clear hfz84_2
          try clear hfz84_3
          try clear hfz86_0
          try clear hfz86_1
          try clear hfz86_2
          try clear hfz86_3
          try clear hfz87_0
          try clear hfz87_1
          try clear hfz87_2
          try clear hfz87_3
          try clear hfz89_0
          try clear hfz89_1
          try clear hfz89_2
          try clear hfz89_3
          try clear hfz90_0
          try clear hfz90_1
          try clear hfz90_2
          try clear hfz90_3
          try clear hfz94_0
          try clear hfz94_1
          try clear hfz94_2
          try clear hfz94_3
          try clear hfz96_0
          try clear hfz96_1
          try clear hfz96_2
          try clear hfz96_3
          try clear hfz98_0
          try clear hfz98_1
          try clear hfz98_2
          try clear hfz98_3
          try clear hfz99_0
          try clear hfz99_1
          try clear hfz99_2
          try clear hfz99_3
          obtain ⟨kq, x93_9, rfl, HA, HJ9, BK148, BK156, BK163, HB⟩ := hcut
          cases kq with
          | zero => exact absurd HA.out (by simp [trammellaw18_AbsTight.j0])
          | succ kj9 =>
            have H := HA.out
            clear HA
            simp only [trammellaw18_AbsTight.j0] at H
            by_cases c107 : x93_9 = true
            · subst c107
              have H1 : (some false) = some r := by rw [if_pos rfl] at H; exact H
              clear H
              have H := H1
              clear H1
              exact absurd (Option.some.inj H) (by rw [hr]; decide)
            · replace c107 := Bool.eq_false_iff.mpr c107
              subst c107
              have H1 : ((abs_Has.f a0_0 a0_1 a0_2 a0_3 a1).bind fun t167 => ((abs_Has.f t151 t152 t153 t154 a1).bind fun t168 => (if (t167 == t168) = true then ((abs_Within.f t151 t152 t153 t154 a0_0 a0_1 a0_2 a0_3).bind fun t169 => (some t169)) else (some false)))) = some r := by rw [if_neg (show ¬ (false = true) by decide)] at H; exact H
              clear H
              have H := H1
              clear H1
              replace H := Option.bind_eq_some_iff.mp H
              obtain ⟨t167, A1080, H⟩ := H
              replace H : ((abs_Has.f t151 t152 t153 t154 a1).bind fun t168 => (if (t167 == t168) = true then ((abs_Within.f t151 t152 t153 t154 a0_0 a0_1 a0_2 a0_3).bind fun t169 => (some t169)) else (some false))) = some r := H
              have A108 := Aside0.mk A1080
              clear A1080
              replace H := Option.bind_eq_some_iff.mp H
              obtain ⟨t168, A1090, H⟩ := H
              replace H : (if (t167 == t168) = true then ((abs_Within.f t151 t152 t153 t154 a0_0 a0_1 a0_2 a0_3).bind fun t169 => (some t169)) else (some false)) = some r := H
              have A109 := Aside0.mk A1090
              clear A1090
              by_cases c110 : (t167 == t168) = true
              · rw [if_pos c110] at H
                have c110b0 : (t167 == t168) = true := c110
                (try (have c110b1 : decide (t167 = t168) = true := by simpa using c110))
                (try (have c110b2 : (t167 == t168) = true := by simpa using c110))
                clear c110
                replace H := Option.bind_eq_some_iff.mp H
                obtain ⟨t169, A1110, H⟩ := H
                replace H : (some t169) = some r := H
                have A111 := Aside0.mk A1110
                clear A1110
                obtain rfl := Option.some.inj H
                try go_wp2
                have n0_ := Aside0.mk (blk_drew BK148.out)
                have n1_ := Aside0.mk (blk_drew BK156.out)
                have n2_ := Aside0.mk (blk_drew BK163.out)
                have n3_ := Aside0.mk (below_drew1 HB.out)
                clear BK148
                clear BK156
                clear BK163
                clear HB
                have BK148 := n0_
                have BK156 := n1_
                have BK163 := n2_
                have HB := n3_
                clear n0_ n1_ n2_ n3_
                refine start_ (n := 13) (S := fun w' => w'.cell? ⟨gb148, 0, none⟩ = some (.int .u64 a0_0) ∧ w'.cell? ⟨gb148, 1, none⟩ = some (.int .u64 a0_1) ∧ w'.cell? ⟨gb148, 2, none⟩ = some (.int .i64 a0_2) ∧ w'.cell? ⟨gb148, 3, none⟩ = some (.int .u64 a0_3) ∧ w'.cell? ⟨gb156, 0, none⟩ = some (.int .u64 t151) ∧ w'.cell? ⟨gb156, 1, none⟩ = some (.int .u64 t152) ∧ w'.cell? ⟨gb156, 2, none⟩ = some (.int .i64 t153) ∧ w'.cell? ⟨gb156, 3, none⟩ = some (.int .u64 t154)) (ds := []) #[false, false, false, false, false, false, false, false, false, false, false, false, false] (by kernel_rfl) rfl rfl ⟨(blk_cell BK148.out 0).trans rfl, (blk_cell BK148.out 1).trans rfl, (blk_cell BK148.out 2).trans rfl, (blk_cell BK148.out 3).trans rfl, (blk_cell BK156.out 0).trans rfl, (blk_cell BK156.out 1).trans rfl, (blk_cell BK156.out 2).trans rfl, (blk_cell BK156.out 3).trans rfl⟩ (fun hHeld => ?_); refine with_tabW trammellaw18_AbsTight.tab11 trammellaw18_AbsTight.bits11 (fun HT_ HW_ => ?_)
                generalize wc.drew = w112 at BK148 BK156 BK163 HB hHeld ⊢
                refine pure_ (i := 1) (N := some 95) (v := ?_) (a' := ?_) #[false, true, false, false, false, false, false, false, false, false, false, false, false] rfl rfl (any_of HT_.out (by kernel_rfl)) (fun _ _ _ h => h) (Or.inl ⟨by rfl, ?_⟩) ?_ ?_
                rotate_left
                · intro w'
                  go_simp
                  with_reducible rfl
                rotate_left
                · simp only [Act.put, List.setIfInBounds_toArray, List.set_cons_zero, List.set_cons_succ, i64_w, i32_w]
                  rfl
                refine pure_ (i := 4) (N := some 98) (v := ?_) (a' := ?_) #[false, true, false, false, true, false, false, false, false, false, false, false, false] rfl rfl (any_of HT_.out (by kernel_rfl)) (fun _ _ _ h => h) (Or.inl ⟨by rfl, ?_⟩) ?_ ?_
                rotate_left
                · intro w'
                  go_simp
                  with_reducible rfl
                rotate_left
                · simp only [Act.put, List.setIfInBounds_toArray, List.set_cons_zero, List.set_cons_succ, i64_w, i32_w]
                  rfl
                refine take_ (i := 0) (N := some 94) (v := ?_) (a' := ?_) #[true, true, false, false, true, false, false, false, false, false, false, false, false] rfl rfl (take_ofW HT_.out HW_.out (by kernel_rfl)) (fun _ _ _ h => h) (Or.inl ⟨by rfl, ?_⟩) hHeld ?_ ?_
                rotate_left
                · rintro w' ⟨s0, s1, s2, s3, s4, s5, s6, s7⟩
                  go_simp
                  with_reducible rfl
                rotate_left
                · simp only [Act.put, List.setIfInBounds_toArray, List.set_cons_zero, List.set_cons_succ, i64_w, i32_w]
                  rfl
                refine take_ (i := 3) (N := some 97) (v := ?_) (a' := ?_) #[true, true, false, true, true, false, false, false, false, false, false, false, false] rfl rfl (take_ofW HT_.out HW_.out (by kernel_rfl)) (fun _ _ _ h => h) (Or.inl ⟨by rfl, ?_⟩) hHeld ?_ ?_
                rotate_left
                · rintro w' ⟨s0, s1, s2, s3, s4, s5, s6, s7⟩
                  go_simp
                  with_reducible rfl
                rotate_left
                · simp only [Act.put, List.setIfInBounds_toArray, List.set_cons_zero, List.set_cons_succ, i64_w, i32_w]
                  rfl
                refine one_ (i := 2) (N := some 96) #[true, true, true, true, true, false, false, false, false, false, false, false, false] rfl rfl (one_of HT_.out (by kernel_rfl)) (by decide) (fun K hK => ?_)
                refine goes_ Try.func8 (by kernel_rfl) rfl #[.agg #[.int .u64 a0_0, .int .u64 a0_1, .int .i64 a0_2, .int .u64 a0_3], .int .u64 a1] (by rfl) rfl rfl (by (try simp only [List.map_toArray, List.map_cons, List.map_nil]); first | done | rfl | (simp only [List.length_drop, List.length_take]; rfl)) ?_
                with_reducible refine (abs_Has.calls a0_0 a0_1 a0_2 a0_3 a1 t167 _ A108.out).mono ?_
                rintro e w113 ⟨rfl, hb⟩
                refine ⟨_, rfl, ?_⟩
                have n0_ := Aside0.mk (blk_below (g := gb148) (o := .cells #[.int .u64 a0_0, .int .u64 a0_1, .int .i64 a0_2, .int .u64 a0_3] 28 (0, 0)) (by (with_reducible repeat (first | refine blk_drewN ?_ _ | refine blk_drew ?_ | refine blk_alloc ?_ _)); exact BK148.out) hb)
                have n1_ := Aside0.mk (blk_below (g := gb156) (o := .cells #[.int .u64 t151, .int .u64 t152, .int .i64 t153, .int .u64 t154] 28 (0, 0)) (by (with_reducible repeat (first | refine blk_drewN ?_ _ | refine blk_drew ?_ | refine blk_alloc ?_ _)); exact BK156.out) hb)
                have n2_ := Aside0.mk (blk_below (g := gb163) (o := .cells #[.int .u64 t158, .int .u64 t159, .int .i64 t160, .int .u64 t161] 28 (0, 0)) (by (with_reducible repeat (first | refine blk_drewN ?_ _ | refine blk_drew ?_ | refine blk_alloc ?_ _)); exact BK163.out) hb)
                have n3_ := Aside0.mk (below_step (by repeat (first | (with_reducible first | exact HB.out | apply below_alloc | apply pw_below_drewN | apply below_drew1 | refine below_set ?_ GE148.out | refine below_set ?_ GE156.out | refine below_set ?_ GE163.out) | exact HB.out)) hb)
                clear BK148
                clear BK156
                clear BK163
                clear HB
                have BK148 := n0_
                have BK156 := n1_
                have BK163 := n2_
                have HB := n3_
                clear n0_ n1_ n2_ n3_
                (try clear hb)
                (try clear hb2)
                (try clear hk)
                (try clear hi)
                refine hK.out _ _ ⟨(blk_cell BK148.out 0).trans rfl, (blk_cell BK148.out 1).trans rfl, (blk_cell BK148.out 2).trans rfl, (blk_cell BK148.out 3).trans rfl, (blk_cell BK156.out 0).trans rfl, (blk_cell BK156.out 1).trans rfl, (blk_cell BK156.out 2).trans rfl, (blk_cell BK156.out 3).trans rfl⟩ (fun hHeld => ?_)
                clear hK K
                refine norm_ (a' := ?_) ?_ ?_
                rotate_left
                · show Act.put _ (some 96) _ = _
                  simp only [Act.put, List.setIfInBounds_toArray, List.set_cons_zero, List.set_cons_succ, i64_w, i32_w]
                  rfl
                refine one_ (i := 5) (N := some 99) #[true, true, true, true, true, true, false, false, false, false, false, false, false] rfl rfl (one_of HT_.out (by kernel_rfl)) (by decide) (fun K hK => ?_)
                refine goes_ Try.func8 (by kernel_rfl) rfl #[.agg #[.int .u64 t151, .int .u64 t152, .int .i64 t153, .int .u64 t154], .int .u64 a1] (by rfl) rfl rfl (by (try simp only [List.map_toArray, List.map_cons, List.map_nil]); first | done | rfl | (simp only [List.length_drop, List.length_take]; rfl)) ?_
                with_reducible refine (abs_Has.calls t151 t152 t153 t154 a1 t168 _ A109.out).mono ?_
                rintro e w114 ⟨rfl, hb⟩
                refine ⟨_, rfl, ?_⟩
                have n0_ := Aside0.mk (blk_below (g := gb148) (o := .cells #[.int .u64 a0_0, .int .u64 a0_1, .int .i64 a0_2, .int .u64 a0_3] 28 (0, 0)) (by (with_reducible repeat (first | refine blk_drewN ?_ _ | refine blk_drew ?_ | refine blk_alloc ?_ _)); exact BK148.out) hb)
                have n1_ := Aside0.mk (blk_below (g := gb156) (o := .cells #[.int .u64 t151, .int .u64 t152, .int .i64 t153, .int .u64 t154] 28 (0, 0)) (by (with_reducible repeat (first | refine blk_drewN ?_ _ | refine blk_drew ?_ | refine blk_alloc ?_ _)); exact BK156.out) hb)
                have n2_ := Aside0.mk (blk_below (g := gb163) (o := .cells #[.int .u64 t158, .int .u64 t159, .int .i64 t160, .int .u64 t161] 28 (0, 0)) (by (with_reducible repeat (first | refine blk_drewN ?_ _ | refine blk_drew ?_ | refine blk_alloc ?_ _)); exact BK163.out) hb)
                have n3_ := Aside0.mk (below_step (by repeat (first | (with_reducible first | exact HB.out | apply below_alloc | apply pw_below_drewN | apply below_drew1 | refine below_set ?_ GE148.out | refine below_set ?_ GE156.out | refine below_set ?_ GE163.out) | exact HB.out)) hb)
                clear BK148
                clear BK156
                clear BK163
                clear HB
                have BK148 := n0_
                have BK156 := n1_
                have BK163 := n2_
                have HB := n3_
                clear n0_ n1_ n2_ n3_
                (try clear hb)
                (try clear hb2)
                (try clear hk)
                (try clear hi)
                refine hK.out _ _ ⟨(blk_cell BK148.out 0).trans rfl, (blk_cell BK148.out 1).trans rfl, (blk_cell BK148.out 2).trans rfl, (blk_cell BK148.out 3).trans rfl, (blk_cell BK156.out 0).trans rfl, (blk_cell BK156.out 1).trans rfl, (blk_cell BK156.out 2).trans rfl, (blk_cell BK156.out 3).trans rfl⟩ (fun hHeld => ?_)
                clear hK K
                refine norm_ (a' := ?_) ?_ ?_
                rotate_left
                · show Act.put _ (some 99) _ = _
                  simp only [Act.put, List.setIfInBounds_toArray, List.set_cons_zero, List.set_cons_succ, i64_w, i32_w]
                  rfl
                refine pure_ (i := 6) (N := some 100) (v := ?_) (a' := ?_) #[true, true, true, true, true, true, true, false, false, false, false, false, false] rfl rfl (any_of HT_.out (by kernel_rfl)) (fun _ _ _ h => h) (Or.inl ⟨by rfl, ?_⟩) ?_ ?_
                rotate_left
                · intro w'
                  go_simp
                  with_reducible rfl
                rotate_left
                · simp only [Act.put, List.setIfInBounds_toArray, List.set_cons_zero, List.set_cons_succ, i64_w, i32_w]
                  rfl
                refine pure_ (i := 7) (N := some 101) (v := ?_) (a' := ?_) #[true, true, true, true, true, true, true, true, false, false, false, false, false] rfl rfl (any_of HT_.out (by kernel_rfl)) (fun _ _ _ h => h) (Or.inl ⟨by rfl, ?_⟩) ?_ ?_
                rotate_left
                · intro w'
                  go_simp
                  with_reducible rfl
                rotate_left
                · simp only [Act.put, List.setIfInBounds_toArray, List.set_cons_zero, List.set_cons_succ, i64_w, i32_w]
                  rfl
                refine take_ (i := 8) (N := some 102) (v := ?_) (a' := ?_) #[true, true, true, true, true, true, true, true, true, false, false, false, false] rfl rfl (take_ofW HT_.out HW_.out (by kernel_rfl)) (fun _ _ _ h => h) (Or.inl ⟨by rfl, ?_⟩) hHeld ?_ ?_
                rotate_left
                · rintro w' ⟨s0, s1, s2, s3, s4, s5, s6, s7⟩
                  go_simp
                  with_reducible rfl
                rotate_left
                · simp only [Act.put, List.setIfInBounds_toArray, List.set_cons_zero, List.set_cons_succ, i64_w, i32_w]
                  rfl
                refine take_ (i := 9) (N := some 103) (v := ?_) (a' := ?_) #[true, true, true, true, true, true, true, true, true, true, false, false, false] rfl rfl (take_ofW HT_.out HW_.out (by kernel_rfl)) (fun _ _ _ h => h) (Or.inl ⟨by rfl, ?_⟩) hHeld ?_ ?_
                rotate_left
                · rintro w' ⟨s0, s1, s2, s3, s4, s5, s6, s7⟩
                  go_simp
                  with_reducible rfl
                rotate_left
                · simp only [Act.put, List.setIfInBounds_toArray, List.set_cons_zero, List.set_cons_succ, i64_w, i32_w]
                  rfl
                refine one_ (i := 10) (N := some 104) #[true, true, true, true, true, true, true, true, true, true, true, false, false] rfl rfl (one_of HT_.out (by kernel_rfl)) (by decide) (fun K hK => ?_)
                refine goes_ Try.func9 (by kernel_rfl) rfl #[.agg #[.int .u64 t151, .int .u64 t152, .int .i64 t153, .int .u64 t154], .agg #[.int .u64 a0_0, .int .u64 a0_1, .int .i64 a0_2, .int .u64 a0_3]] (by rfl) rfl rfl (by (try simp only [List.map_toArray, List.map_cons, List.map_nil]); first | done | rfl | (simp only [List.length_drop, List.length_take]; rfl)) ?_
                with_reducible refine (abs_Within.calls t151 t152 t153 t154 a0_0 a0_1 a0_2 a0_3 t169 _ A111.out).mono ?_
                rintro e w115 ⟨rfl, hb⟩
                refine ⟨_, rfl, ?_⟩
                have n0_ := Aside0.mk (blk_below (g := gb148) (o := .cells #[.int .u64 a0_0, .int .u64 a0_1, .int .i64 a0_2, .int .u64 a0_3] 28 (0, 0)) (by (with_reducible repeat (first | refine blk_drewN ?_ _ | refine blk_drew ?_ | refine blk_alloc ?_ _)); exact BK148.out) hb)
                have n1_ := Aside0.mk (blk_below (g := gb156) (o := .cells #[.int .u64 t151, .int .u64 t152, .int .i64 t153, .int .u64 t154] 28 (0, 0)) (by (with_reducible repeat (first | refine blk_drewN ?_ _ | refine blk_drew ?_ | refine blk_alloc ?_ _)); exact BK156.out) hb)
                have n2_ := Aside0.mk (blk_below (g := gb163) (o := .cells #[.int .u64 t158, .int .u64 t159, .int .i64 t160, .int .u64 t161] 28 (0, 0)) (by (with_reducible repeat (first | refine blk_drewN ?_ _ | refine blk_drew ?_ | refine blk_alloc ?_ _)); exact BK163.out) hb)
                have n3_ := Aside0.mk (below_step (by repeat (first | (with_reducible first | exact HB.out | apply below_alloc | apply pw_below_drewN | apply below_drew1 | refine below_set ?_ GE148.out | refine below_set ?_ GE156.out | refine below_set ?_ GE163.out) | exact HB.out)) hb)
                clear BK148
                clear BK156
                clear BK163
                clear HB
                have BK148 := n0_
                have BK156 := n1_
                have BK163 := n2_
                have HB := n3_
                clear n0_ n1_ n2_ n3_
                (try clear hb)
                (try clear hb2)
                (try clear hk)
                (try clear hi)
                refine hK.out _ _ ⟨(blk_cell BK148.out 0).trans rfl, (blk_cell BK148.out 1).trans rfl, (blk_cell BK148.out 2).trans rfl, (blk_cell BK148.out 3).trans rfl, (blk_cell BK156.out 0).trans rfl, (blk_cell BK156.out 1).trans rfl, (blk_cell BK156.out 2).trans rfl, (blk_cell BK156.out 3).trans rfl⟩ (fun hHeld => ?_)
                clear hK K
                refine norm_ (a' := ?_) ?_ ?_
                rotate_left
                · show Act.put _ (some 104) _ = _
                  simp only [Act.put, List.setIfInBounds_toArray, List.set_cons_zero, List.set_cons_succ, i64_w, i32_w]
                  rfl
                refine pure_ (i := 11) (N := some 105) (v := ?_) (a' := ?_) #[true, true, true, true, true, true, true, true, true, true, true, true, false] rfl rfl (any_of HT_.out (by kernel_rfl)) (fun _ _ _ h => h) (Or.inl ⟨by rfl, ?_⟩) ?_ ?_
                rotate_left
                · intro w'
                  go_simp
                  with_reducible rfl
                rotate_left
                · simp only [Act.put, List.setIfInBounds_toArray, List.set_cons_zero, List.set_cons_succ, i64_w, i32_w]
                  rfl
                refine pure_ (i := 12) (N := some 4) (v := ?_) (a' := ?_) #[true, true, true, true, true, true, true, true, true, true, true, true, true] rfl rfl (any_of HT_.out (by kernel_rfl)) (fun _ _ _ h => h) (Or.inl ⟨by rfl, ?_⟩) ?_ ?_
                rotate_left
                · intro w'
                  go_simp
                  with_reducible rfl
                rotate_left
                · simp only [Act.put, List.setIfInBounds_toArray, List.set_cons_zero, List.set_cons_succ, i64_w, i32_w]
                  rfl
                refine done_ (done_of HT_.out (by kernel_rfl)) ?_
                try go_wp2
                go_ret
                exact ⟨by first | rfl | (simp [errW_none, errW_some] <;> rfl) | (simp [*, errW_none, errW_some] <;> rfl), by repeat (first | (with_reducible first | exact HB.out | apply below_alloc | apply pw_below_drewN | apply below_drew1 | refine below_set ?_ GE148.out | refine below_set ?_ GE156.out | refine below_set ?_ GE163.out) | exact HB.out)⟩
              · rw [if_neg c110] at H
                have c110b0 : (t167 == t168) = false := by simpa using c110
                (try (have c110b1 : decide (t167 = t168) = false := by simpa using c110))
                (try (have c110b2 : (t167 == t168) = false := by simpa using c110))
                (try (have c110b3 : ¬ (t167 = t168) := by simpa using c110))
                clear c110
                exact absurd (Option.some.inj H) (by rw [hr]; decide)
      · replace c8 := Bool.eq_false_iff.mpr c8
        subst c8
        have H1 : ((abs_Has.f a0_0 a0_1 a0_2 a0_3 a1).bind fun t157 => (if t157 = true then (some false) else (some ((t151 == 0 && (t152 == 0)) && ((t153 == 0 && (t154 == 0))))))) = some r := by rw [if_neg (show ¬ (false = true) by decide)] at H; exact H
        clear H
        have H := H1
        clear H1
        replace H := Option.bind_eq_some_iff.mp H
        obtain ⟨t157, A1160, H⟩ := H
        replace H : (if t157 = true then (some false) else (some ((t151 == 0 && (t152 == 0)) && ((t153 == 0 && (t154 == 0)))))) = some r := H
        have A116 := Aside0.mk A1160
        clear A1160
        by_cases c117 : t157 = true
        · subst c117
          have H1 : (some false) = some r := by rw [if_pos rfl] at H; exact H
          clear H
          have H := H1
          clear H1
          exact absurd (Option.some.inj H) (by rw [hr]; decide)
        · replace c117 := Bool.eq_false_iff.mpr c117
          subst c117
          have H1 : (some ((t151 == 0 && (t152 == 0)) && ((t153 == 0 && (t154 == 0))))) = some r := by rw [if_neg (show ¬ (false = true) by decide)] at H; exact H
          clear H
          have H := H1
          clear H1
          obtain rfl := Option.some.inj H
          go_enter Try.func3, Try.ntmps3
          go_wp2_with (first | ((with_reducible refine gate_dst (N := 2) rfl ?_); refine box_event ?hg (N := 2) ?hd (cs := #[.int .u64 a0_0, .int .u64 a0_1, .int .i64 a0_2, .int .u64 a0_3]) (t := 28) ?hr ?_; (case hd => rfl); (case hg => rfl); (case hr => first | (go_simp; done) | (go_simp; rfl)); intro gb148 hg w118 hbox hb; have n0_ := Aside0.mk (below_step (by repeat (first | (with_reducible first | exact HB.out | apply below_alloc | apply pw_below_drewN | apply below_drew1) | exact HB.out)) hb); have n1_ := Aside0.mk (hbox); have n2_ := Aside0.mk ((by rw [hg]; exact (below_size (by repeat (first | (with_reducible first | exact HB.out | apply below_alloc | apply pw_below_drewN | apply below_drew1) | exact HB.out))) : w.heap.size ≤ gb148)); have n3_ := Aside0.mk ((by rw [hg]; exact (below_size (by repeat (first | (with_reducible first | exact HB.out | apply below_alloc | apply pw_below_drewN | apply below_drew1) | exact HB.out))) : w.heap.size ≤ gb148)); clear HB; have HB := n0_; have BK148 := n1_; have GW148 := n2_; have GE148 := n3_; clear n0_ n1_ n2_ n3_; clear hb hbox hg) | ((with_reducible refine gate_callee (f := 5) rfl ?_); refine goesL_ (some 9) rfl rfl Try.func5 (by kernel_rfl) rfl #[] rfl (by (try simp only [List.map_toArray, List.map_cons, List.map_nil]); first | done | rfl | (simp only [List.length_drop, List.length_take]; rfl)) ?_; (with_reducible refine (trammellaw18_awake.calls k  true _ A3.out).mono ?_); rintro e w119 ⟨rfl, hb⟩; refine ⟨_, rfl, ?_⟩; have n0_ := Aside0.mk (blk_below (g := gb148) (o := .cells #[.int .u64 a0_0, .int .u64 a0_1, .int .i64 a0_2, .int .u64 a0_3] 28 (0, 0)) (by (with_reducible repeat (first | refine blk_drewN ?_ _ | refine blk_drew ?_ | refine blk_alloc ?_ _)); exact BK148.out) hb); have n1_ := Aside0.mk (below_step (by repeat (first | (with_reducible first | exact HB.out | apply below_alloc | apply pw_below_drewN | apply below_drew1 | refine below_set ?_ GE148.out) | exact HB.out)) hb); clear BK148; clear HB; have BK148 := n0_; have HB := n1_; clear n0_ n1_; (try clear hb); (try clear hb2); (try clear hk); (try clear hi); have hcz120_0 : w119.cell? ⟨gb148, 0, none⟩ = some (.int .u64 a0_0) := (blk_cell BK148.out 0).trans rfl; have hcz120_1 : w119.cell? ⟨gb148, 1, none⟩ = some (.int .u64 a0_1) := (blk_cell BK148.out 1).trans rfl; have hcz120_2 : w119.cell? ⟨gb148, 2, none⟩ = some (.int .i64 a0_2) := (blk_cell BK148.out 2).trans rfl; have hcz120_3 : w119.cell? ⟨gb148, 3, none⟩ = some (.int .u64 a0_3) := (blk_cell BK148.out 3).trans rfl; have hfz120_0 := blk_frozen BK148.out 0; have hfz120_1 := blk_frozen BK148.out 1; have hfz120_2 := blk_frozen BK148.out 2; have hfz120_3 := blk_frozen BK148.out 3) | ((with_reducible refine gate_callee (f := 6) rfl ?_); refine goesL_ (some 12) rfl rfl Try.func6 (by kernel_rfl) rfl #[.agg #[.int .u64 a0_0, .int .u64 a0_1, .int .i64 a0_2, .int .u64 a0_3]] rfl (by (try simp only [List.map_toArray, List.map_cons, List.map_nil]); first | done | rfl | (simp only [List.length_drop, List.length_take]; rfl)) ?_; (with_reducible refine (abs_Right.calls a0_0 a0_1 a0_2 a0_3 true _ A5.out).mono ?_); rintro e w121 ⟨rfl, hb⟩; refine ⟨_, rfl, ?_⟩; have n0_ := Aside0.mk (blk_below (g := gb148) (o := .cells #[.int .u64 a0_0, .int .u64 a0_1, .int .i64 a0_2, .int .u64 a0_3] 28 (0, 0)) (by (with_reducible repeat (first | refine blk_drewN ?_ _ | refine blk_drew ?_ | refine blk_alloc ?_ _)); exact BK148.out) hb); have n1_ := Aside0.mk (below_step (by repeat (first | (with_reducible first | exact HB.out | apply below_alloc | apply pw_below_drewN | apply below_drew1 | refine below_set ?_ GE148.out) | exact HB.out)) hb); clear BK148; clear HB; have BK148 := n0_; have HB := n1_; clear n0_ n1_; (try clear hb); (try clear hb2); (try clear hk); (try clear hi); have hcz122_0 : w121.cell? ⟨gb148, 0, none⟩ = some (.int .u64 a0_0) := (blk_cell BK148.out 0).trans rfl; have hcz122_1 : w121.cell? ⟨gb148, 1, none⟩ = some (.int .u64 a0_1) := (blk_cell BK148.out 1).trans rfl; have hcz122_2 : w121.cell? ⟨gb148, 2, none⟩ = some (.int .i64 a0_2) := (blk_cell BK148.out 2).trans rfl; have hcz122_3 : w121.cell? ⟨gb148, 3, none⟩ = some (.int .u64 a0_3) := (blk_cell BK148.out 3).trans rfl; have hfz122_0 := blk_frozen BK148.out 0; have hfz122_1 := blk_frozen BK148.out 1; have hfz122_2 := blk_frozen BK148.out 2; have hfz122_3 := blk_frozen BK148.out 3) | ((with_reducible refine gate_callee (f := 7) rfl ?_); refine goesL_ (some 16) rfl rfl Try.func7 (by kernel_rfl) rfl #[.agg #[.int .u64 a0_0, .int .u64 a0_1, .int .i64 a0_2, .int .u64 a0_3]] rfl (by (try simp only [List.map_toArray, List.map_cons, List.map_nil]); first | done | rfl | (simp only [List.length_drop, List.length_take]; rfl)) ?_; (with_reducible refine (abs_Tight.calls k a0_0 a0_1 a0_2 a0_3 t151 t152 t153 t154 false _ A7.out).mono ?_); rintro e w123 ⟨rfl, hb⟩; refine ⟨_, rfl, ?_⟩; have n0_ := Aside0.mk (blk_below (g := gb148) (o := .cells #[.int .u64 a0_0, .int .u64 a0_1, .int .i64 a0_2, .int .u64 a0_3] 28 (0, 0)) (by (with_reducible repeat (first | refine blk_drewN ?_ _ | refine blk_drew ?_ | refine blk_alloc ?_ _)); exact BK148.out) hb); have n1_ := Aside0.mk (below_step (by repeat (first | (with_reducible first | exact HB.out | apply below_alloc | apply pw_below_drewN | apply below_drew1 | refine below_set ?_ GE148.out) | exact HB.out)) hb); clear BK148; clear HB; have BK148 := n0_; have HB := n1_; clear n0_ n1_; (try clear hb); (try clear hb2); (try clear hk); (try clear hi)) | ((with_reducible refine gate_dst (N := 5) rfl ?_); refine box_event ?hg (N := 5) ?hd (cs := #[.int .u64 0, .int .u64 0, .int .i64 0, .int .u64 0]) (t := 28) ?hr ?_; (case hd => rfl); (case hg => rfl); (case hr => first | (go_simp; done) | (go_simp; rfl)); intro gb156 hg w124 hbox hb; have n0_ := Aside0.mk (blk_below (g := gb148) (o := .cells #[.int .u64 a0_0, .int .u64 a0_1, .int .i64 a0_2, .int .u64 a0_3] 28 (0, 0)) (by (with_reducible repeat (first | refine blk_drewN ?_ _ | refine blk_drew ?_ | refine blk_alloc ?_ _)); exact BK148.out) hb); have n1_ := Aside0.mk (below_step (by repeat (first | (with_reducible first | exact HB.out | apply below_alloc | apply pw_below_drewN | apply below_drew1 | refine below_set ?_ GE148.out) | exact HB.out)) hb); have n2_ := Aside0.mk (hbox); have n3_ := Aside0.mk ((by rw [hg]; exact (below_size (by repeat (first | (with_reducible first | exact HB.out | apply below_alloc | apply pw_below_drewN | apply below_drew1 | refine below_set ?_ GE148.out) | exact HB.out))) : w.heap.size ≤ gb156)); have n4_ := Aside0.mk ((by rw [hg]; exact (below_size (by repeat (first | (with_reducible first | exact HB.out | apply below_alloc | apply pw_below_drewN | apply below_drew1 | refine below_set ?_ GE148.out) | exact HB.out))) : w.heap.size ≤ gb156)); have n5_ := Aside0.mk ((by rw [hg]; exact Nat.ne_of_lt (blk_lt (g := gb148) (o := .cells #[.int .u64 a0_0, .int .u64 a0_1, .int .i64 a0_2, .int .u64 a0_3] 28 (0, 0)) (by (with_reducible repeat (first | refine blk_drewN ?_ _ | refine blk_drew ?_ | refine blk_alloc ?_ _)); exact BK148.out)) : gb148 ≠ gb156)); have n6_ := Aside0.mk ((by rw [hg]; exact Nat.ne_of_gt (blk_lt (g := gb148) (o := .cells #[.int .u64 a0_0, .int .u64 a0_1, .int .i64 a0_2, .int .u64 a0_3] 28 (0, 0)) (by (with_reducible repeat (first | refine blk_drewN ?_ _ | refine blk_drew ?_ | refine blk_alloc ?_ _)); exact BK148.out)) : gb156 ≠ gb148)); clear BK148; clear HB; have BK148 := n0_; have HB := n1_; have BK156 := n2_; have GW156 := n3_; have GE156 := n4_; have NB148_156 := n5_; have NB156_148 := n6_; clear n0_ n1_ n2_ n3_ n4_ n5_ n6_; clear hb hbox hg; have hnb125 := NB156_148.out; have hnc125 := NB148_156.out; have hcz126_0 : w124.cell? ⟨gb156, 0, none⟩ = some (.int .u64 0) := (blk_cell BK156.out 0).trans rfl; have hcz126_1 : w124.cell? ⟨gb156, 1, none⟩ = some (.int .u64 0) := (blk_cell BK156.out 1).trans rfl; have hcz126_2 : w124.cell? ⟨gb156, 2, none⟩ = some (.int .i64 0) := (blk_cell BK156.out 2).trans rfl; have hcz126_3 : w124.cell? ⟨gb156, 3, none⟩ = some (.int .u64 0) := (blk_cell BK156.out 3).trans rfl; have hfz126_0 := blk_frozen BK156.out 0; have hfz126_1 := blk_frozen BK156.out 1; have hfz126_2 := blk_frozen BK156.out 2; have hfz126_3 := blk_frozen BK156.out 3; have hcz127_0 : w124.cell? ⟨gb148, 0, none⟩ = some (.int .u64 a0_0) := (blk_cell BK148.out 0).trans rfl; have hcz127_1 : w124.cell? ⟨gb148, 1, none⟩ = some (.int .u64 a0_1) := (blk_cell BK148.out 1).trans rfl; have hcz127_2 : w124.cell? ⟨gb148, 2, none⟩ = some (.int .i64 a0_2) := (blk_cell BK148.out 2).trans rfl; have hcz127_3 : w124.cell? ⟨gb148, 3, none⟩ = some (.int .u64 a0_3) := (blk_cell BK148.out 3).trans rfl; have hfz127_0 := blk_frozen BK148.out 0; have hfz127_1 := blk_frozen BK148.out 1; have hfz127_2 := blk_frozen BK148.out 2; have hfz127_3 := blk_frozen BK148.out 3) | ((with_reducible refine gate_callee (f := 8) rfl ?_); refine goesL_ (some 23) rfl rfl Try.func8 (by kernel_rfl) rfl #[.agg #[.int .u64 a0_0, .int .u64 a0_1, .int .i64 a0_2, .int .u64 a0_3], .int .u64 a1] rfl (by (try simp only [List.map_toArray, List.map_cons, List.map_nil]); first | done | rfl | (simp only [List.length_drop, List.length_take]; rfl)) ?_; (with_reducible refine (abs_Has.calls a0_0 a0_1 a0_2 a0_3 a1 false _ A116.out).mono ?_); rintro e w128 ⟨rfl, hb⟩; refine ⟨_, rfl, ?_⟩; have n0_ := Aside0.mk (blk_below (g := gb148) (o := .cells #[.int .u64 a0_0, .int .u64 a0_1, .int .i64 a0_2, .int .u64 a0_3] 28 (0, 0)) (by (with_reducible repeat (first | refine blk_drewN ?_ _ | refine blk_drew ?_ | refine blk_alloc ?_ _)); refine blk_far ?_ NB148_156.out _; (with_reducible repeat (first | refine blk_drewN ?_ _ | refine blk_drew ?_ | refine blk_alloc ?_ _)); refine blk_far ?_ NB148_156.out _; (with_reducible repeat (first | refine blk_drewN ?_ _ | refine blk_drew ?_ | refine blk_alloc ?_ _)); refine blk_far ?_ NB148_156.out _; (with_reducible repeat (first | refine blk_drewN ?_ _ | refine blk_drew ?_ | refine blk_alloc ?_ _)); refine blk_far ?_ NB148_156.out _; (with_reducible repeat (first | refine blk_drewN ?_ _ | refine blk_drew ?_ | refine blk_alloc ?_ _)); exact BK148.out) hb); have n1_ := Aside0.mk (blk_below (g := gb156) (o := .cells #[.int .u64 t151, .int .u64 t152, .int .i64 t153, .int .u64 t154] 28 (0, 0)) (by (with_reducible repeat (first | refine blk_drewN ?_ _ | refine blk_drew ?_ | refine blk_alloc ?_ _)); refine blk_put (cs := #[.int .u64 t151, .int .u64 t152, .int .i64 t153, .int .u64 0]) ?_ 3 _ (by first | rfl | (simp_all; done)); (with_reducible repeat (first | refine blk_drewN ?_ _ | refine blk_drew ?_ | refine blk_alloc ?_ _)); refine blk_put (cs := #[.int .u64 t151, .int .u64 t152, .int .i64 0, .int .u64 0]) ?_ 2 _ (by first | rfl | (simp_all; done)); (with_reducible repeat (first | refine blk_drewN ?_ _ | refine blk_drew ?_ | refine blk_alloc ?_ _)); refine blk_put (cs := #[.int .u64 t151, .int .u64 0, .int .i64 0, .int .u64 0]) ?_ 1 _ (by first | rfl | (simp_all; done)); (with_reducible repeat (first | refine blk_drewN ?_ _ | refine blk_drew ?_ | refine blk_alloc ?_ _)); refine blk_put (cs := #[.int .u64 0, .int .u64 0, .int .i64 0, .int .u64 0]) ?_ 0 _ (by first | rfl | (simp_all; done)); (with_reducible repeat (first | refine blk_drewN ?_ _ | refine blk_drew ?_ | refine blk_alloc ?_ _)); exact BK156.out) hb); have n2_ := Aside0.mk (below_step (by repeat (first | (with_reducible first | exact HB.out | apply below_alloc | apply pw_below_drewN | apply below_drew1 | refine below_set ?_ GE148.out | refine below_set ?_ GE156.out) | exact HB.out)) hb); clear BK148; clear BK156; clear HB; have BK148 := n0_; have BK156 := n1_; have HB := n2_; clear n0_ n1_ n2_; (try clear hb); (try clear hb2); (try clear hk); (try clear hi); have hcz129_0 : w128.cell? ⟨gb156, 0, none⟩ = some (.int .u64 t151) := (blk_cell BK156.out 0).trans rfl; have hcz129_1 : w128.cell? ⟨gb156, 1, none⟩ = some (.int .u64 t152) := (blk_cell BK156.out 1).trans rfl; have hcz129_2 : w128.cell? ⟨gb156, 2, none⟩ = some (.int .i64 t153) := (blk_cell BK156.out 2).trans rfl; have hcz129_3 : w128.cell? ⟨gb156, 3, none⟩ = some (.int .u64 t154) := (blk_cell BK156.out 3).trans rfl; have hfz129_0 := blk_frozen BK156.out 0; have hfz129_1 := blk_frozen BK156.out 1; have hfz129_2 := blk_frozen BK156.out 2; have hfz129_3 := blk_frozen BK156.out 3))
          go_ret
          exact ⟨by first | rfl | (simp [errW_none, errW_some] <;> rfl) | (simp [*, errW_none, errW_some] <;> rfl), by repeat (first | (with_reducible first | exact HB.out | apply below_alloc | apply pw_below_drewN | apply below_drew1 | refine below_set ?_ GE148.out | refine below_set ?_ GE156.out) | exact HB.out)⟩
    · replace c6 := Bool.eq_false_iff.mpr c6
      subst c6
      have H1 : (some true) = some r := by rw [if_neg (show ¬ (false = true) by decide)] at H; exact H
      clear H
      have H := H1
      clear H1
      obtain rfl := Option.some.inj H
      go_enter Try.func3, Try.ntmps3
      go_wp2_with (first | ((with_reducible refine gate_dst (N := 2) rfl ?_); refine box_event ?hg (N := 2) ?hd (cs := #[.int .u64 a0_0, .int .u64 a0_1, .int .i64 a0_2, .int .u64 a0_3]) (t := 28) ?hr ?_; (case hd => rfl); (case hg => rfl); (case hr => first | (go_simp; done) | (go_simp; rfl)); intro gb148 hg w130 hbox hb; have n0_ := Aside0.mk (below_step (by repeat (first | (with_reducible first | exact HB.out | apply below_alloc | apply pw_below_drewN | apply below_drew1) | exact HB.out)) hb); have n1_ := Aside0.mk (hbox); have n2_ := Aside0.mk ((by rw [hg]; exact (below_size (by repeat (first | (with_reducible first | exact HB.out | apply below_alloc | apply pw_below_drewN | apply below_drew1) | exact HB.out))) : w.heap.size ≤ gb148)); have n3_ := Aside0.mk ((by rw [hg]; exact (below_size (by repeat (first | (with_reducible first | exact HB.out | apply below_alloc | apply pw_below_drewN | apply below_drew1) | exact HB.out))) : w.heap.size ≤ gb148)); clear HB; have HB := n0_; have BK148 := n1_; have GW148 := n2_; have GE148 := n3_; clear n0_ n1_ n2_ n3_; clear hb hbox hg) | ((with_reducible refine gate_callee (f := 5) rfl ?_); refine goesL_ (some 9) rfl rfl Try.func5 (by kernel_rfl) rfl #[] rfl (by (try simp only [List.map_toArray, List.map_cons, List.map_nil]); first | done | rfl | (simp only [List.length_drop, List.length_take]; rfl)) ?_; (with_reducible refine (trammellaw18_awake.calls k  true _ A3.out).mono ?_); rintro e w131 ⟨rfl, hb⟩; refine ⟨_, rfl, ?_⟩; have n0_ := Aside0.mk (blk_below (g := gb148) (o := .cells #[.int .u64 a0_0, .int .u64 a0_1, .int .i64 a0_2, .int .u64 a0_3] 28 (0, 0)) (by (with_reducible repeat (first | refine blk_drewN ?_ _ | refine blk_drew ?_ | refine blk_alloc ?_ _)); exact BK148.out) hb); have n1_ := Aside0.mk (below_step (by repeat (first | (with_reducible first | exact HB.out | apply below_alloc | apply pw_below_drewN | apply below_drew1 | refine below_set ?_ GE148.out) | exact HB.out)) hb); clear BK148; clear HB; have BK148 := n0_; have HB := n1_; clear n0_ n1_; (try clear hb); (try clear hb2); (try clear hk); (try clear hi); have hcz132_0 : w131.cell? ⟨gb148, 0, none⟩ = some (.int .u64 a0_0) := (blk_cell BK148.out 0).trans rfl; have hcz132_1 : w131.cell? ⟨gb148, 1, none⟩ = some (.int .u64 a0_1) := (blk_cell BK148.out 1).trans rfl; have hcz132_2 : w131.cell? ⟨gb148, 2, none⟩ = some (.int .i64 a0_2) := (blk_cell BK148.out 2).trans rfl; have hcz132_3 : w131.cell? ⟨gb148, 3, none⟩ = some (.int .u64 a0_3) := (blk_cell BK148.out 3).trans rfl; have hfz132_0 := blk_frozen BK148.out 0; have hfz132_1 := blk_frozen BK148.out 1; have hfz132_2 := blk_frozen BK148.out 2; have hfz132_3 := blk_frozen BK148.out 3) | ((with_reducible refine gate_callee (f := 6) rfl ?_); refine goesL_ (some 12) rfl rfl Try.func6 (by kernel_rfl) rfl #[.agg #[.int .u64 a0_0, .int .u64 a0_1, .int .i64 a0_2, .int .u64 a0_3]] rfl (by (try simp only [List.map_toArray, List.map_cons, List.map_nil]); first | done | rfl | (simp only [List.length_drop, List.length_take]; rfl)) ?_; (with_reducible refine (abs_Right.calls a0_0 a0_1 a0_2 a0_3 false _ A5.out).mono ?_); rintro e w133 ⟨rfl, hb⟩; refine ⟨_, rfl, ?_⟩; have n0_ := Aside0.mk (blk_below (g := gb148) (o := .cells #[.int .u64 a0_0, .int .u64 a0_1, .int .i64 a0_2, .int .u64 a0_3] 28 (0, 0)) (by (with_reducible repeat (first | refine blk_drewN ?_ _ | refine blk_drew ?_ | refine blk_alloc ?_ _)); exact BK148.out) hb); have n1_ := Aside0.mk (below_step (by repeat (first | (with_reducible first | exact HB.out | apply below_alloc | apply pw_below_drewN | apply below_drew1 | refine below_set ?_ GE148.out) | exact HB.out)) hb); clear BK148; clear HB; have BK148 := n0_; have HB := n1_; clear n0_ n1_; (try clear hb); (try clear hb2); (try clear hk); (try clear hi)))
      go_ret
      exact ⟨by first | rfl | (simp [errW_none, errW_some] <;> rfl) | (simp [*, errW_none, errW_some] <;> rfl), by repeat (first | (with_reducible first | exact HB.out | apply below_alloc | apply pw_below_drewN | apply below_drew1 | refine below_set ?_ GE148.out) | exact HB.out)⟩
  · replace c4 := Bool.eq_false_iff.mpr c4
    subst c4
    have H1 : (some false) = some r := by rw [if_neg (show ¬ (false = true) by decide)] at H; exact H
    clear H
    have H := H1
    clear H1
    exact absurd (Option.some.inj H) (by rw [hr]; decide)

end Go.Proofs.Yticpdchlknbodaa.PAbsTight
