-- Written by a program of this session (wip/tools/myprint.py over the print of the kit).
import Derived.Test.YticpdchlknbodaaDoorPAbsWidensx0
import Derived.Test.YticpdchlknbodaaDoorPAbsWidensx2
import Derived.Test.YticpdchlknbodaaDoorPAbsWidensx3
import Derived.Test.YticpdchlknbodaaDoorPAbsWidensx4
import Derived.Test.YticpdchlknbodaaDoorPAbsWidensx5
namespace Go.Proofs.YticpdchlknbodaaDoor.PAbsWidens
open Go.Proofs.YticpdchlknbodaaDoor.Ext
open Go.Proofs.YticpdchlknbodaaDoor.Tabs
open Go.RowKit Go.Proofs.YticpdchlknbodaaDoorW.PrintWords Go.Proofs.YticpdchlknbodaaDoorW.PrintLast Go.Proofs.YticpdchlknbodaaDoorW.PrintMore
attribute [local go_sem] max2_int min2_int max_two min_two max_three min_three max_four min_four   -- for this text's walks alone
set_option linter.unusedVariables false
set_option linter.unusedSimpArgs false

attribute [local go_sem] fld24_1
attribute [local go_sem high] eqA28
/-! ### trammellaw18_AbsWidens: function 4 -/
mutual
def trammellaw18_AbsWidens.j0 : Nat → List (S28) → Int → Bool → Int → Int → Int → Int → Int → Int → Int → Int → Option (Bool)
  | 0, _, _, _, _, _, _, _, _, _, _, _ => none
  | k + 1, x1, x2, x26, x178000, x178001, x178002, x178003, x184000, x184001, x184002, x184003 => if x26 = true then (some true) else (trammellaw18_AbsWidens.l0 k x1 x2 0 0 x178000 x178001 x178002 x178003 x184000 x184001 x184002 x184003)
def trammellaw18_AbsWidens.l0 : Nat → List (S28) → Int → Int → Int → Int → Int → Int → Int → Int → Int → Int → Int → Option (Bool)
  | 0, _, _, _, _, _, _, _, _, _, _, _, _ => none
  | k + 1, x1, x2, x8, x9, x178000, x178001, x178002, x178003, x184000, x184001, x184002, x184003 => if x9 < (x1.length : Int) then (trammellaw18_AbsWidens.j2 k x1 x2 x8 x9 (decide (x9 < 200)) x178000 x178001 x178002 x178003 x184000 x184001 x184002 x184003) else (trammellaw18_AbsWidens.j2 k x1 x2 x8 x9 false x178000 x178001 x178002 x178003 x184000 x184001 x184002 x184003)
def trammellaw18_AbsWidens.j2 : Nat → List (S28) → Int → Int → Int → Bool → Int → Int → Int → Int → Int → Int → Int → Int → Option (Bool)
  | 0, _, _, _, _, _, _, _, _, _, _, _, _, _ => none
  | k + 1, x1, x2, x8, x9, x34, x178000, x178001, x178002, x178003, x184000, x184001, x184002, x184003 => if x34 = true then (if 0 ≤ x9 then (if x9 < (x1.length : Int) then ((abs_Right.f ((rd_T28 x1 x9).f0.f0) ((rd_T28 x1 x9).f0.f1) ((rd_T28 x1 x9).f1.f0) ((rd_T28 x1 x9).f1.f1)).bind fun t188 => (if t188 = true then ((ivl_Within.f ((rd_T28 x1 x9).f0.f0) ((rd_T28 x1 x9).f0.f1) x184000 x184001).bind fun t189 => (trammellaw18_AbsWidens.j3 k x1 x2 x8 x9 (!t189) x178000 x178001 x178002 x178003 x184000 x184001 x184002 x184003 ((rd_T28 x1 x9).f0.f0) ((rd_T28 x1 x9).f0.f1) ((rd_T28 x1 x9).f1.f0) ((rd_T28 x1 x9).f1.f1))) else (trammellaw18_AbsWidens.j3 k x1 x2 x8 x9 true x178000 x178001 x178002 x178003 x184000 x184001 x184002 x184003 ((rd_T28 x1 x9).f0.f0) ((rd_T28 x1 x9).f0.f1) ((rd_T28 x1 x9).f1.f0) ((rd_T28 x1 x9).f1.f1)))) else (none)) else (none)) else (some (decide (x8 ≤ 66)))
def trammellaw18_AbsWidens.j3 : Nat → List (S28) → Int → Int → Int → Bool → Int → Int → Int → Int → Int → Int → Int → Int → Int → Int → Int → Int → Option (Bool)
  | 0, _, _, _, _, _, _, _, _, _, _, _, _, _, _, _, _, _ => none
  | k + 1, x1, x2, x8, x9, x51, x178000, x178001, x178002, x178003, x184000, x184001, x184002, x184003, x188000, x188001, x188002, x188003 => if x51 = true then (trammellaw18_AbsWidens.l0 k x1 x2 x8 (wrap64 (x9 + 1)) x178000 x178001 x178002 x178003 x184000 x184001 x184002 x184003) else ((abs_Widen.f x178000 x178001 x178002 x178003 x188000 x188001 x188002 x188003 x2).bind fun bt190 => ((abs_Within.f x178000 x178001 x178002 x178003 bt190.1 bt190.2.1 bt190.2.2.1 bt190.2.2.2).bind fun t195 => (if t195 = true then ((abs_Within.f x188000 x188001 x188002 x188003 bt190.1 bt190.2.1 bt190.2.2.1 bt190.2.2.2).bind fun t196 => (if t196 = true then ((ivl_Within.f bt190.1 bt190.2.1 x184000 x184001).bind fun t197 => (if t197 = true then ((abs_Right.f bt190.1 bt190.2.1 bt190.2.2.1 bt190.2.2.2).bind fun t198 => (trammellaw18_AbsWidens.j4 k x1 x2 x8 x9 (!t198) x178000 x178001 x178002 x178003 x184000 x184001 x184002 x184003 x188000 x188001 x188002 x188003 bt190.1 bt190.2.1 bt190.2.2.1 bt190.2.2.2)) else (trammellaw18_AbsWidens.j4 k x1 x2 x8 x9 true x178000 x178001 x178002 x178003 x184000 x184001 x184002 x184003 x188000 x188001 x188002 x188003 bt190.1 bt190.2.1 bt190.2.2.1 bt190.2.2.2))) else (trammellaw18_AbsWidens.j4 k x1 x2 x8 x9 true x178000 x178001 x178002 x178003 x184000 x184001 x184002 x184003 x188000 x188001 x188002 x188003 bt190.1 bt190.2.1 bt190.2.2.1 bt190.2.2.2))) else (trammellaw18_AbsWidens.j4 k x1 x2 x8 x9 true x178000 x178001 x178002 x178003 x184000 x184001 x184002 x184003 x188000 x188001 x188002 x188003 bt190.1 bt190.2.1 bt190.2.2.1 bt190.2.2.2))))
def trammellaw18_AbsWidens.j4 : Nat → List (S28) → Int → Int → Int → Bool → Int → Int → Int → Int → Int → Int → Int → Int → Int → Int → Int → Int → Int → Int → Int → Int → Option (Bool)
  | 0, _, _, _, _, _, _, _, _, _, _, _, _, _, _, _, _, _, _, _, _, _ => none
  | k + 1, x1, x2, x8, x9, x78, x178000, x178001, x178002, x178003, x184000, x184001, x184002, x184003, x188000, x188001, x188002, x188003, x195000, x195001, x195002, x195003 => if x78 = true then (some false) else (if ((!(x195000 == x178000) || (!(x195001 == x178001))) || ((!(x195002 == x178002) || (!(x195003 == x178003))))) = true then (trammellaw18_AbsWidens.l0 k x1 x2 (wrap64 (x8 + 1)) (wrap64 (x9 + 1)) x195000 x195001 x195002 x195003 x184000 x184001 x184002 x184003) else ((abs_Within.f x188000 x188001 x188002 x188003 x178000 x178001 x178002 x178003).bind fun t199 => (if t199 = true then (trammellaw18_AbsWidens.l0 k x1 x2 x8 (wrap64 (x9 + 1)) x195000 x195001 x195002 x195003 x184000 x184001 x184002 x184003) else (some false))))
end
def trammellaw18_AbsWidens.f (k : Nat) (a0_0 : Int) (a0_1 : Int) (a0_2 : Int) (a0_3 : Int) (l1 : List (S28)) (a2 : Int) : Option (Bool) := (trammellaw18_awake.f k).bind fun t178 => (if t178 = true then ((abs_Top.f a2).bind fun bt179 => ((abs_Right.f a0_0 a0_1 a0_2 a0_3).bind fun t184 => (if t184 = true then ((ivl_Within.f a0_0 a0_1 bt179.1 bt179.2.1).bind fun t185 => (trammellaw18_AbsWidens.j0 k l1 a2 (!t185) a0_0 a0_1 a0_2 a0_3 bt179.1 bt179.2.1 bt179.2.2.1 bt179.2.2.2)) else (trammellaw18_AbsWidens.j0 k l1 a2 true a0_0 a0_1 a0_2 a0_3 bt179.1 bt179.2.1 bt179.2.2.1 bt179.2.2.2)))) else (some false))
theorem trammellaw18_AbsWidens.mono_l : ∀ k, (∀ y0 y1 y2 y3 y4 y5 y6 y7 y8 y9 y10, LeO (trammellaw18_AbsWidens.j0 k y0 y1 y2 y3 y4 y5 y6 y7 y8 y9 y10) (trammellaw18_AbsWidens.j0 (k + 1) y0 y1 y2 y3 y4 y5 y6 y7 y8 y9 y10)) ∧ (∀ y0 y1 y2 y3 y4 y5 y6 y7 y8 y9 y10 y11, LeO (trammellaw18_AbsWidens.l0 k y0 y1 y2 y3 y4 y5 y6 y7 y8 y9 y10 y11) (trammellaw18_AbsWidens.l0 (k + 1) y0 y1 y2 y3 y4 y5 y6 y7 y8 y9 y10 y11)) ∧ (∀ y0 y1 y2 y3 y4 y5 y6 y7 y8 y9 y10 y11 y12, LeO (trammellaw18_AbsWidens.j2 k y0 y1 y2 y3 y4 y5 y6 y7 y8 y9 y10 y11 y12) (trammellaw18_AbsWidens.j2 (k + 1) y0 y1 y2 y3 y4 y5 y6 y7 y8 y9 y10 y11 y12)) ∧ (∀ y0 y1 y2 y3 y4 y5 y6 y7 y8 y9 y10 y11 y12 y13 y14 y15 y16, LeO (trammellaw18_AbsWidens.j3 k y0 y1 y2 y3 y4 y5 y6 y7 y8 y9 y10 y11 y12 y13 y14 y15 y16) (trammellaw18_AbsWidens.j3 (k + 1) y0 y1 y2 y3 y4 y5 y6 y7 y8 y9 y10 y11 y12 y13 y14 y15 y16)) ∧ (∀ y0 y1 y2 y3 y4 y5 y6 y7 y8 y9 y10 y11 y12 y13 y14 y15 y16 y17 y18 y19 y20, LeO (trammellaw18_AbsWidens.j4 k y0 y1 y2 y3 y4 y5 y6 y7 y8 y9 y10 y11 y12 y13 y14 y15 y16 y17 y18 y19 y20) (trammellaw18_AbsWidens.j4 (k + 1) y0 y1 y2 y3 y4 y5 y6 y7 y8 y9 y10 y11 y12 y13 y14 y15 y16 y17 y18 y19 y20))
  | 0 => ⟨fun _ _ _ _ _ _ _ _ _ _ _ r h => by simp [trammellaw18_AbsWidens.j0] at h, fun _ _ _ _ _ _ _ _ _ _ _ _ r h => by simp [trammellaw18_AbsWidens.l0] at h, fun _ _ _ _ _ _ _ _ _ _ _ _ _ r h => by simp [trammellaw18_AbsWidens.j2] at h, fun _ _ _ _ _ _ _ _ _ _ _ _ _ _ _ _ _ r h => by simp [trammellaw18_AbsWidens.j3] at h, fun _ _ _ _ _ _ _ _ _ _ _ _ _ _ _ _ _ _ _ _ _ r h => by simp [trammellaw18_AbsWidens.j4] at h⟩
  | k + 1 => by
    obtain ⟨ih0, ih1, ih2, ih3, ih4⟩ := trammellaw18_AbsWidens.mono_l k
    refine ⟨?_, ?_, ?_, ?_, ?_⟩
    · intro y0 y1 y2 y3 y4 y5 y6 y7 y8 y9 y10
      unfold trammellaw18_AbsWidens.j0
      repeat' first
      | (with_reducible exact ih0 _ _ _ _ _ _ _ _ _ _ _)
      | (with_reducible exact ih1 _ _ _ _ _ _ _ _ _ _ _ _)
      | (with_reducible exact ih2 _ _ _ _ _ _ _ _ _ _ _ _ _)
      | (with_reducible exact ih3 _ _ _ _ _ _ _ _ _ _ _ _ _ _ _ _ _)
      | (with_reducible exact ih4 _ _ _ _ _ _ _ _ _ _ _ _ _ _ _ _ _ _ _ _ _)
      | (with_reducible exact trammellaw18_awake.mono _)
      | (with_reducible exact LeO.refl _)
      | (with_reducible exact LeO.none _)
      | (with_reducible refine LeO.ite ?_ ?_)
      | (with_reducible refine LeO.bind ?_ (fun _ => ?_))
      | exact ih0 _ _ _ _ _ _ _ _ _ _ _
      | exact ih1 _ _ _ _ _ _ _ _ _ _ _ _
      | exact ih2 _ _ _ _ _ _ _ _ _ _ _ _ _
      | exact ih3 _ _ _ _ _ _ _ _ _ _ _ _ _ _ _ _ _
      | exact ih4 _ _ _ _ _ _ _ _ _ _ _ _ _ _ _ _ _ _ _ _ _
      | exact trammellaw18_awake.mono _
      | exact LeO.none _
      | refine LeO.ite ?_ ?_
      | refine LeO.bind ?_ (fun _ => ?_)
    · intro y0 y1 y2 y3 y4 y5 y6 y7 y8 y9 y10 y11
      unfold trammellaw18_AbsWidens.l0
      repeat' first
      | (with_reducible exact ih0 _ _ _ _ _ _ _ _ _ _ _)
      | (with_reducible exact ih1 _ _ _ _ _ _ _ _ _ _ _ _)
      | (with_reducible exact ih2 _ _ _ _ _ _ _ _ _ _ _ _ _)
      | (with_reducible exact ih3 _ _ _ _ _ _ _ _ _ _ _ _ _ _ _ _ _)
      | (with_reducible exact ih4 _ _ _ _ _ _ _ _ _ _ _ _ _ _ _ _ _ _ _ _ _)
      | (with_reducible exact trammellaw18_awake.mono _)
      | (with_reducible exact LeO.refl _)
      | (with_reducible exact LeO.none _)
      | (with_reducible refine LeO.ite ?_ ?_)
      | (with_reducible refine LeO.bind ?_ (fun _ => ?_))
      | exact ih0 _ _ _ _ _ _ _ _ _ _ _
      | exact ih1 _ _ _ _ _ _ _ _ _ _ _ _
      | exact ih2 _ _ _ _ _ _ _ _ _ _ _ _ _
      | exact ih3 _ _ _ _ _ _ _ _ _ _ _ _ _ _ _ _ _
      | exact ih4 _ _ _ _ _ _ _ _ _ _ _ _ _ _ _ _ _ _ _ _ _
      | exact trammellaw18_awake.mono _
      | exact LeO.none _
      | refine LeO.ite ?_ ?_
      | refine LeO.bind ?_ (fun _ => ?_)
    · intro y0 y1 y2 y3 y4 y5 y6 y7 y8 y9 y10 y11 y12
      unfold trammellaw18_AbsWidens.j2
      repeat' first
      | (with_reducible exact ih0 _ _ _ _ _ _ _ _ _ _ _)
      | (with_reducible exact ih1 _ _ _ _ _ _ _ _ _ _ _ _)
      | (with_reducible exact ih2 _ _ _ _ _ _ _ _ _ _ _ _ _)
      | (with_reducible exact ih3 _ _ _ _ _ _ _ _ _ _ _ _ _ _ _ _ _)
      | (with_reducible exact ih4 _ _ _ _ _ _ _ _ _ _ _ _ _ _ _ _ _ _ _ _ _)
      | (with_reducible exact trammellaw18_awake.mono _)
      | (with_reducible exact LeO.refl _)
      | (with_reducible exact LeO.none _)
      | (with_reducible refine LeO.ite ?_ ?_)
      | (with_reducible refine LeO.bind ?_ (fun _ => ?_))
      | exact ih0 _ _ _ _ _ _ _ _ _ _ _
      | exact ih1 _ _ _ _ _ _ _ _ _ _ _ _
      | exact ih2 _ _ _ _ _ _ _ _ _ _ _ _ _
      | exact ih3 _ _ _ _ _ _ _ _ _ _ _ _ _ _ _ _ _
      | exact ih4 _ _ _ _ _ _ _ _ _ _ _ _ _ _ _ _ _ _ _ _ _
      | exact trammellaw18_awake.mono _
      | exact LeO.none _
      | refine LeO.ite ?_ ?_
      | refine LeO.bind ?_ (fun _ => ?_)
    · intro y0 y1 y2 y3 y4 y5 y6 y7 y8 y9 y10 y11 y12 y13 y14 y15 y16
      unfold trammellaw18_AbsWidens.j3
      repeat' first
      | (with_reducible exact ih0 _ _ _ _ _ _ _ _ _ _ _)
      | (with_reducible exact ih1 _ _ _ _ _ _ _ _ _ _ _ _)
      | (with_reducible exact ih2 _ _ _ _ _ _ _ _ _ _ _ _ _)
      | (with_reducible exact ih3 _ _ _ _ _ _ _ _ _ _ _ _ _ _ _ _ _)
      | (with_reducible exact ih4 _ _ _ _ _ _ _ _ _ _ _ _ _ _ _ _ _ _ _ _ _)
      | (with_reducible exact trammellaw18_awake.mono _)
      | (with_reducible exact LeO.refl _)
      | (with_reducible exact LeO.none _)
      | (with_reducible refine LeO.ite ?_ ?_)
      | (with_reducible refine LeO.bind ?_ (fun _ => ?_))
      | exact ih0 _ _ _ _ _ _ _ _ _ _ _
      | exact ih1 _ _ _ _ _ _ _ _ _ _ _ _
      | exact ih2 _ _ _ _ _ _ _ _ _ _ _ _ _
      | exact ih3 _ _ _ _ _ _ _ _ _ _ _ _ _ _ _ _ _
      | exact ih4 _ _ _ _ _ _ _ _ _ _ _ _ _ _ _ _ _ _ _ _ _
      | exact trammellaw18_awake.mono _
      | exact LeO.none _
      | refine LeO.ite ?_ ?_
      | refine LeO.bind ?_ (fun _ => ?_)
    · intro y0 y1 y2 y3 y4 y5 y6 y7 y8 y9 y10 y11 y12 y13 y14 y15 y16 y17 y18 y19 y20
      unfold trammellaw18_AbsWidens.j4
      repeat' first
      | (with_reducible exact ih0 _ _ _ _ _ _ _ _ _ _ _)
      | (with_reducible exact ih1 _ _ _ _ _ _ _ _ _ _ _ _)
      | (with_reducible exact ih2 _ _ _ _ _ _ _ _ _ _ _ _ _)
      | (with_reducible exact ih3 _ _ _ _ _ _ _ _ _ _ _ _ _ _ _ _ _)
      | (with_reducible exact ih4 _ _ _ _ _ _ _ _ _ _ _ _ _ _ _ _ _ _ _ _ _)
      | (with_reducible exact trammellaw18_awake.mono _)
      | (with_reducible exact LeO.refl _)
      | (with_reducible exact LeO.none _)
      | (with_reducible refine LeO.ite ?_ ?_)
      | (with_reducible refine LeO.bind ?_ (fun _ => ?_))
      | exact ih0 _ _ _ _ _ _ _ _ _ _ _
      | exact ih1 _ _ _ _ _ _ _ _ _ _ _ _
      | exact ih2 _ _ _ _ _ _ _ _ _ _ _ _ _
      | exact ih3 _ _ _ _ _ _ _ _ _ _ _ _ _ _ _ _ _
      | exact ih4 _ _ _ _ _ _ _ _ _ _ _ _ _ _ _ _ _ _ _ _ _
      | exact trammellaw18_awake.mono _
      | exact LeO.none _
      | refine LeO.ite ?_ ?_
      | refine LeO.bind ?_ (fun _ => ?_)
theorem trammellaw18_AbsWidens.mono : ∀ a0 a1 a2 a3 a4 a5 k, LeO (trammellaw18_AbsWidens.f k a0 a1 a2 a3 a4 a5) (trammellaw18_AbsWidens.f (k + 1) a0 a1 a2 a3 a4 a5) := by
  intro a0 a1 a2 a3 a4 a5 k
  obtain ⟨ih0, ih1, ih2, ih3, ih4⟩ := trammellaw18_AbsWidens.mono_l k
  unfold trammellaw18_AbsWidens.f
  repeat' first
      | (with_reducible exact ih0 _ _ _ _ _ _ _ _ _ _ _)
      | (with_reducible exact ih1 _ _ _ _ _ _ _ _ _ _ _ _)
      | (with_reducible exact ih2 _ _ _ _ _ _ _ _ _ _ _ _ _)
      | (with_reducible exact ih3 _ _ _ _ _ _ _ _ _ _ _ _ _ _ _ _ _)
      | (with_reducible exact ih4 _ _ _ _ _ _ _ _ _ _ _ _ _ _ _ _ _ _ _ _ _)
      | (with_reducible exact trammellaw18_awake.mono _)
      | (with_reducible exact LeO.refl _)
      | (with_reducible exact LeO.none _)
      | (with_reducible refine LeO.ite ?_ ?_)
      | (with_reducible refine LeO.bind ?_ (fun _ => ?_))
      | exact ih0 _ _ _ _ _ _ _ _ _ _ _
      | exact ih1 _ _ _ _ _ _ _ _ _ _ _ _
      | exact ih2 _ _ _ _ _ _ _ _ _ _ _ _ _
      | exact ih3 _ _ _ _ _ _ _ _ _ _ _ _ _ _ _ _ _
      | exact ih4 _ _ _ _ _ _ _ _ _ _ _ _ _ _ _ _ _ _ _ _ _
      | exact trammellaw18_awake.mono _
      | exact LeO.none _
      | refine LeO.ite ?_ ?_
      | refine LeO.bind ?_ (fun _ => ?_)
set_option maxHeartbeats 8000000 in
set_option maxRecDepth 100000 in
theorem trammellaw18_AbsWidens.calls (k : Nat) (a0_0 : Int) (a0_1 : Int) (a0_2 : Int) (a0_3 : Int) (A1 : Option Addr) (c1 : Nat) (l1 : List (S28)) (a2 : Int) (r : Bool) (w : World) (hT : Tabs w) (hr1 : Kd.C k28 w A1 l1.length l1) (hc1 : l1.length ≤ c1) (hr : r = true) (h : trammellaw18_AbsWidens.f k a0_0 a0_1 a0_2 a0_3 l1 a2 = some r) :
    Calls Tryd.prog 4 #[.agg #[.int .u64 a0_0, .int .u64 a0_1, .int .i64 a0_2, .int .u64 a0_3], .slice A1 l1.length c1, .int .i64 a2] w fun e w' => e = .returned (.bool r) ∧ Below w.heap.size w w' := by
  have hu28 := Tryd.underlying28
  have hu24 := Tryd.underlying24
  have HR1 := Aside0.mk hr1
  have HC1 := Aside0.mk hc1
  clear hr1 hc1
  have HB := Aside0.mk (Below.refl w.heap.size w)
  have HT := Aside0.mk hT
  clear hT
  have H : ((trammellaw18_awake.f k).bind fun t178 => (if t178 = true then ((abs_Top.f a2).bind fun bt179 => ((abs_Right.f a0_0 a0_1 a0_2 a0_3).bind fun t184 => (if t184 = true then ((ivl_Within.f a0_0 a0_1 bt179.1 bt179.2.1).bind fun t185 => (trammellaw18_AbsWidens.j0 k l1 a2 (!t185) a0_0 a0_1 a0_2 a0_3 bt179.1 bt179.2.1 bt179.2.2.1 bt179.2.2.2)) else (trammellaw18_AbsWidens.j0 k l1 a2 true a0_0 a0_1 a0_2 a0_3 bt179.1 bt179.2.1 bt179.2.2.1 bt179.2.2.2)))) else (some false))) = some r := h
  clear h
  replace H := Option.bind_eq_some_iff.mp H
  obtain ⟨t178, A40, H⟩ := H
  replace H : (if t178 = true then ((abs_Top.f a2).bind fun bt179 => ((abs_Right.f a0_0 a0_1 a0_2 a0_3).bind fun t184 => (if t184 = true then ((ivl_Within.f a0_0 a0_1 bt179.1 bt179.2.1).bind fun t185 => (trammellaw18_AbsWidens.j0 k l1 a2 (!t185) a0_0 a0_1 a0_2 a0_3 bt179.1 bt179.2.1 bt179.2.2.1 bt179.2.2.2)) else (trammellaw18_AbsWidens.j0 k l1 a2 true a0_0 a0_1 a0_2 a0_3 bt179.1 bt179.2.1 bt179.2.2.1 bt179.2.2.2)))) else (some false)) = some r := H
  have A4 := Aside0.mk A40
  clear A40
  by_cases c5 : t178 = true
  · subst c5
    have H1 : ((abs_Top.f a2).bind fun bt179 => ((abs_Right.f a0_0 a0_1 a0_2 a0_3).bind fun t184 => (if t184 = true then ((ivl_Within.f a0_0 a0_1 bt179.1 bt179.2.1).bind fun t185 => (trammellaw18_AbsWidens.j0 k l1 a2 (!t185) a0_0 a0_1 a0_2 a0_3 bt179.1 bt179.2.1 bt179.2.2.1 bt179.2.2.2)) else (trammellaw18_AbsWidens.j0 k l1 a2 true a0_0 a0_1 a0_2 a0_3 bt179.1 bt179.2.1 bt179.2.2.1 bt179.2.2.2)))) = some r := by rw [if_pos rfl] at H; exact H
    clear H
    have H := H1
    clear H1
    replace H := Option.bind_eq_some_iff.mp H
    obtain ⟨⟨t179, t180, t181, t182⟩, A60, H⟩ := H
    replace H : ((abs_Right.f a0_0 a0_1 a0_2 a0_3).bind fun t184 => (if t184 = true then ((ivl_Within.f a0_0 a0_1 t179 t180).bind fun t185 => (trammellaw18_AbsWidens.j0 k l1 a2 (!t185) a0_0 a0_1 a0_2 a0_3 t179 t180 t181 t182)) else (trammellaw18_AbsWidens.j0 k l1 a2 true a0_0 a0_1 a0_2 a0_3 t179 t180 t181 t182))) = some r := H
    have A6 := Aside0.mk A60
    clear A60
    have HC7 := Aside0.mk H
    clear H
    go_enter Tryd.func4, Tryd.ntmps4
    go_upto_region 4 with (first | ((with_reducible refine gate_dst (N := 3) rfl ?_); refine box_event ?hg (N := 3) ?hd (cs := #[.int .u64 a0_0, .int .u64 a0_1, .int .i64 a0_2, .int .u64 a0_3]) (t := 28) ?hr ?_; (case hd => rfl); (case hg => rfl); (case hr => first | (go_simp; done) | (go_simp; rfl)); intro gb177 hg w8 hbox hb; have n0_ := Aside0.mk (below_step (by repeat (first | (with_reducible first | exact HB.out | apply below_alloc | apply pw_below_drewN | apply below_drew1) | exact HB.out)) hb); have n1_ := Aside0.mk (hbox); have n2_ := Aside0.mk ((by rw [hg]; exact (below_size (by repeat (first | (with_reducible first | exact HB.out | apply below_alloc | apply pw_below_drewN | apply below_drew1) | exact HB.out))) : w.heap.size ≤ gb177)); have n3_ := Aside0.mk ((by rw [hg]; exact (below_size (by repeat (first | (with_reducible first | exact HB.out | apply below_alloc | apply pw_below_drewN | apply below_drew1) | exact HB.out))) : w.heap.size ≤ gb177)); clear HB; have HB := n0_; have BK177 := n1_; have GW177 := n2_; have GE177 := n3_; clear n0_ n1_ n2_ n3_; clear hb hbox hg) | ((with_reducible refine gate_callee (f := 6) rfl ?_); refine goesL_ (some 12) rfl rfl Tryd.func6 (by kernel_rfl) rfl #[] rfl (by (try simp only [List.map_toArray, List.map_cons, List.map_nil]); first | done | rfl | (simp only [List.length_drop, List.length_take]; rfl)) ?_; (with_reducible refine (trammellaw18_awake.calls k  true _ A4.out).mono ?_); rintro e w9 ⟨rfl, hb⟩; refine ⟨_, rfl, ?_⟩; have n0_ := Aside0.mk (blk_below (g := gb177) (o := .cells #[.int .u64 a0_0, .int .u64 a0_1, .int .i64 a0_2, .int .u64 a0_3] 28 (0, 0)) (by (with_reducible repeat (first | refine blk_drewN ?_ _ | refine blk_drew ?_ | refine blk_alloc ?_ _)); exact BK177.out) hb); have n1_ := Aside0.mk (below_step (by repeat (first | (with_reducible first | exact HB.out | apply below_alloc | apply pw_below_drewN | apply below_drew1 | refine below_set ?_ GE177.out) | exact HB.out)) hb); clear BK177; clear HB; have BK177 := n0_; have HB := n1_; clear n0_ n1_; (try clear hb); (try clear hb2); (try clear hk); (try clear hi)) | ((with_reducible refine gate_callee (f := 10) rfl ?_); refine goesL_ (some 15) rfl rfl Tryd.func10 (by kernel_rfl) rfl #[.int .i64 a2] rfl (by (try simp only [List.map_toArray, List.map_cons, List.map_nil]); first | done | rfl | (simp only [List.length_drop, List.length_take]; rfl)) ?_; (with_reducible refine (abs_Top.calls a2 t179 t180 t181 t182 _ A6.out).mono ?_); rintro e w10 ⟨rfl, hb⟩; refine ⟨_, rfl, ?_⟩; have n0_ := Aside0.mk (blk_below (g := gb177) (o := .cells #[.int .u64 a0_0, .int .u64 a0_1, .int .i64 a0_2, .int .u64 a0_3] 28 (0, 0)) (by (with_reducible repeat (first | refine blk_drewN ?_ _ | refine blk_drew ?_ | refine blk_alloc ?_ _)); exact BK177.out) hb); have n1_ := Aside0.mk (below_step (by repeat (first | (with_reducible first | exact HB.out | apply below_alloc | apply pw_below_drewN | apply below_drew1 | refine below_set ?_ GE177.out) | exact HB.out)) hb); clear BK177; clear HB; have BK177 := n0_; have HB := n1_; clear n0_ n1_; (try clear hb); (try clear hb2); (try clear hk); (try clear hi)) | ((with_reducible refine gate_dst (N := 7) rfl ?_); refine box_event ?hg (N := 7) ?hd (cs := #[.int .u64 0, .int .u64 0, .int .i64 0, .int .u64 0]) (t := 28) ?hr ?_; (case hd => rfl); (case hg => rfl); (case hr => first | (go_simp; done) | (go_simp; rfl)); intro gb183 hg w11 hbox hb; have n0_ := Aside0.mk (blk_below (g := gb177) (o := .cells #[.int .u64 a0_0, .int .u64 a0_1, .int .i64 a0_2, .int .u64 a0_3] 28 (0, 0)) (by (with_reducible repeat (first | refine blk_drewN ?_ _ | refine blk_drew ?_ | refine blk_alloc ?_ _)); exact BK177.out) hb); have n1_ := Aside0.mk (below_step (by repeat (first | (with_reducible first | exact HB.out | apply below_alloc | apply pw_below_drewN | apply below_drew1 | refine below_set ?_ GE177.out) | exact HB.out)) hb); have n2_ := Aside0.mk (hbox); have n3_ := Aside0.mk ((by rw [hg]; exact (below_size (by repeat (first | (with_reducible first | exact HB.out | apply below_alloc | apply pw_below_drewN | apply below_drew1 | refine below_set ?_ GE177.out) | exact HB.out))) : w.heap.size ≤ gb183)); have n4_ := Aside0.mk ((by rw [hg]; exact (below_size (by repeat (first | (with_reducible first | exact HB.out | apply below_alloc | apply pw_below_drewN | apply below_drew1 | refine below_set ?_ GE177.out) | exact HB.out))) : w.heap.size ≤ gb183)); have n5_ := Aside0.mk ((by rw [hg]; exact Nat.ne_of_lt (blk_lt (g := gb177) (o := .cells #[.int .u64 a0_0, .int .u64 a0_1, .int .i64 a0_2, .int .u64 a0_3] 28 (0, 0)) (by (with_reducible repeat (first | refine blk_drewN ?_ _ | refine blk_drew ?_ | refine blk_alloc ?_ _)); exact BK177.out)) : gb177 ≠ gb183)); have n6_ := Aside0.mk ((by rw [hg]; exact Nat.ne_of_gt (blk_lt (g := gb177) (o := .cells #[.int .u64 a0_0, .int .u64 a0_1, .int .i64 a0_2, .int .u64 a0_3] 28 (0, 0)) (by (with_reducible repeat (first | refine blk_drewN ?_ _ | refine blk_drew ?_ | refine blk_alloc ?_ _)); exact BK177.out)) : gb183 ≠ gb177)); clear BK177; clear HB; have BK177 := n0_; have HB := n1_; have BK183 := n2_; have GW183 := n3_; have GE183 := n4_; have NB177_183 := n5_; have NB183_177 := n6_; clear n0_ n1_ n2_ n3_ n4_ n5_ n6_; clear hb hbox hg; have hnb12 := NB183_177.out; have hnc12 := NB177_183.out; have hcz13_0 : w11.cell? ⟨gb183, 0, none⟩ = some (.int .u64 0) := (blk_cell BK183.out 0).trans rfl; have hcz13_1 : w11.cell? ⟨gb183, 1, none⟩ = some (.int .u64 0) := (blk_cell BK183.out 1).trans rfl; have hcz13_2 : w11.cell? ⟨gb183, 2, none⟩ = some (.int .i64 0) := (blk_cell BK183.out 2).trans rfl; have hcz13_3 : w11.cell? ⟨gb183, 3, none⟩ = some (.int .u64 0) := (blk_cell BK183.out 3).trans rfl; have hfz13_0 := blk_frozen BK183.out 0; have hfz13_1 := blk_frozen BK183.out 1; have hfz13_2 := blk_frozen BK183.out 2; have hfz13_3 := blk_frozen BK183.out 3))
    (try simp only [Act.put, List.setIfInBounds_toArray, List.set_cons_zero, List.set_cons_succ])
    go_cut [26] (fun v26 wc => ∃ (kq : Nat) (x26_6 : Bool), v26 = .bool x26_6 ∧ Aside0 (trammellaw18_AbsWidens.j0 kq l1 a2 x26_6 a0_0 a0_1 a0_2 a0_3 t179 t180 t181 t182 = some r) ∧ Aside0 (kq ≤ k) ∧ Aside0 (wc.heap[gb177]? = some (.cells #[.int .u64 a0_0, .int .u64 a0_1, .int .i64 a0_2, .int .u64 a0_3] 28 (0, 0))) ∧ Aside0 (wc.heap[gb183]? = some (.cells #[.int .u64 t179, .int .u64 t180, .int .i64 t181, .int .u64 t182] 28 (0, 0))) ∧ Aside0 (Below w.heap.size w wc))
    case first =>
      have H := HC7.out
      clear HC7
      replace H := Option.bind_eq_some_iff.mp H
      obtain ⟨t184, A140, H⟩ := H
      replace H : (if t184 = true then ((ivl_Within.f a0_0 a0_1 t179 t180).bind fun t185 => (trammellaw18_AbsWidens.j0 k l1 a2 (!t185) a0_0 a0_1 a0_2 a0_3 t179 t180 t181 t182)) else (trammellaw18_AbsWidens.j0 k l1 a2 true a0_0 a0_1 a0_2 a0_3 t179 t180 t181 t182)) = some r := H
      have A14 := Aside0.mk A140
      clear A140
      by_cases c15 : t184 = true
      · subst c15
        have H1 : ((ivl_Within.f a0_0 a0_1 t179 t180).bind fun t185 => (trammellaw18_AbsWidens.j0 k l1 a2 (!t185) a0_0 a0_1 a0_2 a0_3 t179 t180 t181 t182)) = some r := by rw [if_pos rfl] at H; exact H
        clear H
        have H := H1
        clear H1
        replace H := Option.bind_eq_some_iff.mp H
        obtain ⟨t185, A160, H⟩ := H
        replace H : (trammellaw18_AbsWidens.j0 k l1 a2 (!t185) a0_0 a0_1 a0_2 a0_3 t179 t180 t181 t182) = some r := H
        have A16 := Aside0.mk A160
        clear A160
        have H' := Aside0.mk H
        clear H
        have hnb17 := NB177_183.out
        have hnc17 := NB183_177.out
        have hcz18_0 : w11.cell? ⟨gb177, 0, none⟩ = some (.int .u64 a0_0) := (blk_cell BK177.out 0).trans rfl
        have hcz18_1 : w11.cell? ⟨gb177, 1, none⟩ = some (.int .u64 a0_1) := (blk_cell BK177.out 1).trans rfl
        have hcz18_2 : w11.cell? ⟨gb177, 2, none⟩ = some (.int .i64 a0_2) := (blk_cell BK177.out 2).trans rfl
        have hcz18_3 : w11.cell? ⟨gb177, 3, none⟩ = some (.int .u64 a0_3) := (blk_cell BK177.out 3).trans rfl
        have hfz18_0 := blk_frozen BK177.out 0
        have hfz18_1 := blk_frozen BK177.out 1
        have hfz18_2 := blk_frozen BK177.out 2
        have hfz18_3 := blk_frozen BK177.out 3
        go_wp2_with (first | ((with_reducible refine gate_callee (f := 7) rfl ?_); refine goesL_ (some 17) rfl rfl Tryd.func7 (by kernel_rfl) rfl #[.agg #[.int .u64 a0_0, .int .u64 a0_1, .int .i64 a0_2, .int .u64 a0_3]] rfl (by (try simp only [List.map_toArray, List.map_cons, List.map_nil]); first | done | rfl | (simp only [List.length_drop, List.length_take]; rfl)) ?_; (with_reducible refine (abs_Right.calls a0_0 a0_1 a0_2 a0_3 true _ A14.out).mono ?_); rintro e w19 ⟨rfl, hb⟩; refine ⟨_, rfl, ?_⟩; have n0_ := Aside0.mk (blk_below (g := gb177) (o := .cells #[.int .u64 a0_0, .int .u64 a0_1, .int .i64 a0_2, .int .u64 a0_3] 28 (0, 0)) (by (with_reducible repeat (first | refine blk_drewN ?_ _ | refine blk_drew ?_ | refine blk_alloc ?_ _)); refine blk_far ?_ NB177_183.out _; (with_reducible repeat (first | refine blk_drewN ?_ _ | refine blk_drew ?_ | refine blk_alloc ?_ _)); refine blk_far ?_ NB177_183.out _; (with_reducible repeat (first | refine blk_drewN ?_ _ | refine blk_drew ?_ | refine blk_alloc ?_ _)); refine blk_far ?_ NB177_183.out _; (with_reducible repeat (first | refine blk_drewN ?_ _ | refine blk_drew ?_ | refine blk_alloc ?_ _)); refine blk_far ?_ NB177_183.out _; (with_reducible repeat (first | refine blk_drewN ?_ _ | refine blk_drew ?_ | refine blk_alloc ?_ _)); exact BK177.out) hb); have n1_ := Aside0.mk (blk_below (g := gb183) (o := .cells #[.int .u64 t179, .int .u64 t180, .int .i64 t181, .int .u64 t182] 28 (0, 0)) (by (with_reducible repeat (first | refine blk_drewN ?_ _ | refine blk_drew ?_ | refine blk_alloc ?_ _)); refine blk_put (cs := #[.int .u64 t179, .int .u64 t180, .int .i64 t181, .int .u64 0]) ?_ 3 _ rfl; (with_reducible repeat (first | refine blk_drewN ?_ _ | refine blk_drew ?_ | refine blk_alloc ?_ _)); refine blk_put (cs := #[.int .u64 t179, .int .u64 t180, .int .i64 0, .int .u64 0]) ?_ 2 _ rfl; (with_reducible repeat (first | refine blk_drewN ?_ _ | refine blk_drew ?_ | refine blk_alloc ?_ _)); refine blk_put (cs := #[.int .u64 t179, .int .u64 0, .int .i64 0, .int .u64 0]) ?_ 1 _ rfl; (with_reducible repeat (first | refine blk_drewN ?_ _ | refine blk_drew ?_ | refine blk_alloc ?_ _)); refine blk_put (cs := #[.int .u64 0, .int .u64 0, .int .i64 0, .int .u64 0]) ?_ 0 _ rfl; (with_reducible repeat (first | refine blk_drewN ?_ _ | refine blk_drew ?_ | refine blk_alloc ?_ _)); exact BK183.out) hb); have n2_ := Aside0.mk (below_step (by repeat (first | (with_reducible first | exact HB.out | apply below_alloc | apply pw_below_drewN | apply below_drew1 | refine below_set ?_ GE177.out | refine below_set ?_ GE183.out) | exact HB.out)) hb); clear BK177; clear BK183; clear HB; have BK177 := n0_; have BK183 := n1_; have HB := n2_; clear n0_ n1_ n2_; (try clear hb); (try clear hb2); (try clear hk); (try clear hi); have hcz20_0 : w19.cell? ⟨gb177, 0, none⟩ = some (.int .u64 a0_0) := (blk_cell BK177.out 0).trans rfl; have hcz20_1 : w19.cell? ⟨gb177, 1, none⟩ = some (.int .u64 a0_1) := (blk_cell BK177.out 1).trans rfl; have hcz20_2 : w19.cell? ⟨gb177, 2, none⟩ = some (.int .i64 a0_2) := (blk_cell BK177.out 2).trans rfl; have hcz20_3 : w19.cell? ⟨gb177, 3, none⟩ = some (.int .u64 a0_3) := (blk_cell BK177.out 3).trans rfl; have hfz20_0 := blk_frozen BK177.out 0; have hfz20_1 := blk_frozen BK177.out 1; have hfz20_2 := blk_frozen BK177.out 2; have hfz20_3 := blk_frozen BK177.out 3; have hcz21_0 : w19.cell? ⟨gb183, 0, none⟩ = some (.int .u64 t179) := (blk_cell BK183.out 0).trans rfl; have hcz21_1 : w19.cell? ⟨gb183, 1, none⟩ = some (.int .u64 t180) := (blk_cell BK183.out 1).trans rfl; have hcz21_2 : w19.cell? ⟨gb183, 2, none⟩ = some (.int .i64 t181) := (blk_cell BK183.out 2).trans rfl; have hcz21_3 : w19.cell? ⟨gb183, 3, none⟩ = some (.int .u64 t182) := (blk_cell BK183.out 3).trans rfl; have hfz21_0 := blk_frozen BK183.out 0; have hfz21_1 := blk_frozen BK183.out 1; have hfz21_2 := blk_frozen BK183.out 2; have hfz21_3 := blk_frozen BK183.out 3) | (go_at_call 11; (with_reducible refine (ivl_Within.calls a0_0 a0_1 t179 t180 t185 _ A16.out).mono ?_); rintro e w22 ⟨rfl, hb⟩; have n0_ := Aside0.mk (blk_below (g := gb177) (o := .cells #[.int .u64 a0_0, .int .u64 a0_1, .int .i64 a0_2, .int .u64 a0_3] 28 (0, 0)) (by (with_reducible repeat (first | refine blk_drewN ?_ _ | refine blk_drew ?_ | refine blk_alloc ?_ _)); exact BK177.out) hb); have n1_ := Aside0.mk (blk_below (g := gb183) (o := .cells #[.int .u64 t179, .int .u64 t180, .int .i64 t181, .int .u64 t182] 28 (0, 0)) (by (with_reducible repeat (first | refine blk_drewN ?_ _ | refine blk_drew ?_ | refine blk_alloc ?_ _)); exact BK183.out) hb); have n2_ := Aside0.mk (below_step (by repeat (first | (with_reducible first | exact HB.out | apply below_alloc | apply pw_below_drewN | apply below_drew1 | refine below_set ?_ GE177.out | refine below_set ?_ GE183.out) | exact HB.out)) hb); clear BK177; clear BK183; clear HB; have BK177 := n0_; have BK183 := n1_; have HB := n2_; clear n0_ n1_ n2_; (try clear hb); (try clear hb2); (try clear hk); (try clear hi)))
        go_meet
        case rel => exact ⟨_, (!t185), (by first | rfl | (simp; done) | (simp [*]; done)), H', ⟨by first | omega | exact Nat.le_refl _⟩, ⟨by (with_reducible repeat (first | refine blk_drewN ?_ _ | refine blk_drew ?_ | refine blk_alloc ?_ _)); exact BK177.out⟩, ⟨by (with_reducible repeat (first | refine blk_drewN ?_ _ | refine blk_drew ?_ | refine blk_alloc ?_ _)); exact BK183.out⟩, ⟨by repeat (first | (with_reducible first | exact HB.out | apply below_alloc | apply pw_below_drewN | apply below_drew1 | refine below_set ?_ GE177.out | refine below_set ?_ GE183.out) | exact HB.out)⟩⟩
      · replace c15 := Bool.eq_false_iff.mpr c15
        subst c15
        have H1 : (trammellaw18_AbsWidens.j0 k l1 a2 true a0_0 a0_1 a0_2 a0_3 t179 t180 t181 t182) = some r := by rw [if_neg (show ¬ (false = true) by decide)] at H; exact H
        clear H
        have H := H1
        clear H1
        have H' := Aside0.mk H
        clear H
        have hnb23 := NB177_183.out
        have hnc23 := NB183_177.out
        have hcz24_0 : w11.cell? ⟨gb177, 0, none⟩ = some (.int .u64 a0_0) := (blk_cell BK177.out 0).trans rfl
        have hcz24_1 : w11.cell? ⟨gb177, 1, none⟩ = some (.int .u64 a0_1) := (blk_cell BK177.out 1).trans rfl
        have hcz24_2 : w11.cell? ⟨gb177, 2, none⟩ = some (.int .i64 a0_2) := (blk_cell BK177.out 2).trans rfl
        have hcz24_3 : w11.cell? ⟨gb177, 3, none⟩ = some (.int .u64 a0_3) := (blk_cell BK177.out 3).trans rfl
        have hfz24_0 := blk_frozen BK177.out 0
        have hfz24_1 := blk_frozen BK177.out 1
        have hfz24_2 := blk_frozen BK177.out 2
        have hfz24_3 := blk_frozen BK177.out 3
        go_wp2_with (first | ((with_reducible refine gate_callee (f := 7) rfl ?_); refine goesL_ (some 17) rfl rfl Tryd.func7 (by kernel_rfl) rfl #[.agg #[.int .u64 a0_0, .int .u64 a0_1, .int .i64 a0_2, .int .u64 a0_3]] rfl (by (try simp only [List.map_toArray, List.map_cons, List.map_nil]); first | done | rfl | (simp only [List.length_drop, List.length_take]; rfl)) ?_; (with_reducible refine (abs_Right.calls a0_0 a0_1 a0_2 a0_3 false _ A14.out).mono ?_); rintro e w25 ⟨rfl, hb⟩; refine ⟨_, rfl, ?_⟩; have n0_ := Aside0.mk (blk_below (g := gb177) (o := .cells #[.int .u64 a0_0, .int .u64 a0_1, .int .i64 a0_2, .int .u64 a0_3] 28 (0, 0)) (by (with_reducible repeat (first | refine blk_drewN ?_ _ | refine blk_drew ?_ | refine blk_alloc ?_ _)); refine blk_far ?_ NB177_183.out _; (with_reducible repeat (first | refine blk_drewN ?_ _ | refine blk_drew ?_ | refine blk_alloc ?_ _)); refine blk_far ?_ NB177_183.out _; (with_reducible repeat (first | refine blk_drewN ?_ _ | refine blk_drew ?_ | refine blk_alloc ?_ _)); refine blk_far ?_ NB177_183.out _; (with_reducible repeat (first | refine blk_drewN ?_ _ | refine blk_drew ?_ | refine blk_alloc ?_ _)); refine blk_far ?_ NB177_183.out _; (with_reducible repeat (first | refine blk_drewN ?_ _ | refine blk_drew ?_ | refine blk_alloc ?_ _)); exact BK177.out) hb); have n1_ := Aside0.mk (blk_below (g := gb183) (o := .cells #[.int .u64 t179, .int .u64 t180, .int .i64 t181, .int .u64 t182] 28 (0, 0)) (by (with_reducible repeat (first | refine blk_drewN ?_ _ | refine blk_drew ?_ | refine blk_alloc ?_ _)); refine blk_put (cs := #[.int .u64 t179, .int .u64 t180, .int .i64 t181, .int .u64 0]) ?_ 3 _ rfl; (with_reducible repeat (first | refine blk_drewN ?_ _ | refine blk_drew ?_ | refine blk_alloc ?_ _)); refine blk_put (cs := #[.int .u64 t179, .int .u64 t180, .int .i64 0, .int .u64 0]) ?_ 2 _ rfl; (with_reducible repeat (first | refine blk_drewN ?_ _ | refine blk_drew ?_ | refine blk_alloc ?_ _)); refine blk_put (cs := #[.int .u64 t179, .int .u64 0, .int .i64 0, .int .u64 0]) ?_ 1 _ rfl; (with_reducible repeat (first | refine blk_drewN ?_ _ | refine blk_drew ?_ | refine blk_alloc ?_ _)); refine blk_put (cs := #[.int .u64 0, .int .u64 0, .int .i64 0, .int .u64 0]) ?_ 0 _ rfl; (with_reducible repeat (first | refine blk_drewN ?_ _ | refine blk_drew ?_ | refine blk_alloc ?_ _)); exact BK183.out) hb); have n2_ := Aside0.mk (below_step (by repeat (first | (with_reducible first | exact HB.out | apply below_alloc | apply pw_below_drewN | apply below_drew1 | refine below_set ?_ GE177.out | refine below_set ?_ GE183.out) | exact HB.out)) hb); clear BK177; clear BK183; clear HB; have BK177 := n0_; have BK183 := n1_; have HB := n2_; clear n0_ n1_ n2_; (try clear hb); (try clear hb2); (try clear hk); (try clear hi)))
        go_meet
        case rel => exact ⟨_, (true), (by first | rfl | (simp; done) | (simp [*]; done)), H', ⟨by first | omega | exact Nat.le_refl _⟩, ⟨by (with_reducible repeat (first | refine blk_drewN ?_ _ | refine blk_drew ?_ | refine blk_alloc ?_ _)); exact BK177.out⟩, ⟨by (with_reducible repeat (first | refine blk_drewN ?_ _ | refine blk_drew ?_ | refine blk_alloc ?_ _)); exact BK183.out⟩, ⟨by repeat (first | (with_reducible first | exact HB.out | apply below_alloc | apply pw_below_drewN | apply below_drew1 | refine below_set ?_ GE177.out | refine below_set ?_ GE183.out) | exact HB.out)⟩⟩
    case rest =>
      clear HC7
      try clear c1
      try clear c2
      try clear p2
      try clear c4
      try clear c5
      try clear c6
      try clear c7
      try clear c10
      try clear c12
      try clear c15
      try clear c17
      try clear c23
      try clear hcz13_0
      try clear hcz13_1
      try clear hcz13_2
      try clear hcz13_3
      try clear hcz18_0
      try clear hcz18_1
      try clear hcz18_2
      try clear hcz18_3
      try clear hcz20_0
      try clear hcz20_1
      try clear hcz20_2
      try clear hcz20_3
      try clear hcz21_0
      try clear hcz21_1
      try clear hcz21_2
      try clear hcz21_3
      try clear hcz24_0
      try clear hcz24_1
      try clear hcz24_2
      try clear hcz24_3
      try clear hfz13_0
      try clear hfz13_1
      try clear hfz13_2
      try clear hfz13_3
      try clear hfz18_0
      try clear hfz18_1
      try clear hfz18_2
      try clear hfz18_3
      try clear hfz20_0
      try clear hfz20_1
      try clear hfz20_2
      try clear hfz20_3
      try clear hfz21_0
      try clear hfz21_1
      try clear hfz21_2
      try clear hfz21_3
      try clear hfz24_0
      try clear hfz24_1
      try clear hfz24_2
      try clear hfz24_3
      obtain ⟨kq, x26_6, rfl, HA, HJ6, BK177, BK183, HB⟩ := hcut
      cases kq with
      | zero => exact absurd HA.out (by simp [trammellaw18_AbsWidens.j0])
      | succ kj6 =>
        have H := HA.out
        clear HA
        simp only [trammellaw18_AbsWidens.j0] at H
        by_cases c26 : x26_6 = true
        · subst c26
          have H1 : (some true) = some r := by rw [if_pos rfl] at H; exact H
          clear H
          have H := H1
          clear H1
          obtain rfl := Option.some.inj H
          go_wp2
          go_ret
          exact ⟨by first | rfl | (simp [errW_none, errW_some] <;> rfl) | (simp [*, errW_none, errW_some] <;> rfl), by repeat (first | (with_reducible first | exact HB.out | apply below_alloc | apply pw_below_drewN | apply below_drew1 | refine below_set ?_ GE177.out | refine below_set ?_ GE183.out) | exact HB.out)⟩
        · replace c26 := Bool.eq_false_iff.mpr c26
          subst c26
          have H1 : (trammellaw18_AbsWidens.l0 kj6 l1 a2 0 0 a0_0 a0_1 a0_2 a0_3 t179 t180 t181 t182) = some r := by rw [if_neg (show ¬ (false = true) by decide)] at H; exact H
          clear H
          have H := H1
          clear H1
          have H' := Aside0.mk H
          clear H
          go_wp2
          go_loopg [8, 9] kj6 (fun kq v8 v9 w' => ∃ (x8_2 : Int) (x9_2 : Int) (x178000_2 : Int) (x178001_2 : Int) (x178002_2 : Int) (x178003_2 : Int), v8 = .int .i64 x8_2 ∧ v9 = .int .i64 x9_2 ∧ Aside0 (trammellaw18_AbsWidens.l0 kq l1 a2 x8_2 x9_2 x178000_2 x178001_2 x178002_2 x178003_2 t179 t180 t181 t182 = some r) ∧ Aside0 (kq ≤ kj6) ∧ Aside0 (w'.heap[gb177]? = some (.cells #[.int .u64 x178000_2, .int .u64 x178001_2, .int .i64 x178002_2, .int .u64 x178003_2] 28 (0, 0))) ∧ Aside0 (w'.heap[gb183]? = some (.cells #[.int .u64 t179, .int .u64 t180, .int .i64 t181, .int .u64 t182] 28 (0, 0))) ∧ Aside0 (Below w.heap.size w w'))
          case atStart => exact ⟨(0), (0), (a0_0), (a0_1), (a0_2), (a0_3), (by first | rfl | (simp; done) | (simp [*]; done)), (by first | rfl | (simp; done) | (simp [*]; done)), H', ⟨Nat.le_refl _⟩, ⟨by (with_reducible repeat (first | refine blk_drewN ?_ _ | refine blk_drew ?_ | refine blk_alloc ?_ _)); exact BK177.out⟩, ⟨by (with_reducible repeat (first | refine blk_drewN ?_ _ | refine blk_drew ?_ | refine blk_alloc ?_ _)); exact BK183.out⟩, ⟨by repeat (first | (with_reducible first | exact HB.out | apply below_alloc | apply pw_below_drewN | apply below_drew1 | refine below_set ?_ GE177.out | refine below_set ?_ GE183.out) | exact HB.out)⟩⟩
          case round =>
            clear H'
            try clear c1
            try clear c2
            try clear p2
            try clear c4
            try clear c5
            try clear c6
            try clear c7
            try clear c10
            try clear c12
            try clear c15
            try clear c17
            try clear c23
            try clear c26
            try clear hcz13_0
            try clear hcz13_1
            try clear hcz13_2
            try clear hcz13_3
            try clear hcz18_0
            try clear hcz18_1
            try clear hcz18_2
            try clear hcz18_3
            try clear hcz20_0
            try clear hcz20_1
            try clear hcz20_2
            try clear hcz20_3
            try clear hcz21_0
            try clear hcz21_1
            try clear hcz21_2
            try clear hcz21_3
            try clear hcz24_0
            try clear hcz24_1
            try clear hcz24_2
            try clear hcz24_3
            try clear hfz13_0
            try clear hfz13_1
            try clear hfz13_2
            try clear hfz13_3
            try clear hfz18_0
            try clear hfz18_1
            try clear hfz18_2
            try clear hfz18_3
            try clear hfz20_0
            try clear hfz20_1
            try clear hfz20_2
            try clear hfz20_3
            try clear hfz21_0
            try clear hfz21_1
            try clear hfz21_2
            try clear hfz21_3
            try clear hfz24_0
            try clear hfz24_1
            try clear hfz24_2
            try clear hfz24_3
            try clear p2
            obtain ⟨x8_2, x9_2, x178000_2, x178001_2, x178002_2, x178003_2, rfl, rfl, HA, HK2, BK177, BK183, HB⟩ := hrel
            cases gk with
            | zero => exact absurd HA.out (by simp [trammellaw18_AbsWidens.l0])
            | succ k2 =>
              have H := HA.out
              clear HA
              simp only [trammellaw18_AbsWidens.l0] at H
              have HC27 := Aside0.mk H
              clear H
              go_upto_region 8 with (fail)
              go_cut [34] (fun v34 wc => ∃ (kq : Nat) (x34_26 : Bool), v34 = .bool x34_26 ∧ Aside0 (trammellaw18_AbsWidens.j2 kq l1 a2 x8_2 x9_2 x34_26 x178000_2 x178001_2 x178002_2 x178003_2 t179 t180 t181 t182 = some r) ∧ Aside0 (kq ≤ k2) ∧ Aside0 (wc.heap[gb177]? = some (.cells #[.int .u64 x178000_2, .int .u64 x178001_2, .int .i64 x178002_2, .int .u64 x178003_2] 28 (0, 0))) ∧ Aside0 (wc.heap[gb183]? = some (.cells #[.int .u64 t179, .int .u64 t180, .int .i64 t181, .int .u64 t182] 28 (0, 0))) ∧ Aside0 (Below w.heap.size w wc))
              case first =>
                have H := HC27.out
                clear HC27
                by_cases c28 : x9_2 < (l1.length : Int)
                · rw [if_pos c28] at H
                  have c28b0 : decide (x9_2 < (l1.length : Int)) = true := decide_eq_true c28
                  clear c28
                  (first | rw [c28b0] | (simp only [i64_w, i32_w]; rw [c28b0]) | skip)
                  have H' := Aside0.mk H
                  clear H
                  go_wp2
                  go_meet
                  case rel => exact ⟨_, (decide (x9_2 < 200)), (by first | rfl | (simp; done) | (simp [*]; done)), H', ⟨by have := HJ6.out; have := HK2.out; first | omega | exact Nat.le_refl _⟩, ⟨by (with_reducible repeat (first | refine blk_drewN ?_ _ | refine blk_drew ?_ | refine blk_alloc ?_ _)); exact BK177.out⟩, ⟨by (with_reducible repeat (first | refine blk_drewN ?_ _ | refine blk_drew ?_ | refine blk_alloc ?_ _)); exact BK183.out⟩, ⟨by repeat (first | (with_reducible first | exact HB.out | apply below_alloc | apply pw_below_drewN | apply below_drew1 | refine below_set ?_ GE177.out | refine below_set ?_ GE183.out) | exact HB.out)⟩⟩
                · rw [if_neg c28] at H
                  have c28b0 : decide (x9_2 < (l1.length : Int)) = false := decide_eq_false c28
                  clear c28
                  (first | rw [c28b0] | (simp only [i64_w, i32_w]; rw [c28b0]) | skip)
                  have H' := Aside0.mk H
                  clear H
                  go_wp2
                  go_meet
                  case rel => exact ⟨_, (false), (by first | rfl | (simp; done) | (simp [*]; done)), H', ⟨by have := HJ6.out; have := HK2.out; first | omega | exact Nat.le_refl _⟩, ⟨by (with_reducible repeat (first | refine blk_drewN ?_ _ | refine blk_drew ?_ | refine blk_alloc ?_ _)); exact BK177.out⟩, ⟨by (with_reducible repeat (first | refine blk_drewN ?_ _ | refine blk_drew ?_ | refine blk_alloc ?_ _)); exact BK183.out⟩, ⟨by repeat (first | (with_reducible first | exact HB.out | apply below_alloc | apply pw_below_drewN | apply below_drew1 | refine below_set ?_ GE177.out | refine below_set ?_ GE183.out) | exact HB.out)⟩⟩
              case rest =>
                clear HC27
                try clear c1
                try clear c2
                try clear p2
                try clear c4
                try clear c5
                try clear c6
                try clear c7
                try clear c10
                try clear c12
                try clear c15
                try clear c17
                try clear c23
                try clear c26
                try clear c28
                try clear c28b0
                try clear hcz13_0
                try clear hcz13_1
                try clear hcz13_2
                try clear hcz13_3
                try clear hcz18_0
                try clear hcz18_1
                try clear hcz18_2
                try clear hcz18_3
                try clear hcz20_0
                try clear hcz20_1
                try clear hcz20_2
                try clear hcz20_3
                try clear hcz21_0
                try clear hcz21_1
                try clear hcz21_2
                try clear hcz21_3
                try clear hcz24_0
                try clear hcz24_1
                try clear hcz24_2
                try clear hcz24_3
                try clear hfz13_0
                try clear hfz13_1
                try clear hfz13_2
                try clear hfz13_3
                try clear hfz18_0
                try clear hfz18_1
                try clear hfz18_2
                try clear hfz18_3
                try clear hfz20_0
                try clear hfz20_1
                try clear hfz20_2
                try clear hfz20_3
                try clear hfz21_0
                try clear hfz21_1
                try clear hfz21_2
                try clear hfz21_3
                try clear hfz24_0
                try clear hfz24_1
                try clear hfz24_2
                try clear hfz24_3
                try clear p2
                obtain ⟨kq, x34_26, rfl, HA, HJ26, BK177, BK183, HB⟩ := hcut
                cases kq with
                | zero => exact absurd HA.out (by simp [trammellaw18_AbsWidens.j2])
                | succ kj26 =>
                  have H := HA.out
                  clear HA
                  simp only [trammellaw18_AbsWidens.j2] at H
                  by_cases c29 : x34_26 = true
                  · subst c29
                    have H1 : (if 0 ≤ x9_2 then (if x9_2 < (l1.length : Int) then ((abs_Right.f ((rd_T28 l1 x9_2).f0.f0) ((rd_T28 l1 x9_2).f0.f1) ((rd_T28 l1 x9_2).f1.f0) ((rd_T28 l1 x9_2).f1.f1)).bind fun t188 => (if t188 = true then ((ivl_Within.f ((rd_T28 l1 x9_2).f0.f0) ((rd_T28 l1 x9_2).f0.f1) t179 t180).bind fun t189 => (trammellaw18_AbsWidens.j3 kj26 l1 a2 x8_2 x9_2 (!t189) x178000_2 x178001_2 x178002_2 x178003_2 t179 t180 t181 t182 ((rd_T28 l1 x9_2).f0.f0) ((rd_T28 l1 x9_2).f0.f1) ((rd_T28 l1 x9_2).f1.f0) ((rd_T28 l1 x9_2).f1.f1))) else (trammellaw18_AbsWidens.j3 kj26 l1 a2 x8_2 x9_2 true x178000_2 x178001_2 x178002_2 x178003_2 t179 t180 t181 t182 ((rd_T28 l1 x9_2).f0.f0) ((rd_T28 l1 x9_2).f0.f1) ((rd_T28 l1 x9_2).f1.f0) ((rd_T28 l1 x9_2).f1.f1)))) else (none)) else (none)) = some r := by rw [if_pos rfl] at H; exact H
                    clear H
                    have H := H1
                    clear H1
                    by_cases c30 : 0 ≤ x9_2
                    · rw [if_pos c30] at H
                      have c30b0 : decide (0 ≤ x9_2) = true := decide_eq_true c30
                      clear c30
                      by_cases c31 : x9_2 < (l1.length : Int)
                      · rw [if_pos c31] at H
                        have c31b0 : decide (x9_2 < (l1.length : Int)) = true := decide_eq_true c31
                        clear c31
                        have HC32 := Aside0.mk H
                        clear H
                        have p186 : 0 ≤ (x9_2 : Int) := of_decide_eq_true (by first | (with_reducible assumption) | assumption)
                        have q186 : x9_2 < (l1.length : Int) := of_decide_eq_true (by first | (with_reducible assumption) | assumption)
                        obtain ⟨ad186, e186, hx186_0, hx186_1, hx186_2, hx186_3⟩ := at_T28 HR1.out x9_2 p186 q186
                        cases e186
                        replace hx186_0 := (HB.out.cell (World.block_lt_of_cell? w _ hx186_0)).trans hx186_0
                        replace hx186_1 := (HB.out.cell (World.block_lt_of_cell? w _ hx186_1)).trans hx186_1
                        replace hx186_2 := (HB.out.cell (World.block_lt_of_cell? w _ hx186_2)).trans hx186_2
                        replace hx186_3 := (HB.out.cell (World.block_lt_of_cell? w _ hx186_3)).trans hx186_3
                        replace p186 := eq_true p186
                        replace q186 := eq_true q186
                        go_upto_region 11 with (first | ((with_reducible refine gate_dst (N := 10) rfl ?_); refine box_event ?hg (N := 10) ?hd (cs := #[.int .u64 0, .int .u64 0, .int .i64 0, .int .u64 0]) (t := 28) ?hr ?_; (case hd => rfl); (case hg => rfl); (case hr => first | (go_simp; done) | (go_simp; rfl)); intro gb187 hg w33 hbox hb; have n0_ := Aside0.mk (blk_below (g := gb177) (o := .cells #[.int .u64 x178000_2, .int .u64 x178001_2, .int .i64 x178002_2, .int .u64 x178003_2] 28 (0, 0)) (by (with_reducible repeat (first | refine blk_drewN ?_ _ | refine blk_drew ?_ | refine blk_alloc ?_ _)); exact BK177.out) hb); have n1_ := Aside0.mk (blk_below (g := gb183) (o := .cells #[.int .u64 t179, .int .u64 t180, .int .i64 t181, .int .u64 t182] 28 (0, 0)) (by (with_reducible repeat (first | refine blk_drewN ?_ _ | refine blk_drew ?_ | refine blk_alloc ?_ _)); exact BK183.out) hb); have n2_ := Aside0.mk (below_step (by repeat (first | (with_reducible first | exact HB.out | apply below_alloc | apply pw_below_drewN | apply below_drew1 | refine below_set ?_ GE177.out | refine below_set ?_ GE183.out) | exact HB.out)) hb); have n3_ := Aside0.mk (hbox); have n4_ := Aside0.mk ((by rw [hg]; exact (below_size (by repeat (first | (with_reducible first | exact HB.out | apply below_alloc | apply pw_below_drewN | apply below_drew1 | refine below_set ?_ GE177.out | refine below_set ?_ GE183.out) | exact HB.out))) : w.heap.size ≤ gb187)); have n5_ := Aside0.mk ((by rw [hg]; exact (below_size (by repeat (first | (with_reducible first | exact HB.out | apply below_alloc | apply pw_below_drewN | apply below_drew1 | refine below_set ?_ GE177.out | refine below_set ?_ GE183.out) | exact HB.out))) : w.heap.size ≤ gb187)); have n6_ := Aside0.mk ((by rw [hg]; exact Nat.ne_of_lt (blk_lt (g := gb177) (o := .cells #[.int .u64 x178000_2, .int .u64 x178001_2, .int .i64 x178002_2, .int .u64 x178003_2] 28 (0, 0)) (by (with_reducible repeat (first | refine blk_drewN ?_ _ | refine blk_drew ?_ | refine blk_alloc ?_ _)); exact BK177.out)) : gb177 ≠ gb187)); have n7_ := Aside0.mk ((by rw [hg]; exact Nat.ne_of_gt (blk_lt (g := gb177) (o := .cells #[.int .u64 x178000_2, .int .u64 x178001_2, .int .i64 x178002_2, .int .u64 x178003_2] 28 (0, 0)) (by (with_reducible repeat (first | refine blk_drewN ?_ _ | refine blk_drew ?_ | refine blk_alloc ?_ _)); exact BK177.out)) : gb187 ≠ gb177)); have n8_ := Aside0.mk ((by rw [hg]; exact Nat.ne_of_lt (blk_lt (g := gb183) (o := .cells #[.int .u64 t179, .int .u64 t180, .int .i64 t181, .int .u64 t182] 28 (0, 0)) (by (with_reducible repeat (first | refine blk_drewN ?_ _ | refine blk_drew ?_ | refine blk_alloc ?_ _)); exact BK183.out)) : gb183 ≠ gb187)); have n9_ := Aside0.mk ((by rw [hg]; exact Nat.ne_of_gt (blk_lt (g := gb183) (o := .cells #[.int .u64 t179, .int .u64 t180, .int .i64 t181, .int .u64 t182] 28 (0, 0)) (by (with_reducible repeat (first | refine blk_drewN ?_ _ | refine blk_drew ?_ | refine blk_alloc ?_ _)); exact BK183.out)) : gb187 ≠ gb183)); clear BK177; clear BK183; clear HB; have BK177 := n0_; have BK183 := n1_; have HB := n2_; have BK187 := n3_; have GW187 := n4_; have GE187 := n5_; have NB177_187 := n6_; have NB187_177 := n7_; have NB183_187 := n8_; have NB187_183 := n9_; clear n0_ n1_ n2_ n3_ n4_ n5_ n6_ n7_ n8_ n9_; clear hb hbox hg; have hnb34 := NB187_177.out; have hnc34 := NB177_187.out; have hnb35 := NB187_183.out; have hnc35 := NB183_187.out; have hcz36_0 : w33.cell? ⟨gb187, 0, none⟩ = some (.int .u64 0) := (blk_cell BK187.out 0).trans rfl; have hcz36_1 : w33.cell? ⟨gb187, 1, none⟩ = some (.int .u64 0) := (blk_cell BK187.out 1).trans rfl; have hcz36_2 : w33.cell? ⟨gb187, 2, none⟩ = some (.int .i64 0) := (blk_cell BK187.out 2).trans rfl; have hcz36_3 : w33.cell? ⟨gb187, 3, none⟩ = some (.int .u64 0) := (blk_cell BK187.out 3).trans rfl; have hfz36_0 := blk_frozen BK187.out 0; have hfz36_1 := blk_frozen BK187.out 1; have hfz36_2 := blk_frozen BK187.out 2; have hfz36_3 := blk_frozen BK187.out 3))
                        (try simp only [Act.put, List.setIfInBounds_toArray, List.set_cons_zero, List.set_cons_succ])
                        go_cut [51] (fun v51 wc => ∃ (kq : Nat) (x51_31 : Bool), v51 = .bool x51_31 ∧ Aside0 (trammellaw18_AbsWidens.j3 kq l1 a2 x8_2 x9_2 x51_31 x178000_2 x178001_2 x178002_2 x178003_2 t179 t180 t181 t182 ((rd_T28 l1 x9_2).f0.f0) ((rd_T28 l1 x9_2).f0.f1) ((rd_T28 l1 x9_2).f1.f0) ((rd_T28 l1 x9_2).f1.f1) = some r) ∧ Aside0 (kq ≤ kj26) ∧ Aside0 (wc.heap[gb177]? = some (.cells #[.int .u64 x178000_2, .int .u64 x178001_2, .int .i64 x178002_2, .int .u64 x178003_2] 28 (0, 0))) ∧ Aside0 (wc.heap[gb183]? = some (.cells #[.int .u64 t179, .int .u64 t180, .int .i64 t181, .int .u64 t182] 28 (0, 0))) ∧ Aside0 (wc.heap[gb187]? = some (.cells #[.int .u64 ((rd_T28 l1 x9_2).f0.f0), .int .u64 ((rd_T28 l1 x9_2).f0.f1), .int .i64 ((rd_T28 l1 x9_2).f1.f0), .int .u64 ((rd_T28 l1 x9_2).f1.f1)] 28 (0, 0))) ∧ Aside0 (Below w.heap.size w wc))
                        case first =>
                          have H := HC32.out
                          clear HC32
                          replace H := Option.bind_eq_some_iff.mp H
                          obtain ⟨t188, A370, H⟩ := H
                          replace H : (if t188 = true then ((ivl_Within.f ((rd_T28 l1 x9_2).f0.f0) ((rd_T28 l1 x9_2).f0.f1) t179 t180).bind fun t189 => (trammellaw18_AbsWidens.j3 kj26 l1 a2 x8_2 x9_2 (!t189) x178000_2 x178001_2 x178002_2 x178003_2 t179 t180 t181 t182 ((rd_T28 l1 x9_2).f0.f0) ((rd_T28 l1 x9_2).f0.f1) ((rd_T28 l1 x9_2).f1.f0) ((rd_T28 l1 x9_2).f1.f1))) else (trammellaw18_AbsWidens.j3 kj26 l1 a2 x8_2 x9_2 true x178000_2 x178001_2 x178002_2 x178003_2 t179 t180 t181 t182 ((rd_T28 l1 x9_2).f0.f0) ((rd_T28 l1 x9_2).f0.f1) ((rd_T28 l1 x9_2).f1.f0) ((rd_T28 l1 x9_2).f1.f1))) = some r := H
                          have A37 := Aside0.mk A370
                          clear A370
                          by_cases c38 : t188 = true
                          · subst c38
                            have H1 : ((ivl_Within.f ((rd_T28 l1 x9_2).f0.f0) ((rd_T28 l1 x9_2).f0.f1) t179 t180).bind fun t189 => (trammellaw18_AbsWidens.j3 kj26 l1 a2 x8_2 x9_2 (!t189) x178000_2 x178001_2 x178002_2 x178003_2 t179 t180 t181 t182 ((rd_T28 l1 x9_2).f0.f0) ((rd_T28 l1 x9_2).f0.f1) ((rd_T28 l1 x9_2).f1.f0) ((rd_T28 l1 x9_2).f1.f1))) = some r := by rw [if_pos rfl] at H; exact H
                            clear H
                            have H := H1
                            clear H1
                            replace H := Option.bind_eq_some_iff.mp H
                            obtain ⟨t189, A390, H⟩ := H
                            replace H : (trammellaw18_AbsWidens.j3 kj26 l1 a2 x8_2 x9_2 (!t189) x178000_2 x178001_2 x178002_2 x178003_2 t179 t180 t181 t182 ((rd_T28 l1 x9_2).f0.f0) ((rd_T28 l1 x9_2).f0.f1) ((rd_T28 l1 x9_2).f1.f0) ((rd_T28 l1 x9_2).f1.f1)) = some r := H
                            have A39 := Aside0.mk A390
                            clear A390
                            have H' := Aside0.mk H
                            clear H
                            have hnb40 := NB187_177.out
                            have hnc40 := NB177_187.out
                            have hnb41 := NB187_183.out
                            have hnc41 := NB183_187.out
                            have hcz42_0 : w33.cell? ⟨gb187, 0, none⟩ = some (.int .u64 0) := (blk_cell BK187.out 0).trans rfl
                            have hcz42_1 : w33.cell? ⟨gb187, 1, none⟩ = some (.int .u64 0) := (blk_cell BK187.out 1).trans rfl
                            have hcz42_2 : w33.cell? ⟨gb187, 2, none⟩ = some (.int .i64 0) := (blk_cell BK187.out 2).trans rfl
                            have hcz42_3 : w33.cell? ⟨gb187, 3, none⟩ = some (.int .u64 0) := (blk_cell BK187.out 3).trans rfl
                            have hfz42_0 := blk_frozen BK187.out 0
                            have hfz42_1 := blk_frozen BK187.out 1
                            have hfz42_2 := blk_frozen BK187.out 2
                            have hfz42_3 := blk_frozen BK187.out 3
                            go_wp2_with (first | ((with_reducible refine gate_callee (f := 7) rfl ?_); refine goesL_ (some 42) rfl rfl Tryd.func7 (by kernel_rfl) rfl #[.agg #[.int .u64 ((rd_T28 l1 x9_2).f0.f0), .int .u64 ((rd_T28 l1 x9_2).f0.f1), .int .i64 ((rd_T28 l1 x9_2).f1.f0), .int .u64 ((rd_T28 l1 x9_2).f1.f1)]] rfl (by (try simp only [List.map_toArray, List.map_cons, List.map_nil]); first | done | rfl | (simp only [List.length_drop, List.length_take]; rfl)) ?_; (with_reducible refine (abs_Right.calls ((rd_T28 l1 x9_2).f0.f0) ((rd_T28 l1 x9_2).f0.f1) ((rd_T28 l1 x9_2).f1.f0) ((rd_T28 l1 x9_2).f1.f1) true _ A37.out).mono ?_); rintro e w43 ⟨rfl, hb⟩; refine ⟨_, rfl, ?_⟩; have n0_ := Aside0.mk (blk_below (g := gb177) (o := .cells #[.int .u64 x178000_2, .int .u64 x178001_2, .int .i64 x178002_2, .int .u64 x178003_2] 28 (0, 0)) (by (with_reducible repeat (first | refine blk_drewN ?_ _ | refine blk_drew ?_ | refine blk_alloc ?_ _)); refine blk_far ?_ NB177_187.out _; (with_reducible repeat (first | refine blk_drewN ?_ _ | refine blk_drew ?_ | refine blk_alloc ?_ _)); refine blk_far ?_ NB177_187.out _; (with_reducible repeat (first | refine blk_drewN ?_ _ | refine blk_drew ?_ | refine blk_alloc ?_ _)); refine blk_far ?_ NB177_187.out _; (with_reducible repeat (first | refine blk_drewN ?_ _ | refine blk_drew ?_ | refine blk_alloc ?_ _)); refine blk_far ?_ NB177_187.out _; (with_reducible repeat (first | refine blk_drewN ?_ _ | refine blk_drew ?_ | refine blk_alloc ?_ _)); exact BK177.out) hb); have n1_ := Aside0.mk (blk_below (g := gb183) (o := .cells #[.int .u64 t179, .int .u64 t180, .int .i64 t181, .int .u64 t182] 28 (0, 0)) (by (with_reducible repeat (first | refine blk_drewN ?_ _ | refine blk_drew ?_ | refine blk_alloc ?_ _)); refine blk_far ?_ NB183_187.out _; (with_reducible repeat (first | refine blk_drewN ?_ _ | refine blk_drew ?_ | refine blk_alloc ?_ _)); refine blk_far ?_ NB183_187.out _; (with_reducible repeat (first | refine blk_drewN ?_ _ | refine blk_drew ?_ | refine blk_alloc ?_ _)); refine blk_far ?_ NB183_187.out _; (with_reducible repeat (first | refine blk_drewN ?_ _ | refine blk_drew ?_ | refine blk_alloc ?_ _)); refine blk_far ?_ NB183_187.out _; (with_reducible repeat (first | refine blk_drewN ?_ _ | refine blk_drew ?_ | refine blk_alloc ?_ _)); exact BK183.out) hb); have n2_ := Aside0.mk (blk_below (g := gb187) (o := .cells #[.int .u64 ((rd_T28 l1 x9_2).f0.f0), .int .u64 ((rd_T28 l1 x9_2).f0.f1), .int .i64 ((rd_T28 l1 x9_2).f1.f0), .int .u64 ((rd_T28 l1 x9_2).f1.f1)] 28 (0, 0)) (by (with_reducible repeat (first | refine blk_drewN ?_ _ | refine blk_drew ?_ | refine blk_alloc ?_ _)); refine blk_put (cs := #[.int .u64 ((rd_T28 l1 x9_2).f0.f0), .int .u64 ((rd_T28 l1 x9_2).f0.f1), .int .i64 ((rd_T28 l1 x9_2).f1.f0), .int .u64 0]) ?_ 3 _ rfl; (with_reducible repeat (first | refine blk_drewN ?_ _ | refine blk_drew ?_ | refine blk_alloc ?_ _)); refine blk_put (cs := #[.int .u64 ((rd_T28 l1 x9_2).f0.f0), .int .u64 ((rd_T28 l1 x9_2).f0.f1), .int .i64 0, .int .u64 0]) ?_ 2 _ rfl; (with_reducible repeat (first | refine blk_drewN ?_ _ | refine blk_drew ?_ | refine blk_alloc ?_ _)); refine blk_put (cs := #[.int .u64 ((rd_T28 l1 x9_2).f0.f0), .int .u64 0, .int .i64 0, .int .u64 0]) ?_ 1 _ rfl; (with_reducible repeat (first | refine blk_drewN ?_ _ | refine blk_drew ?_ | refine blk_alloc ?_ _)); refine blk_put (cs := #[.int .u64 0, .int .u64 0, .int .i64 0, .int .u64 0]) ?_ 0 _ rfl; (with_reducible repeat (first | refine blk_drewN ?_ _ | refine blk_drew ?_ | refine blk_alloc ?_ _)); exact BK187.out) hb); have n3_ := Aside0.mk (below_step (by repeat (first | (with_reducible first | exact HB.out | apply below_alloc | apply pw_below_drewN | apply below_drew1 | refine below_set ?_ GE177.out | refine below_set ?_ GE183.out | refine below_set ?_ GE187.out) | exact HB.out)) hb); clear BK177; clear BK183; clear BK187; clear HB; have BK177 := n0_; have BK183 := n1_; have BK187 := n2_; have HB := n3_; clear n0_ n1_ n2_ n3_; (try clear hb); (try clear hb2); (try clear hk); (try clear hi); have hcz44_0 : w43.cell? ⟨gb187, 0, none⟩ = some (.int .u64 ((rd_T28 l1 x9_2).f0.f0)) := (blk_cell BK187.out 0).trans rfl; have hcz44_1 : w43.cell? ⟨gb187, 1, none⟩ = some (.int .u64 ((rd_T28 l1 x9_2).f0.f1)) := (blk_cell BK187.out 1).trans rfl; have hcz44_2 : w43.cell? ⟨gb187, 2, none⟩ = some (.int .i64 ((rd_T28 l1 x9_2).f1.f0)) := (blk_cell BK187.out 2).trans rfl; have hcz44_3 : w43.cell? ⟨gb187, 3, none⟩ = some (.int .u64 ((rd_T28 l1 x9_2).f1.f1)) := (blk_cell BK187.out 3).trans rfl; have hfz44_0 := blk_frozen BK187.out 0; have hfz44_1 := blk_frozen BK187.out 1; have hfz44_2 := blk_frozen BK187.out 2; have hfz44_3 := blk_frozen BK187.out 3; have hnb45 := NB183_177.out; have hnc45 := NB177_183.out; have hcz46_0 : w43.cell? ⟨gb183, 0, none⟩ = some (.int .u64 t179) := (blk_cell BK183.out 0).trans rfl; have hcz46_1 : w43.cell? ⟨gb183, 1, none⟩ = some (.int .u64 t180) := (blk_cell BK183.out 1).trans rfl; have hcz46_2 : w43.cell? ⟨gb183, 2, none⟩ = some (.int .i64 t181) := (blk_cell BK183.out 2).trans rfl; have hcz46_3 : w43.cell? ⟨gb183, 3, none⟩ = some (.int .u64 t182) := (blk_cell BK183.out 3).trans rfl; have hfz46_0 := blk_frozen BK183.out 0; have hfz46_1 := blk_frozen BK183.out 1; have hfz46_2 := blk_frozen BK183.out 2; have hfz46_3 := blk_frozen BK183.out 3) | (go_at_call 11; (with_reducible refine (ivl_Within.calls ((rd_T28 l1 x9_2).f0.f0) ((rd_T28 l1 x9_2).f0.f1) t179 t180 t189 _ A39.out).mono ?_); rintro e w47 ⟨rfl, hb⟩; have n0_ := Aside0.mk (blk_below (g := gb177) (o := .cells #[.int .u64 x178000_2, .int .u64 x178001_2, .int .i64 x178002_2, .int .u64 x178003_2] 28 (0, 0)) (by (with_reducible repeat (first | refine blk_drewN ?_ _ | refine blk_drew ?_ | refine blk_alloc ?_ _)); exact BK177.out) hb); have n1_ := Aside0.mk (blk_below (g := gb183) (o := .cells #[.int .u64 t179, .int .u64 t180, .int .i64 t181, .int .u64 t182] 28 (0, 0)) (by (with_reducible repeat (first | refine blk_drewN ?_ _ | refine blk_drew ?_ | refine blk_alloc ?_ _)); exact BK183.out) hb); have n2_ := Aside0.mk (blk_below (g := gb187) (o := .cells #[.int .u64 ((rd_T28 l1 x9_2).f0.f0), .int .u64 ((rd_T28 l1 x9_2).f0.f1), .int .i64 ((rd_T28 l1 x9_2).f1.f0), .int .u64 ((rd_T28 l1 x9_2).f1.f1)] 28 (0, 0)) (by (with_reducible repeat (first | refine blk_drewN ?_ _ | refine blk_drew ?_ | refine blk_alloc ?_ _)); exact BK187.out) hb); have n3_ := Aside0.mk (below_step (by repeat (first | (with_reducible first | exact HB.out | apply below_alloc | apply pw_below_drewN | apply below_drew1 | refine below_set ?_ GE177.out | refine below_set ?_ GE183.out | refine below_set ?_ GE187.out) | exact HB.out)) hb); clear BK177; clear BK183; clear BK187; clear HB; have BK177 := n0_; have BK183 := n1_; have BK187 := n2_; have HB := n3_; clear n0_ n1_ n2_ n3_; (try clear hb); (try clear hb2); (try clear hk); (try clear hi)))
                            go_meet
                            case rel => exact ⟨_, (!t189), (by first | rfl | (simp; done) | (simp [*]; done)), H', ⟨by have := HJ6.out; have := HK2.out; have := HJ26.out; first | omega | exact Nat.le_refl _⟩, ⟨by (with_reducible repeat (first | refine blk_drewN ?_ _ | refine blk_drew ?_ | refine blk_alloc ?_ _)); exact BK177.out⟩, ⟨by (with_reducible repeat (first | refine blk_drewN ?_ _ | refine blk_drew ?_ | refine blk_alloc ?_ _)); exact BK183.out⟩, ⟨by (with_reducible repeat (first | refine blk_drewN ?_ _ | refine blk_drew ?_ | refine blk_alloc ?_ _)); exact BK187.out⟩, ⟨by repeat (first | (with_reducible first | exact HB.out | apply below_alloc | apply pw_below_drewN | apply below_drew1 | refine below_set ?_ GE177.out | refine below_set ?_ GE183.out | refine below_set ?_ GE187.out) | exact HB.out)⟩⟩
                          · replace c38 := Bool.eq_false_iff.mpr c38
                            subst c38
                            have H1 : (trammellaw18_AbsWidens.j3 kj26 l1 a2 x8_2 x9_2 true x178000_2 x178001_2 x178002_2 x178003_2 t179 t180 t181 t182 ((rd_T28 l1 x9_2).f0.f0) ((rd_T28 l1 x9_2).f0.f1) ((rd_T28 l1 x9_2).f1.f0) ((rd_T28 l1 x9_2).f1.f1)) = some r := by rw [if_neg (show ¬ (false = true) by decide)] at H; exact H
                            clear H
                            have H := H1
                            clear H1
                            have H' := Aside0.mk H
                            clear H
                            have hnb48 := NB187_177.out
                            have hnc48 := NB177_187.out
                            have hnb49 := NB187_183.out
                            have hnc49 := NB183_187.out
                            have hcz50_0 : w33.cell? ⟨gb187, 0, none⟩ = some (.int .u64 0) := (blk_cell BK187.out 0).trans rfl
                            have hcz50_1 : w33.cell? ⟨gb187, 1, none⟩ = some (.int .u64 0) := (blk_cell BK187.out 1).trans rfl
                            have hcz50_2 : w33.cell? ⟨gb187, 2, none⟩ = some (.int .i64 0) := (blk_cell BK187.out 2).trans rfl
                            have hcz50_3 : w33.cell? ⟨gb187, 3, none⟩ = some (.int .u64 0) := (blk_cell BK187.out 3).trans rfl
                            have hfz50_0 := blk_frozen BK187.out 0
                            have hfz50_1 := blk_frozen BK187.out 1
                            have hfz50_2 := blk_frozen BK187.out 2
                            have hfz50_3 := blk_frozen BK187.out 3
                            go_wp2_with (first | ((with_reducible refine gate_callee (f := 7) rfl ?_); refine goesL_ (some 42) rfl rfl Tryd.func7 (by kernel_rfl) rfl #[.agg #[.int .u64 ((rd_T28 l1 x9_2).f0.f0), .int .u64 ((rd_T28 l1 x9_2).f0.f1), .int .i64 ((rd_T28 l1 x9_2).f1.f0), .int .u64 ((rd_T28 l1 x9_2).f1.f1)]] rfl (by (try simp only [List.map_toArray, List.map_cons, List.map_nil]); first | done | rfl | (simp only [List.length_drop, List.length_take]; rfl)) ?_; (with_reducible refine (abs_Right.calls ((rd_T28 l1 x9_2).f0.f0) ((rd_T28 l1 x9_2).f0.f1) ((rd_T28 l1 x9_2).f1.f0) ((rd_T28 l1 x9_2).f1.f1) false _ A37.out).mono ?_); rintro e w51 ⟨rfl, hb⟩; refine ⟨_, rfl, ?_⟩; have n0_ := Aside0.mk (blk_below (g := gb177) (o := .cells #[.int .u64 x178000_2, .int .u64 x178001_2, .int .i64 x178002_2, .int .u64 x178003_2] 28 (0, 0)) (by (with_reducible repeat (first | refine blk_drewN ?_ _ | refine blk_drew ?_ | refine blk_alloc ?_ _)); refine blk_far ?_ NB177_187.out _; (with_reducible repeat (first | refine blk_drewN ?_ _ | refine blk_drew ?_ | refine blk_alloc ?_ _)); refine blk_far ?_ NB177_187.out _; (with_reducible repeat (first | refine blk_drewN ?_ _ | refine blk_drew ?_ | refine blk_alloc ?_ _)); refine blk_far ?_ NB177_187.out _; (with_reducible repeat (first | refine blk_drewN ?_ _ | refine blk_drew ?_ | refine blk_alloc ?_ _)); refine blk_far ?_ NB177_187.out _; (with_reducible repeat (first | refine blk_drewN ?_ _ | refine blk_drew ?_ | refine blk_alloc ?_ _)); exact BK177.out) hb); have n1_ := Aside0.mk (blk_below (g := gb183) (o := .cells #[.int .u64 t179, .int .u64 t180, .int .i64 t181, .int .u64 t182] 28 (0, 0)) (by (with_reducible repeat (first | refine blk_drewN ?_ _ | refine blk_drew ?_ | refine blk_alloc ?_ _)); refine blk_far ?_ NB183_187.out _; (with_reducible repeat (first | refine blk_drewN ?_ _ | refine blk_drew ?_ | refine blk_alloc ?_ _)); refine blk_far ?_ NB183_187.out _; (with_reducible repeat (first | refine blk_drewN ?_ _ | refine blk_drew ?_ | refine blk_alloc ?_ _)); refine blk_far ?_ NB183_187.out _; (with_reducible repeat (first | refine blk_drewN ?_ _ | refine blk_drew ?_ | refine blk_alloc ?_ _)); refine blk_far ?_ NB183_187.out _; (with_reducible repeat (first | refine blk_drewN ?_ _ | refine blk_drew ?_ | refine blk_alloc ?_ _)); exact BK183.out) hb); have n2_ := Aside0.mk (blk_below (g := gb187) (o := .cells #[.int .u64 ((rd_T28 l1 x9_2).f0.f0), .int .u64 ((rd_T28 l1 x9_2).f0.f1), .int .i64 ((rd_T28 l1 x9_2).f1.f0), .int .u64 ((rd_T28 l1 x9_2).f1.f1)] 28 (0, 0)) (by (with_reducible repeat (first | refine blk_drewN ?_ _ | refine blk_drew ?_ | refine blk_alloc ?_ _)); refine blk_put (cs := #[.int .u64 ((rd_T28 l1 x9_2).f0.f0), .int .u64 ((rd_T28 l1 x9_2).f0.f1), .int .i64 ((rd_T28 l1 x9_2).f1.f0), .int .u64 0]) ?_ 3 _ rfl; (with_reducible repeat (first | refine blk_drewN ?_ _ | refine blk_drew ?_ | refine blk_alloc ?_ _)); refine blk_put (cs := #[.int .u64 ((rd_T28 l1 x9_2).f0.f0), .int .u64 ((rd_T28 l1 x9_2).f0.f1), .int .i64 0, .int .u64 0]) ?_ 2 _ rfl; (with_reducible repeat (first | refine blk_drewN ?_ _ | refine blk_drew ?_ | refine blk_alloc ?_ _)); refine blk_put (cs := #[.int .u64 ((rd_T28 l1 x9_2).f0.f0), .int .u64 0, .int .i64 0, .int .u64 0]) ?_ 1 _ rfl; (with_reducible repeat (first | refine blk_drewN ?_ _ | refine blk_drew ?_ | refine blk_alloc ?_ _)); refine blk_put (cs := #[.int .u64 0, .int .u64 0, .int .i64 0, .int .u64 0]) ?_ 0 _ rfl; (with_reducible repeat (first | refine blk_drewN ?_ _ | refine blk_drew ?_ | refine blk_alloc ?_ _)); exact BK187.out) hb); have n3_ := Aside0.mk (below_step (by repeat (first | (with_reducible first | exact HB.out | apply below_alloc | apply pw_below_drewN | apply below_drew1 | refine below_set ?_ GE177.out | refine below_set ?_ GE183.out | refine below_set ?_ GE187.out) | exact HB.out)) hb); clear BK177; clear BK183; clear BK187; clear HB; have BK177 := n0_; have BK183 := n1_; have BK187 := n2_; have HB := n3_; clear n0_ n1_ n2_ n3_; (try clear hb); (try clear hb2); (try clear hk); (try clear hi)))
                            go_meet
                            case rel => exact ⟨_, (true), (by first | rfl | (simp; done) | (simp [*]; done)), H', ⟨by have := HJ6.out; have := HK2.out; have := HJ26.out; first | omega | exact Nat.le_refl _⟩, ⟨by (with_reducible repeat (first | refine blk_drewN ?_ _ | refine blk_drew ?_ | refine blk_alloc ?_ _)); exact BK177.out⟩, ⟨by (with_reducible repeat (first | refine blk_drewN ?_ _ | refine blk_drew ?_ | refine blk_alloc ?_ _)); exact BK183.out⟩, ⟨by (with_reducible repeat (first | refine blk_drewN ?_ _ | refine blk_drew ?_ | refine blk_alloc ?_ _)); exact BK187.out⟩, ⟨by repeat (first | (with_reducible first | exact HB.out | apply below_alloc | apply pw_below_drewN | apply below_drew1 | refine below_set ?_ GE177.out | refine below_set ?_ GE183.out | refine below_set ?_ GE187.out) | exact HB.out)⟩⟩
                        case rest =>
                          clear HC32
                          try clear c1
                          try clear p1
                          try clear q1
                          try clear hx1
                          try clear c2
                          try clear p2
                          try clear c3
                          try clear c4
                          try clear c5
                          try clear c6
                          try clear c7
                          try clear c10
                          try clear c12
                          try clear c15
                          try clear c17
                          try clear p18
                          try clear q18
                          try clear hx18
                          try clear c23
                          try clear c26
                          try clear c28
                          try clear c28b0
                          try clear c29
                          try clear c30
                          try clear c30b0
                          try clear c31
                          try clear c31b0
                          try clear c34
                          try clear c35
                          try clear c38
                          try clear c40
                          try clear c41
                          try clear c45
                          try clear c48
                          try clear c49
                          try clear hcz13_0
                          try clear hcz13_1
                          try clear hcz13_2
                          try clear hcz13_3
                          try clear hcz18_0
                          try clear hcz18_1
                          try clear hcz18_2
                          try clear hcz18_3
                          try clear hcz20_0
                          try clear hcz20_1
                          try clear hcz20_2
                          try clear hcz20_3
                          try clear hcz21_0
                          try clear hcz21_1
                          try clear hcz21_2
                          try clear hcz21_3
                          try clear hcz24_0
                          try clear hcz24_1
                          try clear hcz24_2
                          try clear hcz24_3
                          try clear hcz36_0
                          try clear hcz36_1
                          try clear hcz36_2
                          try clear hcz36_3
                          try clear hcz42_0
                          try clear hcz42_1
                          try clear hcz42_2
                          try clear hcz42_3
                          try clear hcz44_0
                          try clear hcz44_1
                          try clear hcz44_2
                          try clear hcz44_3
                          try clear hcz46_0
                          try clear hcz46_1
                          try clear hcz46_2
                          try clear hcz46_3
                          try clear hcz50_0
                          try clear hcz50_1
                          try clear hcz50_2
                          try clear hcz50_3
                          try clear hfz13_0
                          try clear hfz13_1
                          try clear hfz13_2
                          try clear hfz13_3
                          try clear hfz18_0
                          try clear hfz18_1
                          try clear hfz18_2
                          try clear hfz18_3
                          try clear hfz20_0
                          try clear hfz20_1
                          try clear hfz20_2
                          try clear hfz20_3
                          try clear hfz21_0
                          try clear hfz21_1
                          try clear hfz21_2
                          try clear hfz21_3
                          try clear hfz24_0
                          try clear hfz24_1
                          try clear hfz24_2
                          try clear hfz24_3
                          try clear hfz36_0
                          try clear hfz36_1
                          try clear hfz36_2
                          try clear hfz36_3
                          try clear hfz42_0
                          try clear hfz42_1
                          try clear hfz42_2
                          try clear hfz42_3
                          try clear hfz44_0
                          try clear hfz44_1
                          try clear hfz44_2
                          try clear hfz44_3
                          try clear hfz46_0
                          try clear hfz46_1
                          try clear hfz46_2
                          try clear hfz46_3
                          try clear hfz50_0
                          try clear hfz50_1
                          try clear hfz50_2
                          try clear hfz50_3
                          try clear hx186_0
                          try clear hx186_1
                          try clear hx186_2
                          try clear hx186_3
                          try clear p186
                          try clear p2
                          try clear q186
                          obtain ⟨kq, x51_31, rfl, HA, HJ31, BK177, BK183, BK187, HB⟩ := hcut
                          cases kq with
                          | zero => exact absurd HA.out (by simp [trammellaw18_AbsWidens.j3])
                          | succ kj31 =>
                            have H := HA.out
                            clear HA
                            simp only [trammellaw18_AbsWidens.j3] at H
                            by_cases c52 : x51_31 = true
                            · subst c52
                              have H1 : (trammellaw18_AbsWidens.l0 kj31 l1 a2 x8_2 (wrap64 (x9_2 + 1)) x178000_2 x178001_2 x178002_2 x178003_2 t179 t180 t181 t182) = some r := by rw [if_pos rfl] at H; exact H
                              clear H
                              have H := H1
                              clear H1
                              have H' := Aside0.mk H
                              clear H
                              go_wp2
                              go_roundg kj31
                              case measure => have := HJ6.out; have := HK2.out; have := HJ26.out; have := HJ31.out; omega
                              case rel => exact ⟨(x8_2), (wrap64 (x9_2 + 1)), (x178000_2), (x178001_2), (x178002_2), (x178003_2), (by first | rfl | (simp; done) | (simp [*]; done)), (by first | rfl | (simp; done) | (simp [*]; done)), H', ⟨by have := HJ6.out; have := HK2.out; have := HJ26.out; have := HJ31.out; omega⟩, ⟨by (with_reducible repeat (first | refine blk_drewN ?_ _ | refine blk_drew ?_ | refine blk_alloc ?_ _)); exact BK177.out⟩, ⟨by (with_reducible repeat (first | refine blk_drewN ?_ _ | refine blk_drew ?_ | refine blk_alloc ?_ _)); exact BK183.out⟩, ⟨by repeat (first | (with_reducible first | exact HB.out | apply below_alloc | apply pw_below_drewN | apply below_drew1 | refine below_set ?_ GE177.out | refine below_set ?_ GE183.out | refine below_set ?_ GE187.out) | exact HB.out)⟩⟩
                            · replace c52 := Bool.eq_false_iff.mpr c52
                              subst c52
                              have H1 : ((abs_Widen.f x178000_2 x178001_2 x178002_2 x178003_2 ((rd_T28 l1 x9_2).f0.f0) ((rd_T28 l1 x9_2).f0.f1) ((rd_T28 l1 x9_2).f1.f0) ((rd_T28 l1 x9_2).f1.f1) a2).bind fun bt190 => ((abs_Within.f x178000_2 x178001_2 x178002_2 x178003_2 bt190.1 bt190.2.1 bt190.2.2.1 bt190.2.2.2).bind fun t195 => (if t195 = true then ((abs_Within.f ((rd_T28 l1 x9_2).f0.f0) ((rd_T28 l1 x9_2).f0.f1) ((rd_T28 l1 x9_2).f1.f0) ((rd_T28 l1 x9_2).f1.f1) bt190.1 bt190.2.1 bt190.2.2.1 bt190.2.2.2).bind fun t196 => (if t196 = true then ((ivl_Within.f bt190.1 bt190.2.1 t179 t180).bind fun t197 => (if t197 = true then ((abs_Right.f bt190.1 bt190.2.1 bt190.2.2.1 bt190.2.2.2).bind fun t198 => (trammellaw18_AbsWidens.j4 kj31 l1 a2 x8_2 x9_2 (!t198) x178000_2 x178001_2 x178002_2 x178003_2 t179 t180 t181 t182 ((rd_T28 l1 x9_2).f0.f0) ((rd_T28 l1 x9_2).f0.f1) ((rd_T28 l1 x9_2).f1.f0) ((rd_T28 l1 x9_2).f1.f1) bt190.1 bt190.2.1 bt190.2.2.1 bt190.2.2.2)) else (trammellaw18_AbsWidens.j4 kj31 l1 a2 x8_2 x9_2 true x178000_2 x178001_2 x178002_2 x178003_2 t179 t180 t181 t182 ((rd_T28 l1 x9_2).f0.f0) ((rd_T28 l1 x9_2).f0.f1) ((rd_T28 l1 x9_2).f1.f0) ((rd_T28 l1 x9_2).f1.f1) bt190.1 bt190.2.1 bt190.2.2.1 bt190.2.2.2))) else (trammellaw18_AbsWidens.j4 kj31 l1 a2 x8_2 x9_2 true x178000_2 x178001_2 x178002_2 x178003_2 t179 t180 t181 t182 ((rd_T28 l1 x9_2).f0.f0) ((rd_T28 l1 x9_2).f0.f1) ((rd_T28 l1 x9_2).f1.f0) ((rd_T28 l1 x9_2).f1.f1) bt190.1 bt190.2.1 bt190.2.2.1 bt190.2.2.2))) else (trammellaw18_AbsWidens.j4 kj31 l1 a2 x8_2 x9_2 true x178000_2 x178001_2 x178002_2 x178003_2 t179 t180 t181 t182 ((rd_T28 l1 x9_2).f0.f0) ((rd_T28 l1 x9_2).f0.f1) ((rd_T28 l1 x9_2).f1.f0) ((rd_T28 l1 x9_2).f1.f1) bt190.1 bt190.2.1 bt190.2.2.1 bt190.2.2.2)))) = some r := by rw [if_neg (show ¬ (false = true) by decide)] at H; exact H
                              clear H
                              have H := H1
                              clear H1
                              replace H := Option.bind_eq_some_iff.mp H
                              obtain ⟨⟨t190, t191, t192, t193⟩, A530, H⟩ := H
                              replace H : ((abs_Within.f x178000_2 x178001_2 x178002_2 x178003_2 t190 t191 t192 t193).bind fun t195 => (if t195 = true then ((abs_Within.f ((rd_T28 l1 x9_2).f0.f0) ((rd_T28 l1 x9_2).f0.f1) ((rd_T28 l1 x9_2).f1.f0) ((rd_T28 l1 x9_2).f1.f1) t190 t191 t192 t193).bind fun t196 => (if t196 = true then ((ivl_Within.f t190 t191 t179 t180).bind fun t197 => (if t197 = true then ((abs_Right.f t190 t191 t192 t193).bind fun t198 => (trammellaw18_AbsWidens.j4 kj31 l1 a2 x8_2 x9_2 (!t198) x178000_2 x178001_2 x178002_2 x178003_2 t179 t180 t181 t182 ((rd_T28 l1 x9_2).f0.f0) ((rd_T28 l1 x9_2).f0.f1) ((rd_T28 l1 x9_2).f1.f0) ((rd_T28 l1 x9_2).f1.f1) t190 t191 t192 t193)) else (trammellaw18_AbsWidens.j4 kj31 l1 a2 x8_2 x9_2 true x178000_2 x178001_2 x178002_2 x178003_2 t179 t180 t181 t182 ((rd_T28 l1 x9_2).f0.f0) ((rd_T28 l1 x9_2).f0.f1) ((rd_T28 l1 x9_2).f1.f0) ((rd_T28 l1 x9_2).f1.f1) t190 t191 t192 t193))) else (trammellaw18_AbsWidens.j4 kj31 l1 a2 x8_2 x9_2 true x178000_2 x178001_2 x178002_2 x178003_2 t179 t180 t181 t182 ((rd_T28 l1 x9_2).f0.f0) ((rd_T28 l1 x9_2).f0.f1) ((rd_T28 l1 x9_2).f1.f0) ((rd_T28 l1 x9_2).f1.f1) t190 t191 t192 t193))) else (trammellaw18_AbsWidens.j4 kj31 l1 a2 x8_2 x9_2 true x178000_2 x178001_2 x178002_2 x178003_2 t179 t180 t181 t182 ((rd_T28 l1 x9_2).f0.f0) ((rd_T28 l1 x9_2).f0.f1) ((rd_T28 l1 x9_2).f1.f0) ((rd_T28 l1 x9_2).f1.f1) t190 t191 t192 t193))) = some r := H
                              have A53 := Aside0.mk A530
                              clear A530
                              have HC54 := Aside0.mk H
                              clear H
                              have hnb55 := NB177_183.out
                              have hnc55 := NB183_177.out
                              have hnb56 := NB177_187.out
                              have hnc56 := NB187_177.out
                              have hcz57_0 : wc.cell? ⟨gb177, 0, none⟩ = some (.int .u64 x178000_2) := (blk_cell BK177.out 0).trans rfl
                              have hcz57_1 : wc.cell? ⟨gb177, 1, none⟩ = some (.int .u64 x178001_2) := (blk_cell BK177.out 1).trans rfl
                              have hcz57_2 : wc.cell? ⟨gb177, 2, none⟩ = some (.int .i64 x178002_2) := (blk_cell BK177.out 2).trans rfl
                              have hcz57_3 : wc.cell? ⟨gb177, 3, none⟩ = some (.int .u64 x178003_2) := (blk_cell BK177.out 3).trans rfl
                              have hfz57_0 := blk_frozen BK177.out 0
                              have hfz57_1 := blk_frozen BK177.out 1
                              have hfz57_2 := blk_frozen BK177.out 2
                              have hfz57_3 := blk_frozen BK177.out 3
                              have hnb58 := NB187_183.out
                              have hnc58 := NB183_187.out
                              have hcz59_0 : wc.cell? ⟨gb187, 0, none⟩ = some (.int .u64 ((rd_T28 l1 x9_2).f0.f0)) := (blk_cell BK187.out 0).trans rfl
                              have hcz59_1 : wc.cell? ⟨gb187, 1, none⟩ = some (.int .u64 ((rd_T28 l1 x9_2).f0.f1)) := (blk_cell BK187.out 1).trans rfl
                              have hcz59_2 : wc.cell? ⟨gb187, 2, none⟩ = some (.int .i64 ((rd_T28 l1 x9_2).f1.f0)) := (blk_cell BK187.out 2).trans rfl
                              have hcz59_3 : wc.cell? ⟨gb187, 3, none⟩ = some (.int .u64 ((rd_T28 l1 x9_2).f1.f1)) := (blk_cell BK187.out 3).trans rfl
                              have hfz59_0 := blk_frozen BK187.out 0
                              have hfz59_1 := blk_frozen BK187.out 1
                              have hfz59_2 := blk_frozen BK187.out 2
                              have hfz59_3 := blk_frozen BK187.out 3
                              go_upto_region 13 with (first | ((with_reducible refine gate_callee (f := 12) rfl ?_); refine goesL_ (some 55) rfl rfl Tryd.func12 (by kernel_rfl) rfl #[.agg #[.int .u64 x178000_2, .int .u64 x178001_2, .int .i64 x178002_2, .int .u64 x178003_2], .agg #[.int .u64 ((rd_T28 l1 x9_2).f0.f0), .int .u64 ((rd_T28 l1 x9_2).f0.f1), .int .i64 ((rd_T28 l1 x9_2).f1.f0), .int .u64 ((rd_T28 l1 x9_2).f1.f1)], .int .i64 a2] rfl (by (try simp only [List.map_toArray, List.map_cons, List.map_nil]); first | done | rfl | (simp only [List.length_drop, List.length_take]; rfl)) ?_; (with_reducible refine (abs_Widen.calls x178000_2 x178001_2 x178002_2 x178003_2 ((rd_T28 l1 x9_2).f0.f0) ((rd_T28 l1 x9_2).f0.f1) ((rd_T28 l1 x9_2).f1.f0) ((rd_T28 l1 x9_2).f1.f1) a2 t190 t191 t192 t193 _ ?side1 A53.out).mono ?_); (case side1 => exact tabs_below HT.out (by repeat (first | (with_reducible first | exact HB.out | apply below_alloc | apply pw_below_drewN | apply below_drew1 | refine below_set ?_ GE177.out | refine below_set ?_ GE183.out | refine below_set ?_ GE187.out) | exact HB.out))); rintro e w60 ⟨rfl, hb⟩; refine ⟨_, rfl, ?_⟩; have n0_ := Aside0.mk (blk_below (g := gb177) (o := .cells #[.int .u64 x178000_2, .int .u64 x178001_2, .int .i64 x178002_2, .int .u64 x178003_2] 28 (0, 0)) (by (with_reducible repeat (first | refine blk_drewN ?_ _ | refine blk_drew ?_ | refine blk_alloc ?_ _)); exact BK177.out) hb); have n1_ := Aside0.mk (blk_below (g := gb183) (o := .cells #[.int .u64 t179, .int .u64 t180, .int .i64 t181, .int .u64 t182] 28 (0, 0)) (by (with_reducible repeat (first | refine blk_drewN ?_ _ | refine blk_drew ?_ | refine blk_alloc ?_ _)); exact BK183.out) hb); have n2_ := Aside0.mk (blk_below (g := gb187) (o := .cells #[.int .u64 ((rd_T28 l1 x9_2).f0.f0), .int .u64 ((rd_T28 l1 x9_2).f0.f1), .int .i64 ((rd_T28 l1 x9_2).f1.f0), .int .u64 ((rd_T28 l1 x9_2).f1.f1)] 28 (0, 0)) (by (with_reducible repeat (first | refine blk_drewN ?_ _ | refine blk_drew ?_ | refine blk_alloc ?_ _)); exact BK187.out) hb); have n3_ := Aside0.mk (below_step (by repeat (first | (with_reducible first | exact HB.out | apply below_alloc | apply pw_below_drewN | apply below_drew1 | refine below_set ?_ GE177.out | refine below_set ?_ GE183.out | refine below_set ?_ GE187.out) | exact HB.out)) hb); clear BK177; clear BK183; clear BK187; clear HB; have BK177 := n0_; have BK183 := n1_; have BK187 := n2_; have HB := n3_; clear n0_ n1_ n2_ n3_; (try clear hb); (try clear hb2); (try clear hk); (try clear hi)) | ((with_reducible refine gate_dst (N := 11) rfl ?_); refine box_event ?hg (N := 11) ?hd (cs := #[.int .u64 0, .int .u64 0, .int .i64 0, .int .u64 0]) (t := 28) ?hr ?_; (case hd => rfl); (case hg => rfl); (case hr => first | (go_simp; done) | (go_simp; rfl)); intro gb194 hg w61 hbox hb; have n0_ := Aside0.mk (blk_below (g := gb177) (o := .cells #[.int .u64 x178000_2, .int .u64 x178001_2, .int .i64 x178002_2, .int .u64 x178003_2] 28 (0, 0)) (by (with_reducible repeat (first | refine blk_drewN ?_ _ | refine blk_drew ?_ | refine blk_alloc ?_ _)); exact BK177.out) hb); have n1_ := Aside0.mk (blk_below (g := gb183) (o := .cells #[.int .u64 t179, .int .u64 t180, .int .i64 t181, .int .u64 t182] 28 (0, 0)) (by (with_reducible repeat (first | refine blk_drewN ?_ _ | refine blk_drew ?_ | refine blk_alloc ?_ _)); exact BK183.out) hb); have n2_ := Aside0.mk (blk_below (g := gb187) (o := .cells #[.int .u64 ((rd_T28 l1 x9_2).f0.f0), .int .u64 ((rd_T28 l1 x9_2).f0.f1), .int .i64 ((rd_T28 l1 x9_2).f1.f0), .int .u64 ((rd_T28 l1 x9_2).f1.f1)] 28 (0, 0)) (by (with_reducible repeat (first | refine blk_drewN ?_ _ | refine blk_drew ?_ | refine blk_alloc ?_ _)); exact BK187.out) hb); have n3_ := Aside0.mk (below_step (by repeat (first | (with_reducible first | exact HB.out | apply below_alloc | apply pw_below_drewN | apply below_drew1 | refine below_set ?_ GE177.out | refine below_set ?_ GE183.out | refine below_set ?_ GE187.out) | exact HB.out)) hb); have n4_ := Aside0.mk (hbox); have n5_ := Aside0.mk ((by rw [hg]; exact (below_size (by repeat (first | (with_reducible first | exact HB.out | apply below_alloc | apply pw_below_drewN | apply below_drew1 | refine below_set ?_ GE177.out | refine below_set ?_ GE183.out | refine below_set ?_ GE187.out) | exact HB.out))) : w.heap.size ≤ gb194)); have n6_ := Aside0.mk ((by rw [hg]; exact (below_size (by repeat (first | (with_reducible first | exact HB.out | apply below_alloc | apply pw_below_drewN | apply below_drew1 | refine below_set ?_ GE177.out | refine below_set ?_ GE183.out | refine below_set ?_ GE187.out) | exact HB.out))) : w.heap.size ≤ gb194)); have n7_ := Aside0.mk ((by rw [hg]; exact Nat.ne_of_lt (blk_lt (g := gb177) (o := .cells #[.int .u64 x178000_2, .int .u64 x178001_2, .int .i64 x178002_2, .int .u64 x178003_2] 28 (0, 0)) (by (with_reducible repeat (first | refine blk_drewN ?_ _ | refine blk_drew ?_ | refine blk_alloc ?_ _)); exact BK177.out)) : gb177 ≠ gb194)); have n8_ := Aside0.mk ((by rw [hg]; exact Nat.ne_of_gt (blk_lt (g := gb177) (o := .cells #[.int .u64 x178000_2, .int .u64 x178001_2, .int .i64 x178002_2, .int .u64 x178003_2] 28 (0, 0)) (by (with_reducible repeat (first | refine blk_drewN ?_ _ | refine blk_drew ?_ | refine blk_alloc ?_ _)); exact BK177.out)) : gb194 ≠ gb177)); have n9_ := Aside0.mk ((by rw [hg]; exact Nat.ne_of_lt (blk_lt (g := gb183) (o := .cells #[.int .u64 t179, .int .u64 t180, .int .i64 t181, .int .u64 t182] 28 (0, 0)) (by (with_reducible repeat (first | refine blk_drewN ?_ _ | refine blk_drew ?_ | refine blk_alloc ?_ _)); exact BK183.out)) : gb183 ≠ gb194)); have n10_ := Aside0.mk ((by rw [hg]; exact Nat.ne_of_gt (blk_lt (g := gb183) (o := .cells #[.int .u64 t179, .int .u64 t180, .int .i64 t181, .int .u64 t182] 28 (0, 0)) (by (with_reducible repeat (first | refine blk_drewN ?_ _ | refine blk_drew ?_ | refine blk_alloc ?_ _)); exact BK183.out)) : gb194 ≠ gb183)); have n11_ := Aside0.mk ((by rw [hg]; exact Nat.ne_of_lt (blk_lt (g := gb187) (o := .cells #[.int .u64 ((rd_T28 l1 x9_2).f0.f0), .int .u64 ((rd_T28 l1 x9_2).f0.f1), .int .i64 ((rd_T28 l1 x9_2).f1.f0), .int .u64 ((rd_T28 l1 x9_2).f1.f1)] 28 (0, 0)) (by (with_reducible repeat (first | refine blk_drewN ?_ _ | refine blk_drew ?_ | refine blk_alloc ?_ _)); exact BK187.out)) : gb187 ≠ gb194)); have n12_ := Aside0.mk ((by rw [hg]; exact Nat.ne_of_gt (blk_lt (g := gb187) (o := .cells #[.int .u64 ((rd_T28 l1 x9_2).f0.f0), .int .u64 ((rd_T28 l1 x9_2).f0.f1), .int .i64 ((rd_T28 l1 x9_2).f1.f0), .int .u64 ((rd_T28 l1 x9_2).f1.f1)] 28 (0, 0)) (by (with_reducible repeat (first | refine blk_drewN ?_ _ | refine blk_drew ?_ | refine blk_alloc ?_ _)); exact BK187.out)) : gb194 ≠ gb187)); clear BK177; clear BK183; clear BK187; clear HB; have BK177 := n0_; have BK183 := n1_; have BK187 := n2_; have HB := n3_; have BK194 := n4_; have GW194 := n5_; have GE194 := n6_; have NB177_194 := n7_; have NB194_177 := n8_; have NB183_194 := n9_; have NB194_183 := n10_; have NB187_194 := n11_; have NB194_187 := n12_; clear n0_ n1_ n2_ n3_ n4_ n5_ n6_ n7_ n8_ n9_ n10_ n11_ n12_; clear hb hbox hg; have hnb62 := NB194_177.out; have hnc62 := NB177_194.out; have hnb63 := NB194_183.out; have hnc63 := NB183_194.out; have hnb64 := NB194_187.out; have hnc64 := NB187_194.out; have hcz65_0 : w61.cell? ⟨gb194, 0, none⟩ = some (.int .u64 0) := (blk_cell BK194.out 0).trans rfl; have hcz65_1 : w61.cell? ⟨gb194, 1, none⟩ = some (.int .u64 0) := (blk_cell BK194.out 1).trans rfl; have hcz65_2 : w61.cell? ⟨gb194, 2, none⟩ = some (.int .i64 0) := (blk_cell BK194.out 2).trans rfl; have hcz65_3 : w61.cell? ⟨gb194, 3, none⟩ = some (.int .u64 0) := (blk_cell BK194.out 3).trans rfl; have hfz65_0 := blk_frozen BK194.out 0; have hfz65_1 := blk_frozen BK194.out 1; have hfz65_2 := blk_frozen BK194.out 2; have hfz65_3 := blk_frozen BK194.out 3))
                              (try simp only [Act.put, List.setIfInBounds_toArray, List.set_cons_zero, List.set_cons_succ])
                              go_cut [78] (fun v78 wc => ∃ (kq : Nat) (x78_53 : Bool), v78 = .bool x78_53 ∧ Aside0 (trammellaw18_AbsWidens.j4 kq l1 a2 x8_2 x9_2 x78_53 x178000_2 x178001_2 x178002_2 x178003_2 t179 t180 t181 t182 ((rd_T28 l1 x9_2).f0.f0) ((rd_T28 l1 x9_2).f0.f1) ((rd_T28 l1 x9_2).f1.f0) ((rd_T28 l1 x9_2).f1.f1) t190 t191 t192 t193 = some r) ∧ Aside0 (kq ≤ kj31) ∧ Aside0 (wc.heap[gb177]? = some (.cells #[.int .u64 x178000_2, .int .u64 x178001_2, .int .i64 x178002_2, .int .u64 x178003_2] 28 (0, 0))) ∧ Aside0 (wc.heap[gb183]? = some (.cells #[.int .u64 t179, .int .u64 t180, .int .i64 t181, .int .u64 t182] 28 (0, 0))) ∧ Aside0 (wc.heap[gb187]? = some (.cells #[.int .u64 ((rd_T28 l1 x9_2).f0.f0), .int .u64 ((rd_T28 l1 x9_2).f0.f1), .int .i64 ((rd_T28 l1 x9_2).f1.f0), .int .u64 ((rd_T28 l1 x9_2).f1.f1)] 28 (0, 0))) ∧ Aside0 (wc.heap[gb194]? = some (.cells #[.int .u64 t190, .int .u64 t191, .int .i64 t192, .int .u64 t193] 28 (0, 0))) ∧ Aside0 (Below w.heap.size w wc))
                              case first =>
                                have H := HC54.out
                                clear HC54
                                replace H := Option.bind_eq_some_iff.mp H
                                obtain ⟨t195, A660, H⟩ := H
                                replace H : (if t195 = true then ((abs_Within.f ((rd_T28 l1 x9_2).f0.f0) ((rd_T28 l1 x9_2).f0.f1) ((rd_T28 l1 x9_2).f1.f0) ((rd_T28 l1 x9_2).f1.f1) t190 t191 t192 t193).bind fun t196 => (if t196 = true then ((ivl_Within.f t190 t191 t179 t180).bind fun t197 => (if t197 = true then ((abs_Right.f t190 t191 t192 t193).bind fun t198 => (trammellaw18_AbsWidens.j4 kj31 l1 a2 x8_2 x9_2 (!t198) x178000_2 x178001_2 x178002_2 x178003_2 t179 t180 t181 t182 ((rd_T28 l1 x9_2).f0.f0) ((rd_T28 l1 x9_2).f0.f1) ((rd_T28 l1 x9_2).f1.f0) ((rd_T28 l1 x9_2).f1.f1) t190 t191 t192 t193)) else (trammellaw18_AbsWidens.j4 kj31 l1 a2 x8_2 x9_2 true x178000_2 x178001_2 x178002_2 x178003_2 t179 t180 t181 t182 ((rd_T28 l1 x9_2).f0.f0) ((rd_T28 l1 x9_2).f0.f1) ((rd_T28 l1 x9_2).f1.f0) ((rd_T28 l1 x9_2).f1.f1) t190 t191 t192 t193))) else (trammellaw18_AbsWidens.j4 kj31 l1 a2 x8_2 x9_2 true x178000_2 x178001_2 x178002_2 x178003_2 t179 t180 t181 t182 ((rd_T28 l1 x9_2).f0.f0) ((rd_T28 l1 x9_2).f0.f1) ((rd_T28 l1 x9_2).f1.f0) ((rd_T28 l1 x9_2).f1.f1) t190 t191 t192 t193))) else (trammellaw18_AbsWidens.j4 kj31 l1 a2 x8_2 x9_2 true x178000_2 x178001_2 x178002_2 x178003_2 t179 t180 t181 t182 ((rd_T28 l1 x9_2).f0.f0) ((rd_T28 l1 x9_2).f0.f1) ((rd_T28 l1 x9_2).f1.f0) ((rd_T28 l1 x9_2).f1.f1) t190 t191 t192 t193)) = some r := H
                                have A66 := Aside0.mk A660
                                clear A660
                                by_cases c67 : t195 = true
                                · subst c67
                                  have H1 : ((abs_Within.f ((rd_T28 l1 x9_2).f0.f0) ((rd_T28 l1 x9_2).f0.f1) ((rd_T28 l1 x9_2).f1.f0) ((rd_T28 l1 x9_2).f1.f1) t190 t191 t192 t193).bind fun t196 => (if t196 = true then ((ivl_Within.f t190 t191 t179 t180).bind fun t197 => (if t197 = true then ((abs_Right.f t190 t191 t192 t193).bind fun t198 => (trammellaw18_AbsWidens.j4 kj31 l1 a2 x8_2 x9_2 (!t198) x178000_2 x178001_2 x178002_2 x178003_2 t179 t180 t181 t182 ((rd_T28 l1 x9_2).f0.f0) ((rd_T28 l1 x9_2).f0.f1) ((rd_T28 l1 x9_2).f1.f0) ((rd_T28 l1 x9_2).f1.f1) t190 t191 t192 t193)) else (trammellaw18_AbsWidens.j4 kj31 l1 a2 x8_2 x9_2 true x178000_2 x178001_2 x178002_2 x178003_2 t179 t180 t181 t182 ((rd_T28 l1 x9_2).f0.f0) ((rd_T28 l1 x9_2).f0.f1) ((rd_T28 l1 x9_2).f1.f0) ((rd_T28 l1 x9_2).f1.f1) t190 t191 t192 t193))) else (trammellaw18_AbsWidens.j4 kj31 l1 a2 x8_2 x9_2 true x178000_2 x178001_2 x178002_2 x178003_2 t179 t180 t181 t182 ((rd_T28 l1 x9_2).f0.f0) ((rd_T28 l1 x9_2).f0.f1) ((rd_T28 l1 x9_2).f1.f0) ((rd_T28 l1 x9_2).f1.f1) t190 t191 t192 t193))) = some r := by rw [if_pos rfl] at H; exact H
                                  clear H
                                  have H := H1
                                  clear H1
                                  replace H := Option.bind_eq_some_iff.mp H
                                  obtain ⟨t196, A680, H⟩ := H
                                  replace H : (if t196 = true then ((ivl_Within.f t190 t191 t179 t180).bind fun t197 => (if t197 = true then ((abs_Right.f t190 t191 t192 t193).bind fun t198 => (trammellaw18_AbsWidens.j4 kj31 l1 a2 x8_2 x9_2 (!t198) x178000_2 x178001_2 x178002_2 x178003_2 t179 t180 t181 t182 ((rd_T28 l1 x9_2).f0.f0) ((rd_T28 l1 x9_2).f0.f1) ((rd_T28 l1 x9_2).f1.f0) ((rd_T28 l1 x9_2).f1.f1) t190 t191 t192 t193)) else (trammellaw18_AbsWidens.j4 kj31 l1 a2 x8_2 x9_2 true x178000_2 x178001_2 x178002_2 x178003_2 t179 t180 t181 t182 ((rd_T28 l1 x9_2).f0.f0) ((rd_T28 l1 x9_2).f0.f1) ((rd_T28 l1 x9_2).f1.f0) ((rd_T28 l1 x9_2).f1.f1) t190 t191 t192 t193))) else (trammellaw18_AbsWidens.j4 kj31 l1 a2 x8_2 x9_2 true x178000_2 x178001_2 x178002_2 x178003_2 t179 t180 t181 t182 ((rd_T28 l1 x9_2).f0.f0) ((rd_T28 l1 x9_2).f0.f1) ((rd_T28 l1 x9_2).f1.f0) ((rd_T28 l1 x9_2).f1.f1) t190 t191 t192 t193)) = some r := H
                                  have A68 := Aside0.mk A680
                                  clear A680
                                  by_cases c69 : t196 = true
                                  · subst c69
                                    have H1 : ((ivl_Within.f t190 t191 t179 t180).bind fun t197 => (if t197 = true then ((abs_Right.f t190 t191 t192 t193).bind fun t198 => (trammellaw18_AbsWidens.j4 kj31 l1 a2 x8_2 x9_2 (!t198) x178000_2 x178001_2 x178002_2 x178003_2 t179 t180 t181 t182 ((rd_T28 l1 x9_2).f0.f0) ((rd_T28 l1 x9_2).f0.f1) ((rd_T28 l1 x9_2).f1.f0) ((rd_T28 l1 x9_2).f1.f1) t190 t191 t192 t193)) else (trammellaw18_AbsWidens.j4 kj31 l1 a2 x8_2 x9_2 true x178000_2 x178001_2 x178002_2 x178003_2 t179 t180 t181 t182 ((rd_T28 l1 x9_2).f0.f0) ((rd_T28 l1 x9_2).f0.f1) ((rd_T28 l1 x9_2).f1.f0) ((rd_T28 l1 x9_2).f1.f1) t190 t191 t192 t193))) = some r := by rw [if_pos rfl] at H; exact H
                                    clear H
                                    have H := H1
                                    clear H1
                                    replace H := Option.bind_eq_some_iff.mp H
                                    obtain ⟨t197, A700, H⟩ := H
                                    replace H : (if t197 = true then ((abs_Right.f t190 t191 t192 t193).bind fun t198 => (trammellaw18_AbsWidens.j4 kj31 l1 a2 x8_2 x9_2 (!t198) x178000_2 x178001_2 x178002_2 x178003_2 t179 t180 t181 t182 ((rd_T28 l1 x9_2).f0.f0) ((rd_T28 l1 x9_2).f0.f1) ((rd_T28 l1 x9_2).f1.f0) ((rd_T28 l1 x9_2).f1.f1) t190 t191 t192 t193)) else (trammellaw18_AbsWidens.j4 kj31 l1 a2 x8_2 x9_2 true x178000_2 x178001_2 x178002_2 x178003_2 t179 t180 t181 t182 ((rd_T28 l1 x9_2).f0.f0) ((rd_T28 l1 x9_2).f0.f1) ((rd_T28 l1 x9_2).f1.f0) ((rd_T28 l1 x9_2).f1.f1) t190 t191 t192 t193)) = some r := H
                                    have A70 := Aside0.mk A700
                                    clear A700
                                    by_cases c71 : t197 = true
                                    · subst c71
                                      have H1 : ((abs_Right.f t190 t191 t192 t193).bind fun t198 => (trammellaw18_AbsWidens.j4 kj31 l1 a2 x8_2 x9_2 (!t198) x178000_2 x178001_2 x178002_2 x178003_2 t179 t180 t181 t182 ((rd_T28 l1 x9_2).f0.f0) ((rd_T28 l1 x9_2).f0.f1) ((rd_T28 l1 x9_2).f1.f0) ((rd_T28 l1 x9_2).f1.f1) t190 t191 t192 t193)) = some r := by rw [if_pos rfl] at H; exact H
                                      clear H
                                      have H := H1
                                      clear H1
                                      replace H := Option.bind_eq_some_iff.mp H
                                      obtain ⟨t198, A720, H⟩ := H
                                      replace H : (trammellaw18_AbsWidens.j4 kj31 l1 a2 x8_2 x9_2 (!t198) x178000_2 x178001_2 x178002_2 x178003_2 t179 t180 t181 t182 ((rd_T28 l1 x9_2).f0.f0) ((rd_T28 l1 x9_2).f0.f1) ((rd_T28 l1 x9_2).f1.f0) ((rd_T28 l1 x9_2).f1.f1) t190 t191 t192 t193) = some r := H
                                      have A72 := Aside0.mk A720
                                      clear A720
                                      have H' := Aside0.mk H
                                      clear H
                                      have hnb73 := NB177_183.out
                                      have hnc73 := NB183_177.out
                                      have hnb74 := NB177_187.out
                                      have hnc74 := NB187_177.out
                                      have hnb75 := NB177_194.out
                                      have hnc75 := NB194_177.out
                                      have hcz76_0 : w61.cell? ⟨gb177, 0, none⟩ = some (.int .u64 x178000_2) := (blk_cell BK177.out 0).trans rfl
                                      have hcz76_1 : w61.cell? ⟨gb177, 1, none⟩ = some (.int .u64 x178001_2) := (blk_cell BK177.out 1).trans rfl
                                      have hcz76_2 : w61.cell? ⟨gb177, 2, none⟩ = some (.int .i64 x178002_2) := (blk_cell BK177.out 2).trans rfl
                                      have hcz76_3 : w61.cell? ⟨gb177, 3, none⟩ = some (.int .u64 x178003_2) := (blk_cell BK177.out 3).trans rfl
                                      have hfz76_0 := blk_frozen BK177.out 0
                                      have hfz76_1 := blk_frozen BK177.out 1
                                      have hfz76_2 := blk_frozen BK177.out 2
                                      have hfz76_3 := blk_frozen BK177.out 3
                                      have hnb77 := NB194_183.out
                                      have hnc77 := NB183_194.out
                                      have hnb78 := NB194_187.out
                                      have hnc78 := NB187_194.out
                                      have hcz79_0 : w61.cell? ⟨gb194, 0, none⟩ = some (.int .u64 0) := (blk_cell BK194.out 0).trans rfl
                                      have hcz79_1 : w61.cell? ⟨gb194, 1, none⟩ = some (.int .u64 0) := (blk_cell BK194.out 1).trans rfl
                                      have hcz79_2 : w61.cell? ⟨gb194, 2, none⟩ = some (.int .i64 0) := (blk_cell BK194.out 2).trans rfl
                                      have hcz79_3 : w61.cell? ⟨gb194, 3, none⟩ = some (.int .u64 0) := (blk_cell BK194.out 3).trans rfl
                                      have hfz79_0 := blk_frozen BK194.out 0
                                      have hfz79_1 := blk_frozen BK194.out 1
                                      have hfz79_2 := blk_frozen BK194.out 2
                                      have hfz79_3 := blk_frozen BK194.out 3
                                      go_wp2_with (first | ((with_reducible refine gate_callee (f := 9) rfl ?_); refine goesL_ (some 58) rfl rfl Tryd.func9 (by kernel_rfl) rfl #[.agg #[.int .u64 x178000_2, .int .u64 x178001_2, .int .i64 x178002_2, .int .u64 x178003_2], .agg #[.int .u64 t190, .int .u64 t191, .int .i64 t192, .int .u64 t193]] rfl (by (try simp only [List.map_toArray, List.map_cons, List.map_nil]); first | done | rfl | (simp only [List.length_drop, List.length_take]; rfl)) ?_; (with_reducible refine (abs_Within.calls x178000_2 x178001_2 x178002_2 x178003_2 t190 t191 t192 t193 true _ A66.out).mono ?_); rintro e w80 ⟨rfl, hb⟩; refine ⟨_, rfl, ?_⟩; have n0_ := Aside0.mk (blk_below (g := gb177) (o := .cells #[.int .u64 x178000_2, .int .u64 x178001_2, .int .i64 x178002_2, .int .u64 x178003_2] 28 (0, 0)) (by (with_reducible repeat (first | refine blk_drewN ?_ _ | refine blk_drew ?_ | refine blk_alloc ?_ _)); refine blk_far ?_ NB177_194.out _; (with_reducible repeat (first | refine blk_drewN ?_ _ | refine blk_drew ?_ | refine blk_alloc ?_ _)); refine blk_far ?_ NB177_194.out _; (with_reducible repeat (first | refine blk_drewN ?_ _ | refine blk_drew ?_ | refine blk_alloc ?_ _)); refine blk_far ?_ NB177_194.out _; (with_reducible repeat (first | refine blk_drewN ?_ _ | refine blk_drew ?_ | refine blk_alloc ?_ _)); refine blk_far ?_ NB177_194.out _; (with_reducible repeat (first | refine blk_drewN ?_ _ | refine blk_drew ?_ | refine blk_alloc ?_ _)); exact BK177.out) hb); have n1_ := Aside0.mk (blk_below (g := gb183) (o := .cells #[.int .u64 t179, .int .u64 t180, .int .i64 t181, .int .u64 t182] 28 (0, 0)) (by (with_reducible repeat (first | refine blk_drewN ?_ _ | refine blk_drew ?_ | refine blk_alloc ?_ _)); refine blk_far ?_ NB183_194.out _; (with_reducible repeat (first | refine blk_drewN ?_ _ | refine blk_drew ?_ | refine blk_alloc ?_ _)); refine blk_far ?_ NB183_194.out _; (with_reducible repeat (first | refine blk_drewN ?_ _ | refine blk_drew ?_ | refine blk_alloc ?_ _)); refine blk_far ?_ NB183_194.out _; (with_reducible repeat (first | refine blk_drewN ?_ _ | refine blk_drew ?_ | refine blk_alloc ?_ _)); refine blk_far ?_ NB183_194.out _; (with_reducible repeat (first | refine blk_drewN ?_ _ | refine blk_drew ?_ | refine blk_alloc ?_ _)); exact BK183.out) hb); have n2_ := Aside0.mk (blk_below (g := gb187) (o := .cells #[.int .u64 ((rd_T28 l1 x9_2).f0.f0), .int .u64 ((rd_T28 l1 x9_2).f0.f1), .int .i64 ((rd_T28 l1 x9_2).f1.f0), .int .u64 ((rd_T28 l1 x9_2).f1.f1)] 28 (0, 0)) (by (with_reducible repeat (first | refine blk_drewN ?_ _ | refine blk_drew ?_ | refine blk_alloc ?_ _)); refine blk_far ?_ NB187_194.out _; (with_reducible repeat (first | refine blk_drewN ?_ _ | refine blk_drew ?_ | refine blk_alloc ?_ _)); refine blk_far ?_ NB187_194.out _; (with_reducible repeat (first | refine blk_drewN ?_ _ | refine blk_drew ?_ | refine blk_alloc ?_ _)); refine blk_far ?_ NB187_194.out _; (with_reducible repeat (first | refine blk_drewN ?_ _ | refine blk_drew ?_ | refine blk_alloc ?_ _)); refine blk_far ?_ NB187_194.out _; (with_reducible repeat (first | refine blk_drewN ?_ _ | refine blk_drew ?_ | refine blk_alloc ?_ _)); exact BK187.out) hb); have n3_ := Aside0.mk (blk_below (g := gb194) (o := .cells #[.int .u64 t190, .int .u64 t191, .int .i64 t192, .int .u64 t193] 28 (0, 0)) (by (with_reducible repeat (first | refine blk_drewN ?_ _ | refine blk_drew ?_ | refine blk_alloc ?_ _)); refine blk_put (cs := #[.int .u64 t190, .int .u64 t191, .int .i64 t192, .int .u64 0]) ?_ 3 _ rfl; (with_reducible repeat (first | refine blk_drewN ?_ _ | refine blk_drew ?_ | refine blk_alloc ?_ _)); refine blk_put (cs := #[.int .u64 t190, .int .u64 t191, .int .i64 0, .int .u64 0]) ?_ 2 _ rfl; (with_reducible repeat (first | refine blk_drewN ?_ _ | refine blk_drew ?_ | refine blk_alloc ?_ _)); refine blk_put (cs := #[.int .u64 t190, .int .u64 0, .int .i64 0, .int .u64 0]) ?_ 1 _ rfl; (with_reducible repeat (first | refine blk_drewN ?_ _ | refine blk_drew ?_ | refine blk_alloc ?_ _)); refine blk_put (cs := #[.int .u64 0, .int .u64 0, .int .i64 0, .int .u64 0]) ?_ 0 _ rfl; (with_reducible repeat (first | refine blk_drewN ?_ _ | refine blk_drew ?_ | refine blk_alloc ?_ _)); exact BK194.out) hb); have n4_ := Aside0.mk (below_step (by repeat (first | (with_reducible first | exact HB.out | apply below_alloc | apply pw_below_drewN | apply below_drew1 | refine below_set ?_ GE177.out | refine below_set ?_ GE183.out | refine below_set ?_ GE187.out | refine below_set ?_ GE194.out) | exact HB.out)) hb); clear BK177; clear BK183; clear BK187; clear BK194; clear HB; have BK177 := n0_; have BK183 := n1_; have BK187 := n2_; have BK194 := n3_; have HB := n4_; clear n0_ n1_ n2_ n3_ n4_; (try clear hb); (try clear hb2); (try clear hk); (try clear hi); have hnb81 := NB187_183.out; have hnc81 := NB183_187.out; have hcz82_0 : w80.cell? ⟨gb187, 0, none⟩ = some (.int .u64 ((rd_T28 l1 x9_2).f0.f0)) := (blk_cell BK187.out 0).trans rfl; have hcz82_1 : w80.cell? ⟨gb187, 1, none⟩ = some (.int .u64 ((rd_T28 l1 x9_2).f0.f1)) := (blk_cell BK187.out 1).trans rfl; have hcz82_2 : w80.cell? ⟨gb187, 2, none⟩ = some (.int .i64 ((rd_T28 l1 x9_2).f1.f0)) := (blk_cell BK187.out 2).trans rfl; have hcz82_3 : w80.cell? ⟨gb187, 3, none⟩ = some (.int .u64 ((rd_T28 l1 x9_2).f1.f1)) := (blk_cell BK187.out 3).trans rfl; have hfz82_0 := blk_frozen BK187.out 0; have hfz82_1 := blk_frozen BK187.out 1; have hfz82_2 := blk_frozen BK187.out 2; have hfz82_3 := blk_frozen BK187.out 3; have hcz83_0 : w80.cell? ⟨gb194, 0, none⟩ = some (.int .u64 t190) := (blk_cell BK194.out 0).trans rfl; have hcz83_1 : w80.cell? ⟨gb194, 1, none⟩ = some (.int .u64 t191) := (blk_cell BK194.out 1).trans rfl; have hcz83_2 : w80.cell? ⟨gb194, 2, none⟩ = some (.int .i64 t192) := (blk_cell BK194.out 2).trans rfl; have hcz83_3 : w80.cell? ⟨gb194, 3, none⟩ = some (.int .u64 t193) := (blk_cell BK194.out 3).trans rfl; have hfz83_0 := blk_frozen BK194.out 0; have hfz83_1 := blk_frozen BK194.out 1; have hfz83_2 := blk_frozen BK194.out 2; have hfz83_3 := blk_frozen BK194.out 3) | (go_at_call 9; (with_reducible refine (abs_Within.calls ((rd_T28 l1 x9_2).f0.f0) ((rd_T28 l1 x9_2).f0.f1) ((rd_T28 l1 x9_2).f1.f0) ((rd_T28 l1 x9_2).f1.f1) t190 t191 t192 t193 true _ A68.out).mono ?_); rintro e w84 ⟨rfl, hb⟩; have n0_ := Aside0.mk (blk_below (g := gb177) (o := .cells #[.int .u64 x178000_2, .int .u64 x178001_2, .int .i64 x178002_2, .int .u64 x178003_2] 28 (0, 0)) (by (with_reducible repeat (first | refine blk_drewN ?_ _ | refine blk_drew ?_ | refine blk_alloc ?_ _)); exact BK177.out) hb); have n1_ := Aside0.mk (blk_below (g := gb183) (o := .cells #[.int .u64 t179, .int .u64 t180, .int .i64 t181, .int .u64 t182] 28 (0, 0)) (by (with_reducible repeat (first | refine blk_drewN ?_ _ | refine blk_drew ?_ | refine blk_alloc ?_ _)); exact BK183.out) hb); have n2_ := Aside0.mk (blk_below (g := gb187) (o := .cells #[.int .u64 ((rd_T28 l1 x9_2).f0.f0), .int .u64 ((rd_T28 l1 x9_2).f0.f1), .int .i64 ((rd_T28 l1 x9_2).f1.f0), .int .u64 ((rd_T28 l1 x9_2).f1.f1)] 28 (0, 0)) (by (with_reducible repeat (first | refine blk_drewN ?_ _ | refine blk_drew ?_ | refine blk_alloc ?_ _)); exact BK187.out) hb); have n3_ := Aside0.mk (blk_below (g := gb194) (o := .cells #[.int .u64 t190, .int .u64 t191, .int .i64 t192, .int .u64 t193] 28 (0, 0)) (by (with_reducible repeat (first | refine blk_drewN ?_ _ | refine blk_drew ?_ | refine blk_alloc ?_ _)); exact BK194.out) hb); have n4_ := Aside0.mk (below_step (by repeat (first | (with_reducible first | exact HB.out | apply below_alloc | apply pw_below_drewN | apply below_drew1 | refine below_set ?_ GE177.out | refine below_set ?_ GE183.out | refine below_set ?_ GE187.out | refine below_set ?_ GE194.out) | exact HB.out)) hb); clear BK177; clear BK183; clear BK187; clear BK194; clear HB; have BK177 := n0_; have BK183 := n1_; have BK187 := n2_; have BK194 := n3_; have HB := n4_; clear n0_ n1_ n2_ n3_ n4_; (try clear hb); (try clear hb2); (try clear hk); (try clear hi); have hcz85_0 : w84.cell? ⟨gb194, 0, none⟩ = some (.int .u64 t190) := (blk_cell BK194.out 0).trans rfl; have hcz85_1 : w84.cell? ⟨gb194, 1, none⟩ = some (.int .u64 t191) := (blk_cell BK194.out 1).trans rfl; have hcz85_2 : w84.cell? ⟨gb194, 2, none⟩ = some (.int .i64 t192) := (blk_cell BK194.out 2).trans rfl; have hcz85_3 : w84.cell? ⟨gb194, 3, none⟩ = some (.int .u64 t193) := (blk_cell BK194.out 3).trans rfl; have hfz85_0 := blk_frozen BK194.out 0; have hfz85_1 := blk_frozen BK194.out 1; have hfz85_2 := blk_frozen BK194.out 2; have hfz85_3 := blk_frozen BK194.out 3; have hcz86_0 : w84.cell? ⟨gb183, 0, none⟩ = some (.int .u64 t179) := (blk_cell BK183.out 0).trans rfl; have hcz86_1 : w84.cell? ⟨gb183, 1, none⟩ = some (.int .u64 t180) := (blk_cell BK183.out 1).trans rfl; have hcz86_2 : w84.cell? ⟨gb183, 2, none⟩ = some (.int .i64 t181) := (blk_cell BK183.out 2).trans rfl; have hcz86_3 : w84.cell? ⟨gb183, 3, none⟩ = some (.int .u64 t182) := (blk_cell BK183.out 3).trans rfl; have hfz86_0 := blk_frozen BK183.out 0; have hfz86_1 := blk_frozen BK183.out 1; have hfz86_2 := blk_frozen BK183.out 2; have hfz86_3 := blk_frozen BK183.out 3) | (go_at_call 11; (with_reducible refine (ivl_Within.calls t190 t191 t179 t180 true _ A70.out).mono ?_); rintro e w87 ⟨rfl, hb⟩; have n0_ := Aside0.mk (blk_below (g := gb177) (o := .cells #[.int .u64 x178000_2, .int .u64 x178001_2, .int .i64 x178002_2, .int .u64 x178003_2] 28 (0, 0)) (by (with_reducible repeat (first | refine blk_drewN ?_ _ | refine blk_drew ?_ | refine blk_alloc ?_ _)); exact BK177.out) hb); have n1_ := Aside0.mk (blk_below (g := gb183) (o := .cells #[.int .u64 t179, .int .u64 t180, .int .i64 t181, .int .u64 t182] 28 (0, 0)) (by (with_reducible repeat (first | refine blk_drewN ?_ _ | refine blk_drew ?_ | refine blk_alloc ?_ _)); exact BK183.out) hb); have n2_ := Aside0.mk (blk_below (g := gb187) (o := .cells #[.int .u64 ((rd_T28 l1 x9_2).f0.f0), .int .u64 ((rd_T28 l1 x9_2).f0.f1), .int .i64 ((rd_T28 l1 x9_2).f1.f0), .int .u64 ((rd_T28 l1 x9_2).f1.f1)] 28 (0, 0)) (by (with_reducible repeat (first | refine blk_drewN ?_ _ | refine blk_drew ?_ | refine blk_alloc ?_ _)); exact BK187.out) hb); have n3_ := Aside0.mk (blk_below (g := gb194) (o := .cells #[.int .u64 t190, .int .u64 t191, .int .i64 t192, .int .u64 t193] 28 (0, 0)) (by (with_reducible repeat (first | refine blk_drewN ?_ _ | refine blk_drew ?_ | refine blk_alloc ?_ _)); exact BK194.out) hb); have n4_ := Aside0.mk (below_step (by repeat (first | (with_reducible first | exact HB.out | apply below_alloc | apply pw_below_drewN | apply below_drew1 | refine below_set ?_ GE177.out | refine below_set ?_ GE183.out | refine below_set ?_ GE187.out | refine below_set ?_ GE194.out) | exact HB.out)) hb); clear BK177; clear BK183; clear BK187; clear BK194; clear HB; have BK177 := n0_; have BK183 := n1_; have BK187 := n2_; have BK194 := n3_; have HB := n4_; clear n0_ n1_ n2_ n3_ n4_; (try clear hb); (try clear hb2); (try clear hk); (try clear hi); have hcz88_0 : w87.cell? ⟨gb194, 0, none⟩ = some (.int .u64 t190) := (blk_cell BK194.out 0).trans rfl; have hcz88_1 : w87.cell? ⟨gb194, 1, none⟩ = some (.int .u64 t191) := (blk_cell BK194.out 1).trans rfl; have hcz88_2 : w87.cell? ⟨gb194, 2, none⟩ = some (.int .i64 t192) := (blk_cell BK194.out 2).trans rfl; have hcz88_3 : w87.cell? ⟨gb194, 3, none⟩ = some (.int .u64 t193) := (blk_cell BK194.out 3).trans rfl; have hfz88_0 := blk_frozen BK194.out 0; have hfz88_1 := blk_frozen BK194.out 1; have hfz88_2 := blk_frozen BK194.out 2; have hfz88_3 := blk_frozen BK194.out 3) | (go_at_call 7; (with_reducible refine (abs_Right.calls t190 t191 t192 t193 t198 _ A72.out).mono ?_); rintro e w89 ⟨rfl, hb⟩; have n0_ := Aside0.mk (blk_below (g := gb177) (o := .cells #[.int .u64 x178000_2, .int .u64 x178001_2, .int .i64 x178002_2, .int .u64 x178003_2] 28 (0, 0)) (by (with_reducible repeat (first | refine blk_drewN ?_ _ | refine blk_drew ?_ | refine blk_alloc ?_ _)); exact BK177.out) hb); have n1_ := Aside0.mk (blk_below (g := gb183) (o := .cells #[.int .u64 t179, .int .u64 t180, .int .i64 t181, .int .u64 t182] 28 (0, 0)) (by (with_reducible repeat (first | refine blk_drewN ?_ _ | refine blk_drew ?_ | refine blk_alloc ?_ _)); exact BK183.out) hb); have n2_ := Aside0.mk (blk_below (g := gb187) (o := .cells #[.int .u64 ((rd_T28 l1 x9_2).f0.f0), .int .u64 ((rd_T28 l1 x9_2).f0.f1), .int .i64 ((rd_T28 l1 x9_2).f1.f0), .int .u64 ((rd_T28 l1 x9_2).f1.f1)] 28 (0, 0)) (by (with_reducible repeat (first | refine blk_drewN ?_ _ | refine blk_drew ?_ | refine blk_alloc ?_ _)); exact BK187.out) hb); have n3_ := Aside0.mk (blk_below (g := gb194) (o := .cells #[.int .u64 t190, .int .u64 t191, .int .i64 t192, .int .u64 t193] 28 (0, 0)) (by (with_reducible repeat (first | refine blk_drewN ?_ _ | refine blk_drew ?_ | refine blk_alloc ?_ _)); exact BK194.out) hb); have n4_ := Aside0.mk (below_step (by repeat (first | (with_reducible first | exact HB.out | apply below_alloc | apply pw_below_drewN | apply below_drew1 | refine below_set ?_ GE177.out | refine below_set ?_ GE183.out | refine below_set ?_ GE187.out | refine below_set ?_ GE194.out) | exact HB.out)) hb); clear BK177; clear BK183; clear BK187; clear BK194; clear HB; have BK177 := n0_; have BK183 := n1_; have BK187 := n2_; have BK194 := n3_; have HB := n4_; clear n0_ n1_ n2_ n3_ n4_; (try clear hb); (try clear hb2); (try clear hk); (try clear hi)))
                                      go_meet
                                      case rel => exact ⟨_, (!t198), (by first | rfl | (simp; done) | (simp [*]; done)), H', ⟨by have := HJ6.out; have := HK2.out; have := HJ26.out; have := HJ31.out; first | omega | exact Nat.le_refl _⟩, ⟨by (with_reducible repeat (first | refine blk_drewN ?_ _ | refine blk_drew ?_ | refine blk_alloc ?_ _)); exact BK177.out⟩, ⟨by (with_reducible repeat (first | refine blk_drewN ?_ _ | refine blk_drew ?_ | refine blk_alloc ?_ _)); exact BK183.out⟩, ⟨by (with_reducible repeat (first | refine blk_drewN ?_ _ | refine blk_drew ?_ | refine blk_alloc ?_ _)); exact BK187.out⟩, ⟨by (with_reducible repeat (first | refine blk_drewN ?_ _ | refine blk_drew ?_ | refine blk_alloc ?_ _)); exact BK194.out⟩, ⟨by repeat (first | (with_reducible first | exact HB.out | apply below_alloc | apply pw_below_drewN | apply below_drew1 | refine below_set ?_ GE177.out | refine below_set ?_ GE183.out | refine below_set ?_ GE187.out | refine below_set ?_ GE194.out) | exact HB.out)⟩⟩
                                    · replace c71 := Bool.eq_false_iff.mpr c71
                                      subst c71
                                      have H1 : (trammellaw18_AbsWidens.j4 kj31 l1 a2 x8_2 x9_2 true x178000_2 x178001_2 x178002_2 x178003_2 t179 t180 t181 t182 ((rd_T28 l1 x9_2).f0.f0) ((rd_T28 l1 x9_2).f0.f1) ((rd_T28 l1 x9_2).f1.f0) ((rd_T28 l1 x9_2).f1.f1) t190 t191 t192 t193) = some r := by rw [if_neg (show ¬ (false = true) by decide)] at H; exact H
                                      clear H
                                      have H := H1
                                      clear H1
                                      have H' := Aside0.mk H
                                      clear H
                                      have hnb90 := NB177_183.out
                                      have hnc90 := NB183_177.out
                                      have hnb91 := NB177_187.out
                                      have hnc91 := NB187_177.out
                                      have hnb92 := NB177_194.out
                                      have hnc92 := NB194_177.out
                                      have hcz93_0 : w61.cell? ⟨gb177, 0, none⟩ = some (.int .u64 x178000_2) := (blk_cell BK177.out 0).trans rfl
                                      have hcz93_1 : w61.cell? ⟨gb177, 1, none⟩ = some (.int .u64 x178001_2) := (blk_cell BK177.out 1).trans rfl
                                      have hcz93_2 : w61.cell? ⟨gb177, 2, none⟩ = some (.int .i64 x178002_2) := (blk_cell BK177.out 2).trans rfl
                                      have hcz93_3 : w61.cell? ⟨gb177, 3, none⟩ = some (.int .u64 x178003_2) := (blk_cell BK177.out 3).trans rfl
                                      have hfz93_0 := blk_frozen BK177.out 0
                                      have hfz93_1 := blk_frozen BK177.out 1
                                      have hfz93_2 := blk_frozen BK177.out 2
                                      have hfz93_3 := blk_frozen BK177.out 3
                                      have hnb94 := NB194_183.out
                                      have hnc94 := NB183_194.out
                                      have hnb95 := NB194_187.out
                                      have hnc95 := NB187_194.out
                                      have hcz96_0 : w61.cell? ⟨gb194, 0, none⟩ = some (.int .u64 0) := (blk_cell BK194.out 0).trans rfl
                                      have hcz96_1 : w61.cell? ⟨gb194, 1, none⟩ = some (.int .u64 0) := (blk_cell BK194.out 1).trans rfl
                                      have hcz96_2 : w61.cell? ⟨gb194, 2, none⟩ = some (.int .i64 0) := (blk_cell BK194.out 2).trans rfl
                                      have hcz96_3 : w61.cell? ⟨gb194, 3, none⟩ = some (.int .u64 0) := (blk_cell BK194.out 3).trans rfl
                                      have hfz96_0 := blk_frozen BK194.out 0
                                      have hfz96_1 := blk_frozen BK194.out 1
                                      have hfz96_2 := blk_frozen BK194.out 2
                                      have hfz96_3 := blk_frozen BK194.out 3
                                      go_wp2_with (first | ((with_reducible refine gate_callee (f := 9) rfl ?_); refine goesL_ (some 58) rfl rfl Tryd.func9 (by kernel_rfl) rfl #[.agg #[.int .u64 x178000_2, .int .u64 x178001_2, .int .i64 x178002_2, .int .u64 x178003_2], .agg #[.int .u64 t190, .int .u64 t191, .int .i64 t192, .int .u64 t193]] rfl (by (try simp only [List.map_toArray, List.map_cons, List.map_nil]); first | done | rfl | (simp only [List.length_drop, List.length_take]; rfl)) ?_; (with_reducible refine (abs_Within.calls x178000_2 x178001_2 x178002_2 x178003_2 t190 t191 t192 t193 true _ A66.out).mono ?_); rintro e w97 ⟨rfl, hb⟩; refine ⟨_, rfl, ?_⟩; have n0_ := Aside0.mk (blk_below (g := gb177) (o := .cells #[.int .u64 x178000_2, .int .u64 x178001_2, .int .i64 x178002_2, .int .u64 x178003_2] 28 (0, 0)) (by (with_reducible repeat (first | refine blk_drewN ?_ _ | refine blk_drew ?_ | refine blk_alloc ?_ _)); refine blk_far ?_ NB177_194.out _; (with_reducible repeat (first | refine blk_drewN ?_ _ | refine blk_drew ?_ | refine blk_alloc ?_ _)); refine blk_far ?_ NB177_194.out _; (with_reducible repeat (first | refine blk_drewN ?_ _ | refine blk_drew ?_ | refine blk_alloc ?_ _)); refine blk_far ?_ NB177_194.out _; (with_reducible repeat (first | refine blk_drewN ?_ _ | refine blk_drew ?_ | refine blk_alloc ?_ _)); refine blk_far ?_ NB177_194.out _; (with_reducible repeat (first | refine blk_drewN ?_ _ | refine blk_drew ?_ | refine blk_alloc ?_ _)); exact BK177.out) hb); have n1_ := Aside0.mk (blk_below (g := gb183) (o := .cells #[.int .u64 t179, .int .u64 t180, .int .i64 t181, .int .u64 t182] 28 (0, 0)) (by (with_reducible repeat (first | refine blk_drewN ?_ _ | refine blk_drew ?_ | refine blk_alloc ?_ _)); refine blk_far ?_ NB183_194.out _; (with_reducible repeat (first | refine blk_drewN ?_ _ | refine blk_drew ?_ | refine blk_alloc ?_ _)); refine blk_far ?_ NB183_194.out _; (with_reducible repeat (first | refine blk_drewN ?_ _ | refine blk_drew ?_ | refine blk_alloc ?_ _)); refine blk_far ?_ NB183_194.out _; (with_reducible repeat (first | refine blk_drewN ?_ _ | refine blk_drew ?_ | refine blk_alloc ?_ _)); refine blk_far ?_ NB183_194.out _; (with_reducible repeat (first | refine blk_drewN ?_ _ | refine blk_drew ?_ | refine blk_alloc ?_ _)); exact BK183.out) hb); have n2_ := Aside0.mk (blk_below (g := gb187) (o := .cells #[.int .u64 ((rd_T28 l1 x9_2).f0.f0), .int .u64 ((rd_T28 l1 x9_2).f0.f1), .int .i64 ((rd_T28 l1 x9_2).f1.f0), .int .u64 ((rd_T28 l1 x9_2).f1.f1)] 28 (0, 0)) (by (with_reducible repeat (first | refine blk_drewN ?_ _ | refine blk_drew ?_ | refine blk_alloc ?_ _)); refine blk_far ?_ NB187_194.out _; (with_reducible repeat (first | refine blk_drewN ?_ _ | refine blk_drew ?_ | refine blk_alloc ?_ _)); refine blk_far ?_ NB187_194.out _; (with_reducible repeat (first | refine blk_drewN ?_ _ | refine blk_drew ?_ | refine blk_alloc ?_ _)); refine blk_far ?_ NB187_194.out _; (with_reducible repeat (first | refine blk_drewN ?_ _ | refine blk_drew ?_ | refine blk_alloc ?_ _)); refine blk_far ?_ NB187_194.out _; (with_reducible repeat (first | refine blk_drewN ?_ _ | refine blk_drew ?_ | refine blk_alloc ?_ _)); exact BK187.out) hb); have n3_ := Aside0.mk (blk_below (g := gb194) (o := .cells #[.int .u64 t190, .int .u64 t191, .int .i64 t192, .int .u64 t193] 28 (0, 0)) (by (with_reducible repeat (first | refine blk_drewN ?_ _ | refine blk_drew ?_ | refine blk_alloc ?_ _)); refine blk_put (cs := #[.int .u64 t190, .int .u64 t191, .int .i64 t192, .int .u64 0]) ?_ 3 _ rfl; (with_reducible repeat (first | refine blk_drewN ?_ _ | refine blk_drew ?_ | refine blk_alloc ?_ _)); refine blk_put (cs := #[.int .u64 t190, .int .u64 t191, .int .i64 0, .int .u64 0]) ?_ 2 _ rfl; (with_reducible repeat (first | refine blk_drewN ?_ _ | refine blk_drew ?_ | refine blk_alloc ?_ _)); refine blk_put (cs := #[.int .u64 t190, .int .u64 0, .int .i64 0, .int .u64 0]) ?_ 1 _ rfl; (with_reducible repeat (first | refine blk_drewN ?_ _ | refine blk_drew ?_ | refine blk_alloc ?_ _)); refine blk_put (cs := #[.int .u64 0, .int .u64 0, .int .i64 0, .int .u64 0]) ?_ 0 _ rfl; (with_reducible repeat (first | refine blk_drewN ?_ _ | refine blk_drew ?_ | refine blk_alloc ?_ _)); exact BK194.out) hb); have n4_ := Aside0.mk (below_step (by repeat (first | (with_reducible first | exact HB.out | apply below_alloc | apply pw_below_drewN | apply below_drew1 | refine below_set ?_ GE177.out | refine below_set ?_ GE183.out | refine below_set ?_ GE187.out | refine below_set ?_ GE194.out) | exact HB.out)) hb); clear BK177; clear BK183; clear BK187; clear BK194; clear HB; have BK177 := n0_; have BK183 := n1_; have BK187 := n2_; have BK194 := n3_; have HB := n4_; clear n0_ n1_ n2_ n3_ n4_; (try clear hb); (try clear hb2); (try clear hk); (try clear hi); have hnb98 := NB187_183.out; have hnc98 := NB183_187.out; have hcz99_0 : w97.cell? ⟨gb187, 0, none⟩ = some (.int .u64 ((rd_T28 l1 x9_2).f0.f0)) := (blk_cell BK187.out 0).trans rfl; have hcz99_1 : w97.cell? ⟨gb187, 1, none⟩ = some (.int .u64 ((rd_T28 l1 x9_2).f0.f1)) := (blk_cell BK187.out 1).trans rfl; have hcz99_2 : w97.cell? ⟨gb187, 2, none⟩ = some (.int .i64 ((rd_T28 l1 x9_2).f1.f0)) := (blk_cell BK187.out 2).trans rfl; have hcz99_3 : w97.cell? ⟨gb187, 3, none⟩ = some (.int .u64 ((rd_T28 l1 x9_2).f1.f1)) := (blk_cell BK187.out 3).trans rfl; have hfz99_0 := blk_frozen BK187.out 0; have hfz99_1 := blk_frozen BK187.out 1; have hfz99_2 := blk_frozen BK187.out 2; have hfz99_3 := blk_frozen BK187.out 3; have hcz100_0 : w97.cell? ⟨gb194, 0, none⟩ = some (.int .u64 t190) := (blk_cell BK194.out 0).trans rfl; have hcz100_1 : w97.cell? ⟨gb194, 1, none⟩ = some (.int .u64 t191) := (blk_cell BK194.out 1).trans rfl; have hcz100_2 : w97.cell? ⟨gb194, 2, none⟩ = some (.int .i64 t192) := (blk_cell BK194.out 2).trans rfl; have hcz100_3 : w97.cell? ⟨gb194, 3, none⟩ = some (.int .u64 t193) := (blk_cell BK194.out 3).trans rfl; have hfz100_0 := blk_frozen BK194.out 0; have hfz100_1 := blk_frozen BK194.out 1; have hfz100_2 := blk_frozen BK194.out 2; have hfz100_3 := blk_frozen BK194.out 3) | (go_at_call 9; (with_reducible refine (abs_Within.calls ((rd_T28 l1 x9_2).f0.f0) ((rd_T28 l1 x9_2).f0.f1) ((rd_T28 l1 x9_2).f1.f0) ((rd_T28 l1 x9_2).f1.f1) t190 t191 t192 t193 true _ A68.out).mono ?_); rintro e w101 ⟨rfl, hb⟩; have n0_ := Aside0.mk (blk_below (g := gb177) (o := .cells #[.int .u64 x178000_2, .int .u64 x178001_2, .int .i64 x178002_2, .int .u64 x178003_2] 28 (0, 0)) (by (with_reducible repeat (first | refine blk_drewN ?_ _ | refine blk_drew ?_ | refine blk_alloc ?_ _)); exact BK177.out) hb); have n1_ := Aside0.mk (blk_below (g := gb183) (o := .cells #[.int .u64 t179, .int .u64 t180, .int .i64 t181, .int .u64 t182] 28 (0, 0)) (by (with_reducible repeat (first | refine blk_drewN ?_ _ | refine blk_drew ?_ | refine blk_alloc ?_ _)); exact BK183.out) hb); have n2_ := Aside0.mk (blk_below (g := gb187) (o := .cells #[.int .u64 ((rd_T28 l1 x9_2).f0.f0), .int .u64 ((rd_T28 l1 x9_2).f0.f1), .int .i64 ((rd_T28 l1 x9_2).f1.f0), .int .u64 ((rd_T28 l1 x9_2).f1.f1)] 28 (0, 0)) (by (with_reducible repeat (first | refine blk_drewN ?_ _ | refine blk_drew ?_ | refine blk_alloc ?_ _)); exact BK187.out) hb); have n3_ := Aside0.mk (blk_below (g := gb194) (o := .cells #[.int .u64 t190, .int .u64 t191, .int .i64 t192, .int .u64 t193] 28 (0, 0)) (by (with_reducible repeat (first | refine blk_drewN ?_ _ | refine blk_drew ?_ | refine blk_alloc ?_ _)); exact BK194.out) hb); have n4_ := Aside0.mk (below_step (by repeat (first | (with_reducible first | exact HB.out | apply below_alloc | apply pw_below_drewN | apply below_drew1 | refine below_set ?_ GE177.out | refine below_set ?_ GE183.out | refine below_set ?_ GE187.out | refine below_set ?_ GE194.out) | exact HB.out)) hb); clear BK177; clear BK183; clear BK187; clear BK194; clear HB; have BK177 := n0_; have BK183 := n1_; have BK187 := n2_; have BK194 := n3_; have HB := n4_; clear n0_ n1_ n2_ n3_ n4_; (try clear hb); (try clear hb2); (try clear hk); (try clear hi); have hcz102_0 : w101.cell? ⟨gb194, 0, none⟩ = some (.int .u64 t190) := (blk_cell BK194.out 0).trans rfl; have hcz102_1 : w101.cell? ⟨gb194, 1, none⟩ = some (.int .u64 t191) := (blk_cell BK194.out 1).trans rfl; have hcz102_2 : w101.cell? ⟨gb194, 2, none⟩ = some (.int .i64 t192) := (blk_cell BK194.out 2).trans rfl; have hcz102_3 : w101.cell? ⟨gb194, 3, none⟩ = some (.int .u64 t193) := (blk_cell BK194.out 3).trans rfl; have hfz102_0 := blk_frozen BK194.out 0; have hfz102_1 := blk_frozen BK194.out 1; have hfz102_2 := blk_frozen BK194.out 2; have hfz102_3 := blk_frozen BK194.out 3; have hcz103_0 : w101.cell? ⟨gb183, 0, none⟩ = some (.int .u64 t179) := (blk_cell BK183.out 0).trans rfl; have hcz103_1 : w101.cell? ⟨gb183, 1, none⟩ = some (.int .u64 t180) := (blk_cell BK183.out 1).trans rfl; have hcz103_2 : w101.cell? ⟨gb183, 2, none⟩ = some (.int .i64 t181) := (blk_cell BK183.out 2).trans rfl; have hcz103_3 : w101.cell? ⟨gb183, 3, none⟩ = some (.int .u64 t182) := (blk_cell BK183.out 3).trans rfl; have hfz103_0 := blk_frozen BK183.out 0; have hfz103_1 := blk_frozen BK183.out 1; have hfz103_2 := blk_frozen BK183.out 2; have hfz103_3 := blk_frozen BK183.out 3) | (go_at_call 11; (with_reducible refine (ivl_Within.calls t190 t191 t179 t180 false _ A70.out).mono ?_); rintro e w104 ⟨rfl, hb⟩; have n0_ := Aside0.mk (blk_below (g := gb177) (o := .cells #[.int .u64 x178000_2, .int .u64 x178001_2, .int .i64 x178002_2, .int .u64 x178003_2] 28 (0, 0)) (by (with_reducible repeat (first | refine blk_drewN ?_ _ | refine blk_drew ?_ | refine blk_alloc ?_ _)); exact BK177.out) hb); have n1_ := Aside0.mk (blk_below (g := gb183) (o := .cells #[.int .u64 t179, .int .u64 t180, .int .i64 t181, .int .u64 t182] 28 (0, 0)) (by (with_reducible repeat (first | refine blk_drewN ?_ _ | refine blk_drew ?_ | refine blk_alloc ?_ _)); exact BK183.out) hb); have n2_ := Aside0.mk (blk_below (g := gb187) (o := .cells #[.int .u64 ((rd_T28 l1 x9_2).f0.f0), .int .u64 ((rd_T28 l1 x9_2).f0.f1), .int .i64 ((rd_T28 l1 x9_2).f1.f0), .int .u64 ((rd_T28 l1 x9_2).f1.f1)] 28 (0, 0)) (by (with_reducible repeat (first | refine blk_drewN ?_ _ | refine blk_drew ?_ | refine blk_alloc ?_ _)); exact BK187.out) hb); have n3_ := Aside0.mk (blk_below (g := gb194) (o := .cells #[.int .u64 t190, .int .u64 t191, .int .i64 t192, .int .u64 t193] 28 (0, 0)) (by (with_reducible repeat (first | refine blk_drewN ?_ _ | refine blk_drew ?_ | refine blk_alloc ?_ _)); exact BK194.out) hb); have n4_ := Aside0.mk (below_step (by repeat (first | (with_reducible first | exact HB.out | apply below_alloc | apply pw_below_drewN | apply below_drew1 | refine below_set ?_ GE177.out | refine below_set ?_ GE183.out | refine below_set ?_ GE187.out | refine below_set ?_ GE194.out) | exact HB.out)) hb); clear BK177; clear BK183; clear BK187; clear BK194; clear HB; have BK177 := n0_; have BK183 := n1_; have BK187 := n2_; have BK194 := n3_; have HB := n4_; clear n0_ n1_ n2_ n3_ n4_; (try clear hb); (try clear hb2); (try clear hk); (try clear hi)))
                                      go_meet
                                      case rel => exact ⟨_, (true), (by first | rfl | (simp; done) | (simp [*]; done)), H', ⟨by have := HJ6.out; have := HK2.out; have := HJ26.out; have := HJ31.out; first | omega | exact Nat.le_refl _⟩, ⟨by (with_reducible repeat (first | refine blk_drewN ?_ _ | refine blk_drew ?_ | refine blk_alloc ?_ _)); exact BK177.out⟩, ⟨by (with_reducible repeat (first | refine blk_drewN ?_ _ | refine blk_drew ?_ | refine blk_alloc ?_ _)); exact BK183.out⟩, ⟨by (with_reducible repeat (first | refine blk_drewN ?_ _ | refine blk_drew ?_ | refine blk_alloc ?_ _)); exact BK187.out⟩, ⟨by (with_reducible repeat (first | refine blk_drewN ?_ _ | refine blk_drew ?_ | refine blk_alloc ?_ _)); exact BK194.out⟩, ⟨by repeat (first | (with_reducible first | exact HB.out | apply below_alloc | apply pw_below_drewN | apply below_drew1 | refine below_set ?_ GE177.out | refine below_set ?_ GE183.out | refine below_set ?_ GE187.out | refine below_set ?_ GE194.out) | exact HB.out)⟩⟩
                                  · replace c69 := Bool.eq_false_iff.mpr c69
                                    subst c69
                                    have H1 : (trammellaw18_AbsWidens.j4 kj31 l1 a2 x8_2 x9_2 true x178000_2 x178001_2 x178002_2 x178003_2 t179 t180 t181 t182 ((rd_T28 l1 x9_2).f0.f0) ((rd_T28 l1 x9_2).f0.f1) ((rd_T28 l1 x9_2).f1.f0) ((rd_T28 l1 x9_2).f1.f1) t190 t191 t192 t193) = some r := by rw [if_neg (show ¬ (false = true) by decide)] at H; exact H
                                    clear H
                                    have H := H1
                                    clear H1
                                    have H' := Aside0.mk H
                                    clear H
                                    have hnb105 := NB177_183.out
                                    have hnc105 := NB183_177.out
                                    have hnb106 := NB177_187.out
                                    have hnc106 := NB187_177.out
                                    have hnb107 := NB177_194.out
                                    have hnc107 := NB194_177.out
                                    have hcz108_0 : w61.cell? ⟨gb177, 0, none⟩ = some (.int .u64 x178000_2) := (blk_cell BK177.out 0).trans rfl
                                    have hcz108_1 : w61.cell? ⟨gb177, 1, none⟩ = some (.int .u64 x178001_2) := (blk_cell BK177.out 1).trans rfl
                                    have hcz108_2 : w61.cell? ⟨gb177, 2, none⟩ = some (.int .i64 x178002_2) := (blk_cell BK177.out 2).trans rfl
                                    have hcz108_3 : w61.cell? ⟨gb177, 3, none⟩ = some (.int .u64 x178003_2) := (blk_cell BK177.out 3).trans rfl
                                    have hfz108_0 := blk_frozen BK177.out 0
                                    have hfz108_1 := blk_frozen BK177.out 1
                                    have hfz108_2 := blk_frozen BK177.out 2
                                    have hfz108_3 := blk_frozen BK177.out 3
                                    have hnb109 := NB194_183.out
                                    have hnc109 := NB183_194.out
                                    have hnb110 := NB194_187.out
                                    have hnc110 := NB187_194.out
                                    have hcz111_0 : w61.cell? ⟨gb194, 0, none⟩ = some (.int .u64 0) := (blk_cell BK194.out 0).trans rfl
                                    have hcz111_1 : w61.cell? ⟨gb194, 1, none⟩ = some (.int .u64 0) := (blk_cell BK194.out 1).trans rfl
                                    have hcz111_2 : w61.cell? ⟨gb194, 2, none⟩ = some (.int .i64 0) := (blk_cell BK194.out 2).trans rfl
                                    have hcz111_3 : w61.cell? ⟨gb194, 3, none⟩ = some (.int .u64 0) := (blk_cell BK194.out 3).trans rfl
                                    have hfz111_0 := blk_frozen BK194.out 0
                                    have hfz111_1 := blk_frozen BK194.out 1
                                    have hfz111_2 := blk_frozen BK194.out 2
                                    have hfz111_3 := blk_frozen BK194.out 3
                                    go_wp2_with (first | ((with_reducible refine gate_callee (f := 9) rfl ?_); refine goesL_ (some 58) rfl rfl Tryd.func9 (by kernel_rfl) rfl #[.agg #[.int .u64 x178000_2, .int .u64 x178001_2, .int .i64 x178002_2, .int .u64 x178003_2], .agg #[.int .u64 t190, .int .u64 t191, .int .i64 t192, .int .u64 t193]] rfl (by (try simp only [List.map_toArray, List.map_cons, List.map_nil]); first | done | rfl | (simp only [List.length_drop, List.length_take]; rfl)) ?_; (with_reducible refine (abs_Within.calls x178000_2 x178001_2 x178002_2 x178003_2 t190 t191 t192 t193 true _ A66.out).mono ?_); rintro e w112 ⟨rfl, hb⟩; refine ⟨_, rfl, ?_⟩; have n0_ := Aside0.mk (blk_below (g := gb177) (o := .cells #[.int .u64 x178000_2, .int .u64 x178001_2, .int .i64 x178002_2, .int .u64 x178003_2] 28 (0, 0)) (by (with_reducible repeat (first | refine blk_drewN ?_ _ | refine blk_drew ?_ | refine blk_alloc ?_ _)); refine blk_far ?_ NB177_194.out _; (with_reducible repeat (first | refine blk_drewN ?_ _ | refine blk_drew ?_ | refine blk_alloc ?_ _)); refine blk_far ?_ NB177_194.out _; (with_reducible repeat (first | refine blk_drewN ?_ _ | refine blk_drew ?_ | refine blk_alloc ?_ _)); refine blk_far ?_ NB177_194.out _; (with_reducible repeat (first | refine blk_drewN ?_ _ | refine blk_drew ?_ | refine blk_alloc ?_ _)); refine blk_far ?_ NB177_194.out _; (with_reducible repeat (first | refine blk_drewN ?_ _ | refine blk_drew ?_ | refine blk_alloc ?_ _)); exact BK177.out) hb); have n1_ := Aside0.mk (blk_below (g := gb183) (o := .cells #[.int .u64 t179, .int .u64 t180, .int .i64 t181, .int .u64 t182] 28 (0, 0)) (by (with_reducible repeat (first | refine blk_drewN ?_ _ | refine blk_drew ?_ | refine blk_alloc ?_ _)); refine blk_far ?_ NB183_194.out _; (with_reducible repeat (first | refine blk_drewN ?_ _ | refine blk_drew ?_ | refine blk_alloc ?_ _)); refine blk_far ?_ NB183_194.out _; (with_reducible repeat (first | refine blk_drewN ?_ _ | refine blk_drew ?_ | refine blk_alloc ?_ _)); refine blk_far ?_ NB183_194.out _; (with_reducible repeat (first | refine blk_drewN ?_ _ | refine blk_drew ?_ | refine blk_alloc ?_ _)); refine blk_far ?_ NB183_194.out _; (with_reducible repeat (first | refine blk_drewN ?_ _ | refine blk_drew ?_ | refine blk_alloc ?_ _)); exact BK183.out) hb); have n2_ := Aside0.mk (blk_below (g := gb187) (o := .cells #[.int .u64 ((rd_T28 l1 x9_2).f0.f0), .int .u64 ((rd_T28 l1 x9_2).f0.f1), .int .i64 ((rd_T28 l1 x9_2).f1.f0), .int .u64 ((rd_T28 l1 x9_2).f1.f1)] 28 (0, 0)) (by (with_reducible repeat (first | refine blk_drewN ?_ _ | refine blk_drew ?_ | refine blk_alloc ?_ _)); refine blk_far ?_ NB187_194.out _; (with_reducible repeat (first | refine blk_drewN ?_ _ | refine blk_drew ?_ | refine blk_alloc ?_ _)); refine blk_far ?_ NB187_194.out _; (with_reducible repeat (first | refine blk_drewN ?_ _ | refine blk_drew ?_ | refine blk_alloc ?_ _)); refine blk_far ?_ NB187_194.out _; (with_reducible repeat (first | refine blk_drewN ?_ _ | refine blk_drew ?_ | refine blk_alloc ?_ _)); refine blk_far ?_ NB187_194.out _; (with_reducible repeat (first | refine blk_drewN ?_ _ | refine blk_drew ?_ | refine blk_alloc ?_ _)); exact BK187.out) hb); have n3_ := Aside0.mk (blk_below (g := gb194) (o := .cells #[.int .u64 t190, .int .u64 t191, .int .i64 t192, .int .u64 t193] 28 (0, 0)) (by (with_reducible repeat (first | refine blk_drewN ?_ _ | refine blk_drew ?_ | refine blk_alloc ?_ _)); refine blk_put (cs := #[.int .u64 t190, .int .u64 t191, .int .i64 t192, .int .u64 0]) ?_ 3 _ rfl; (with_reducible repeat (first | refine blk_drewN ?_ _ | refine blk_drew ?_ | refine blk_alloc ?_ _)); refine blk_put (cs := #[.int .u64 t190, .int .u64 t191, .int .i64 0, .int .u64 0]) ?_ 2 _ rfl; (with_reducible repeat (first | refine blk_drewN ?_ _ | refine blk_drew ?_ | refine blk_alloc ?_ _)); refine blk_put (cs := #[.int .u64 t190, .int .u64 0, .int .i64 0, .int .u64 0]) ?_ 1 _ rfl; (with_reducible repeat (first | refine blk_drewN ?_ _ | refine blk_drew ?_ | refine blk_alloc ?_ _)); refine blk_put (cs := #[.int .u64 0, .int .u64 0, .int .i64 0, .int .u64 0]) ?_ 0 _ rfl; (with_reducible repeat (first | refine blk_drewN ?_ _ | refine blk_drew ?_ | refine blk_alloc ?_ _)); exact BK194.out) hb); have n4_ := Aside0.mk (below_step (by repeat (first | (with_reducible first | exact HB.out | apply below_alloc | apply pw_below_drewN | apply below_drew1 | refine below_set ?_ GE177.out | refine below_set ?_ GE183.out | refine below_set ?_ GE187.out | refine below_set ?_ GE194.out) | exact HB.out)) hb); clear BK177; clear BK183; clear BK187; clear BK194; clear HB; have BK177 := n0_; have BK183 := n1_; have BK187 := n2_; have BK194 := n3_; have HB := n4_; clear n0_ n1_ n2_ n3_ n4_; (try clear hb); (try clear hb2); (try clear hk); (try clear hi); have hnb113 := NB187_183.out; have hnc113 := NB183_187.out; have hcz114_0 : w112.cell? ⟨gb187, 0, none⟩ = some (.int .u64 ((rd_T28 l1 x9_2).f0.f0)) := (blk_cell BK187.out 0).trans rfl; have hcz114_1 : w112.cell? ⟨gb187, 1, none⟩ = some (.int .u64 ((rd_T28 l1 x9_2).f0.f1)) := (blk_cell BK187.out 1).trans rfl; have hcz114_2 : w112.cell? ⟨gb187, 2, none⟩ = some (.int .i64 ((rd_T28 l1 x9_2).f1.f0)) := (blk_cell BK187.out 2).trans rfl; have hcz114_3 : w112.cell? ⟨gb187, 3, none⟩ = some (.int .u64 ((rd_T28 l1 x9_2).f1.f1)) := (blk_cell BK187.out 3).trans rfl; have hfz114_0 := blk_frozen BK187.out 0; have hfz114_1 := blk_frozen BK187.out 1; have hfz114_2 := blk_frozen BK187.out 2; have hfz114_3 := blk_frozen BK187.out 3; have hcz115_0 : w112.cell? ⟨gb194, 0, none⟩ = some (.int .u64 t190) := (blk_cell BK194.out 0).trans rfl; have hcz115_1 : w112.cell? ⟨gb194, 1, none⟩ = some (.int .u64 t191) := (blk_cell BK194.out 1).trans rfl; have hcz115_2 : w112.cell? ⟨gb194, 2, none⟩ = some (.int .i64 t192) := (blk_cell BK194.out 2).trans rfl; have hcz115_3 : w112.cell? ⟨gb194, 3, none⟩ = some (.int .u64 t193) := (blk_cell BK194.out 3).trans rfl; have hfz115_0 := blk_frozen BK194.out 0; have hfz115_1 := blk_frozen BK194.out 1; have hfz115_2 := blk_frozen BK194.out 2; have hfz115_3 := blk_frozen BK194.out 3) | (go_at_call 9; (with_reducible refine (abs_Within.calls ((rd_T28 l1 x9_2).f0.f0) ((rd_T28 l1 x9_2).f0.f1) ((rd_T28 l1 x9_2).f1.f0) ((rd_T28 l1 x9_2).f1.f1) t190 t191 t192 t193 false _ A68.out).mono ?_); rintro e w116 ⟨rfl, hb⟩; have n0_ := Aside0.mk (blk_below (g := gb177) (o := .cells #[.int .u64 x178000_2, .int .u64 x178001_2, .int .i64 x178002_2, .int .u64 x178003_2] 28 (0, 0)) (by (with_reducible repeat (first | refine blk_drewN ?_ _ | refine blk_drew ?_ | refine blk_alloc ?_ _)); exact BK177.out) hb); have n1_ := Aside0.mk (blk_below (g := gb183) (o := .cells #[.int .u64 t179, .int .u64 t180, .int .i64 t181, .int .u64 t182] 28 (0, 0)) (by (with_reducible repeat (first | refine blk_drewN ?_ _ | refine blk_drew ?_ | refine blk_alloc ?_ _)); exact BK183.out) hb); have n2_ := Aside0.mk (blk_below (g := gb187) (o := .cells #[.int .u64 ((rd_T28 l1 x9_2).f0.f0), .int .u64 ((rd_T28 l1 x9_2).f0.f1), .int .i64 ((rd_T28 l1 x9_2).f1.f0), .int .u64 ((rd_T28 l1 x9_2).f1.f1)] 28 (0, 0)) (by (with_reducible repeat (first | refine blk_drewN ?_ _ | refine blk_drew ?_ | refine blk_alloc ?_ _)); exact BK187.out) hb); have n3_ := Aside0.mk (blk_below (g := gb194) (o := .cells #[.int .u64 t190, .int .u64 t191, .int .i64 t192, .int .u64 t193] 28 (0, 0)) (by (with_reducible repeat (first | refine blk_drewN ?_ _ | refine blk_drew ?_ | refine blk_alloc ?_ _)); exact BK194.out) hb); have n4_ := Aside0.mk (below_step (by repeat (first | (with_reducible first | exact HB.out | apply below_alloc | apply pw_below_drewN | apply below_drew1 | refine below_set ?_ GE177.out | refine below_set ?_ GE183.out | refine below_set ?_ GE187.out | refine below_set ?_ GE194.out) | exact HB.out)) hb); clear BK177; clear BK183; clear BK187; clear BK194; clear HB; have BK177 := n0_; have BK183 := n1_; have BK187 := n2_; have BK194 := n3_; have HB := n4_; clear n0_ n1_ n2_ n3_ n4_; (try clear hb); (try clear hb2); (try clear hk); (try clear hi)))
                                    go_meet
                                    case rel => exact ⟨_, (true), (by first | rfl | (simp; done) | (simp [*]; done)), H', ⟨by have := HJ6.out; have := HK2.out; have := HJ26.out; have := HJ31.out; first | omega | exact Nat.le_refl _⟩, ⟨by (with_reducible repeat (first | refine blk_drewN ?_ _ | refine blk_drew ?_ | refine blk_alloc ?_ _)); exact BK177.out⟩, ⟨by (with_reducible repeat (first | refine blk_drewN ?_ _ | refine blk_drew ?_ | refine blk_alloc ?_ _)); exact BK183.out⟩, ⟨by (with_reducible repeat (first | refine blk_drewN ?_ _ | refine blk_drew ?_ | refine blk_alloc ?_ _)); exact BK187.out⟩, ⟨by (with_reducible repeat (first | refine blk_drewN ?_ _ | refine blk_drew ?_ | refine blk_alloc ?_ _)); exact BK194.out⟩, ⟨by repeat (first | (with_reducible first | exact HB.out | apply below_alloc | apply pw_below_drewN | apply below_drew1 | refine below_set ?_ GE177.out | refine below_set ?_ GE183.out | refine below_set ?_ GE187.out | refine below_set ?_ GE194.out) | exact HB.out)⟩⟩
                                · replace c67 := Bool.eq_false_iff.mpr c67
                                  subst c67
                                  have H1 : (trammellaw18_AbsWidens.j4 kj31 l1 a2 x8_2 x9_2 true x178000_2 x178001_2 x178002_2 x178003_2 t179 t180 t181 t182 ((rd_T28 l1 x9_2).f0.f0) ((rd_T28 l1 x9_2).f0.f1) ((rd_T28 l1 x9_2).f1.f0) ((rd_T28 l1 x9_2).f1.f1) t190 t191 t192 t193) = some r := by rw [if_neg (show ¬ (false = true) by decide)] at H; exact H
                                  clear H
                                  have H := H1
                                  clear H1
                                  have H' := Aside0.mk H
                                  clear H
                                  have hnb117 := NB177_183.out
                                  have hnc117 := NB183_177.out
                                  have hnb118 := NB177_187.out
                                  have hnc118 := NB187_177.out
                                  have hnb119 := NB177_194.out
                                  have hnc119 := NB194_177.out
                                  have hcz120_0 : w61.cell? ⟨gb177, 0, none⟩ = some (.int .u64 x178000_2) := (blk_cell BK177.out 0).trans rfl
                                  have hcz120_1 : w61.cell? ⟨gb177, 1, none⟩ = some (.int .u64 x178001_2) := (blk_cell BK177.out 1).trans rfl
                                  have hcz120_2 : w61.cell? ⟨gb177, 2, none⟩ = some (.int .i64 x178002_2) := (blk_cell BK177.out 2).trans rfl
                                  have hcz120_3 : w61.cell? ⟨gb177, 3, none⟩ = some (.int .u64 x178003_2) := (blk_cell BK177.out 3).trans rfl
                                  have hfz120_0 := blk_frozen BK177.out 0
                                  have hfz120_1 := blk_frozen BK177.out 1
                                  have hfz120_2 := blk_frozen BK177.out 2
                                  have hfz120_3 := blk_frozen BK177.out 3
                                  have hnb121 := NB194_183.out
                                  have hnc121 := NB183_194.out
                                  have hnb122 := NB194_187.out
                                  have hnc122 := NB187_194.out
                                  have hcz123_0 : w61.cell? ⟨gb194, 0, none⟩ = some (.int .u64 0) := (blk_cell BK194.out 0).trans rfl
                                  have hcz123_1 : w61.cell? ⟨gb194, 1, none⟩ = some (.int .u64 0) := (blk_cell BK194.out 1).trans rfl
                                  have hcz123_2 : w61.cell? ⟨gb194, 2, none⟩ = some (.int .i64 0) := (blk_cell BK194.out 2).trans rfl
                                  have hcz123_3 : w61.cell? ⟨gb194, 3, none⟩ = some (.int .u64 0) := (blk_cell BK194.out 3).trans rfl
                                  have hfz123_0 := blk_frozen BK194.out 0
                                  have hfz123_1 := blk_frozen BK194.out 1
                                  have hfz123_2 := blk_frozen BK194.out 2
                                  have hfz123_3 := blk_frozen BK194.out 3
                                  go_wp2_with (first | ((with_reducible refine gate_callee (f := 9) rfl ?_); refine goesL_ (some 58) rfl rfl Tryd.func9 (by kernel_rfl) rfl #[.agg #[.int .u64 x178000_2, .int .u64 x178001_2, .int .i64 x178002_2, .int .u64 x178003_2], .agg #[.int .u64 t190, .int .u64 t191, .int .i64 t192, .int .u64 t193]] rfl (by (try simp only [List.map_toArray, List.map_cons, List.map_nil]); first | done | rfl | (simp only [List.length_drop, List.length_take]; rfl)) ?_; (with_reducible refine (abs_Within.calls x178000_2 x178001_2 x178002_2 x178003_2 t190 t191 t192 t193 false _ A66.out).mono ?_); rintro e w124 ⟨rfl, hb⟩; refine ⟨_, rfl, ?_⟩; have n0_ := Aside0.mk (blk_below (g := gb177) (o := .cells #[.int .u64 x178000_2, .int .u64 x178001_2, .int .i64 x178002_2, .int .u64 x178003_2] 28 (0, 0)) (by (with_reducible repeat (first | refine blk_drewN ?_ _ | refine blk_drew ?_ | refine blk_alloc ?_ _)); refine blk_far ?_ NB177_194.out _; (with_reducible repeat (first | refine blk_drewN ?_ _ | refine blk_drew ?_ | refine blk_alloc ?_ _)); refine blk_far ?_ NB177_194.out _; (with_reducible repeat (first | refine blk_drewN ?_ _ | refine blk_drew ?_ | refine blk_alloc ?_ _)); refine blk_far ?_ NB177_194.out _; (with_reducible repeat (first | refine blk_drewN ?_ _ | refine blk_drew ?_ | refine blk_alloc ?_ _)); refine blk_far ?_ NB177_194.out _; (with_reducible repeat (first | refine blk_drewN ?_ _ | refine blk_drew ?_ | refine blk_alloc ?_ _)); exact BK177.out) hb); have n1_ := Aside0.mk (blk_below (g := gb183) (o := .cells #[.int .u64 t179, .int .u64 t180, .int .i64 t181, .int .u64 t182] 28 (0, 0)) (by (with_reducible repeat (first | refine blk_drewN ?_ _ | refine blk_drew ?_ | refine blk_alloc ?_ _)); refine blk_far ?_ NB183_194.out _; (with_reducible repeat (first | refine blk_drewN ?_ _ | refine blk_drew ?_ | refine blk_alloc ?_ _)); refine blk_far ?_ NB183_194.out _; (with_reducible repeat (first | refine blk_drewN ?_ _ | refine blk_drew ?_ | refine blk_alloc ?_ _)); refine blk_far ?_ NB183_194.out _; (with_reducible repeat (first | refine blk_drewN ?_ _ | refine blk_drew ?_ | refine blk_alloc ?_ _)); refine blk_far ?_ NB183_194.out _; (with_reducible repeat (first | refine blk_drewN ?_ _ | refine blk_drew ?_ | refine blk_alloc ?_ _)); exact BK183.out) hb); have n2_ := Aside0.mk (blk_below (g := gb187) (o := .cells #[.int .u64 ((rd_T28 l1 x9_2).f0.f0), .int .u64 ((rd_T28 l1 x9_2).f0.f1), .int .i64 ((rd_T28 l1 x9_2).f1.f0), .int .u64 ((rd_T28 l1 x9_2).f1.f1)] 28 (0, 0)) (by (with_reducible repeat (first | refine blk_drewN ?_ _ | refine blk_drew ?_ | refine blk_alloc ?_ _)); refine blk_far ?_ NB187_194.out _; (with_reducible repeat (first | refine blk_drewN ?_ _ | refine blk_drew ?_ | refine blk_alloc ?_ _)); refine blk_far ?_ NB187_194.out _; (with_reducible repeat (first | refine blk_drewN ?_ _ | refine blk_drew ?_ | refine blk_alloc ?_ _)); refine blk_far ?_ NB187_194.out _; (with_reducible repeat (first | refine blk_drewN ?_ _ | refine blk_drew ?_ | refine blk_alloc ?_ _)); refine blk_far ?_ NB187_194.out _; (with_reducible repeat (first | refine blk_drewN ?_ _ | refine blk_drew ?_ | refine blk_alloc ?_ _)); exact BK187.out) hb); have n3_ := Aside0.mk (blk_below (g := gb194) (o := .cells #[.int .u64 t190, .int .u64 t191, .int .i64 t192, .int .u64 t193] 28 (0, 0)) (by (with_reducible repeat (first | refine blk_drewN ?_ _ | refine blk_drew ?_ | refine blk_alloc ?_ _)); refine blk_put (cs := #[.int .u64 t190, .int .u64 t191, .int .i64 t192, .int .u64 0]) ?_ 3 _ rfl; (with_reducible repeat (first | refine blk_drewN ?_ _ | refine blk_drew ?_ | refine blk_alloc ?_ _)); refine blk_put (cs := #[.int .u64 t190, .int .u64 t191, .int .i64 0, .int .u64 0]) ?_ 2 _ rfl; (with_reducible repeat (first | refine blk_drewN ?_ _ | refine blk_drew ?_ | refine blk_alloc ?_ _)); refine blk_put (cs := #[.int .u64 t190, .int .u64 0, .int .i64 0, .int .u64 0]) ?_ 1 _ rfl; (with_reducible repeat (first | refine blk_drewN ?_ _ | refine blk_drew ?_ | refine blk_alloc ?_ _)); refine blk_put (cs := #[.int .u64 0, .int .u64 0, .int .i64 0, .int .u64 0]) ?_ 0 _ rfl; (with_reducible repeat (first | refine blk_drewN ?_ _ | refine blk_drew ?_ | refine blk_alloc ?_ _)); exact BK194.out) hb); have n4_ := Aside0.mk (below_step (by repeat (first | (with_reducible first | exact HB.out | apply below_alloc | apply pw_below_drewN | apply below_drew1 | refine below_set ?_ GE177.out | refine below_set ?_ GE183.out | refine below_set ?_ GE187.out | refine below_set ?_ GE194.out) | exact HB.out)) hb); clear BK177; clear BK183; clear BK187; clear BK194; clear HB; have BK177 := n0_; have BK183 := n1_; have BK187 := n2_; have BK194 := n3_; have HB := n4_; clear n0_ n1_ n2_ n3_ n4_; (try clear hb); (try clear hb2); (try clear hk); (try clear hi)))
                                  go_meet
                                  case rel => exact ⟨_, (true), (by first | rfl | (simp; done) | (simp [*]; done)), H', ⟨by have := HJ6.out; have := HK2.out; have := HJ26.out; have := HJ31.out; first | omega | exact Nat.le_refl _⟩, ⟨by (with_reducible repeat (first | refine blk_drewN ?_ _ | refine blk_drew ?_ | refine blk_alloc ?_ _)); exact BK177.out⟩, ⟨by (with_reducible repeat (first | refine blk_drewN ?_ _ | refine blk_drew ?_ | refine blk_alloc ?_ _)); exact BK183.out⟩, ⟨by (with_reducible repeat (first | refine blk_drewN ?_ _ | refine blk_drew ?_ | refine blk_alloc ?_ _)); exact BK187.out⟩, ⟨by (with_reducible repeat (first | refine blk_drewN ?_ _ | refine blk_drew ?_ | refine blk_alloc ?_ _)); exact BK194.out⟩, ⟨by repeat (first | (with_reducible first | exact HB.out | apply below_alloc | apply pw_below_drewN | apply below_drew1 | refine below_set ?_ GE177.out | refine below_set ?_ GE183.out | refine below_set ?_ GE187.out | refine below_set ?_ GE194.out) | exact HB.out)⟩⟩
                              case rest =>
                                clear HC54
                                try clear c1
                                try clear p1
                                try clear q1
                                try clear hx1
                                try clear c2
                                try clear p2
                                try clear c3
                                try clear c4
                                try clear c5
                                try clear c6
                                try clear p6
                                try clear c7
                                try clear c8
                                try clear c9
                                try clear c10
                                try clear c11
                                try clear c12
                                try clear c15
                                try clear c17
                                try clear p18
                                try clear q18
                                try clear hx18
                                try clear c23
                                try clear c26
                                try clear c28
                                try clear c28b0
                                try clear c29
                                try clear c30
                                try clear c30b0
                                try clear c31
                                try clear c31b0
                                try clear c34
                                try clear c35
                                try clear c38
                                try clear c40
                                try clear c41
                                try clear c45
                                try clear c48
                                try clear c49
                                try clear c52
                                try clear c55
                                try clear c56
                                try clear c58
                                try clear c62
                                try clear c63
                                try clear c64
                                try clear p64
                                try clear c67
                                try clear c69
                                try clear c71
                                try clear c73
                                try clear c74
                                try clear c75
                                try clear c77
                                try clear c78
                                try clear c81
                                try clear c90
                                try clear c91
                                try clear c92
                                try clear c94
                                try clear c95
                                try clear c98
                                try clear c105
                                try clear c106
                                try clear c107
                                try clear c109
                                try clear c110
                                try clear c113
                                try clear c117
                                try clear c118
                                try clear c119
                                try clear c121
                                try clear c122
                                try clear hcz100_0
                                try clear hcz100_1
                                try clear hcz100_2
                                try clear hcz100_3
                                try clear hcz102_0
                                try clear hcz102_1
                                try clear hcz102_2
                                try clear hcz102_3
                                try clear hcz103_0
                                try clear hcz103_1
                                try clear hcz103_2
                                try clear hcz103_3
                                try clear hcz108_0
                                try clear hcz108_1
                                try clear hcz108_2
                                try clear hcz108_3
                                try clear hcz111_0
                                try clear hcz111_1
                                try clear hcz111_2
                                try clear hcz111_3
                                try clear hcz114_0
                                try clear hcz114_1
                                try clear hcz114_2
                                try clear hcz114_3
                                try clear hcz115_0
                                try clear hcz115_1
                                try clear hcz115_2
                                try clear hcz115_3
                                try clear hcz120_0
                                try clear hcz120_1
                                try clear hcz120_2
                                try clear hcz120_3
                                try clear hcz123_0
                                try clear hcz123_1
                                try clear hcz123_2
                                try clear hcz123_3
                                try clear hcz13_0
                                try clear hcz13_1
                                try clear hcz13_2
                                try clear hcz13_3
                                try clear hcz18_0
                                try clear hcz18_1
                                try clear hcz18_2
                                try clear hcz18_3
                                try clear hcz20_0
                                try clear hcz20_1
                                try clear hcz20_2
                                try clear hcz20_3
                                try clear hcz21_0
                                try clear hcz21_1
                                try clear hcz21_2
                                try clear hcz21_3
                                try clear hcz24_0
                                try clear hcz24_1
                                try clear hcz24_2
                                try clear hcz24_3
                                try clear hcz36_0
                                try clear hcz36_1
                                try clear hcz36_2
                                try clear hcz36_3
                                try clear hcz42_0
                                try clear hcz42_1
                                try clear hcz42_2
                                try clear hcz42_3
                                try clear hcz44_0
                                try clear hcz44_1
                                try clear hcz44_2
                                try clear hcz44_3
                                try clear hcz46_0
                                try clear hcz46_1
                                try clear hcz46_2
                                try clear hcz46_3
                                try clear hcz50_0
                                try clear hcz50_1
                                try clear hcz50_2
                                try clear hcz50_3
                                try clear hcz57_0
                                try clear hcz57_1
                                try clear hcz57_2
                                try clear hcz57_3
                                try clear hcz59_0
                                try clear hcz59_1
                                try clear hcz59_2
                                try clear hcz59_3
                                try clear hcz65_0
                                try clear hcz65_1
                                try clear hcz65_2
                                try clear hcz65_3
                                try clear hcz76_0
                                try clear hcz76_1
                                try clear hcz76_2
                                try clear hcz76_3
                                try clear hcz79_0
                                try clear hcz79_1
                                try clear hcz79_2
                                try clear hcz79_3
                                try clear hcz82_0
                                try clear hcz82_1
                                try clear hcz82_2
                                try clear hcz82_3
                                try clear hcz83_0
                                try clear hcz83_1
                                try clear hcz83_2
                                try clear hcz83_3
                                try clear hcz85_0
                                try clear hcz85_1
                                try clear hcz85_2
                                try clear hcz85_3
                                try clear hcz86_0
                                try clear hcz86_1
                                try clear hcz86_2
                                try clear hcz86_3
                                try clear hcz88_0
                                try clear hcz88_1
                                try clear hcz88_2
                                try clear hcz88_3
                                try clear hcz93_0
                                try clear hcz93_1
                                try clear hcz93_2
                                try clear hcz93_3
                                try clear hcz96_0
                                try clear hcz96_1
                                try clear hcz96_2
                                try clear hcz96_3
                                try clear hcz99_0
                                try clear hcz99_1
                                try clear hcz99_2
                                try clear hcz99_3
                                try clear hfz100_0
                                try clear hfz100_1
                                try clear hfz100_2
                                try clear hfz100_3
                                try clear hfz102_0
                                try clear hfz102_1
                                try clear hfz102_2
                                try clear hfz102_3
                                try clear hfz103_0
                                try clear hfz103_1
                                try clear hfz103_2
                                try clear hfz103_3
                                try clear hfz108_0
                                try clear hfz108_1
                                try clear hfz108_2
                                try clear hfz108_3
                                try clear hfz111_0
                                try clear hfz111_1
                                try clear hfz111_2
                                try clear hfz111_3
                                try clear hfz114_0
                                try clear hfz114_1
                                try clear hfz114_2
                                try clear hfz114_3
                                try clear hfz115_0
                                try clear hfz115_1
                                try clear hfz115_2
                                try clear hfz115_3
                                try clear hfz120_0
                                try clear hfz120_1
                                try clear hfz120_2
                                try clear hfz120_3
                                try clear hfz123_0
                                try clear hfz123_1
                                try clear hfz123_2
                                try clear hfz123_3
                                try clear hfz13_0
                                try clear hfz13_1
                                try clear hfz13_2
                                try clear hfz13_3
                                try clear hfz18_0
                                try clear hfz18_1
                                try clear hfz18_2
                                try clear hfz18_3
                                try clear hfz20_0
                                try clear hfz20_1
                                try clear hfz20_2
                                try clear hfz20_3
                                try clear hfz21_0
                                try clear hfz21_1
                                try clear hfz21_2
                                try clear hfz21_3
                                try clear hfz24_0
                                try clear hfz24_1
                                try clear hfz24_2
                                try clear hfz24_3
                                try clear hfz36_0
                                try clear hfz36_1
                                try clear hfz36_2
                                try clear hfz36_3
                                try clear hfz42_0
                                try clear hfz42_1
                                try clear hfz42_2
                                try clear hfz42_3
                                try clear hfz44_0
                                try clear hfz44_1
                                try clear hfz44_2
                                try clear hfz44_3
                                try clear hfz46_0
                                try clear hfz46_1
                                try clear hfz46_2
                                try clear hfz46_3
                                try clear hfz50_0
                                try clear hfz50_1
                                try clear hfz50_2
                                try clear hfz50_3
                                try clear hfz57_0
                                try clear hfz57_1
                                try clear hfz57_2
                                try clear hfz57_3
                                try clear hfz59_0
                                try clear hfz59_1
                                try clear hfz59_2
                                try clear hfz59_3
                                try clear hfz65_0
                                try clear hfz65_1
                                try clear hfz65_2
                                try clear hfz65_3
                                try clear hfz76_0
                                try clear hfz76_1
                                try clear hfz76_2
                                try clear hfz76_3
                                try clear hfz79_0
                                try clear hfz79_1
                                try clear hfz79_2
                                try clear hfz79_3
                                try clear hfz82_0
                                try clear hfz82_1
                                try clear hfz82_2
                                try clear hfz82_3
                                try clear hfz83_0
                                try clear hfz83_1
                                try clear hfz83_2
                                try clear hfz83_3
                                try clear hfz85_0
                                try clear hfz85_1
                                try clear hfz85_2
                                try clear hfz85_3
                                try clear hfz86_0
                                try clear hfz86_1
                                try clear hfz86_2
                                try clear hfz86_3
                                try clear hfz88_0
                                try clear hfz88_1
                                try clear hfz88_2
                                try clear hfz88_3
                                try clear hfz93_0
                                try clear hfz93_1
                                try clear hfz93_2
                                try clear hfz93_3
                                try clear hfz96_0
                                try clear hfz96_1
                                try clear hfz96_2
                                try clear hfz96_3
                                try clear hfz99_0
                                try clear hfz99_1
                                try clear hfz99_2
                                try clear hfz99_3
                                try clear hx186_0
                                try clear hx186_1
                                try clear hx186_2
                                try clear hx186_3
                                try clear p1
                                try clear p18
                                try clear p186
                                try clear p2
                                try clear q1
                                try clear q18
                                try clear q186
                                obtain ⟨kq, x78_53, rfl, HA, HJ53, BK177, BK183, BK187, BK194, HB⟩ := hcut
                                cases kq with
                                | zero => exact absurd HA.out (by simp [trammellaw18_AbsWidens.j4])
                                | succ kj53 =>
                                  have H := HA.out
                                  clear HA
                                  simp only [trammellaw18_AbsWidens.j4] at H
                                  by_cases c125 : x78_53 = true
                                  · subst c125
                                    have H1 : (some false) = some r := by rw [if_pos rfl] at H; exact H
                                    clear H
                                    have H := H1
                                    clear H1
                                    exact absurd (Option.some.inj H) (by rw [hr]; decide)
                                  · replace c125 := Bool.eq_false_iff.mpr c125
                                    subst c125
                                    have H1 : (if ((!(t190 == x178000_2) || (!(t191 == x178001_2))) || ((!(t192 == x178002_2) || (!(t193 == x178003_2))))) = true then (trammellaw18_AbsWidens.l0 kj53 l1 a2 (wrap64 (x8_2 + 1)) (wrap64 (x9_2 + 1)) t190 t191 t192 t193 t179 t180 t181 t182) else ((abs_Within.f ((rd_T28 l1 x9_2).f0.f0) ((rd_T28 l1 x9_2).f0.f1) ((rd_T28 l1 x9_2).f1.f0) ((rd_T28 l1 x9_2).f1.f1) x178000_2 x178001_2 x178002_2 x178003_2).bind fun t199 => (if t199 = true then (trammellaw18_AbsWidens.l0 kj53 l1 a2 x8_2 (wrap64 (x9_2 + 1)) t190 t191 t192 t193 t179 t180 t181 t182) else (some false)))) = some r := by rw [if_neg (show ¬ (false = true) by decide)] at H; exact H
                                    clear H
                                    have H := H1
                                    clear H1
                                    by_cases c126 : ((!(t190 == x178000_2) || (!(t191 == x178001_2))) || ((!(t192 == x178002_2) || (!(t193 == x178003_2))))) = true
                                    · rw [if_pos c126] at H
                                      have c126b0 : ((!(t190 == x178000_2) || (!(t191 == x178001_2))) || ((!(t192 == x178002_2) || (!(t193 == x178003_2))))) = true := c126
                                      clear c126
                                      have H' := Aside0.mk H
                                      clear H
                                      have hnb127 := NB194_177.out
                                      have hnc127 := NB177_194.out
                                      have hnb128 := NB194_183.out
                                      have hnc128 := NB183_194.out
                                      have hnb129 := NB194_187.out
                                      have hnc129 := NB187_194.out
                                      have hcz130_0 : wc.cell? ⟨gb194, 0, none⟩ = some (.int .u64 t190) := (blk_cell BK194.out 0).trans rfl
                                      have hcz130_1 : wc.cell? ⟨gb194, 1, none⟩ = some (.int .u64 t191) := (blk_cell BK194.out 1).trans rfl
                                      have hcz130_2 : wc.cell? ⟨gb194, 2, none⟩ = some (.int .i64 t192) := (blk_cell BK194.out 2).trans rfl
                                      have hcz130_3 : wc.cell? ⟨gb194, 3, none⟩ = some (.int .u64 t193) := (blk_cell BK194.out 3).trans rfl
                                      have hfz130_0 := blk_frozen BK194.out 0
                                      have hfz130_1 := blk_frozen BK194.out 1
                                      have hfz130_2 := blk_frozen BK194.out 2
                                      have hfz130_3 := blk_frozen BK194.out 3
                                      have hnb131 := NB177_183.out
                                      have hnc131 := NB183_177.out
                                      have hnb132 := NB177_187.out
                                      have hnc132 := NB187_177.out
                                      have hcz133_0 : wc.cell? ⟨gb177, 0, none⟩ = some (.int .u64 x178000_2) := (blk_cell BK177.out 0).trans rfl
                                      have hcz133_1 : wc.cell? ⟨gb177, 1, none⟩ = some (.int .u64 x178001_2) := (blk_cell BK177.out 1).trans rfl
                                      have hcz133_2 : wc.cell? ⟨gb177, 2, none⟩ = some (.int .i64 x178002_2) := (blk_cell BK177.out 2).trans rfl
                                      have hcz133_3 : wc.cell? ⟨gb177, 3, none⟩ = some (.int .u64 x178003_2) := (blk_cell BK177.out 3).trans rfl
                                      have hfz133_0 := blk_frozen BK177.out 0
                                      have hfz133_1 := blk_frozen BK177.out 1
                                      have hfz133_2 := blk_frozen BK177.out 2
                                      have hfz133_3 := blk_frozen BK177.out 3
                                      go_wp2
                                      go_roundg kj53
                                      case measure => have := HJ6.out; have := HK2.out; have := HJ26.out; have := HJ31.out; have := HJ53.out; omega
                                      case rel => exact ⟨(wrap64 (x8_2 + 1)), (wrap64 (x9_2 + 1)), (t190), (t191), (t192), (t193), (by first | rfl | (simp; done) | (simp [*]; done)), (by first | rfl | (simp; done) | (simp [*]; done)), H', ⟨by have := HJ6.out; have := HK2.out; have := HJ26.out; have := HJ31.out; have := HJ53.out; omega⟩, ⟨by (with_reducible repeat (first | refine blk_drewN ?_ _ | refine blk_drew ?_ | refine blk_alloc ?_ _)); refine blk_put (cs := #[.int .u64 t190, .int .u64 t191, .int .i64 t192, .int .u64 x178003_2]) ?_ 3 _ (by first | rfl | (simp_all; done)); (with_reducible repeat (first | refine blk_drewN ?_ _ | refine blk_drew ?_ | refine blk_alloc ?_ _)); refine blk_put (cs := #[.int .u64 t190, .int .u64 t191, .int .i64 x178002_2, .int .u64 x178003_2]) ?_ 2 _ (by first | rfl | (simp_all; done)); (with_reducible repeat (first | refine blk_drewN ?_ _ | refine blk_drew ?_ | refine blk_alloc ?_ _)); refine blk_put (cs := #[.int .u64 t190, .int .u64 x178001_2, .int .i64 x178002_2, .int .u64 x178003_2]) ?_ 1 _ (by first | rfl | (simp_all; done)); (with_reducible repeat (first | refine blk_drewN ?_ _ | refine blk_drew ?_ | refine blk_alloc ?_ _)); refine blk_put (cs := #[.int .u64 x178000_2, .int .u64 x178001_2, .int .i64 x178002_2, .int .u64 x178003_2]) ?_ 0 _ (by first | rfl | (simp_all; done)); (with_reducible repeat (first | refine blk_drewN ?_ _ | refine blk_drew ?_ | refine blk_alloc ?_ _)); exact BK177.out⟩, ⟨by (with_reducible repeat (first | refine blk_drewN ?_ _ | refine blk_drew ?_ | refine blk_alloc ?_ _)); refine blk_far ?_ NB183_177.out _; (with_reducible repeat (first | refine blk_drewN ?_ _ | refine blk_drew ?_ | refine blk_alloc ?_ _)); refine blk_far ?_ NB183_177.out _; (with_reducible repeat (first | refine blk_drewN ?_ _ | refine blk_drew ?_ | refine blk_alloc ?_ _)); refine blk_far ?_ NB183_177.out _; (with_reducible repeat (first | refine blk_drewN ?_ _ | refine blk_drew ?_ | refine blk_alloc ?_ _)); refine blk_far ?_ NB183_177.out _; (with_reducible repeat (first | refine blk_drewN ?_ _ | refine blk_drew ?_ | refine blk_alloc ?_ _)); exact BK183.out⟩, ⟨by repeat (first | (with_reducible first | exact HB.out | apply below_alloc | apply pw_below_drewN | apply below_drew1 | refine below_set ?_ GE177.out | refine below_set ?_ GE183.out | refine below_set ?_ GE187.out | refine below_set ?_ GE194.out) | exact HB.out)⟩⟩
                                    · rw [if_neg c126] at H
                                      have c126b0 : ((!(t190 == x178000_2) || (!(t191 == x178001_2))) || ((!(t192 == x178002_2) || (!(t193 == x178003_2))))) = false := by simpa using c126
                                      clear c126
                                      replace H := Option.bind_eq_some_iff.mp H
                                      obtain ⟨t199, A1340, H⟩ := H
                                      replace H : (if t199 = true then (trammellaw18_AbsWidens.l0 kj53 l1 a2 x8_2 (wrap64 (x9_2 + 1)) t190 t191 t192 t193 t179 t180 t181 t182) else (some false)) = some r := H
                                      have A134 := Aside0.mk A1340
                                      clear A1340
                                      by_cases c135 : t199 = true
                                      · subst c135
                                        have H1 : (trammellaw18_AbsWidens.l0 kj53 l1 a2 x8_2 (wrap64 (x9_2 + 1)) t190 t191 t192 t193 t179 t180 t181 t182) = some r := by rw [if_pos rfl] at H; exact H
                                        clear H
                                        have H := H1
                                        clear H1
                                        have H' := Aside0.mk H
                                        clear H
                                        have hnb136 := NB194_177.out
                                        have hnc136 := NB177_194.out
                                        have hnb137 := NB194_183.out
                                        have hnc137 := NB183_194.out
                                        have hnb138 := NB194_187.out
                                        have hnc138 := NB187_194.out
                                        have hcz139_0 : wc.cell? ⟨gb194, 0, none⟩ = some (.int .u64 t190) := (blk_cell BK194.out 0).trans rfl
                                        have hcz139_1 : wc.cell? ⟨gb194, 1, none⟩ = some (.int .u64 t191) := (blk_cell BK194.out 1).trans rfl
                                        have hcz139_2 : wc.cell? ⟨gb194, 2, none⟩ = some (.int .i64 t192) := (blk_cell BK194.out 2).trans rfl
                                        have hcz139_3 : wc.cell? ⟨gb194, 3, none⟩ = some (.int .u64 t193) := (blk_cell BK194.out 3).trans rfl
                                        have hfz139_0 := blk_frozen BK194.out 0
                                        have hfz139_1 := blk_frozen BK194.out 1
                                        have hfz139_2 := blk_frozen BK194.out 2
                                        have hfz139_3 := blk_frozen BK194.out 3
                                        have hnb140 := NB177_183.out
                                        have hnc140 := NB183_177.out
                                        have hnb141 := NB177_187.out
                                        have hnc141 := NB187_177.out
                                        have hcz142_0 : wc.cell? ⟨gb177, 0, none⟩ = some (.int .u64 x178000_2) := (blk_cell BK177.out 0).trans rfl
                                        have hcz142_1 : wc.cell? ⟨gb177, 1, none⟩ = some (.int .u64 x178001_2) := (blk_cell BK177.out 1).trans rfl
                                        have hcz142_2 : wc.cell? ⟨gb177, 2, none⟩ = some (.int .i64 x178002_2) := (blk_cell BK177.out 2).trans rfl
                                        have hcz142_3 : wc.cell? ⟨gb177, 3, none⟩ = some (.int .u64 x178003_2) := (blk_cell BK177.out 3).trans rfl
                                        have hfz142_0 := blk_frozen BK177.out 0
                                        have hfz142_1 := blk_frozen BK177.out 1
                                        have hfz142_2 := blk_frozen BK177.out 2
                                        have hfz142_3 := blk_frozen BK177.out 3
                                        have hnb143 := NB187_183.out
                                        have hnc143 := NB183_187.out
                                        have hcz144_0 : wc.cell? ⟨gb187, 0, none⟩ = some (.int .u64 ((rd_T28 l1 x9_2).f0.f0)) := (blk_cell BK187.out 0).trans rfl
                                        have hcz144_1 : wc.cell? ⟨gb187, 1, none⟩ = some (.int .u64 ((rd_T28 l1 x9_2).f0.f1)) := (blk_cell BK187.out 1).trans rfl
                                        have hcz144_2 : wc.cell? ⟨gb187, 2, none⟩ = some (.int .i64 ((rd_T28 l1 x9_2).f1.f0)) := (blk_cell BK187.out 2).trans rfl
                                        have hcz144_3 : wc.cell? ⟨gb187, 3, none⟩ = some (.int .u64 ((rd_T28 l1 x9_2).f1.f1)) := (blk_cell BK187.out 3).trans rfl
                                        have hfz144_0 := blk_frozen BK187.out 0
                                        have hfz144_1 := blk_frozen BK187.out 1
                                        have hfz144_2 := blk_frozen BK187.out 2
                                        have hfz144_3 := blk_frozen BK187.out 3
                                        go_wp2_with (first | ((with_reducible refine gate_callee (f := 9) rfl ?_); refine goesL_ (some 86) rfl rfl Tryd.func9 (by kernel_rfl) rfl #[.agg #[.int .u64 ((rd_T28 l1 x9_2).f0.f0), .int .u64 ((rd_T28 l1 x9_2).f0.f1), .int .i64 ((rd_T28 l1 x9_2).f1.f0), .int .u64 ((rd_T28 l1 x9_2).f1.f1)], .agg #[.int .u64 x178000_2, .int .u64 x178001_2, .int .i64 x178002_2, .int .u64 x178003_2]] rfl (by (try simp only [List.map_toArray, List.map_cons, List.map_nil]); first | done | rfl | (simp only [List.length_drop, List.length_take]; rfl)) ?_; (with_reducible refine (abs_Within.calls ((rd_T28 l1 x9_2).f0.f0) ((rd_T28 l1 x9_2).f0.f1) ((rd_T28 l1 x9_2).f1.f0) ((rd_T28 l1 x9_2).f1.f1) x178000_2 x178001_2 x178002_2 x178003_2 true _ A134.out).mono ?_); rintro e w145 ⟨rfl, hb⟩; refine ⟨_, rfl, ?_⟩; have n0_ := Aside0.mk (blk_below (g := gb177) (o := .cells #[.int .u64 x178000_2, .int .u64 x178001_2, .int .i64 x178002_2, .int .u64 x178003_2] 28 (0, 0)) (by (with_reducible repeat (first | refine blk_drewN ?_ _ | refine blk_drew ?_ | refine blk_alloc ?_ _)); exact BK177.out) hb); have n1_ := Aside0.mk (blk_below (g := gb183) (o := .cells #[.int .u64 t179, .int .u64 t180, .int .i64 t181, .int .u64 t182] 28 (0, 0)) (by (with_reducible repeat (first | refine blk_drewN ?_ _ | refine blk_drew ?_ | refine blk_alloc ?_ _)); exact BK183.out) hb); have n2_ := Aside0.mk (blk_below (g := gb187) (o := .cells #[.int .u64 ((rd_T28 l1 x9_2).f0.f0), .int .u64 ((rd_T28 l1 x9_2).f0.f1), .int .i64 ((rd_T28 l1 x9_2).f1.f0), .int .u64 ((rd_T28 l1 x9_2).f1.f1)] 28 (0, 0)) (by (with_reducible repeat (first | refine blk_drewN ?_ _ | refine blk_drew ?_ | refine blk_alloc ?_ _)); exact BK187.out) hb); have n3_ := Aside0.mk (blk_below (g := gb194) (o := .cells #[.int .u64 t190, .int .u64 t191, .int .i64 t192, .int .u64 t193] 28 (0, 0)) (by (with_reducible repeat (first | refine blk_drewN ?_ _ | refine blk_drew ?_ | refine blk_alloc ?_ _)); exact BK194.out) hb); have n4_ := Aside0.mk (below_step (by repeat (first | (with_reducible first | exact HB.out | apply below_alloc | apply pw_below_drewN | apply below_drew1 | refine below_set ?_ GE177.out | refine below_set ?_ GE183.out | refine below_set ?_ GE187.out | refine below_set ?_ GE194.out) | exact HB.out)) hb); clear BK177; clear BK183; clear BK187; clear BK194; clear HB; have BK177 := n0_; have BK183 := n1_; have BK187 := n2_; have BK194 := n3_; have HB := n4_; clear n0_ n1_ n2_ n3_ n4_; (try clear hb); (try clear hb2); (try clear hk); (try clear hi); have hcz146_0 : w145.cell? ⟨gb194, 0, none⟩ = some (.int .u64 t190) := (blk_cell BK194.out 0).trans rfl; have hcz146_1 : w145.cell? ⟨gb194, 1, none⟩ = some (.int .u64 t191) := (blk_cell BK194.out 1).trans rfl; have hcz146_2 : w145.cell? ⟨gb194, 2, none⟩ = some (.int .i64 t192) := (blk_cell BK194.out 2).trans rfl; have hcz146_3 : w145.cell? ⟨gb194, 3, none⟩ = some (.int .u64 t193) := (blk_cell BK194.out 3).trans rfl; have hfz146_0 := blk_frozen BK194.out 0; have hfz146_1 := blk_frozen BK194.out 1; have hfz146_2 := blk_frozen BK194.out 2; have hfz146_3 := blk_frozen BK194.out 3; have hcz147_0 : w145.cell? ⟨gb177, 0, none⟩ = some (.int .u64 x178000_2) := (blk_cell BK177.out 0).trans rfl; have hcz147_1 : w145.cell? ⟨gb177, 1, none⟩ = some (.int .u64 x178001_2) := (blk_cell BK177.out 1).trans rfl; have hcz147_2 : w145.cell? ⟨gb177, 2, none⟩ = some (.int .i64 x178002_2) := (blk_cell BK177.out 2).trans rfl; have hcz147_3 : w145.cell? ⟨gb177, 3, none⟩ = some (.int .u64 x178003_2) := (blk_cell BK177.out 3).trans rfl; have hfz147_0 := blk_frozen BK177.out 0; have hfz147_1 := blk_frozen BK177.out 1; have hfz147_2 := blk_frozen BK177.out 2; have hfz147_3 := blk_frozen BK177.out 3))
                                        go_roundg kj53
                                        case measure => have := HJ6.out; have := HK2.out; have := HJ26.out; have := HJ31.out; have := HJ53.out; omega
                                        case rel => exact ⟨(x8_2), (wrap64 (x9_2 + 1)), (t190), (t191), (t192), (t193), (by first | rfl | (simp; done) | (simp [*]; done)), (by first | rfl | (simp; done) | (simp [*]; done)), H', ⟨by have := HJ6.out; have := HK2.out; have := HJ26.out; have := HJ31.out; have := HJ53.out; omega⟩, ⟨by (with_reducible repeat (first | refine blk_drewN ?_ _ | refine blk_drew ?_ | refine blk_alloc ?_ _)); refine blk_put (cs := #[.int .u64 t190, .int .u64 t191, .int .i64 t192, .int .u64 x178003_2]) ?_ 3 _ (by first | rfl | (simp_all; done)); (with_reducible repeat (first | refine blk_drewN ?_ _ | refine blk_drew ?_ | refine blk_alloc ?_ _)); refine blk_put (cs := #[.int .u64 t190, .int .u64 t191, .int .i64 x178002_2, .int .u64 x178003_2]) ?_ 2 _ (by first | rfl | (simp_all; done)); (with_reducible repeat (first | refine blk_drewN ?_ _ | refine blk_drew ?_ | refine blk_alloc ?_ _)); refine blk_put (cs := #[.int .u64 t190, .int .u64 x178001_2, .int .i64 x178002_2, .int .u64 x178003_2]) ?_ 1 _ (by first | rfl | (simp_all; done)); (with_reducible repeat (first | refine blk_drewN ?_ _ | refine blk_drew ?_ | refine blk_alloc ?_ _)); refine blk_put (cs := #[.int .u64 x178000_2, .int .u64 x178001_2, .int .i64 x178002_2, .int .u64 x178003_2]) ?_ 0 _ (by first | rfl | (simp_all; done)); (with_reducible repeat (first | refine blk_drewN ?_ _ | refine blk_drew ?_ | refine blk_alloc ?_ _)); exact BK177.out⟩, ⟨by (with_reducible repeat (first | refine blk_drewN ?_ _ | refine blk_drew ?_ | refine blk_alloc ?_ _)); refine blk_far ?_ NB183_177.out _; (with_reducible repeat (first | refine blk_drewN ?_ _ | refine blk_drew ?_ | refine blk_alloc ?_ _)); refine blk_far ?_ NB183_177.out _; (with_reducible repeat (first | refine blk_drewN ?_ _ | refine blk_drew ?_ | refine blk_alloc ?_ _)); refine blk_far ?_ NB183_177.out _; (with_reducible repeat (first | refine blk_drewN ?_ _ | refine blk_drew ?_ | refine blk_alloc ?_ _)); refine blk_far ?_ NB183_177.out _; (with_reducible repeat (first | refine blk_drewN ?_ _ | refine blk_drew ?_ | refine blk_alloc ?_ _)); exact BK183.out⟩, ⟨by repeat (first | (with_reducible first | exact HB.out | apply below_alloc | apply pw_below_drewN | apply below_drew1 | refine below_set ?_ GE177.out | refine below_set ?_ GE183.out | refine below_set ?_ GE187.out | refine below_set ?_ GE194.out) | exact HB.out)⟩⟩
                                      · replace c135 := Bool.eq_false_iff.mpr c135
                                        subst c135
                                        have H1 : (some false) = some r := by rw [if_neg (show ¬ (false = true) by decide)] at H; exact H
                                        clear H
                                        have H := H1
                                        clear H1
                                        exact absurd (Option.some.inj H) (by rw [hr]; decide)
                      · rw [if_neg c31] at H
                        exact absurd H (by simp)
                    · rw [if_neg c30] at H
                      exact absurd H (by simp)
                  · replace c29 := Bool.eq_false_iff.mpr c29
                    subst c29
                    have H1 : (some (decide (x8_2 ≤ 66))) = some r := by rw [if_neg (show ¬ (false = true) by decide)] at H; exact H
                    clear H
                    have H := H1
                    clear H1
                    obtain rfl := Option.some.inj H
                    go_wp2
                    go_ret
                    exact ⟨by first | rfl | (simp [errW_none, errW_some] <;> rfl) | (simp [*, errW_none, errW_some] <;> rfl), by repeat (first | (with_reducible first | exact HB.out | apply below_alloc | apply pw_below_drewN | apply below_drew1 | refine below_set ?_ GE177.out | refine below_set ?_ GE183.out) | exact HB.out)⟩
  · replace c5 := Bool.eq_false_iff.mpr c5
    subst c5
    have H1 : (some false) = some r := by rw [if_neg (show ¬ (false = true) by decide)] at H; exact H
    clear H
    have H := H1
    clear H1
    exact absurd (Option.some.inj H) (by rw [hr]; decide)

end Go.Proofs.YticpdchlknbodaaDoor.PAbsWidens
