-- Written by a program of this session (wip/tools/myprint.py over the print of the kit).
import Derived.Test.YtelbmologkepeaaPPackAllx0
import Derived.Test.YtelbmologkepeaaPPackAllx1
import Derived.Test.YtelbmologkepeaaPPackAllx2
import Derived.Test.YtelbmologkepeaaPPackAllx3
namespace Go.Proofs.Ytelbmologkepeaa.PPackAll
open Go.Proofs.Ytelbmologkepeaa.Ext
open Go.RowKit Go.Proofs.YtelbmologkepeaaW.PrintWords Go.Proofs.YtelbmologkepeaaW.PrintLast Go.Proofs.YtelbmologkepeaaW.PrintMore
attribute [local go_sem] max2_int min2_int max_two min_two max_three min_three max_four min_four   -- for this text's walks alone
set_option linter.unusedVariables false
set_option linter.unusedSimpArgs false

/-! ### trammellaw04_PackAll: function 4 -/
mutual
def trammellaw04_PackAll.j0 : Nat → Int → List Int → Int → Bool → Option (Bool)
  | 0, _, _, _, _ => none
  | k + 1, x0, x1, x2, x80 => if x80 = true then (some false) else ((pack_Load.f k x0 x1).bind fun bt174 => ((trammelref04_Load.f k x0 x1).bind fun bt176 => (if bt174.1 = bt176.1 then (trammellaw04_PackAll.j1 k x0 x2 (bt174.2 != bt176.2)) else (trammellaw04_PackAll.j1 k x0 x2 true))))
def trammellaw04_PackAll.j1 : Nat → Int → Int → Bool → Option (Bool)
  | 0, _, _, _ => none
  | k + 1, x0, x2, x100 => if x100 = true then (some false) else ((pack_Store.f k x0 x2).bind fun bt178 => ((trammelref04_Store.f k x0 x2).bind fun bt182 => (if (bt178.2 == bt182.2) = true then ((trammelref01_Same.f k bt178.1 bt182.1).bind fun t186 => (some t186)) else (some false))))
end
def trammellaw04_PackAll.f (k : Nat) (a0 : Int) (l1 : List Int) (a2 : Int) : Option (Bool) := (trammellaw04_awake.f k).bind fun t161 => (if t161 = true then (if 0 ≤ (mn (l1.length : Int) 100) then (if (mn (l1.length : Int) 100) ≤ (l1.length : Int) then ((trammelref04_Of.f k a0).bind fun bt163 => ((pack_Access.f k a0).bind fun bt170 => (if (bt170.2.2.2 != bt163.2.2.2.2.2) = true then (trammellaw04_PackAll.j0 k a0 (l1.take ((mn (l1.length : Int) 100) : Int).toNat) a2 true) else (if bt170.2.1 = bt163.2.2.1 then (if (bt170.2.2.1 != bt163.2.2.2.2.1) = true then (trammellaw04_PackAll.j0 k a0 (l1.take ((mn (l1.length : Int) 100) : Int).toNat) a2 true) else (if bt170.2.2.2 = true then (if ((bt170.1 == 127) != (bt163.2.1 == 32)) = true then (trammellaw04_PackAll.j0 k a0 (l1.take ((mn (l1.length : Int) 100) : Int).toNat) a2 true) else (if bt170.1 = 127 then (trammellaw04_PackAll.j0 k a0 (l1.take ((mn (l1.length : Int) 100) : Int).toNat) a2 false) else (if bt170.1 = 126 then (trammellaw04_PackAll.j0 k a0 (l1.take ((mn (l1.length : Int) 100) : Int).toNat) a2 false) else (trammellaw04_PackAll.j0 k a0 (l1.take ((mn (l1.length : Int) 100) : Int).toNat) a2 true)))) else (trammellaw04_PackAll.j0 k a0 (l1.take ((mn (l1.length : Int) 100) : Int).toNat) a2 (bt170.1 != 0)))) else (trammellaw04_PackAll.j0 k a0 (l1.take ((mn (l1.length : Int) 100) : Int).toNat) a2 true))))) else (none)) else (none)) else (some false))
theorem trammellaw04_PackAll.mono_l : ∀ k, (∀ y0 y1 y2 y3, LeO (trammellaw04_PackAll.j0 k y0 y1 y2 y3) (trammellaw04_PackAll.j0 (k + 1) y0 y1 y2 y3)) ∧ (∀ y0 y1 y2, LeO (trammellaw04_PackAll.j1 k y0 y1 y2) (trammellaw04_PackAll.j1 (k + 1) y0 y1 y2))
  | 0 => ⟨fun _ _ _ _ r h => by simp [trammellaw04_PackAll.j0] at h, fun _ _ _ r h => by simp [trammellaw04_PackAll.j1] at h⟩
  | k + 1 => by
    obtain ⟨ih0, ih1⟩ := trammellaw04_PackAll.mono_l k
    refine ⟨?_, ?_⟩
    · intro y0 y1 y2 y3
      unfold trammellaw04_PackAll.j0
      repeat' first
      | (with_reducible exact ih0 _ _ _ _)
      | (with_reducible exact ih1 _ _ _)
      | (with_reducible exact pack_Access.mono _ _)
      | (with_reducible exact pack_Load.mono _ _ _)
      | (with_reducible exact pack_Store.mono _ _ _)
      | (with_reducible exact trammellaw04_awake.mono _)
      | (with_reducible exact trammelref01_Same.mono _ _ _)
      | (with_reducible exact trammelref04_Load.mono _ _ _)
      | (with_reducible exact trammelref04_Of.mono _ _)
      | (with_reducible exact trammelref04_Store.mono _ _ _)
      | (with_reducible exact LeO.refl _)
      | (with_reducible exact LeO.none _)
      | (with_reducible refine LeO.ite ?_ ?_)
      | (with_reducible refine LeO.bind ?_ (fun _ => ?_))
      | exact ih0 _ _ _ _
      | exact ih1 _ _ _
      | exact pack_Access.mono _ _
      | exact pack_Load.mono _ _ _
      | exact pack_Store.mono _ _ _
      | exact trammellaw04_awake.mono _
      | exact trammelref01_Same.mono _ _ _
      | exact trammelref04_Load.mono _ _ _
      | exact trammelref04_Of.mono _ _
      | exact trammelref04_Store.mono _ _ _
      | exact LeO.none _
      | refine LeO.ite ?_ ?_
      | refine LeO.bind ?_ (fun _ => ?_)
    · intro y0 y1 y2
      unfold trammellaw04_PackAll.j1
      repeat' first
      | (with_reducible exact ih0 _ _ _ _)
      | (with_reducible exact ih1 _ _ _)
      | (with_reducible exact pack_Access.mono _ _)
      | (with_reducible exact pack_Load.mono _ _ _)
      | (with_reducible exact pack_Store.mono _ _ _)
      | (with_reducible exact trammellaw04_awake.mono _)
      | (with_reducible exact trammelref01_Same.mono _ _ _)
      | (with_reducible exact trammelref04_Load.mono _ _ _)
      | (with_reducible exact trammelref04_Of.mono _ _)
      | (with_reducible exact trammelref04_Store.mono _ _ _)
      | (with_reducible exact LeO.refl _)
      | (with_reducible exact LeO.none _)
      | (with_reducible refine LeO.ite ?_ ?_)
      | (with_reducible refine LeO.bind ?_ (fun _ => ?_))
      | exact ih0 _ _ _ _
      | exact ih1 _ _ _
      | exact pack_Access.mono _ _
      | exact pack_Load.mono _ _ _
      | exact pack_Store.mono _ _ _
      | exact trammellaw04_awake.mono _
      | exact trammelref01_Same.mono _ _ _
      | exact trammelref04_Load.mono _ _ _
      | exact trammelref04_Of.mono _ _
      | exact trammelref04_Store.mono _ _ _
      | exact LeO.none _
      | refine LeO.ite ?_ ?_
      | refine LeO.bind ?_ (fun _ => ?_)
theorem trammellaw04_PackAll.mono : ∀ a0 a1 a2 k, LeO (trammellaw04_PackAll.f k a0 a1 a2) (trammellaw04_PackAll.f (k + 1) a0 a1 a2) := by
  intro a0 a1 a2 k
  obtain ⟨ih0, ih1⟩ := trammellaw04_PackAll.mono_l k
  unfold trammellaw04_PackAll.f
  repeat' first
      | (with_reducible exact ih0 _ _ _ _)
      | (with_reducible exact ih1 _ _ _)
      | (with_reducible exact pack_Access.mono _ _)
      | (with_reducible exact pack_Load.mono _ _ _)
      | (with_reducible exact pack_Store.mono _ _ _)
      | (with_reducible exact trammellaw04_awake.mono _)
      | (with_reducible exact trammelref01_Same.mono _ _ _)
      | (with_reducible exact trammelref04_Load.mono _ _ _)
      | (with_reducible exact trammelref04_Of.mono _ _)
      | (with_reducible exact trammelref04_Store.mono _ _ _)
      | (with_reducible exact LeO.refl _)
      | (with_reducible exact LeO.none _)
      | (with_reducible refine LeO.ite ?_ ?_)
      | (with_reducible refine LeO.bind ?_ (fun _ => ?_))
      | exact ih0 _ _ _ _
      | exact ih1 _ _ _
      | exact pack_Access.mono _ _
      | exact pack_Load.mono _ _ _
      | exact pack_Store.mono _ _ _
      | exact trammellaw04_awake.mono _
      | exact trammelref01_Same.mono _ _ _
      | exact trammelref04_Load.mono _ _ _
      | exact trammelref04_Of.mono _ _
      | exact trammelref04_Store.mono _ _ _
      | exact LeO.none _
      | refine LeO.ite ?_ ?_
      | refine LeO.bind ?_ (fun _ => ?_)
set_option maxHeartbeats 8000000 in
set_option maxRecDepth 100000 in
theorem trammellaw04_PackAll.calls (k : Nat) (a0 : Int) (A1 : Option Addr) (c1 : Nat) (l1 : List Int) (a2 : Int) (r : Bool) (w : World) (hr1 : Kd.C (Kd.int .u8) w A1 l1.length l1) (hc1 : l1.length ≤ c1) (hr : r = true) (h : trammellaw04_PackAll.f k a0 l1 a2 = some r) :
    Calls Try.prog 4 #[.int .i64 a0, .slice A1 l1.length c1, .int .u64 a2] w fun e w' => e = .returned (.bool r) ∧ Below w.heap.size w w' := by
  have hu33 := Try.underlying33
  have HR1 := Aside0.mk hr1
  have HC1 := Aside0.mk hc1
  clear hr1 hc1
  have HB := Aside0.mk (Below.refl w.heap.size w)
  have H : ((trammellaw04_awake.f k).bind fun t161 => (if t161 = true then (if 0 ≤ (mn (l1.length : Int) 100) then (if (mn (l1.length : Int) 100) ≤ (l1.length : Int) then ((trammelref04_Of.f k a0).bind fun bt163 => ((pack_Access.f k a0).bind fun bt170 => (if (bt170.2.2.2 != bt163.2.2.2.2.2) = true then (trammellaw04_PackAll.j0 k a0 (l1.take ((mn (l1.length : Int) 100) : Int).toNat) a2 true) else (if bt170.2.1 = bt163.2.2.1 then (if (bt170.2.2.1 != bt163.2.2.2.2.1) = true then (trammellaw04_PackAll.j0 k a0 (l1.take ((mn (l1.length : Int) 100) : Int).toNat) a2 true) else (if bt170.2.2.2 = true then (if ((bt170.1 == 127) != (bt163.2.1 == 32)) = true then (trammellaw04_PackAll.j0 k a0 (l1.take ((mn (l1.length : Int) 100) : Int).toNat) a2 true) else (if bt170.1 = 127 then (trammellaw04_PackAll.j0 k a0 (l1.take ((mn (l1.length : Int) 100) : Int).toNat) a2 false) else (if bt170.1 = 126 then (trammellaw04_PackAll.j0 k a0 (l1.take ((mn (l1.length : Int) 100) : Int).toNat) a2 false) else (trammellaw04_PackAll.j0 k a0 (l1.take ((mn (l1.length : Int) 100) : Int).toNat) a2 true)))) else (trammellaw04_PackAll.j0 k a0 (l1.take ((mn (l1.length : Int) 100) : Int).toNat) a2 (bt170.1 != 0)))) else (trammellaw04_PackAll.j0 k a0 (l1.take ((mn (l1.length : Int) 100) : Int).toNat) a2 true))))) else (none)) else (none)) else (some false))) = some r := h
  clear h
  replace H := Option.bind_eq_some_iff.mp H
  obtain ⟨t161, A40, H⟩ := H
  replace H : (if t161 = true then (if 0 ≤ (mn (l1.length : Int) 100) then (if (mn (l1.length : Int) 100) ≤ (l1.length : Int) then ((trammelref04_Of.f k a0).bind fun bt163 => ((pack_Access.f k a0).bind fun bt170 => (if (bt170.2.2.2 != bt163.2.2.2.2.2) = true then (trammellaw04_PackAll.j0 k a0 (l1.take ((mn (l1.length : Int) 100) : Int).toNat) a2 true) else (if bt170.2.1 = bt163.2.2.1 then (if (bt170.2.2.1 != bt163.2.2.2.2.1) = true then (trammellaw04_PackAll.j0 k a0 (l1.take ((mn (l1.length : Int) 100) : Int).toNat) a2 true) else (if bt170.2.2.2 = true then (if ((bt170.1 == 127) != (bt163.2.1 == 32)) = true then (trammellaw04_PackAll.j0 k a0 (l1.take ((mn (l1.length : Int) 100) : Int).toNat) a2 true) else (if bt170.1 = 127 then (trammellaw04_PackAll.j0 k a0 (l1.take ((mn (l1.length : Int) 100) : Int).toNat) a2 false) else (if bt170.1 = 126 then (trammellaw04_PackAll.j0 k a0 (l1.take ((mn (l1.length : Int) 100) : Int).toNat) a2 false) else (trammellaw04_PackAll.j0 k a0 (l1.take ((mn (l1.length : Int) 100) : Int).toNat) a2 true)))) else (trammellaw04_PackAll.j0 k a0 (l1.take ((mn (l1.length : Int) 100) : Int).toNat) a2 (bt170.1 != 0)))) else (trammellaw04_PackAll.j0 k a0 (l1.take ((mn (l1.length : Int) 100) : Int).toNat) a2 true))))) else (none)) else (none)) else (some false)) = some r := H
  have A4 := Aside0.mk A40
  clear A40
  by_cases c5 : t161 = true
  · subst c5
    have H1 : (if 0 ≤ (mn (l1.length : Int) 100) then (if (mn (l1.length : Int) 100) ≤ (l1.length : Int) then ((trammelref04_Of.f k a0).bind fun bt163 => ((pack_Access.f k a0).bind fun bt170 => (if (bt170.2.2.2 != bt163.2.2.2.2.2) = true then (trammellaw04_PackAll.j0 k a0 (l1.take ((mn (l1.length : Int) 100) : Int).toNat) a2 true) else (if bt170.2.1 = bt163.2.2.1 then (if (bt170.2.2.1 != bt163.2.2.2.2.1) = true then (trammellaw04_PackAll.j0 k a0 (l1.take ((mn (l1.length : Int) 100) : Int).toNat) a2 true) else (if bt170.2.2.2 = true then (if ((bt170.1 == 127) != (bt163.2.1 == 32)) = true then (trammellaw04_PackAll.j0 k a0 (l1.take ((mn (l1.length : Int) 100) : Int).toNat) a2 true) else (if bt170.1 = 127 then (trammellaw04_PackAll.j0 k a0 (l1.take ((mn (l1.length : Int) 100) : Int).toNat) a2 false) else (if bt170.1 = 126 then (trammellaw04_PackAll.j0 k a0 (l1.take ((mn (l1.length : Int) 100) : Int).toNat) a2 false) else (trammellaw04_PackAll.j0 k a0 (l1.take ((mn (l1.length : Int) 100) : Int).toNat) a2 true)))) else (trammellaw04_PackAll.j0 k a0 (l1.take ((mn (l1.length : Int) 100) : Int).toNat) a2 (bt170.1 != 0)))) else (trammellaw04_PackAll.j0 k a0 (l1.take ((mn (l1.length : Int) 100) : Int).toNat) a2 true))))) else (none)) else (none)) = some r := by rw [if_pos rfl] at H; exact H
    clear H
    have H := H1
    clear H1
    obtain ⟨ji6, hji6⟩ : ∃ j_ : Int, (mn (l1.length : Int) 100) = j_ := ⟨_, rfl⟩
    replace H : (if 0 ≤ (ji6) then (if (ji6) ≤ (l1.length : Int) then ((trammelref04_Of.f k a0).bind fun bt163 => ((pack_Access.f k a0).bind fun bt170 => (if (bt170.2.2.2 != bt163.2.2.2.2.2) = true then (trammellaw04_PackAll.j0 k a0 (l1.take ((ji6) : Int).toNat) a2 true) else (if bt170.2.1 = bt163.2.2.1 then (if (bt170.2.2.1 != bt163.2.2.2.2.1) = true then (trammellaw04_PackAll.j0 k a0 (l1.take ((ji6) : Int).toNat) a2 true) else (if bt170.2.2.2 = true then (if ((bt170.1 == 127) != (bt163.2.1 == 32)) = true then (trammellaw04_PackAll.j0 k a0 (l1.take ((ji6) : Int).toNat) a2 true) else (if bt170.1 = 127 then (trammellaw04_PackAll.j0 k a0 (l1.take ((ji6) : Int).toNat) a2 false) else (if bt170.1 = 126 then (trammellaw04_PackAll.j0 k a0 (l1.take ((ji6) : Int).toNat) a2 false) else (trammellaw04_PackAll.j0 k a0 (l1.take ((ji6) : Int).toNat) a2 true)))) else (trammellaw04_PackAll.j0 k a0 (l1.take ((ji6) : Int).toNat) a2 (bt170.1 != 0)))) else (trammellaw04_PackAll.j0 k a0 (l1.take ((ji6) : Int).toNat) a2 true))))) else (none)) else (none)) = some r := by first | (rw [hji6] at H; exact H) | (simp only [hji6] at H ⊢; exact H)
    (try rw [hji6] at A4)
    (try (have hji6h : ji6 ≤ 100 := by (rw [← hji6]; unfold mn; (repeat' split) <;> omega)))
    (try (have hji6g : ji6 ≤ 64 := by omega))
    (try (have hji6l : 0 ≤ ji6 := by (rw [← hji6]; unfold mn; (repeat' split) <;> omega)))
    (try (have hji6m : 0 ≤ ji6 := by omega))
    have hji6_ : (if 100 < (l1.length : Int) then 100 else (l1.length : Int)) = ji6 := hji6
    by_cases c7 : 0 ≤ (ji6)
    · rw [if_pos c7] at H
      have c7b0 := eq_true c7
      have c7b1 : decide (0 ≤ (ji6)) = true := decide_eq_true c7
      clear c7
      by_cases c8 : (ji6) ≤ (l1.length : Int)
      · rw [if_pos c8] at H
        have c8b0 := eq_true c8
        have c8b1 : decide ((ji6) ≤ (l1.length : Int)) = true := decide_eq_true c8
        clear c8
        replace H := Option.bind_eq_some_iff.mp H
        obtain ⟨⟨t163, t164, t165, t166, t167, t168⟩, A90, H⟩ := H
        replace H : ((pack_Access.f k a0).bind fun bt170 => (if (bt170.2.2.2 != t168) = true then (trammellaw04_PackAll.j0 k a0 (l1.take ((ji6) : Int).toNat) a2 true) else (if bt170.2.1 = t165 then (if (bt170.2.2.1 != t167) = true then (trammellaw04_PackAll.j0 k a0 (l1.take ((ji6) : Int).toNat) a2 true) else (if bt170.2.2.2 = true then (if ((bt170.1 == 127) != (t164 == 32)) = true then (trammellaw04_PackAll.j0 k a0 (l1.take ((ji6) : Int).toNat) a2 true) else (if bt170.1 = 127 then (trammellaw04_PackAll.j0 k a0 (l1.take ((ji6) : Int).toNat) a2 false) else (if bt170.1 = 126 then (trammellaw04_PackAll.j0 k a0 (l1.take ((ji6) : Int).toNat) a2 false) else (trammellaw04_PackAll.j0 k a0 (l1.take ((ji6) : Int).toNat) a2 true)))) else (trammellaw04_PackAll.j0 k a0 (l1.take ((ji6) : Int).toNat) a2 (bt170.1 != 0)))) else (trammellaw04_PackAll.j0 k a0 (l1.take ((ji6) : Int).toNat) a2 true)))) = some r := H
        have A9 := Aside0.mk A90
        clear A90
        replace H := Option.bind_eq_some_iff.mp H
        obtain ⟨⟨t170, t171, t172, t173⟩, A100, H⟩ := H
        replace H : (if (t173 != t168) = true then (trammellaw04_PackAll.j0 k a0 (l1.take ((ji6) : Int).toNat) a2 true) else (if t171 = t165 then (if (t172 != t167) = true then (trammellaw04_PackAll.j0 k a0 (l1.take ((ji6) : Int).toNat) a2 true) else (if t173 = true then (if ((t170 == 127) != (t164 == 32)) = true then (trammellaw04_PackAll.j0 k a0 (l1.take ((ji6) : Int).toNat) a2 true) else (if t170 = 127 then (trammellaw04_PackAll.j0 k a0 (l1.take ((ji6) : Int).toNat) a2 false) else (if t170 = 126 then (trammellaw04_PackAll.j0 k a0 (l1.take ((ji6) : Int).toNat) a2 false) else (trammellaw04_PackAll.j0 k a0 (l1.take ((ji6) : Int).toNat) a2 true)))) else (trammellaw04_PackAll.j0 k a0 (l1.take ((ji6) : Int).toNat) a2 (t170 != 0)))) else (trammellaw04_PackAll.j0 k a0 (l1.take ((ji6) : Int).toNat) a2 true))) = some r := H
        have A10 := Aside0.mk A100
        clear A100
        have HC11 := Aside0.mk H
        clear H
        go_enter Try.func4, Try.ntmps4
        go_upto_region 6 with (first | ((with_reducible refine gate_callee (f := 7) rfl ?_); refine goesL_ (some 17) rfl rfl Try.func7 (by kernel_rfl) rfl #[] rfl (by (try simp only [List.map_toArray, List.map_cons, List.map_nil]); first | done | rfl | (simp only [List.length_drop, List.length_take]; rfl)) ?_; (with_reducible refine (trammellaw04_awake.calls k  true _ A4.out).mono ?_); rintro e w12 ⟨rfl, hb⟩; refine ⟨_, rfl, ?_⟩; have n0_ := Aside0.mk (below_step (by repeat (first | (with_reducible first | exact HB.out | apply below_alloc | apply pw_below_drewN | apply below_drew1) | exact HB.out)) hb); clear HB; have HB := n0_; clear n0_; (try clear hb); (try clear hb2); (try clear hk); (try clear hi); obtain ⟨i013, hi013, _, hsz13, _⟩ := info_parts info5; obtain ⟨hcut13, hA13, hC13⟩ := print_take_of (P := Try.prog) (Value.int .u8) 0 24 5 .i64 Try.underlying24 hi013 hsz13 A1 c1 l1 (ji6) (of_decide_eq_true (by first | (with_reducible assumption) | assumption)) (of_decide_eq_true (by first | (with_reducible assumption) | assumption)) HC1.out; have HR162 := Aside0.mk (Kd.C_of_reads (h1 := fun _ => rfl) (hA13 _ (Kd.reads_of_C HR1.out))); have HC162 := Aside0.mk hC13; clear hA13 hC13 hi013 hsz13) | ((with_reducible refine gate_callee (f := 11) rfl ?_); refine goesL_ (some 26) rfl rfl Try.func11 (by kernel_rfl) rfl #[.int .i64 a0] rfl (by (try simp only [List.map_toArray, List.map_cons, List.map_nil]); first | done | rfl | (simp only [List.length_drop, List.length_take]; rfl)) ?_; (with_reducible refine (trammelref04_Of.calls k a0 t163 t164 t165 t166 t167 t168 _ A9.out).mono ?_); rintro e w14 ⟨rfl, hb⟩; refine ⟨_, rfl, ?_⟩; have n0_ := Aside0.mk (below_step (by repeat (first | (with_reducible first | exact HB.out | apply below_alloc | apply pw_below_drewN | apply below_drew1) | exact HB.out)) hb); clear HB; have HB := n0_; clear n0_; (try clear hb); (try clear hb2); (try clear hk); (try clear hi)) | ((with_reducible refine gate_dst (N := 7) rfl ?_); refine box_event ?hg (N := 7) ?hd (cs := #[.int .i64 0, .int .i64 0, .int .i64 0, .bool false, .bool false]) (t := 33) ?hr ?_; (case hd => rfl); (case hg => rfl); (case hr => first | (go_simp; done) | (go_simp; rfl)); intro gb169 hg w15 hbox hb; have n0_ := Aside0.mk (below_step (by repeat (first | (with_reducible first | exact HB.out | apply below_alloc | apply pw_below_drewN | apply below_drew1) | exact HB.out)) hb); have n1_ := Aside0.mk (hbox); have n2_ := Aside0.mk ((by rw [hg]; exact (below_size (by repeat (first | (with_reducible first | exact HB.out | apply below_alloc | apply pw_below_drewN | apply below_drew1) | exact HB.out))) : w.heap.size ≤ gb169)); have n3_ := Aside0.mk ((by rw [hg]; exact (below_size (by repeat (first | (with_reducible first | exact HB.out | apply below_alloc | apply pw_below_drewN | apply below_drew1) | exact HB.out))) : w.heap.size ≤ gb169)); clear HB; have HB := n0_; have BK169 := n1_; have GW169 := n2_; have GE169 := n3_; clear n0_ n1_ n2_ n3_; clear hb hbox hg; have hcz16_0 : w15.cell? ⟨gb169, 0, none⟩ = some (.int .i64 0) := (blk_cell BK169.out 0).trans rfl; have hcz16_1 : w15.cell? ⟨gb169, 1, none⟩ = some (.int .i64 0) := (blk_cell BK169.out 1).trans rfl; have hcz16_2 : w15.cell? ⟨gb169, 2, none⟩ = some (.int .i64 0) := (blk_cell BK169.out 2).trans rfl; have hcz16_3 : w15.cell? ⟨gb169, 3, none⟩ = some (.bool false) := (blk_cell BK169.out 3).trans rfl; have hcz16_4 : w15.cell? ⟨gb169, 4, none⟩ = some (.bool false) := (blk_cell BK169.out 4).trans rfl; have hfz16_0 := blk_frozen BK169.out 0; have hfz16_1 := blk_frozen BK169.out 1; have hfz16_2 := blk_frozen BK169.out 2; have hfz16_3 := blk_frozen BK169.out 3; have hfz16_4 := blk_frozen BK169.out 4) | ((with_reducible refine gate_callee (f := 12) rfl ?_); refine goesL_ (some 31) rfl rfl Try.func12 (by kernel_rfl) rfl #[.int .i64 a0] rfl (by (try simp only [List.map_toArray, List.map_cons, List.map_nil]); first | done | rfl | (simp only [List.length_drop, List.length_take]; rfl)) ?_; (with_reducible refine (pack_Access.calls k a0 t170 t171 t172 t173 _ A10.out).mono ?_); rintro e w' ⟨rfl, ⟨nd, rfl⟩⟩; refine ⟨_, rfl, ?_⟩))
        (try simp only [Act.put, List.setIfInBounds_toArray, List.set_cons_zero, List.set_cons_succ])
        go_cut [80] (fun v80 wc => ∃ (kq : Nat) (x80_10 : Bool), v80 = .bool x80_10 ∧ Aside0 (trammellaw04_PackAll.j0 kq a0 (l1.take ((ji6) : Int).toNat) a2 x80_10 = some r) ∧ Aside0 (kq ≤ k) ∧ Aside0 (wc.heap[gb169]? = some (.cells #[.int .i64 t163, .int .i64 t164, .int .i64 t165, .bool t166, .bool t167] 33 (0, 0))) ∧ Aside0 (Below w.heap.size w wc))
        case first =>
          have H := HC11.out
          clear HC11
          by_cases c17 : (t173 != t168) = true
          · rw [if_pos c17] at H
            have c17b0 : (t173 != t168) = true := c17
            (try (have c17b1 : decide (t173 = t168) = false := by simpa using c17))
            (try (have c17b2 : (t173 == t168) = false := by simpa using c17))
            (try (have c17b3 : ¬ (t173 = t168) := by simpa using c17))
            clear c17
            (first | rw [c17b0] | (simp only [i64_w, i32_w]; rw [c17b0]) | skip)
            have H' := Aside0.mk H
            clear H
            go_wp2
            go_meet
            case rel => exact ⟨_, (true), (by first | rfl | (simp; done) | (simp [*]; done)), H', ⟨by first | omega | exact Nat.le_refl _⟩, ⟨by (with_reducible repeat (first | refine blk_drewN ?_ _ | refine blk_drew ?_ | refine blk_alloc ?_ _)); refine blk_put (cs := #[.int .i64 t163, .int .i64 t164, .int .i64 t165, .bool t166, .bool false]) ?_ 4 _ (by first | rfl | (simp_all; done)); (with_reducible repeat (first | refine blk_drewN ?_ _ | refine blk_drew ?_ | refine blk_alloc ?_ _)); refine blk_put (cs := #[.int .i64 t163, .int .i64 t164, .int .i64 t165, .bool false, .bool false]) ?_ 3 _ (by first | rfl | (simp_all; done)); (with_reducible repeat (first | refine blk_drewN ?_ _ | refine blk_drew ?_ | refine blk_alloc ?_ _)); refine blk_put (cs := #[.int .i64 t163, .int .i64 t164, .int .i64 0, .bool false, .bool false]) ?_ 2 _ (by first | rfl | (simp_all; done)); (with_reducible repeat (first | refine blk_drewN ?_ _ | refine blk_drew ?_ | refine blk_alloc ?_ _)); refine blk_put (cs := #[.int .i64 t163, .int .i64 0, .int .i64 0, .bool false, .bool false]) ?_ 1 _ (by first | rfl | (simp_all; done)); (with_reducible repeat (first | refine blk_drewN ?_ _ | refine blk_drew ?_ | refine blk_alloc ?_ _)); refine blk_put (cs := #[.int .i64 0, .int .i64 0, .int .i64 0, .bool false, .bool false]) ?_ 0 _ (by first | rfl | (simp_all; done)); (with_reducible repeat (first | refine blk_drewN ?_ _ | refine blk_drew ?_ | refine blk_alloc ?_ _)); exact BK169.out⟩, ⟨by repeat (first | (with_reducible first | exact HB.out | apply below_alloc | apply pw_below_drewN | apply below_drew1 | refine below_set ?_ GE169.out) | exact HB.out)⟩⟩
          · rw [if_neg c17] at H
            have c17b0 : (t173 != t168) = false := by simpa using c17
            (try (have c17b1 : decide (t173 = t168) = true := by simpa using c17))
            (try (have c17b2 : (t173 == t168) = true := by simpa using c17))
            clear c17
            (first | rw [c17b0] | (simp only [i64_w, i32_w]; rw [c17b0]) | skip)
            by_cases c18 : t171 = t165
            · rw [if_pos c18] at H
              have c18b0 : (t171 == t165) = true := beq_iff_eq.mpr c18
              have c18b1 : (t171 != t165) = false := bne_eq_false_iff_eq.mpr c18
              clear c18
              by_cases c19 : (t172 != t167) = true
              · rw [if_pos c19] at H
                have c19b0 : (t172 != t167) = true := c19
                (try (have c19b1 : decide (t172 = t167) = false := by simpa using c19))
                (try (have c19b2 : (t172 == t167) = false := by simpa using c19))
                (try (have c19b3 : ¬ (t172 = t167) := by simpa using c19))
                clear c19
                have H' := Aside0.mk H
                clear H
                have hcz20_0 : w15.cell? ⟨gb169, 0, none⟩ = some (.int .i64 0) := (blk_cell BK169.out 0).trans rfl
                have hcz20_1 : w15.cell? ⟨gb169, 1, none⟩ = some (.int .i64 0) := (blk_cell BK169.out 1).trans rfl
                have hcz20_2 : w15.cell? ⟨gb169, 2, none⟩ = some (.int .i64 0) := (blk_cell BK169.out 2).trans rfl
                have hcz20_3 : w15.cell? ⟨gb169, 3, none⟩ = some (.bool false) := (blk_cell BK169.out 3).trans rfl
                have hcz20_4 : w15.cell? ⟨gb169, 4, none⟩ = some (.bool false) := (blk_cell BK169.out 4).trans rfl
                have hfz20_0 := blk_frozen BK169.out 0
                have hfz20_1 := blk_frozen BK169.out 1
                have hfz20_2 := blk_frozen BK169.out 2
                have hfz20_3 := blk_frozen BK169.out 3
                have hfz20_4 := blk_frozen BK169.out 4
                go_wp2
                go_meet
                case rel => exact ⟨_, (true), (by first | rfl | (simp; done) | (simp [*]; done)), H', ⟨by first | omega | exact Nat.le_refl _⟩, ⟨by (with_reducible repeat (first | refine blk_drewN ?_ _ | refine blk_drew ?_ | refine blk_alloc ?_ _)); refine blk_put (cs := #[.int .i64 t163, .int .i64 t164, .int .i64 t165, .bool t166, .bool false]) ?_ 4 _ (by first | rfl | (simp_all; done)); (with_reducible repeat (first | refine blk_drewN ?_ _ | refine blk_drew ?_ | refine blk_alloc ?_ _)); refine blk_put (cs := #[.int .i64 t163, .int .i64 t164, .int .i64 t165, .bool false, .bool false]) ?_ 3 _ (by first | rfl | (simp_all; done)); (with_reducible repeat (first | refine blk_drewN ?_ _ | refine blk_drew ?_ | refine blk_alloc ?_ _)); refine blk_put (cs := #[.int .i64 t163, .int .i64 t164, .int .i64 0, .bool false, .bool false]) ?_ 2 _ (by first | rfl | (simp_all; done)); (with_reducible repeat (first | refine blk_drewN ?_ _ | refine blk_drew ?_ | refine blk_alloc ?_ _)); refine blk_put (cs := #[.int .i64 t163, .int .i64 0, .int .i64 0, .bool false, .bool false]) ?_ 1 _ (by first | rfl | (simp_all; done)); (with_reducible repeat (first | refine blk_drewN ?_ _ | refine blk_drew ?_ | refine blk_alloc ?_ _)); refine blk_put (cs := #[.int .i64 0, .int .i64 0, .int .i64 0, .bool false, .bool false]) ?_ 0 _ (by first | rfl | (simp_all; done)); (with_reducible repeat (first | refine blk_drewN ?_ _ | refine blk_drew ?_ | refine blk_alloc ?_ _)); exact BK169.out⟩, ⟨by repeat (first | (with_reducible first | exact HB.out | apply below_alloc | apply pw_below_drewN | apply below_drew1 | refine below_set ?_ GE169.out) | exact HB.out)⟩⟩
              · rw [if_neg c19] at H
                have c19b0 : (t172 != t167) = false := by simpa using c19
                (try (have c19b1 : decide (t172 = t167) = true := by simpa using c19))
                (try (have c19b2 : (t172 == t167) = true := by simpa using c19))
                clear c19
                by_cases c21 : t173 = true
                · subst c21
                  have H1 : (if ((t170 == 127) != (t164 == 32)) = true then (trammellaw04_PackAll.j0 k a0 (l1.take ((ji6) : Int).toNat) a2 true) else (if t170 = 127 then (trammellaw04_PackAll.j0 k a0 (l1.take ((ji6) : Int).toNat) a2 false) else (if t170 = 126 then (trammellaw04_PackAll.j0 k a0 (l1.take ((ji6) : Int).toNat) a2 false) else (trammellaw04_PackAll.j0 k a0 (l1.take ((ji6) : Int).toNat) a2 true)))) = some r := by rw [if_pos rfl] at H; exact H
                  clear H
                  have H := H1
                  clear H1
                  by_cases c22 : ((t170 == 127) != (t164 == 32)) = true
                  · rw [if_pos c22] at H
                    have c22b0 : ((t170 == 127) != (t164 == 32)) = true := c22
                    (try (have c22b1 : decide ((t170 == 127) = (t164 == 32)) = false := by simpa using c22))
                    (try (have c22b2 : ((t170 == 127) == (t164 == 32)) = false := by simpa using c22))
                    (try (have c22b3 : ¬ ((t170 == 127) = (t164 == 32)) := by simpa using c22))
                    clear c22
                    have H' := Aside0.mk H
                    clear H
                    have hcz23_0 : w15.cell? ⟨gb169, 0, none⟩ = some (.int .i64 0) := (blk_cell BK169.out 0).trans rfl
                    have hcz23_1 : w15.cell? ⟨gb169, 1, none⟩ = some (.int .i64 0) := (blk_cell BK169.out 1).trans rfl
                    have hcz23_2 : w15.cell? ⟨gb169, 2, none⟩ = some (.int .i64 0) := (blk_cell BK169.out 2).trans rfl
                    have hcz23_3 : w15.cell? ⟨gb169, 3, none⟩ = some (.bool false) := (blk_cell BK169.out 3).trans rfl
                    have hcz23_4 : w15.cell? ⟨gb169, 4, none⟩ = some (.bool false) := (blk_cell BK169.out 4).trans rfl
                    have hfz23_0 := blk_frozen BK169.out 0
                    have hfz23_1 := blk_frozen BK169.out 1
                    have hfz23_2 := blk_frozen BK169.out 2
                    have hfz23_3 := blk_frozen BK169.out 3
                    have hfz23_4 := blk_frozen BK169.out 4
                    go_wp2
                    go_meet
                    case rel => exact ⟨_, (true), (by first | rfl | (simp; done) | (simp [*]; done)), H', ⟨by first | omega | exact Nat.le_refl _⟩, ⟨by (with_reducible repeat (first | refine blk_drewN ?_ _ | refine blk_drew ?_ | refine blk_alloc ?_ _)); refine blk_put (cs := #[.int .i64 t163, .int .i64 t164, .int .i64 t165, .bool t166, .bool false]) ?_ 4 _ (by first | rfl | (simp_all; done)); (with_reducible repeat (first | refine blk_drewN ?_ _ | refine blk_drew ?_ | refine blk_alloc ?_ _)); refine blk_put (cs := #[.int .i64 t163, .int .i64 t164, .int .i64 t165, .bool false, .bool false]) ?_ 3 _ (by first | rfl | (simp_all; done)); (with_reducible repeat (first | refine blk_drewN ?_ _ | refine blk_drew ?_ | refine blk_alloc ?_ _)); refine blk_put (cs := #[.int .i64 t163, .int .i64 t164, .int .i64 0, .bool false, .bool false]) ?_ 2 _ (by first | rfl | (simp_all; done)); (with_reducible repeat (first | refine blk_drewN ?_ _ | refine blk_drew ?_ | refine blk_alloc ?_ _)); refine blk_put (cs := #[.int .i64 t163, .int .i64 0, .int .i64 0, .bool false, .bool false]) ?_ 1 _ (by first | rfl | (simp_all; done)); (with_reducible repeat (first | refine blk_drewN ?_ _ | refine blk_drew ?_ | refine blk_alloc ?_ _)); refine blk_put (cs := #[.int .i64 0, .int .i64 0, .int .i64 0, .bool false, .bool false]) ?_ 0 _ (by first | rfl | (simp_all; done)); (with_reducible repeat (first | refine blk_drewN ?_ _ | refine blk_drew ?_ | refine blk_alloc ?_ _)); exact BK169.out⟩, ⟨by repeat (first | (with_reducible first | exact HB.out | apply below_alloc | apply pw_below_drewN | apply below_drew1 | refine below_set ?_ GE169.out) | exact HB.out)⟩⟩
                  · rw [if_neg c22] at H
                    have c22b0 : ((t170 == 127) != (t164 == 32)) = false := by simpa using c22
                    (try (have c22b1 : decide ((t170 == 127) = (t164 == 32)) = true := by simpa using c22))
                    (try (have c22b2 : ((t170 == 127) == (t164 == 32)) = true := by simpa using c22))
                    clear c22
                    by_cases c24 : t170 = 127
                    · rw [if_pos c24] at H
                      have c24b0 : (t170 == 127) = true := beq_iff_eq.mpr c24
                      have cx1_ : (t164 == 32) = true := by revert c22b0; rw [c24b0]; cases (t164 == 32) <;> decide
                      have c24b1 : (t170 != 127) = false := bne_eq_false_iff_eq.mpr c24
                      clear c24
                      have H' := Aside0.mk H
                      clear H
                      have hcz25_0 : w15.cell? ⟨gb169, 0, none⟩ = some (.int .i64 0) := (blk_cell BK169.out 0).trans rfl
                      have hcz25_1 : w15.cell? ⟨gb169, 1, none⟩ = some (.int .i64 0) := (blk_cell BK169.out 1).trans rfl
                      have hcz25_2 : w15.cell? ⟨gb169, 2, none⟩ = some (.int .i64 0) := (blk_cell BK169.out 2).trans rfl
                      have hcz25_3 : w15.cell? ⟨gb169, 3, none⟩ = some (.bool false) := (blk_cell BK169.out 3).trans rfl
                      have hcz25_4 : w15.cell? ⟨gb169, 4, none⟩ = some (.bool false) := (blk_cell BK169.out 4).trans rfl
                      have hfz25_0 := blk_frozen BK169.out 0
                      have hfz25_1 := blk_frozen BK169.out 1
                      have hfz25_2 := blk_frozen BK169.out 2
                      have hfz25_3 := blk_frozen BK169.out 3
                      have hfz25_4 := blk_frozen BK169.out 4
                      go_wp2
                      go_meet
                      case rel => exact ⟨_, (false), (by first | rfl | (simp; done) | (simp [*]; done)), H', ⟨by first | omega | exact Nat.le_refl _⟩, ⟨by (with_reducible repeat (first | refine blk_drewN ?_ _ | refine blk_drew ?_ | refine blk_alloc ?_ _)); refine blk_put (cs := #[.int .i64 t163, .int .i64 t164, .int .i64 t165, .bool t166, .bool false]) ?_ 4 _ (by first | rfl | (simp_all; done)); (with_reducible repeat (first | refine blk_drewN ?_ _ | refine blk_drew ?_ | refine blk_alloc ?_ _)); refine blk_put (cs := #[.int .i64 t163, .int .i64 t164, .int .i64 t165, .bool false, .bool false]) ?_ 3 _ (by first | rfl | (simp_all; done)); (with_reducible repeat (first | refine blk_drewN ?_ _ | refine blk_drew ?_ | refine blk_alloc ?_ _)); refine blk_put (cs := #[.int .i64 t163, .int .i64 t164, .int .i64 0, .bool false, .bool false]) ?_ 2 _ (by first | rfl | (simp_all; done)); (with_reducible repeat (first | refine blk_drewN ?_ _ | refine blk_drew ?_ | refine blk_alloc ?_ _)); refine blk_put (cs := #[.int .i64 t163, .int .i64 0, .int .i64 0, .bool false, .bool false]) ?_ 1 _ (by first | rfl | (simp_all; done)); (with_reducible repeat (first | refine blk_drewN ?_ _ | refine blk_drew ?_ | refine blk_alloc ?_ _)); refine blk_put (cs := #[.int .i64 0, .int .i64 0, .int .i64 0, .bool false, .bool false]) ?_ 0 _ (by first | rfl | (simp_all; done)); (with_reducible repeat (first | refine blk_drewN ?_ _ | refine blk_drew ?_ | refine blk_alloc ?_ _)); exact BK169.out⟩, ⟨by repeat (first | (with_reducible first | exact HB.out | apply below_alloc | apply pw_below_drewN | apply below_drew1 | refine below_set ?_ GE169.out) | exact HB.out)⟩⟩
                    · rw [if_neg c24] at H
                      have c24b0 : (t170 == 127) = false := beq_eq_false_iff_ne.mpr c24
                      have cx2_ : (t164 == 32) = false := by revert c22b0; rw [c24b0]; cases (t164 == 32) <;> decide
                      have c24b1 : (t170 != 127) = true := bne_iff_ne.mpr c24
                      by_cases c26 : t170 = 126
                      · rw [if_pos c26] at H
                        have c26b0 : (t170 == 126) = true := beq_iff_eq.mpr c26
                        have c26b1 : (t170 != 126) = false := bne_eq_false_iff_eq.mpr c26
                        clear c26
                        have H' := Aside0.mk H
                        clear H
                        have hcz27_0 : w15.cell? ⟨gb169, 0, none⟩ = some (.int .i64 0) := (blk_cell BK169.out 0).trans rfl
                        have hcz27_1 : w15.cell? ⟨gb169, 1, none⟩ = some (.int .i64 0) := (blk_cell BK169.out 1).trans rfl
                        have hcz27_2 : w15.cell? ⟨gb169, 2, none⟩ = some (.int .i64 0) := (blk_cell BK169.out 2).trans rfl
                        have hcz27_3 : w15.cell? ⟨gb169, 3, none⟩ = some (.bool false) := (blk_cell BK169.out 3).trans rfl
                        have hcz27_4 : w15.cell? ⟨gb169, 4, none⟩ = some (.bool false) := (blk_cell BK169.out 4).trans rfl
                        have hfz27_0 := blk_frozen BK169.out 0
                        have hfz27_1 := blk_frozen BK169.out 1
                        have hfz27_2 := blk_frozen BK169.out 2
                        have hfz27_3 := blk_frozen BK169.out 3
                        have hfz27_4 := blk_frozen BK169.out 4
                        go_wp2
                        go_meet
                        case rel => exact ⟨_, (false), (by first | rfl | (simp; done) | (simp [*]; done)), H', ⟨by first | omega | exact Nat.le_refl _⟩, ⟨by (with_reducible repeat (first | refine blk_drewN ?_ _ | refine blk_drew ?_ | refine blk_alloc ?_ _)); refine blk_put (cs := #[.int .i64 t163, .int .i64 t164, .int .i64 t165, .bool t166, .bool false]) ?_ 4 _ (by first | rfl | (simp_all; done)); (with_reducible repeat (first | refine blk_drewN ?_ _ | refine blk_drew ?_ | refine blk_alloc ?_ _)); refine blk_put (cs := #[.int .i64 t163, .int .i64 t164, .int .i64 t165, .bool false, .bool false]) ?_ 3 _ (by first | rfl | (simp_all; done)); (with_reducible repeat (first | refine blk_drewN ?_ _ | refine blk_drew ?_ | refine blk_alloc ?_ _)); refine blk_put (cs := #[.int .i64 t163, .int .i64 t164, .int .i64 0, .bool false, .bool false]) ?_ 2 _ (by first | rfl | (simp_all; done)); (with_reducible repeat (first | refine blk_drewN ?_ _ | refine blk_drew ?_ | refine blk_alloc ?_ _)); refine blk_put (cs := #[.int .i64 t163, .int .i64 0, .int .i64 0, .bool false, .bool false]) ?_ 1 _ (by first | rfl | (simp_all; done)); (with_reducible repeat (first | refine blk_drewN ?_ _ | refine blk_drew ?_ | refine blk_alloc ?_ _)); refine blk_put (cs := #[.int .i64 0, .int .i64 0, .int .i64 0, .bool false, .bool false]) ?_ 0 _ (by first | rfl | (simp_all; done)); (with_reducible repeat (first | refine blk_drewN ?_ _ | refine blk_drew ?_ | refine blk_alloc ?_ _)); exact BK169.out⟩, ⟨by repeat (first | (with_reducible first | exact HB.out | apply below_alloc | apply pw_below_drewN | apply below_drew1 | refine below_set ?_ GE169.out) | exact HB.out)⟩⟩
                      · rw [if_neg c26] at H
                        have c26b0 : (t170 == 126) = false := beq_eq_false_iff_ne.mpr c26
                        have c26b1 : (t170 != 126) = true := bne_iff_ne.mpr c26
                        have H' := Aside0.mk H
                        clear H
                        have hcz28_0 : w15.cell? ⟨gb169, 0, none⟩ = some (.int .i64 0) := (blk_cell BK169.out 0).trans rfl
                        have hcz28_1 : w15.cell? ⟨gb169, 1, none⟩ = some (.int .i64 0) := (blk_cell BK169.out 1).trans rfl
                        have hcz28_2 : w15.cell? ⟨gb169, 2, none⟩ = some (.int .i64 0) := (blk_cell BK169.out 2).trans rfl
                        have hcz28_3 : w15.cell? ⟨gb169, 3, none⟩ = some (.bool false) := (blk_cell BK169.out 3).trans rfl
                        have hcz28_4 : w15.cell? ⟨gb169, 4, none⟩ = some (.bool false) := (blk_cell BK169.out 4).trans rfl
                        have hfz28_0 := blk_frozen BK169.out 0
                        have hfz28_1 := blk_frozen BK169.out 1
                        have hfz28_2 := blk_frozen BK169.out 2
                        have hfz28_3 := blk_frozen BK169.out 3
                        have hfz28_4 := blk_frozen BK169.out 4
                        go_wp2
                        go_meet
                        case rel => exact ⟨_, (true), (by first | rfl | (simp; done) | (simp [*]; done)), H', ⟨by first | omega | exact Nat.le_refl _⟩, ⟨by (with_reducible repeat (first | refine blk_drewN ?_ _ | refine blk_drew ?_ | refine blk_alloc ?_ _)); refine blk_put (cs := #[.int .i64 t163, .int .i64 t164, .int .i64 t165, .bool t166, .bool false]) ?_ 4 _ (by first | rfl | (simp_all; done)); (with_reducible repeat (first | refine blk_drewN ?_ _ | refine blk_drew ?_ | refine blk_alloc ?_ _)); refine blk_put (cs := #[.int .i64 t163, .int .i64 t164, .int .i64 t165, .bool false, .bool false]) ?_ 3 _ (by first | rfl | (simp_all; done)); (with_reducible repeat (first | refine blk_drewN ?_ _ | refine blk_drew ?_ | refine blk_alloc ?_ _)); refine blk_put (cs := #[.int .i64 t163, .int .i64 t164, .int .i64 0, .bool false, .bool false]) ?_ 2 _ (by first | rfl | (simp_all; done)); (with_reducible repeat (first | refine blk_drewN ?_ _ | refine blk_drew ?_ | refine blk_alloc ?_ _)); refine blk_put (cs := #[.int .i64 t163, .int .i64 0, .int .i64 0, .bool false, .bool false]) ?_ 1 _ (by first | rfl | (simp_all; done)); (with_reducible repeat (first | refine blk_drewN ?_ _ | refine blk_drew ?_ | refine blk_alloc ?_ _)); refine blk_put (cs := #[.int .i64 0, .int .i64 0, .int .i64 0, .bool false, .bool false]) ?_ 0 _ (by first | rfl | (simp_all; done)); (with_reducible repeat (first | refine blk_drewN ?_ _ | refine blk_drew ?_ | refine blk_alloc ?_ _)); exact BK169.out⟩, ⟨by repeat (first | (with_reducible first | exact HB.out | apply below_alloc | apply pw_below_drewN | apply below_drew1 | refine below_set ?_ GE169.out) | exact HB.out)⟩⟩
                · replace c21 := Bool.eq_false_iff.mpr c21
                  subst c21
                  have H1 : (trammellaw04_PackAll.j0 k a0 (l1.take ((ji6) : Int).toNat) a2 (t170 != 0)) = some r := by rw [if_neg (show ¬ (false = true) by decide)] at H; exact H
                  clear H
                  have H := H1
                  clear H1
                  have H' := Aside0.mk H
                  clear H
                  have hcz29_0 : w15.cell? ⟨gb169, 0, none⟩ = some (.int .i64 0) := (blk_cell BK169.out 0).trans rfl
                  have hcz29_1 : w15.cell? ⟨gb169, 1, none⟩ = some (.int .i64 0) := (blk_cell BK169.out 1).trans rfl
                  have hcz29_2 : w15.cell? ⟨gb169, 2, none⟩ = some (.int .i64 0) := (blk_cell BK169.out 2).trans rfl
                  have hcz29_3 : w15.cell? ⟨gb169, 3, none⟩ = some (.bool false) := (blk_cell BK169.out 3).trans rfl
                  have hcz29_4 : w15.cell? ⟨gb169, 4, none⟩ = some (.bool false) := (blk_cell BK169.out 4).trans rfl
                  have hfz29_0 := blk_frozen BK169.out 0
                  have hfz29_1 := blk_frozen BK169.out 1
                  have hfz29_2 := blk_frozen BK169.out 2
                  have hfz29_3 := blk_frozen BK169.out 3
                  have hfz29_4 := blk_frozen BK169.out 4
                  go_wp2
                  go_meet
                  case rel => exact ⟨_, ((t170 != 0)), (by first | rfl | (simp; done) | (simp [*]; done)), H', ⟨by first | omega | exact Nat.le_refl _⟩, ⟨by (with_reducible repeat (first | refine blk_drewN ?_ _ | refine blk_drew ?_ | refine blk_alloc ?_ _)); refine blk_put (cs := #[.int .i64 t163, .int .i64 t164, .int .i64 t165, .bool t166, .bool false]) ?_ 4 _ (by first | rfl | (simp_all; done)); (with_reducible repeat (first | refine blk_drewN ?_ _ | refine blk_drew ?_ | refine blk_alloc ?_ _)); refine blk_put (cs := #[.int .i64 t163, .int .i64 t164, .int .i64 t165, .bool false, .bool false]) ?_ 3 _ (by first | rfl | (simp_all; done)); (with_reducible repeat (first | refine blk_drewN ?_ _ | refine blk_drew ?_ | refine blk_alloc ?_ _)); refine blk_put (cs := #[.int .i64 t163, .int .i64 t164, .int .i64 0, .bool false, .bool false]) ?_ 2 _ (by first | rfl | (simp_all; done)); (with_reducible repeat (first | refine blk_drewN ?_ _ | refine blk_drew ?_ | refine blk_alloc ?_ _)); refine blk_put (cs := #[.int .i64 t163, .int .i64 0, .int .i64 0, .bool false, .bool false]) ?_ 1 _ (by first | rfl | (simp_all; done)); (with_reducible repeat (first | refine blk_drewN ?_ _ | refine blk_drew ?_ | refine blk_alloc ?_ _)); refine blk_put (cs := #[.int .i64 0, .int .i64 0, .int .i64 0, .bool false, .bool false]) ?_ 0 _ (by first | rfl | (simp_all; done)); (with_reducible repeat (first | refine blk_drewN ?_ _ | refine blk_drew ?_ | refine blk_alloc ?_ _)); exact BK169.out⟩, ⟨by repeat (first | (with_reducible first | exact HB.out | apply below_alloc | apply pw_below_drewN | apply below_drew1 | refine below_set ?_ GE169.out) | exact HB.out)⟩⟩
            · rw [if_neg c18] at H
              have c18b0 : (t171 == t165) = false := beq_eq_false_iff_ne.mpr c18
              have c18b1 : (t171 != t165) = true := bne_iff_ne.mpr c18
              have H' := Aside0.mk H
              clear H
              have hcz30_0 : w15.cell? ⟨gb169, 0, none⟩ = some (.int .i64 0) := (blk_cell BK169.out 0).trans rfl
              have hcz30_1 : w15.cell? ⟨gb169, 1, none⟩ = some (.int .i64 0) := (blk_cell BK169.out 1).trans rfl
              have hcz30_2 : w15.cell? ⟨gb169, 2, none⟩ = some (.int .i64 0) := (blk_cell BK169.out 2).trans rfl
              have hcz30_3 : w15.cell? ⟨gb169, 3, none⟩ = some (.bool false) := (blk_cell BK169.out 3).trans rfl
              have hcz30_4 : w15.cell? ⟨gb169, 4, none⟩ = some (.bool false) := (blk_cell BK169.out 4).trans rfl
              have hfz30_0 := blk_frozen BK169.out 0
              have hfz30_1 := blk_frozen BK169.out 1
              have hfz30_2 := blk_frozen BK169.out 2
              have hfz30_3 := blk_frozen BK169.out 3
              have hfz30_4 := blk_frozen BK169.out 4
              go_wp2
              go_meet
              case rel => exact ⟨_, (true), (by first | rfl | (simp; done) | (simp [*]; done)), H', ⟨by first | omega | exact Nat.le_refl _⟩, ⟨by (with_reducible repeat (first | refine blk_drewN ?_ _ | refine blk_drew ?_ | refine blk_alloc ?_ _)); refine blk_put (cs := #[.int .i64 t163, .int .i64 t164, .int .i64 t165, .bool t166, .bool false]) ?_ 4 _ (by first | rfl | (simp_all; done)); (with_reducible repeat (first | refine blk_drewN ?_ _ | refine blk_drew ?_ | refine blk_alloc ?_ _)); refine blk_put (cs := #[.int .i64 t163, .int .i64 t164, .int .i64 t165, .bool false, .bool false]) ?_ 3 _ (by first | rfl | (simp_all; done)); (with_reducible repeat (first | refine blk_drewN ?_ _ | refine blk_drew ?_ | refine blk_alloc ?_ _)); refine blk_put (cs := #[.int .i64 t163, .int .i64 t164, .int .i64 0, .bool false, .bool false]) ?_ 2 _ (by first | rfl | (simp_all; done)); (with_reducible repeat (first | refine blk_drewN ?_ _ | refine blk_drew ?_ | refine blk_alloc ?_ _)); refine blk_put (cs := #[.int .i64 t163, .int .i64 0, .int .i64 0, .bool false, .bool false]) ?_ 1 _ (by first | rfl | (simp_all; done)); (with_reducible repeat (first | refine blk_drewN ?_ _ | refine blk_drew ?_ | refine blk_alloc ?_ _)); refine blk_put (cs := #[.int .i64 0, .int .i64 0, .int .i64 0, .bool false, .bool false]) ?_ 0 _ (by first | rfl | (simp_all; done)); (with_reducible repeat (first | refine blk_drewN ?_ _ | refine blk_drew ?_ | refine blk_alloc ?_ _)); exact BK169.out⟩, ⟨by repeat (first | (with_reducible first | exact HB.out | apply below_alloc | apply pw_below_drewN | apply below_drew1 | refine below_set ?_ GE169.out) | exact HB.out)⟩⟩
        case rest =>
          clear HC11
          try clear c1
          try clear c2
          try clear p2
          try clear c4
          try clear c5
          try clear c7
          try clear c7b0
          try clear c7b1
          try clear c8
          try clear c8b0
          try clear c8b1
          try clear c11
          try clear c12
          try clear c17
          try clear c17b0
          try clear c17b1
          try clear c17b2
          try clear c18
          try clear c18b0
          try clear c18b1
          try clear c19
          try clear c19b0
          try clear c19b1
          try clear c19b2
          try clear c21
          try clear c22
          try clear c22b0
          try clear c22b1
          try clear c22b2
          try clear c24
          try clear c24b0
          try clear c24b1
          try clear c26
          try clear c26b0
          try clear c26b1
          try clear hcz16_0
          try clear hcz16_1
          try clear hcz16_2
          try clear hcz16_3
          try clear hcz16_4
          try clear hcz20_0
          try clear hcz20_1
          try clear hcz20_2
          try clear hcz20_3
          try clear hcz20_4
          try clear hcz23_0
          try clear hcz23_1
          try clear hcz23_2
          try clear hcz23_3
          try clear hcz23_4
          try clear hcz25_0
          try clear hcz25_1
          try clear hcz25_2
          try clear hcz25_3
          try clear hcz25_4
          try clear hcz27_0
          try clear hcz27_1
          try clear hcz27_2
          try clear hcz27_3
          try clear hcz27_4
          try clear hcz28_0
          try clear hcz28_1
          try clear hcz28_2
          try clear hcz28_3
          try clear hcz28_4
          try clear hcz29_0
          try clear hcz29_1
          try clear hcz29_2
          try clear hcz29_3
          try clear hcz29_4
          try clear hcz30_0
          try clear hcz30_1
          try clear hcz30_2
          try clear hcz30_3
          try clear hcz30_4
          try clear hfz16_0
          try clear hfz16_1
          try clear hfz16_2
          try clear hfz16_3
          try clear hfz16_4
          try clear hfz20_0
          try clear hfz20_1
          try clear hfz20_2
          try clear hfz20_3
          try clear hfz20_4
          try clear hfz23_0
          try clear hfz23_1
          try clear hfz23_2
          try clear hfz23_3
          try clear hfz23_4
          try clear hfz25_0
          try clear hfz25_1
          try clear hfz25_2
          try clear hfz25_3
          try clear hfz25_4
          try clear hfz27_0
          try clear hfz27_1
          try clear hfz27_2
          try clear hfz27_3
          try clear hfz27_4
          try clear hfz28_0
          try clear hfz28_1
          try clear hfz28_2
          try clear hfz28_3
          try clear hfz28_4
          try clear hfz29_0
          try clear hfz29_1
          try clear hfz29_2
          try clear hfz29_3
          try clear hfz29_4
          try clear hfz30_0
          try clear hfz30_1
          try clear hfz30_2
          try clear hfz30_3
          try clear hfz30_4
          obtain ⟨kq, x80_10, rfl, HA, HJ10, BK169, HB⟩ := hcut
          cases kq with
          | zero => exact absurd HA.out (by simp [trammellaw04_PackAll.j0])
          | succ kj10 =>
            have H := HA.out
            clear HA
            simp only [trammellaw04_PackAll.j0] at H
            by_cases c31 : x80_10 = true
            · subst c31
              have H1 : (some false) = some r := by rw [if_pos rfl] at H; exact H
              clear H
              have H := H1
              clear H1
              exact absurd (Option.some.inj H) (by rw [hr]; decide)
            · replace c31 := Bool.eq_false_iff.mpr c31
              subst c31
              have H1 : ((pack_Load.f kj10 a0 (l1.take ((ji6) : Int).toNat)).bind fun bt174 => ((trammelref04_Load.f kj10 a0 (l1.take ((ji6) : Int).toNat)).bind fun bt176 => (if bt174.1 = bt176.1 then (trammellaw04_PackAll.j1 kj10 a0 a2 (bt174.2 != bt176.2)) else (trammellaw04_PackAll.j1 kj10 a0 a2 true)))) = some r := by rw [if_neg (show ¬ (false = true) by decide)] at H; exact H
              clear H
              have H := H1
              clear H1
              replace H := Option.bind_eq_some_iff.mp H
              obtain ⟨⟨t174, t175⟩, A320, H⟩ := H
              replace H : ((trammelref04_Load.f kj10 a0 (l1.take ((ji6) : Int).toNat)).bind fun bt176 => (if t174 = bt176.1 then (trammellaw04_PackAll.j1 kj10 a0 a2 (t175 != bt176.2)) else (trammellaw04_PackAll.j1 kj10 a0 a2 true))) = some r := H
              have A32 := Aside0.mk A320
              clear A320
              replace H := Option.bind_eq_some_iff.mp H
              obtain ⟨⟨t176, t177⟩, A330, H⟩ := H
              replace H : (if t174 = t176 then (trammellaw04_PackAll.j1 kj10 a0 a2 (t175 != t177)) else (trammellaw04_PackAll.j1 kj10 a0 a2 true)) = some r := H
              have A33 := Aside0.mk A330
              clear A330
              have HC34 := Aside0.mk H
              clear H
              go_upto_region 10 with (first | ((with_reducible refine gate_callee (f := 10) rfl ?_); refine goesL_ (some 84) rfl rfl Try.func10 (by kernel_rfl) rfl #[.int .i64 a0, .slice A1 (l1.take ((ji6) : Int).toNat).length c1] rfl (by (try simp only [List.map_toArray, List.map_cons, List.map_nil]); first | done | (rw [show (l1.take ((ji6) : Int).toNat).length = (ji6).toNat from (by rw [List.length_take]; have h_ : ((ji6) : Int) ≤ (l1.length : Int) := (by first | exact of_decide_eq_true (by first | (with_reducible assumption) | assumption) | omega); omega)] <;> rfl) | (simp only [hji6]; rfl) | rfl | (simp only [List.length_drop, List.length_take]; rfl)) ?_; (with_reducible refine (pack_Load.calls kj10 a0 _ _ (l1.take ((ji6) : Int).toNat) t174 t175 _ ?side1 ?side2 A32.out).mono ?_); (case side1 => repeat (first | exact (Kd.C_below HR162.out HB.out) | (with_reducible refine Kd.C_alloc ?_ _) | (with_reducible refine Kd.C_drewN ?_ _) | (with_reducible refine Kd.C_drew ?_))); (case side2 => exact HC162.out); rintro e w' ⟨rfl, ⟨nd, rfl⟩⟩; refine ⟨_, rfl, ?_⟩) | ((with_reducible refine gate_callee (f := 13) rfl ?_); refine goesL_ (some 90) rfl rfl Try.func13 (by kernel_rfl) rfl #[.int .i64 a0, .slice A1 (l1.take ((ji6) : Int).toNat).length c1] rfl (by (try simp only [List.map_toArray, List.map_cons, List.map_nil]); first | done | (rw [show (l1.take ((ji6) : Int).toNat).length = (ji6).toNat from (by rw [List.length_take]; have h_ : ((ji6) : Int) ≤ (l1.length : Int) := (by first | exact of_decide_eq_true (by first | (with_reducible assumption) | assumption) | omega); omega)] <;> rfl) | (simp only [hji6]; rfl) | rfl | (simp only [List.length_drop, List.length_take]; rfl)) ?_; (with_reducible refine (trammelref04_Load.calls kj10 a0 _ _ (l1.take ((ji6) : Int).toNat) t176 t177 _ ?side1 ?side2 A33.out).mono ?_); (case side1 => repeat (first | exact (Kd.C_below HR162.out (by repeat (first | (with_reducible first | exact HB.out | apply below_alloc | apply pw_below_drewN | apply below_drew1 | refine below_set ?_ GE169.out) | exact HB.out))) | (with_reducible refine Kd.C_alloc ?_ _) | (with_reducible refine Kd.C_drewN ?_ _) | (with_reducible refine Kd.C_drew ?_))); (case side2 => exact HC162.out); rintro e w35 ⟨rfl, hb⟩; refine ⟨_, rfl, ?_⟩; have n0_ := Aside0.mk (blk_below (g := gb169) (o := .cells #[.int .i64 t163, .int .i64 t164, .int .i64 t165, .bool t166, .bool t167] 33 (0, 0)) (by (with_reducible repeat (first | refine blk_drewN ?_ _ | refine blk_drew ?_ | refine blk_alloc ?_ _)); exact BK169.out) hb); have n1_ := Aside0.mk (below_step (by repeat (first | (with_reducible first | exact HB.out | apply below_alloc | apply pw_below_drewN | apply below_drew1 | refine below_set ?_ GE169.out) | exact HB.out)) hb); clear BK169; clear HB; have BK169 := n0_; have HB := n1_; clear n0_ n1_; (try clear hb); (try clear hb2); (try clear hk); (try clear hi)))
              (try simp only [Act.put, List.setIfInBounds_toArray, List.set_cons_zero, List.set_cons_succ])
              go_cut [100] (fun v100 wc => ∃ (kq : Nat) (x100_33 : Bool), v100 = .bool x100_33 ∧ Aside0 (trammellaw04_PackAll.j1 kq a0 a2 x100_33 = some r) ∧ Aside0 (kq ≤ kj10) ∧ Aside0 (wc.heap[gb169]? = some (.cells #[.int .i64 t163, .int .i64 t164, .int .i64 t165, .bool t166, .bool t167] 33 (0, 0))) ∧ Aside0 (Below w.heap.size w wc))
              case first =>
                have H := HC34.out
                clear HC34
                by_cases c36 : t174 = t176
                · rw [if_pos c36] at H
                  have c36b0 : (t174 == t176) = true := beq_iff_eq.mpr c36
                  have c36b1 : (t174 != t176) = false := bne_eq_false_iff_eq.mpr c36
                  clear c36
                  (first | rw [c36b0] | (simp only [i64_w, i32_w]; rw [c36b0]) | skip)
                  have H' := Aside0.mk H
                  clear H
                  go_wp2
                  go_meet
                  case rel => exact ⟨_, ((t175 != t177)), (by first | rfl | (simp; done) | (simp [*]; done)), H', ⟨by have := HJ10.out; first | omega | exact Nat.le_refl _⟩, ⟨by (with_reducible repeat (first | refine blk_drewN ?_ _ | refine blk_drew ?_ | refine blk_alloc ?_ _)); exact BK169.out⟩, ⟨by repeat (first | (with_reducible first | exact HB.out | apply below_alloc | apply pw_below_drewN | apply below_drew1 | refine below_set ?_ GE169.out) | exact HB.out)⟩⟩
                · rw [if_neg c36] at H
                  have c36b0 : (t174 == t176) = false := beq_eq_false_iff_ne.mpr c36
                  have c36b1 : (t174 != t176) = true := bne_iff_ne.mpr c36
                  (first | rw [c36b0] | (simp only [i64_w, i32_w]; rw [c36b0]) | skip)
                  have H' := Aside0.mk H
                  clear H
                  go_wp2
                  go_meet
                  case rel => exact ⟨_, (true), (by first | rfl | (simp; done) | (simp [*]; done)), H', ⟨by have := HJ10.out; first | omega | exact Nat.le_refl _⟩, ⟨by (with_reducible repeat (first | refine blk_drewN ?_ _ | refine blk_drew ?_ | refine blk_alloc ?_ _)); exact BK169.out⟩, ⟨by repeat (first | (with_reducible first | exact HB.out | apply below_alloc | apply pw_below_drewN | apply below_drew1 | refine below_set ?_ GE169.out) | exact HB.out)⟩⟩
              case rest =>
                clear HC34
                try clear c1
                try clear c2
                try clear p2
                try clear c3
                try clear c4
                try clear c5
                try clear c7
                try clear c7b0
                try clear c7b1
                try clear c8
                try clear c8b0
                try clear c8b1
                try clear c10
                try clear c11
                try clear c12
                try clear c13
                try clear c17
                try clear c17b0
                try clear c17b1
                try clear c17b2
                try clear c18
                try clear c18b0
                try clear c18b1
                try clear c19
                try clear c19b0
                try clear c19b1
                try clear c19b2
                try clear c21
                try clear c22
                try clear c22b0
                try clear c22b1
                try clear c22b2
                try clear c24
                try clear c24b0
                try clear c24b1
                try clear c26
                try clear c26b0
                try clear c26b1
                try clear c31
                try clear c36
                try clear c36b0
                try clear c36b1
                try clear hcz16_0
                try clear hcz16_1
                try clear hcz16_2
                try clear hcz16_3
                try clear hcz16_4
                try clear hcz20_0
                try clear hcz20_1
                try clear hcz20_2
                try clear hcz20_3
                try clear hcz20_4
                try clear hcz23_0
                try clear hcz23_1
                try clear hcz23_2
                try clear hcz23_3
                try clear hcz23_4
                try clear hcz25_0
                try clear hcz25_1
                try clear hcz25_2
                try clear hcz25_3
                try clear hcz25_4
                try clear hcz27_0
                try clear hcz27_1
                try clear hcz27_2
                try clear hcz27_3
                try clear hcz27_4
                try clear hcz28_0
                try clear hcz28_1
                try clear hcz28_2
                try clear hcz28_3
                try clear hcz28_4
                try clear hcz29_0
                try clear hcz29_1
                try clear hcz29_2
                try clear hcz29_3
                try clear hcz29_4
                try clear hcz30_0
                try clear hcz30_1
                try clear hcz30_2
                try clear hcz30_3
                try clear hcz30_4
                try clear hfz16_0
                try clear hfz16_1
                try clear hfz16_2
                try clear hfz16_3
                try clear hfz16_4
                try clear hfz20_0
                try clear hfz20_1
                try clear hfz20_2
                try clear hfz20_3
                try clear hfz20_4
                try clear hfz23_0
                try clear hfz23_1
                try clear hfz23_2
                try clear hfz23_3
                try clear hfz23_4
                try clear hfz25_0
                try clear hfz25_1
                try clear hfz25_2
                try clear hfz25_3
                try clear hfz25_4
                try clear hfz27_0
                try clear hfz27_1
                try clear hfz27_2
                try clear hfz27_3
                try clear hfz27_4
                try clear hfz28_0
                try clear hfz28_1
                try clear hfz28_2
                try clear hfz28_3
                try clear hfz28_4
                try clear hfz29_0
                try clear hfz29_1
                try clear hfz29_2
                try clear hfz29_3
                try clear hfz29_4
                try clear hfz30_0
                try clear hfz30_1
                try clear hfz30_2
                try clear hfz30_3
                try clear hfz30_4
                try clear p2
                obtain ⟨kq, x100_33, rfl, HA, HJ33, BK169, HB⟩ := hcut
                cases kq with
                | zero => exact absurd HA.out (by simp [trammellaw04_PackAll.j1])
                | succ kj33 =>
                  have H := HA.out
                  clear HA
                  simp only [trammellaw04_PackAll.j1] at H
                  by_cases c37 : x100_33 = true
                  · subst c37
                    have H1 : (some false) = some r := by rw [if_pos rfl] at H; exact H
                    clear H
                    have H := H1
                    clear H1
                    exact absurd (Option.some.inj H) (by rw [hr]; decide)
                  · replace c37 := Bool.eq_false_iff.mpr c37
                    subst c37
                    have H1 : ((pack_Store.f kj33 a0 a2).bind fun bt178 => ((trammelref04_Store.f kj33 a0 a2).bind fun bt182 => (if (bt178.2 == bt182.2) = true then ((trammelref01_Same.f kj33 bt178.1 bt182.1).bind fun t186 => (some t186)) else (some false)))) = some r := by rw [if_neg (show ¬ (false = true) by decide)] at H; exact H
                    clear H
                    have H := H1
                    clear H1
                    replace H := Option.bind_eq_some_iff.mp H
                    obtain ⟨⟨t178, t179⟩, A380, H⟩ := H
                    replace H : ((trammelref04_Store.f kj33 a0 a2).bind fun bt182 => (if (t179 == bt182.2) = true then ((trammelref01_Same.f kj33 t178 bt182.1).bind fun t186 => (some t186)) else (some false))) = some r := H
                    have A38 := Aside0.mk A380
                    clear A380
                    replace H := Option.bind_eq_some_iff.mp H
                    obtain ⟨⟨t182, t183⟩, A390, H⟩ := H
                    replace H : (if (t179 == t183) = true then ((trammelref01_Same.f kj33 t178 t182).bind fun t186 => (some t186)) else (some false)) = some r := H
                    have A39 := Aside0.mk A390
                    clear A390
                    by_cases c40 : (t179 == t183) = true
                    · rw [if_pos c40] at H
                      have c40b0 : (t179 == t183) = true := c40
                      (try (have c40b1 : decide (t179 = t183) = true := by simpa using c40))
                      (try (have c40b2 : (t179 == t183) = true := by simpa using c40))
                      clear c40
                      replace H := Option.bind_eq_some_iff.mp H
                      obtain ⟨t186, A410, H⟩ := H
                      replace H : (some t186) = some r := H
                      have A41 := Aside0.mk A410
                      clear A410
                      obtain rfl := Option.some.inj H
                      go_wp2_with (first | ((with_reducible refine gate_callee (f := 8) rfl ?_); refine goesL_ (some 104) rfl rfl Try.func8 (by kernel_rfl) rfl #[.int .i64 a0, .int .u64 a2] rfl (by (try simp only [List.map_toArray, List.map_cons, List.map_nil]); first | done | rfl | (simp only [List.length_drop, List.length_take]; rfl)) ?_; (with_reducible refine (pack_Store.calls kj33 a0 a2 t178 t179 _ A38.out).mono ?_); rintro e w42 ⟨v180, rfl, ho0, hb⟩; refine ⟨_, rfl, ?_⟩; have n0_ := Aside0.mk (Kd.R_lower ho0 (below_size (by repeat (first | (with_reducible first | exact HB.out | apply below_alloc | apply pw_below_drewN | apply below_drew1 | refine below_set ?_ GE169.out) | exact HB.out)))); have n1_ := Aside0.mk (blk_below (g := gb169) (o := .cells #[.int .i64 t163, .int .i64 t164, .int .i64 t165, .bool t166, .bool t167] 33 (0, 0)) (by (with_reducible repeat (first | refine blk_drewN ?_ _ | refine blk_drew ?_ | refine blk_alloc ?_ _)); exact BK169.out) hb); have n2_ := Aside0.mk (below_step (by repeat (first | (with_reducible first | exact HB.out | apply below_alloc | apply pw_below_drewN | apply below_drew1 | refine below_set ?_ GE169.out) | exact HB.out)) hb); clear BK169; clear HB; have HO181 := n0_; have BK169 := n1_; have HB := n2_; clear n0_ n1_ n2_; (try clear hb); (try clear hb2); (try clear hk); (try clear hi); (try clear ho0)) | ((with_reducible refine gate_callee (f := 14) rfl ?_); refine goesL_ (some 110) rfl rfl Try.func14 (by kernel_rfl) rfl #[.int .i64 a0, .int .u64 a2] rfl (by (try simp only [List.map_toArray, List.map_cons, List.map_nil]); first | done | rfl | (simp only [List.length_drop, List.length_take]; rfl)) ?_; (with_reducible refine (trammelref04_Store.calls kj33 a0 a2 t182 t183 _ A39.out).mono ?_); rintro e w43 ⟨v184, rfl, ho0, hb⟩; refine ⟨_, rfl, ?_⟩; have n0_ := Aside0.mk (Kd.R_elder' (by (with_reducible repeat (first | apply Kd.R_alloc | apply Kd.R_drewN | apply Kd.R_drew)); exact HO181.out) (Kd.R_base ho0) hb); have n1_ := Aside0.mk (Kd.R_lower (Kd.R_new' ho0 (Kd.R_lt (by (with_reducible repeat (first | apply Kd.R_alloc | apply Kd.R_drewN | apply Kd.R_drew)); exact HO181.out))) (below_size (by repeat (first | (with_reducible first | exact HB.out | apply below_alloc | apply pw_below_drewN | apply below_drew1 | refine below_set ?_ GE169.out) | exact HB.out)))); have n2_ := Aside0.mk (blk_below (g := gb169) (o := .cells #[.int .i64 t163, .int .i64 t164, .int .i64 t165, .bool t166, .bool t167] 33 (0, 0)) (by (with_reducible repeat (first | refine blk_drewN ?_ _ | refine blk_drew ?_ | refine blk_alloc ?_ _)); exact BK169.out) hb); have n3_ := Aside0.mk (below_step (by repeat (first | (with_reducible first | exact HB.out | apply below_alloc | apply pw_below_drewN | apply below_drew1 | refine below_set ?_ GE169.out) | exact HB.out)) hb); clear HO181; clear BK169; clear HB; have HO181 := n0_; have HO185 := n1_; have BK169 := n2_; have HB := n3_; clear n0_ n1_ n2_ n3_; (try clear hb); (try clear hb2); (try clear hk); (try clear hi); (try clear ho0); obtain ⟨Ao44, co44, eo44⟩ := Kd.R_slice HO181.out; subst eo44; obtain ⟨Ao45, co45, eo45⟩ := Kd.R_slice HO185.out; subst eo45) | (go_at_call 9; (with_reducible refine (trammelref01_Same.calls kj33 _ _ t178 _ _ t182 t186 _ ?side1 ?side2 ?side3 ?side4 A41.out).mono ?_); (case side1 => repeat (first | exact (Kd.R_reads' HO181.out).2.2 | (with_reducible refine Kd.C_alloc ?_ _) | (with_reducible refine Kd.C_drewN ?_ _) | (with_reducible refine Kd.C_drew ?_))); (case side2 => exact (Kd.R_reads' HO181.out).2.1); (case side3 => repeat (first | exact (Kd.R_reads' HO185.out).2.2 | (with_reducible refine Kd.C_alloc ?_ _) | (with_reducible refine Kd.C_drewN ?_ _) | (with_reducible refine Kd.C_drew ?_))); (case side4 => exact (Kd.R_reads' HO185.out).2.1); rintro e w' ⟨rfl, ⟨nd, rfl⟩⟩))
                      go_ret
                      exact ⟨by first | rfl | (simp [errW_none, errW_some] <;> rfl) | (simp only [← hji6]; first | rfl | (simp [errW_none, errW_some] <;> rfl)) | (simp [*, errW_none, errW_some] <;> rfl), by repeat (first | (with_reducible first | exact HB.out | apply below_alloc | apply pw_below_drewN | apply below_drew1 | refine below_set ?_ GE169.out) | exact HB.out)⟩
                    · rw [if_neg c40] at H
                      have c40b0 : (t179 == t183) = false := by simpa using c40
                      (try (have c40b1 : decide (t179 = t183) = false := by simpa using c40))
                      (try (have c40b2 : (t179 == t183) = false := by simpa using c40))
                      (try (have c40b3 : ¬ (t179 = t183) := by simpa using c40))
                      clear c40
                      exact absurd (Option.some.inj H) (by rw [hr]; decide)
      · rw [if_neg c8] at H
        exact absurd H (by simp)
    · rw [if_neg c7] at H
      exact absurd H (by simp)
  · replace c5 := Bool.eq_false_iff.mpr c5
    subst c5
    have H1 : (some false) = some r := by rw [if_neg (show ¬ (false = true) by decide)] at H; exact H
    clear H
    have H := H1
    clear H1
    exact absurd (Option.some.inj H) (by rw [hr]; decide)

/-- THE ONE PURE STATEMENT of trammellaw04_PackAll: yours. -/
def trammellaw04_PackAll.Pure : Prop := ∀ (a0 : Int) (l1 : List Int) (a2 : Int), (Lit.int .i64 a0).wf = true → l1.length ≤ maxLen → l1.length * 1 ≤ 140737488351232 → (∀ x ∈ l1, (Lit.int .u8 x).wf = true) → (Lit.int .u64 a2).wf = true → ∃ k, trammellaw04_PackAll.f k a0 l1 a2 = some true
theorem trammellaw04_PackAll.walk (P : trammellaw04_PackAll.Pure) (a0 : Int) (a1 : Option Addr) (len1 cap1 : Nat) (z1 : List Int) (a2 : Int) (w : World) (w0 : (Lit.int .i64 a0).wf = true) (w1 : (a1 = none ∧ len1 = 0 ∧ cap1 = 0 ∧ z1 = []) ∨ ∃ x, a1 = some x ∧ len1 ≤ cap1 ∧ cap1 ≤ maxLen ∧ z1.length = cap1 ∧ (∀ i, i < z1.length → w.cell? (x.add i) = some (.int .u8 (z1.getD i 0))) ∧ ∀ n ∈ z1, (Lit.int .u8 n).wf = true) (y1 : len1 * 1 ≤ 140737488351232) (w2 : (Lit.int .u64 a2).wf = true) :
    Calls Try.prog 4 #[.int .i64 a0, .slice a1 len1 cap1, .int .u64 a2] w fun e w' => e = .returned (.bool true) ∧ Below w.heap.size w w' := by
  obtain ⟨l1, rfl, hr1, hm1, hw1, hc1⟩ := ReadsInt.ofRowC w1
  obtain ⟨k, h⟩ := P a0 l1 a2 w0 hm1 y1 hw1 w2
  refine (trammellaw04_PackAll.calls k a0 _ _ l1 a2 true w (Kd.C_of_reads (d := (0 : Int)) (h1 := fun _ => rfl) hr1) hc1 rfl h).mono ?_
  rintro e w' ⟨rfl, hd⟩
  exact ⟨rfl, hd⟩

end Go.Proofs.Ytelbmologkepeaa.PPackAll
