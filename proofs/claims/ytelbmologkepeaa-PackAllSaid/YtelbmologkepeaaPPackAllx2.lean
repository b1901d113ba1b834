-- Written by a program of this session (wip/tools/myprint.py over the print of the kit).
import Derived.Test.YtelbmologkepeaaPPackAllx0
import Derived.Test.YtelbmologkepeaaPPackAllx1
namespace Go.Proofs.Ytelbmologkepeaa.PPackAll
open Go.Proofs.Ytelbmologkepeaa.Ext
open Go.RowKit Go.Proofs.YtelbmologkepeaaW.PrintWords Go.Proofs.YtelbmologkepeaaW.PrintLast Go.Proofs.YtelbmologkepeaaW.PrintMore
attribute [local go_sem] max2_int min2_int max_two min_two max_three min_three max_four min_four   -- for this text's walks alone
set_option linter.unusedVariables false
set_option linter.unusedSimpArgs false

/-! ### trammelref01_Same: function 9 -/
def trammelref01_Same.l0 : Nat → List Int → List Int → Int → Option (Bool)
  | 0, _, _, _ => none
  | k + 1, x0, x1, x5 => if x5 < (x0.length : Int) then (if 0 ≤ x5 then (if x5 < (x1.length : Int) then (if (rd x0 x5) = (rd x1 x5) then (trammelref01_Same.l0 k x0 x1 (wrap64 (x5 + 1))) else (some false)) else (none)) else (none)) else (some true)
def trammelref01_Same.f (k : Nat) (l0 : List Int) (l1 : List Int) : Option (Bool) := if (l0.length : Int) = (l1.length : Int) then (trammelref01_Same.l0 k l0 l1 0) else (some false)
theorem trammelref01_Same.mono_l : ∀ k, (∀ y0 y1 y2, LeO (trammelref01_Same.l0 k y0 y1 y2) (trammelref01_Same.l0 (k + 1) y0 y1 y2))
  | 0 => fun _ _ _ r h => by simp [trammelref01_Same.l0] at h
  | k + 1 => by
    have ih0 := trammelref01_Same.mono_l k
    · intro y0 y1 y2
      unfold trammelref01_Same.l0
      repeat' first
      | (with_reducible exact ih0 _ _ _)
      | (with_reducible exact LeO.refl _)
      | (with_reducible exact LeO.none _)
      | (with_reducible refine LeO.ite ?_ ?_)
      | (with_reducible refine LeO.bind ?_ (fun _ => ?_))
      | exact ih0 _ _ _
      | exact LeO.none _
      | refine LeO.ite ?_ ?_
      | refine LeO.bind ?_ (fun _ => ?_)
theorem trammelref01_Same.mono : ∀ a0 a1 k, LeO (trammelref01_Same.f k a0 a1) (trammelref01_Same.f (k + 1) a0 a1) := by
  intro a0 a1 k
  have ih0 := trammelref01_Same.mono_l k
  unfold trammelref01_Same.f
  repeat' first
      | (with_reducible exact ih0 _ _ _)
      | (with_reducible exact LeO.refl _)
      | (with_reducible exact LeO.none _)
      | (with_reducible refine LeO.ite ?_ ?_)
      | (with_reducible refine LeO.bind ?_ (fun _ => ?_))
      | exact ih0 _ _ _
      | exact LeO.none _
      | refine LeO.ite ?_ ?_
      | refine LeO.bind ?_ (fun _ => ?_)
set_option maxHeartbeats 8000000 in
set_option maxRecDepth 100000 in
theorem trammelref01_Same.calls (k : Nat) (A0 : Option Addr) (c0 : Nat) (l0 : List Int) (A1 : Option Addr) (c1 : Nat) (l1 : List Int) (r : Bool) (w : World) (hr0 : Kd.C (Kd.int .u8) w A0 l0.length l0) (hc0 : l0.length ≤ c0) (hr1 : Kd.C (Kd.int .u8) w A1 l1.length l1) (hc1 : l1.length ≤ c1) (h : trammelref01_Same.f k l0 l1 = some r) :
    Calls Try.prog 9 #[.slice A0 l0.length c0, .slice A1 l1.length c1] w fun e w' => e = .returned (.bool r) ∧ Drawn0 w w' := by
  have HR0 := Aside0.mk hr0
  have HC0 := Aside0.mk hc0
  clear hr0 hc0
  have HR1 := Aside0.mk hr1
  have HC1 := Aside0.mk hc1
  clear hr1 hc1
  have H : (if (l0.length : Int) = (l1.length : Int) then (trammelref01_Same.l0 k l0 l1 0) else (some false)) = some r := h
  clear h
  by_cases c3 : (l0.length : Int) = (l1.length : Int)
  · rw [if_pos c3] at H
    have c3b0 : ((l0.length : Int) == (l1.length : Int)) = true := beq_iff_eq.mpr c3
    have c3b1 : ((l0.length : Int) != (l1.length : Int)) = false := bne_eq_false_iff_eq.mpr c3
    have c3b2 : (l0.length == l1.length) = true := by first | simpa using c3 | (simp at c3 ⊢; omega)
    clear c3
    have H' := Aside0.mk H
    clear H
    go_enter Try.func9, Try.ntmps9
    go_wp2
    repeat (go_quiet (fail); try go_wp2)
    go_loopg [5] k (fun kq v5 w' => ∃ (x5_1 : Int), v5 = .int .i64 x5_1 ∧ Aside0 (trammelref01_Same.l0 kq l0 l1 x5_1 = some r) ∧ Aside0 (kq ≤ k) ∧ Drawn0 w w')
    case atStart => exact ⟨(0), (by first | rfl | (simp; done) | (simp [*]; done)), H', ⟨Nat.le_refl _⟩, by repeat (first | exact Drawn0.refl _ | apply Drawn0.step)⟩
    case round =>
      clear H'
      try clear c1
      try clear p2
      try clear c3
      try clear c3b0
      try clear c3b1
      try clear c3b2
      obtain ⟨x5_1, rfl, HA, HK1, ⟨m1, rfl⟩⟩ := hrel
      cases gk with
      | zero => exact absurd HA.out (by simp [trammelref01_Same.l0])
      | succ k1 =>
        have H := HA.out
        clear HA
        simp only [trammelref01_Same.l0] at H
        by_cases c4 : x5_1 < (l0.length : Int)
        · rw [if_pos c4] at H
          have c4b0 : decide (x5_1 < (l0.length : Int)) = true := decide_eq_true c4
          clear c4
          by_cases c5 : 0 ≤ x5_1
          · rw [if_pos c5] at H
            have c5b0 : decide (0 ≤ x5_1) = true := decide_eq_true c5
            clear c5
            by_cases c6 : x5_1 < (l1.length : Int)
            · rw [if_pos c6] at H
              have c6b0 : decide (x5_1 < (l1.length : Int)) = true := decide_eq_true c6
              clear c6
              by_cases c7 : (rd l0 x5_1) = (rd l1 x5_1)
              · rw [if_pos c7] at H
                have c7b0 : ((rd l0 x5_1) == (rd l1 x5_1)) = true := beq_iff_eq.mpr c7
                have c7b1 : ((rd l0 x5_1) != (rd l1 x5_1)) = false := bne_eq_false_iff_eq.mpr c7
                clear c7
                have H' := Aside0.mk H
                clear H
                have p110 : 0 ≤ (x5_1 : Int) := of_decide_eq_true (by first | (with_reducible assumption) | assumption)
                have q110 : x5_1 < (l0.length : Int) := of_decide_eq_true (by first | (with_reducible assumption) | assumption)
                obtain ⟨ad110, e110, hx110_0⟩ := Kd.at_int HR0.out x5_1 p110 q110
                cases e110
                replace p110 := eq_true p110
                replace q110 := eq_true q110
                have p111 : 0 ≤ (x5_1 : Int) := of_decide_eq_true (by first | (with_reducible assumption) | assumption)
                have q111 : x5_1 < (l1.length : Int) := of_decide_eq_true (by first | (with_reducible assumption) | assumption)
                obtain ⟨ad111, e111, hx111_0⟩ := Kd.at_int HR1.out x5_1 p111 q111
                cases e111
                replace p111 := eq_true p111
                replace q111 := eq_true q111
                go_wp2
                repeat (go_quiet (fail); try go_wp2)
                go_roundg k1
                case measure => have := HK1.out; omega
                case rel => exact ⟨(wrap64 (x5_1 + 1)), (by first | rfl | (simp; done) | (simp [*]; done)), H', ⟨by have := HK1.out; omega⟩, by repeat (first | exact Drawn0.refl _ | apply Drawn0.step)⟩
              · rw [if_neg c7] at H
                have c7b0 : ((rd l0 x5_1) == (rd l1 x5_1)) = false := beq_eq_false_iff_ne.mpr c7
                have c7b1 : ((rd l0 x5_1) != (rd l1 x5_1)) = true := bne_iff_ne.mpr c7
                obtain rfl := Option.some.inj H
                have p110 : 0 ≤ (x5_1 : Int) := of_decide_eq_true (by first | (with_reducible assumption) | assumption)
                have q110 : x5_1 < (l0.length : Int) := of_decide_eq_true (by first | (with_reducible assumption) | assumption)
                obtain ⟨ad110, e110, hx110_0⟩ := Kd.at_int HR0.out x5_1 p110 q110
                cases e110
                replace p110 := eq_true p110
                replace q110 := eq_true q110
                have p111 : 0 ≤ (x5_1 : Int) := of_decide_eq_true (by first | (with_reducible assumption) | assumption)
                have q111 : x5_1 < (l1.length : Int) := of_decide_eq_true (by first | (with_reducible assumption) | assumption)
                obtain ⟨ad111, e111, hx111_0⟩ := Kd.at_int HR1.out x5_1 p111 q111
                cases e111
                replace p111 := eq_true p111
                replace q111 := eq_true q111
                go_wp2
                repeat (go_quiet (fail); try go_wp2)
                go_ret
                exact ⟨by first | rfl | (simp; done) | (simp [*]; done), by repeat (first | exact Drawn0.refl _ | apply Drawn0.step)⟩
            · rw [if_neg c6] at H
              exact absurd H (by simp)
          · rw [if_neg c5] at H
            exact absurd H (by simp)
        · rw [if_neg c4] at H
          have c4b0 : decide (x5_1 < (l0.length : Int)) = false := decide_eq_false c4
          clear c4
          obtain rfl := Option.some.inj H
          go_wp2
          repeat (go_quiet (fail); try go_wp2)
          go_ret
          exact ⟨by first | rfl | (simp; done) | (simp [*]; done), by repeat (first | exact Drawn0.refl _ | apply Drawn0.step)⟩
  · rw [if_neg c3] at H
    have c3b0 : ((l0.length : Int) == (l1.length : Int)) = false := beq_eq_false_iff_ne.mpr c3
    have c3b1 : ((l0.length : Int) != (l1.length : Int)) = true := bne_iff_ne.mpr c3
    have c3b2 : (l0.length == l1.length) = false := by first | simpa using c3 | (simp at c3 ⊢; omega)
    obtain rfl := Option.some.inj H
    go_enter Try.func9, Try.ntmps9
    go_wp2
    repeat (go_quiet (fail); try go_wp2)
    go_ret
    exact ⟨by first | rfl | (simp; done) | (simp [*]; done), by repeat (first | exact Drawn0.refl _ | apply Drawn0.step)⟩

/-! ### pack_Load: function 10 -/
mutual
def pack_Load.j0 : Nat → List Int → Int → Int → Bool → Bool → Option (Int × Bool)
  | 0, _, _, _, _, _ => none
  | k + 1, x1, x6, x7, x8, x33 => if x33 = true then (some (0, false)) else (pack_Load.l0 k x6 x7 x8 0 x1 (x1.length : Int) 0)
def pack_Load.l0 : Nat → Int → Int → Bool → Int → List Int → Int → Int → Option (Int × Bool)
  | 0, _, _, _, _, _, _, _ => none
  | k + 1, x6, x7, x8, x11, x34, x35, x36 => if x36 < x35 then (if 0 ≤ x36 then (if x36 < (x34.length : Int) then (if 0 ≤ (IntKind.u64.wrap (wrap64 (8 * x36))) then (pack_Load.l0 k x6 x7 x8 (Go.bits .or .u64 x11 (shl .u64 (IntKind.u64.wrap (rd x34 x36)) (IntKind.u64.wrap (wrap64 (8 * x36))))) x34 x35 (wrap64 (x36 + 1))) else (none)) else (none)) else (none)) else (if x8 = true then (if 0 ≤ (IntKind.u64.wrap (wrap64 (64 - (wrap64 (8 * x7))))) then (if x6 = 127 then (some ((IntKind.u64.wrap (shr .i64 (wrap64 (shl .u64 x11 (IntKind.u64.wrap (wrap64 (64 - (wrap64 (8 * x7))))))) (IntKind.u64.wrap (wrap64 (64 - (wrap64 (8 * x7))))))) % 4294967296, true)) else (some (IntKind.u64.wrap (shr .i64 (wrap64 (shl .u64 x11 (IntKind.u64.wrap (wrap64 (64 - (wrap64 (8 * x7))))))) (IntKind.u64.wrap (wrap64 (64 - (wrap64 (8 * x7)))))), true))) else (none)) else (if x6 = 127 then (some ((x11) % 4294967296, true)) else (some (x11, true))))
end
def pack_Load.f (k : Nat) (a0 : Int) (l1 : List Int) : Option (Int × Bool) := (pack_access.f k a0).bind fun bt112 => (if bt112.2.2.2.2 = true then (if bt112.2.2.2.1 = true then (pack_Load.j0 k l1 bt112.1 bt112.2.1 bt112.2.2.1 true) else (pack_Load.j0 k l1 bt112.1 bt112.2.1 bt112.2.2.1 ((l1.length : Int) != bt112.2.1))) else (pack_Load.j0 k l1 bt112.1 bt112.2.1 bt112.2.2.1 true))
theorem pack_Load.mono_l : ∀ k, (∀ y0 y1 y2 y3 y4, LeO (pack_Load.j0 k y0 y1 y2 y3 y4) (pack_Load.j0 (k + 1) y0 y1 y2 y3 y4)) ∧ (∀ y0 y1 y2 y3 y4 y5 y6, LeO (pack_Load.l0 k y0 y1 y2 y3 y4 y5 y6) (pack_Load.l0 (k + 1) y0 y1 y2 y3 y4 y5 y6))
  | 0 => ⟨fun _ _ _ _ _ r h => by simp [pack_Load.j0] at h, fun _ _ _ _ _ _ _ r h => by simp [pack_Load.l0] at h⟩
  | k + 1 => by
    obtain ⟨ih0, ih1⟩ := pack_Load.mono_l k
    refine ⟨?_, ?_⟩
    · intro y0 y1 y2 y3 y4
      unfold pack_Load.j0
      repeat' first
      | (with_reducible exact ih0 _ _ _ _ _)
      | (with_reducible exact ih1 _ _ _ _ _ _ _)
      | (with_reducible exact pack_access.mono _ _)
      | (with_reducible exact LeO.refl _)
      | (with_reducible exact LeO.none _)
      | (with_reducible refine LeO.ite ?_ ?_)
      | (with_reducible refine LeO.bind ?_ (fun _ => ?_))
      | exact ih0 _ _ _ _ _
      | exact ih1 _ _ _ _ _ _ _
      | exact pack_access.mono _ _
      | exact LeO.none _
      | refine LeO.ite ?_ ?_
      | refine LeO.bind ?_ (fun _ => ?_)
    · intro y0 y1 y2 y3 y4 y5 y6
      unfold pack_Load.l0
      repeat' first
      | (with_reducible exact ih0 _ _ _ _ _)
      | (with_reducible exact ih1 _ _ _ _ _ _ _)
      | (with_reducible exact pack_access.mono _ _)
      | (with_reducible exact LeO.refl _)
      | (with_reducible exact LeO.none _)
      | (with_reducible refine LeO.ite ?_ ?_)
      | (with_reducible refine LeO.bind ?_ (fun _ => ?_))
      | exact ih0 _ _ _ _ _
      | exact ih1 _ _ _ _ _ _ _
      | exact pack_access.mono _ _
      | exact LeO.none _
      | refine LeO.ite ?_ ?_
      | refine LeO.bind ?_ (fun _ => ?_)
theorem pack_Load.mono : ∀ a0 a1 k, LeO (pack_Load.f k a0 a1) (pack_Load.f (k + 1) a0 a1) := by
  intro a0 a1 k
  obtain ⟨ih0, ih1⟩ := pack_Load.mono_l k
  unfold pack_Load.f
  repeat' first
      | (with_reducible exact ih0 _ _ _ _ _)
      | (with_reducible exact ih1 _ _ _ _ _ _ _)
      | (with_reducible exact pack_access.mono _ _)
      | (with_reducible exact LeO.refl _)
      | (with_reducible exact LeO.none _)
      | (with_reducible refine LeO.ite ?_ ?_)
      | (with_reducible refine LeO.bind ?_ (fun _ => ?_))
      | exact ih0 _ _ _ _ _
      | exact ih1 _ _ _ _ _ _ _
      | exact pack_access.mono _ _
      | exact LeO.none _
      | refine LeO.ite ?_ ?_
      | refine LeO.bind ?_ (fun _ => ?_)
set_option maxHeartbeats 8000000 in
set_option maxRecDepth 100000 in
theorem pack_Load.calls (k : Nat) (a0 : Int) (A1 : Option Addr) (c1 : Nat) (l1 : List Int) (r1 : Int) (r2 : Bool) (w : World) (hr1 : Kd.C (Kd.int .u8) w A1 l1.length l1) (hc1 : l1.length ≤ c1) (h : pack_Load.f k a0 l1 = some (r1, r2)) :
    Calls Try.prog 10 #[.int .i64 a0, .slice A1 l1.length c1] w fun e w' => e = .returned (.tuple #[.int .u64 r1, .bool r2]) ∧ Drawn0 w w' := by
  have HR1 := Aside0.mk hr1
  have HC1 := Aside0.mk hc1
  clear hr1 hc1
  have H : ((pack_access.f k a0).bind fun bt112 => (if bt112.2.2.2.2 = true then (if bt112.2.2.2.1 = true then (pack_Load.j0 k l1 bt112.1 bt112.2.1 bt112.2.2.1 true) else (pack_Load.j0 k l1 bt112.1 bt112.2.1 bt112.2.2.1 ((l1.length : Int) != bt112.2.1))) else (pack_Load.j0 k l1 bt112.1 bt112.2.1 bt112.2.2.1 true))) = some (r1, r2) := h
  clear h
  replace H := Option.bind_eq_some_iff.mp H
  obtain ⟨⟨t112, t113, t114, t115, t116⟩, A30, H⟩ := H
  replace H : (if t116 = true then (if t115 = true then (pack_Load.j0 k l1 t112 t113 t114 true) else (pack_Load.j0 k l1 t112 t113 t114 ((l1.length : Int) != t113))) else (pack_Load.j0 k l1 t112 t113 t114 true)) = some (r1, r2) := H
  have A3 := Aside0.mk A30
  clear A30
  have HC4 := Aside0.mk H
  clear H
  go_enter Try.func10, Try.ntmps10
  go_upto_region 2 with (first | ((with_reducible refine gate_callee (f := 15) rfl ?_); refine goesL_ (some 17) rfl rfl Try.func15 (by kernel_rfl) rfl #[.int .i64 a0] rfl (by (try simp only [List.map_toArray, List.map_cons, List.map_nil]); first | done | rfl | (simp only [List.length_drop, List.length_take]; rfl)) ?_; (with_reducible refine (pack_access.calls k a0 t112 t113 t114 t115 t116 _ A3.out).mono ?_); rintro e w' ⟨rfl, ⟨nd, rfl⟩⟩; refine ⟨_, rfl, ?_⟩))
  (try simp only [Act.put, List.setIfInBounds_toArray, List.set_cons_zero, List.set_cons_succ])
  go_cut [33] (fun v33 wc => ∃ (kq : Nat) (x33_3 : Bool), v33 = .bool x33_3 ∧ Aside0 (pack_Load.j0 kq l1 t112 t113 t114 x33_3 = some (r1, r2)) ∧ Aside0 (kq ≤ k) ∧ Drawn0 w wc)
  case first =>
    have H := HC4.out
    clear HC4
    by_cases c5 : t116 = true
    · subst c5
      have H1 : (if t115 = true then (pack_Load.j0 k l1 t112 t113 t114 true) else (pack_Load.j0 k l1 t112 t113 t114 ((l1.length : Int) != t113))) = some (r1, r2) := by rw [if_pos rfl] at H; exact H
      clear H
      have H := H1
      clear H1
      by_cases c6 : t115 = true
      · subst c6
        have H1 : (pack_Load.j0 k l1 t112 t113 t114 true) = some (r1, r2) := by rw [if_pos rfl] at H; exact H
        clear H
        have H := H1
        clear H1
        have H' := Aside0.mk H
        clear H
        go_wp2
        go_meet
        case rel => exact ⟨_, (true), (by first | rfl | (simp; done) | (simp [*]; done)), H', ⟨by first | omega | exact Nat.le_refl _⟩, by repeat (first | exact Drawn0.refl _ | apply Drawn0.step)⟩
      · replace c6 := Bool.eq_false_iff.mpr c6
        subst c6
        have H1 : (pack_Load.j0 k l1 t112 t113 t114 ((l1.length : Int) != t113)) = some (r1, r2) := by rw [if_neg (show ¬ (false = true) by decide)] at H; exact H
        clear H
        have H := H1
        clear H1
        have H' := Aside0.mk H
        clear H
        go_wp2
        go_meet
        case rel => exact ⟨_, (((l1.length : Int) != t113)), (by first | rfl | (simp; done) | (simp [*]; done)), H', ⟨by first | omega | exact Nat.le_refl _⟩, by repeat (first | exact Drawn0.refl _ | apply Drawn0.step)⟩
    · replace c5 := Bool.eq_false_iff.mpr c5
      subst c5
      have H1 : (pack_Load.j0 k l1 t112 t113 t114 true) = some (r1, r2) := by rw [if_neg (show ¬ (false = true) by decide)] at H; exact H
      clear H
      have H := H1
      clear H1
      have H' := Aside0.mk H
      clear H
      go_wp2
      go_meet
      case rel => exact ⟨_, (true), (by first | rfl | (simp; done) | (simp [*]; done)), H', ⟨by first | omega | exact Nat.le_refl _⟩, by repeat (first | exact Drawn0.refl _ | apply Drawn0.step)⟩
  case rest =>
    clear HC4
    try clear c1
    try clear p2
    try clear c5
    try clear c6
    obtain ⟨kq, x33_3, rfl, HA, HJ3, ⟨mc3, rfl⟩⟩ := hcut
    cases kq with
    | zero => exact absurd HA.out (by simp [pack_Load.j0])
    | succ kj3 =>
      have H := HA.out
      clear HA
      simp only [pack_Load.j0] at H
      by_cases c7 : x33_3 = true
      · subst c7
        have H1 : (some (0, false)) = some (r1, r2) := by rw [if_pos rfl] at H; exact H
        clear H
        have H := H1
        clear H1
        simp only [Option.some.injEq, Prod.mk.injEq] at H
        obtain ⟨rfl, rfl⟩ := H
        go_wp2
        go_ret2
        exact ⟨by first | rfl | (simp; done) | (simp [*]; done), by repeat (first | exact Drawn0.refl _ | apply Drawn0.step)⟩
      · replace c7 := Bool.eq_false_iff.mpr c7
        subst c7
        have H1 : (pack_Load.l0 kj3 t112 t113 t114 0 l1 (l1.length : Int) 0) = some (r1, r2) := by rw [if_neg (show ¬ (false = true) by decide)] at H; exact H
        clear H
        have H := H1
        clear H1
        have H' := Aside0.mk H
        clear H
        go_wp2
        go_loopg [11, 36] kj3 (fun kq v11 v36 w' => ∃ (x11_2 : Int) (x36_2 : Int), v11 = .int .u64 x11_2 ∧ v36 = .int .i64 x36_2 ∧ Aside0 (pack_Load.l0 kq t112 t113 t114 x11_2 l1 (l1.length : Int) x36_2 = some (r1, r2)) ∧ Aside0 (kq ≤ kj3) ∧ Drawn0 w w')
        case atStart => exact ⟨(0), (0), (by first | rfl | (simp; done) | (simp [*]; done)), (by first | rfl | (simp; done) | (simp [*]; done)), H', ⟨Nat.le_refl _⟩, by repeat (first | exact Drawn0.refl _ | apply Drawn0.step)⟩
        case round =>
          clear H'
          try clear c1
          try clear p2
          try clear c3
          try clear c5
          try clear c6
          try clear c7
          try clear p2
          obtain ⟨x11_2, x36_2, rfl, rfl, HA, HK2, ⟨m2, rfl⟩⟩ := hrel
          cases gk with
          | zero => exact absurd HA.out (by simp [pack_Load.l0])
          | succ k2 =>
            have H := HA.out
            clear HA
            simp only [pack_Load.l0] at H
            by_cases c8 : x36_2 < (l1.length : Int)
            · rw [if_pos c8] at H
              have c8b0 : decide (x36_2 < (l1.length : Int)) = true := decide_eq_true c8
              clear c8
              by_cases c9 : 0 ≤ x36_2
              · rw [if_pos c9] at H
                have c9b0 : decide (0 ≤ x36_2) = true := decide_eq_true c9
                clear c9
                by_cases c10 : x36_2 < (l1.length : Int)
                · rw [if_pos c10] at H
                  have c10b0 : decide (x36_2 < (l1.length : Int)) = true := decide_eq_true c10
                  clear c10
                  obtain ⟨ji11, hji11⟩ : ∃ j_ : Int, (IntKind.u64.wrap (wrap64 (8 * x36_2))) = j_ := ⟨_, rfl⟩
                  replace H : (if 0 ≤ (ji11) then (pack_Load.l0 k2 t112 t113 t114 (Go.bits .or .u64 x11_2 (shl .u64 (IntKind.u64.wrap (rd l1 x36_2)) (ji11))) l1 (l1.length : Int) (wrap64 (x36_2 + 1))) else (none)) = some (r1, r2) := by first | (rw [hji11] at H; exact H) | (simp only [hji11] at H ⊢; exact H)
                  by_cases c12 : 0 ≤ (ji11)
                  · rw [if_pos c12] at H
                    have c12b0 := eq_true c12
                    have c12b1 : decide (0 ≤ (ji11)) = true := decide_eq_true c12
                    clear c12
                    obtain ⟨ji13, hji13⟩ : ∃ j_ : Int, (shl .u64 (IntKind.u64.wrap (rd l1 x36_2)) (ji11)) = j_ := ⟨_, rfl⟩
                    replace H : (pack_Load.l0 k2 t112 t113 t114 (Go.bits .or .u64 x11_2 (ji13)) l1 (l1.length : Int) (wrap64 (x36_2 + 1))) = some (r1, r2) := by first | (rw [hji13] at H; exact H) | (simp only [hji13] at H ⊢; exact H)
                    have hji13_ : (IntKind.u64.wrap ((IntKind.u64.wrap (rd l1 x36_2)) * 2 ^ min (ji11).toNat 64)) = ji13 := hji13
                    have hji13z : (ji11) ≤ 64 → (IntKind.u64.wrap ((IntKind.u64.wrap (rd l1 x36_2)) * 2 ^ (ji11).toNat)) = ji13 := shl_small hji13
                    have H' := Aside0.mk H
                    clear H
                    have p117 : 0 ≤ (x36_2 : Int) := of_decide_eq_true (by first | (with_reducible assumption) | assumption)
                    have q117 : x36_2 < (l1.length : Int) := of_decide_eq_true (by first | (with_reducible assumption) | assumption)
                    obtain ⟨ad117, e117, hx117_0⟩ := Kd.at_int HR1.out x36_2 p117 q117
                    cases e117
                    replace p117 := eq_true p117
                    replace q117 := eq_true q117
                    go_wp2
                    go_roundg k2
                    case measure => have := HJ3.out; have := HK2.out; omega
                    case rel => exact ⟨(Go.bits .or .u64 x11_2 (ji13)), (wrap64 (x36_2 + 1)), (by first | rfl | (simp; done) | (simp only [← hji13] <;> (first | rfl | simp)) | (simp [*]; done)), (by first | rfl | (simp; done) | (simp [*]; done)), H', ⟨by have := HJ3.out; have := HK2.out; omega⟩, by repeat (first | exact Drawn0.refl _ | apply Drawn0.step)⟩
                  · rw [if_neg c12] at H
                    exact absurd H (by simp)
                · rw [if_neg c10] at H
                  exact absurd H (by simp)
              · rw [if_neg c9] at H
                exact absurd H (by simp)
            · rw [if_neg c8] at H
              have c8b0 : decide (x36_2 < (l1.length : Int)) = false := decide_eq_false c8
              clear c8
              by_cases c14 : t114 = true
              · subst c14
                have H1 : (if 0 ≤ (IntKind.u64.wrap (wrap64 (64 - (wrap64 (8 * t113))))) then (if t112 = 127 then (some ((IntKind.u64.wrap (shr .i64 (wrap64 (shl .u64 x11_2 (IntKind.u64.wrap (wrap64 (64 - (wrap64 (8 * t113))))))) (IntKind.u64.wrap (wrap64 (64 - (wrap64 (8 * t113))))))) % 4294967296, true)) else (some (IntKind.u64.wrap (shr .i64 (wrap64 (shl .u64 x11_2 (IntKind.u64.wrap (wrap64 (64 - (wrap64 (8 * t113))))))) (IntKind.u64.wrap (wrap64 (64 - (wrap64 (8 * t113)))))), true))) else (none)) = some (r1, r2) := by rw [if_pos rfl] at H; exact H
                clear H
                have H := H1
                clear H1
                obtain ⟨ji15, hji15⟩ : ∃ j_ : Int, (IntKind.u64.wrap (wrap64 (64 - (wrap64 (8 * t113))))) = j_ := ⟨_, rfl⟩
                replace H : (if 0 ≤ (ji15) then (if t112 = 127 then (some ((IntKind.u64.wrap (shr .i64 (wrap64 (shl .u64 x11_2 (ji15))) (ji15))) % 4294967296, true)) else (some (IntKind.u64.wrap (shr .i64 (wrap64 (shl .u64 x11_2 (ji15))) (ji15)), true))) else (none)) = some (r1, r2) := by first | (rw [hji15] at H; exact H) | (simp only [hji15] at H ⊢; exact H)
                by_cases c16 : 0 ≤ (ji15)
                · rw [if_pos c16] at H
                  have c16b0 := eq_true c16
                  have c16b1 : decide (0 ≤ (ji15)) = true := decide_eq_true c16
                  clear c16
                  obtain ⟨ji17, hji17⟩ : ∃ j_ : Int, (shl .u64 x11_2 (ji15)) = j_ := ⟨_, rfl⟩
                  replace H : (if t112 = 127 then (some ((IntKind.u64.wrap (shr .i64 (wrap64 (ji17)) (ji15))) % 4294967296, true)) else (some (IntKind.u64.wrap (shr .i64 (wrap64 (ji17)) (ji15)), true))) = some (r1, r2) := by first | (rw [hji17] at H; exact H) | (simp only [hji17] at H ⊢; exact H)
                  have hji17_ : (IntKind.u64.wrap (x11_2 * 2 ^ min (ji15).toNat 64)) = ji17 := hji17
                  have hji17z : (ji15) ≤ 64 → (IntKind.u64.wrap (x11_2 * 2 ^ (ji15).toNat)) = ji17 := shl_small hji17
                  have c18b0 := eq_true (of_decide_eq_true (by first | (with_reducible assumption) | assumption) : 0 ≤ (ji15))
                  obtain ⟨ji19, hji19⟩ : ∃ j_ : Int, (shr .i64 (wrap64 (ji17)) (ji15)) = j_ := ⟨_, rfl⟩
                  replace H : (if t112 = 127 then (some ((IntKind.u64.wrap (ji19)) % 4294967296, true)) else (some (IntKind.u64.wrap (ji19), true))) = some (r1, r2) := by first | (rw [hji19] at H; exact H) | (simp only [hji19] at H ⊢; exact H)
                  have hji19_ : ((wrap64 (ji17)) / 2 ^ min (ji15).toNat 64) = ji19 := hji19
                  have hji19z : (ji15) ≤ 64 → ((wrap64 (ji17)) / 2 ^ (ji15).toNat) = ji19 := shr_small hji19
                  by_cases c20 : t112 = 127
                  · rw [if_pos c20] at H
                    have c20b0 : (t112 == 127) = true := beq_iff_eq.mpr c20
                    have c20b1 : (t112 != 127) = false := bne_eq_false_iff_eq.mpr c20
                    clear c20
                    simp only [Option.some.injEq, Prod.mk.injEq] at H
                    obtain ⟨rfl, rfl⟩ := H
                    go_wp2
                    go_ret2
                    exact ⟨by first | rfl | (simp; done) | (simp only [← hji15, ← hji17, ← hji19] <;> (first | rfl | simp)) | (simp [*]; done), by repeat (first | exact Drawn0.refl _ | apply Drawn0.step)⟩
                  · rw [if_neg c20] at H
                    have c20b0 : (t112 == 127) = false := beq_eq_false_iff_ne.mpr c20
                    have c20b1 : (t112 != 127) = true := bne_iff_ne.mpr c20
                    simp only [Option.some.injEq, Prod.mk.injEq] at H
                    obtain ⟨rfl, rfl⟩ := H
                    go_wp2
                    go_ret2
                    exact ⟨by first | rfl | (simp; done) | (simp only [← hji15, ← hji17, ← hji19] <;> (first | rfl | simp)) | (simp [*]; done), by repeat (first | exact Drawn0.refl _ | apply Drawn0.step)⟩
                · rw [if_neg c16] at H
                  exact absurd H (by simp)
              · replace c14 := Bool.eq_false_iff.mpr c14
                subst c14
                have H1 : (if t112 = 127 then (some ((x11_2) % 4294967296, true)) else (some (x11_2, true))) = some (r1, r2) := by rw [if_neg (show ¬ (false = true) by decide)] at H; exact H
                clear H
                have H := H1
                clear H1
                by_cases c21 : t112 = 127
                · rw [if_pos c21] at H
                  have c21b0 : (t112 == 127) = true := beq_iff_eq.mpr c21
                  have c21b1 : (t112 != 127) = false := bne_eq_false_iff_eq.mpr c21
                  clear c21
                  simp only [Option.some.injEq, Prod.mk.injEq] at H
                  obtain ⟨rfl, rfl⟩ := H
                  go_wp2
                  go_ret2
                  exact ⟨by first | rfl | (simp; done) | (simp [*]; done), by repeat (first | exact Drawn0.refl _ | apply Drawn0.step)⟩
                · rw [if_neg c21] at H
                  have c21b0 : (t112 == 127) = false := beq_eq_false_iff_ne.mpr c21
                  have c21b1 : (t112 != 127) = true := bne_iff_ne.mpr c21
                  simp only [Option.some.injEq, Prod.mk.injEq] at H
                  obtain ⟨rfl, rfl⟩ := H
                  go_wp2
                  go_ret2
                  exact ⟨by first | rfl | (simp; done) | (simp [*]; done), by repeat (first | exact Drawn0.refl _ | apply Drawn0.step)⟩

/-! ### trammellaw04_awake: function 7 -/
def trammellaw04_awake.f (k : Nat)  : Option (Bool) := (pack_Load.f k 44 (([128] : List Int))).bind fun bt121 => ((pack_Store.f k 59 74565).bind fun bt123 => (if bt121.2 = true then (if bt121.1 = 4294967168 then (if bt123.2 = true then ((trammelref01_Same.f k bt123.1 (([69, 35] : List Int))).bind fun t130 => (some t130)) else (some false)) else (some false)) else (some false)))
theorem trammellaw04_awake.mono : ∀ k, LeO (trammellaw04_awake.f k ) (trammellaw04_awake.f (k + 1) ) := by
  intro  k
  unfold trammellaw04_awake.f
  repeat' first
      | (with_reducible exact pack_Load.mono _ _ _)
      | (with_reducible exact pack_Store.mono _ _ _)
      | (with_reducible exact trammelref01_Same.mono _ _ _)
      | (with_reducible exact LeO.refl _)
      | (with_reducible exact LeO.none _)
      | (with_reducible refine LeO.ite ?_ ?_)
      | (with_reducible refine LeO.bind ?_ (fun _ => ?_))
      | exact pack_Load.mono _ _ _
      | exact pack_Store.mono _ _ _
      | exact trammelref01_Same.mono _ _ _
      | exact LeO.none _
      | refine LeO.ite ?_ ?_
      | refine LeO.bind ?_ (fun _ => ?_)
set_option maxHeartbeats 8000000 in
set_option maxRecDepth 100000 in
theorem trammellaw04_awake.calls (k : Nat)  (r : Bool) (w : World) (h : trammellaw04_awake.f k  = some r) :
    Calls Try.prog 7 #[] w fun e w' => e = .returned (.bool r) ∧ Below w.heap.size w w' := by
  have HB := Aside0.mk (Below.refl w.heap.size w)
  have H : ((pack_Load.f k 44 (([128] : List Int))).bind fun bt121 => ((pack_Store.f k 59 74565).bind fun bt123 => (if bt121.2 = true then (if bt121.1 = 4294967168 then (if bt123.2 = true then ((trammelref01_Same.f k bt123.1 (([69, 35] : List Int))).bind fun t130 => (some t130)) else (some false)) else (some false)) else (some false)))) = some r := h
  clear h
  obtain ⟨y118, hy118⟩ : ∃ y_ : List Int, y_ = (([128] : List Int)) := ⟨_, rfl⟩
  replace H : ((pack_Load.f k 44 y118).bind fun bt121 => ((pack_Store.f k 59 74565).bind fun bt123 => (if bt121.2 = true then (if bt121.1 = 4294967168 then (if bt123.2 = true then ((trammelref01_Same.f k bt123.1 (([69, 35] : List Int))).bind fun t130 => (some t130)) else (some false)) else (some false)) else (some false)))) = some r := by first | (rw [hy118]; with_reducible exact H) | (have H2_ := (Option.bind_some _ _).symm.trans H; rw [hy118]; with_reducible exact H2_) | (have H2_ := (Option.bind_some _ _).symm.trans H; with_reducible exact H2_) | with_reducible exact H | (rw [hy118]; exact H) | exact H
  have Ny118 := Aside0.mk hy118
  clear hy118
  replace H := Option.bind_eq_some_iff.mp H
  obtain ⟨⟨t121, t122⟩, A10, H⟩ := H
  replace H : ((pack_Store.f k 59 74565).bind fun bt123 => (if t122 = true then (if t121 = 4294967168 then (if bt123.2 = true then ((trammelref01_Same.f k bt123.1 (([69, 35] : List Int))).bind fun t130 => (some t130)) else (some false)) else (some false)) else (some false))) = some r := H
  have A1 := Aside0.mk A10
  clear A10
  replace H := Option.bind_eq_some_iff.mp H
  obtain ⟨⟨t123, t124⟩, A20, H⟩ := H
  replace H : (if t122 = true then (if t121 = 4294967168 then (if t124 = true then ((trammelref01_Same.f k t123 (([69, 35] : List Int))).bind fun t130 => (some t130)) else (some false)) else (some false)) else (some false)) = some r := H
  have A2 := Aside0.mk A20
  clear A20
  by_cases c3 : t122 = true
  · subst c3
    have H1 : (if t121 = 4294967168 then (if t124 = true then ((trammelref01_Same.f k t123 (([69, 35] : List Int))).bind fun t130 => (some t130)) else (some false)) else (some false)) = some r := by rw [if_pos rfl] at H; exact H
    clear H
    have H := H1
    clear H1
    by_cases c4 : t121 = 4294967168
    · rw [if_pos c4] at H
      have c4b0 : (t121 == 4294967168) = true := beq_iff_eq.mpr c4
      have c4b1 : (t121 != 4294967168) = false := bne_eq_false_iff_eq.mpr c4
      clear c4
      by_cases c5 : t124 = true
      · subst c5
        have H1 : ((trammelref01_Same.f k t123 (([69, 35] : List Int))).bind fun t130 => (some t130)) = some r := by rw [if_pos rfl] at H; exact H
        clear H
        have H := H1
        clear H1
        obtain ⟨y127, hy127⟩ : ∃ y_ : List Int, y_ = (([69, 35] : List Int)) := ⟨_, rfl⟩
        replace H : ((trammelref01_Same.f k t123 y127).bind fun t130 => (some t130)) = some r := by first | (rw [hy127]; with_reducible exact H) | (have H2_ := (Option.bind_some _ _).symm.trans H; rw [hy127]; with_reducible exact H2_) | (have H2_ := (Option.bind_some _ _).symm.trans H; with_reducible exact H2_) | with_reducible exact H | (rw [hy127]; exact H) | exact H
        have Ny127 := Aside0.mk hy127
        clear hy127
        replace H := Option.bind_eq_some_iff.mp H
        obtain ⟨t130, A60, H⟩ := H
        replace H : (some t130) = some r := H
        have A6 := Aside0.mk A60
        clear A60
        obtain rfl := Option.some.inj H
        go_enter Try.func7, Try.ntmps7
        go_wp2_with (first | ((with_reducible refine gate_dst (N := 6) rfl ?_); (try (refine gate_guard (by rfl) ?_; dsimp only)); refine Kd.R_lit (Kd.int .u8) _ 5 ?hg (N := 6) ?hd (xs := ([128] : List Int)) (inner := [.int .u8 128]) (ok := fun _ => True) (okp := fun _ => True) ?hr ?hp (fun _ hk => hk) trivial (Below.refl _ _) (Nat.le_refl _) (by simp) ?_; (case hd => rfl); (case hg => rfl); (case hr => first | (go_simp; done) | (go_simp; rfl)); (case hp => exact (Reps.one (show Kd.M (Kd.int .u8) _ _ _ 128 [.int .u8 128] from rfl) (Reps.none _ _))); intro v119 w7 ho8 hb hg_ hnew_; clear hg_ hnew_; (first | rw [← Ny118.out] at ho8 | (simp only [Int.reduceToNat] at ho8; rw [← Ny118.out] at ho8)); have n0_ := Aside0.mk (Kd.R_lower ho8 (below_size (by repeat (first | (with_reducible first | exact HB.out | apply below_alloc | apply pw_below_drewN | apply below_drew1) | exact HB.out)))); have n1_ := Aside0.mk (below_step (by repeat (first | (with_reducible first | exact HB.out | apply below_alloc | apply pw_below_drewN | apply below_drew1) | exact HB.out)) hb); clear HB; have HO120 := n0_; have HB := n1_; clear n0_ n1_; clear hb ho8; obtain ⟨Ao9, co9, eo9⟩ := Kd.R_slice HO120.out; subst eo9) | ((with_reducible refine gate_callee (f := 10) rfl ?_); refine goesL_ (some 7) rfl rfl Try.func10 (by kernel_rfl) rfl #[.int .i64 44, .slice Ao9 y118.length co9] rfl (by (try simp only [List.map_toArray, List.map_cons, List.map_nil]); first | done | rfl | (simp only [List.length_drop, List.length_take]; rfl)) ?_; (with_reducible refine (pack_Load.calls k 44 _ _ y118 t121 true _ ?side1 ?side2 A1.out).mono ?_); (case side1 => repeat (first | exact (Kd.R_reads' HO120.out).2.2 | (with_reducible refine Kd.C_alloc ?_ _) | (with_reducible refine Kd.C_drewN ?_ _) | (with_reducible refine Kd.C_drew ?_))); (case side2 => exact (Kd.R_reads' HO120.out).2.1); rintro e w' ⟨rfl, ⟨nd, rfl⟩⟩; refine ⟨_, rfl, ?_⟩) | ((with_reducible refine gate_callee (f := 8) rfl ?_); refine goesL_ (some 11) rfl rfl Try.func8 (by kernel_rfl) rfl #[.int .i64 59, .int .u64 74565] rfl (by (try simp only [List.map_toArray, List.map_cons, List.map_nil]); first | done | rfl | (simp only [List.length_drop, List.length_take]; rfl)) ?_; (with_reducible refine (pack_Store.calls k 59 74565 t123 true _ A2.out).mono ?_); rintro e w10 ⟨v125, rfl, ho0, hb⟩; refine ⟨_, rfl, ?_⟩; have n0_ := Aside0.mk (Kd.R_elder' (by (with_reducible repeat (first | apply Kd.R_alloc | apply Kd.R_drewN | apply Kd.R_drew)); exact HO120.out) (Kd.R_base ho0) hb); have n1_ := Aside0.mk (Kd.R_lower (Kd.R_new' ho0 (Kd.R_lt (by (with_reducible repeat (first | apply Kd.R_alloc | apply Kd.R_drewN | apply Kd.R_drew)); exact HO120.out))) (below_size (by repeat (first | (with_reducible first | exact HB.out | apply below_alloc | apply pw_below_drewN | apply below_drew1) | exact HB.out)))); have n2_ := Aside0.mk (below_step (by repeat (first | (with_reducible first | exact HB.out | apply below_alloc | apply pw_below_drewN | apply below_drew1) | exact HB.out)) hb); clear HO120; clear HB; have HO120 := n0_; have HO126 := n1_; have HB := n2_; clear n0_ n1_ n2_; (try clear hb); (try clear hb2); (try clear hk); (try clear hi); (try clear ho0)) | ((with_reducible refine gate_dst (N := 24) rfl ?_); (try (refine gate_guard (by rfl) ?_; dsimp only)); refine Kd.R_lit (Kd.int .u8) _ 5 ?hg (N := 24) ?hd (xs := ([69, 35] : List Int)) (inner := [.int .u8 69, .int .u8 35]) (ok := fun _ => True) (okp := fun _ => True) ?hr ?hp (fun _ hk => hk) trivial (Below.refl _ _) (Nat.le_refl _) (by simp) ?_; (case hd => rfl); (case hg => rfl); (case hr => first | (go_simp; done) | (go_simp; rfl)); (case hp => exact (Reps.one (show Kd.M (Kd.int .u8) _ _ _ 69 [.int .u8 69] from rfl) (Reps.one (show Kd.M (Kd.int .u8) _ _ _ 35 [.int .u8 35] from rfl) (Reps.none _ _)))); intro v128 w11 ho12 hb hg_ hnew_; clear hg_ hnew_; (first | rw [← Ny127.out] at ho12 | (simp only [Int.reduceToNat] at ho12; rw [← Ny127.out] at ho12)); have n0_ := Aside0.mk (Kd.R_elder' (by (with_reducible repeat (first | apply Kd.R_alloc | apply Kd.R_drewN | apply Kd.R_drew)); exact HO120.out) (Kd.R_base ho12) hb); have n1_ := Aside0.mk (Kd.R_elder' (by (with_reducible repeat (first | apply Kd.R_alloc | apply Kd.R_drewN | apply Kd.R_drew)); exact HO126.out) (Kd.R_base ho12) hb); have n2_ := Aside0.mk (Kd.R_lower (Kd.R_new' (Kd.R_new' ho12 (Kd.R_lt (by (with_reducible repeat (first | apply Kd.R_alloc | apply Kd.R_drewN | apply Kd.R_drew)); exact HO120.out))) (Kd.R_lt (by (with_reducible repeat (first | apply Kd.R_alloc | apply Kd.R_drewN | apply Kd.R_drew)); exact HO126.out))) (below_size (by repeat (first | (with_reducible first | exact HB.out | apply below_alloc | apply pw_below_drewN | apply below_drew1) | exact HB.out)))); have n3_ := Aside0.mk (below_step (by repeat (first | (with_reducible first | exact HB.out | apply below_alloc | apply pw_below_drewN | apply below_drew1) | exact HB.out)) hb); clear HO120; clear HO126; clear HB; have HO120 := n0_; have HO126 := n1_; have HO129 := n2_; have HB := n3_; clear n0_ n1_ n2_ n3_; clear hb ho12; obtain ⟨Ao13, co13, eo13⟩ := Kd.R_slice HO126.out; subst eo13; obtain ⟨Ao14, co14, eo14⟩ := Kd.R_slice HO129.out; subst eo14) | (go_at_call 9; (with_reducible refine (trammelref01_Same.calls k _ _ t123 _ _ y127 t130 _ ?side1 ?side2 ?side3 ?side4 A6.out).mono ?_); (case side1 => repeat (first | exact (Kd.R_reads' HO126.out).2.2 | (with_reducible refine Kd.C_alloc ?_ _) | (with_reducible refine Kd.C_drewN ?_ _) | (with_reducible refine Kd.C_drew ?_))); (case side2 => exact (Kd.R_reads' HO126.out).2.1); (case side3 => repeat (first | exact (Kd.R_reads' HO129.out).2.2 | (with_reducible refine Kd.C_alloc ?_ _) | (with_reducible refine Kd.C_drewN ?_ _) | (with_reducible refine Kd.C_drew ?_))); (case side4 => exact (Kd.R_reads' HO129.out).2.1); rintro e w' ⟨rfl, ⟨nd, rfl⟩⟩))
        go_ret
        exact ⟨by first | rfl | (simp [errW_none, errW_some] <;> rfl) | (simp [*, errW_none, errW_some] <;> rfl), by repeat (first | (with_reducible first | exact HB.out | apply below_alloc | apply pw_below_drewN | apply below_drew1) | exact HB.out)⟩
      · replace c5 := Bool.eq_false_iff.mpr c5
        subst c5
        have H1 : (some false) = some r := by rw [if_neg (show ¬ (false = true) by decide)] at H; exact H
        clear H
        have H := H1
        clear H1
        obtain rfl := Option.some.inj H
        go_enter Try.func7, Try.ntmps7
        go_wp2_with (first | ((with_reducible refine gate_dst (N := 6) rfl ?_); (try (refine gate_guard (by rfl) ?_; dsimp only)); refine Kd.R_lit (Kd.int .u8) _ 5 ?hg (N := 6) ?hd (xs := ([128] : List Int)) (inner := [.int .u8 128]) (ok := fun _ => True) (okp := fun _ => True) ?hr ?hp (fun _ hk => hk) trivial (Below.refl _ _) (Nat.le_refl _) (by simp) ?_; (case hd => rfl); (case hg => rfl); (case hr => first | (go_simp; done) | (go_simp; rfl)); (case hp => exact (Reps.one (show Kd.M (Kd.int .u8) _ _ _ 128 [.int .u8 128] from rfl) (Reps.none _ _))); intro v119 w15 ho16 hb hg_ hnew_; clear hg_ hnew_; (first | rw [← Ny118.out] at ho16 | (simp only [Int.reduceToNat] at ho16; rw [← Ny118.out] at ho16)); have n0_ := Aside0.mk (Kd.R_lower ho16 (below_size (by repeat (first | (with_reducible first | exact HB.out | apply below_alloc | apply pw_below_drewN | apply below_drew1) | exact HB.out)))); have n1_ := Aside0.mk (below_step (by repeat (first | (with_reducible first | exact HB.out | apply below_alloc | apply pw_below_drewN | apply below_drew1) | exact HB.out)) hb); clear HB; have HO120 := n0_; have HB := n1_; clear n0_ n1_; clear hb ho16; obtain ⟨Ao17, co17, eo17⟩ := Kd.R_slice HO120.out; subst eo17) | ((with_reducible refine gate_callee (f := 10) rfl ?_); refine goesL_ (some 7) rfl rfl Try.func10 (by kernel_rfl) rfl #[.int .i64 44, .slice Ao17 y118.length co17] rfl (by (try simp only [List.map_toArray, List.map_cons, List.map_nil]); first | done | rfl | (simp only [List.length_drop, List.length_take]; rfl)) ?_; (with_reducible refine (pack_Load.calls k 44 _ _ y118 t121 true _ ?side1 ?side2 A1.out).mono ?_); (case side1 => repeat (first | exact (Kd.R_reads' HO120.out).2.2 | (with_reducible refine Kd.C_alloc ?_ _) | (with_reducible refine Kd.C_drewN ?_ _) | (with_reducible refine Kd.C_drew ?_))); (case side2 => exact (Kd.R_reads' HO120.out).2.1); rintro e w' ⟨rfl, ⟨nd, rfl⟩⟩; refine ⟨_, rfl, ?_⟩) | ((with_reducible refine gate_callee (f := 8) rfl ?_); refine goesL_ (some 11) rfl rfl Try.func8 (by kernel_rfl) rfl #[.int .i64 59, .int .u64 74565] rfl (by (try simp only [List.map_toArray, List.map_cons, List.map_nil]); first | done | rfl | (simp only [List.length_drop, List.length_take]; rfl)) ?_; (with_reducible refine (pack_Store.calls k 59 74565 t123 false _ A2.out).mono ?_); rintro e w18 ⟨v125, rfl, ho0, hb⟩; refine ⟨_, rfl, ?_⟩; have n0_ := Aside0.mk (Kd.R_elder' (by (with_reducible repeat (first | apply Kd.R_alloc | apply Kd.R_drewN | apply Kd.R_drew)); exact HO120.out) (Kd.R_base ho0) hb); have n1_ := Aside0.mk (Kd.R_lower (Kd.R_new' ho0 (Kd.R_lt (by (with_reducible repeat (first | apply Kd.R_alloc | apply Kd.R_drewN | apply Kd.R_drew)); exact HO120.out))) (below_size (by repeat (first | (with_reducible first | exact HB.out | apply below_alloc | apply pw_below_drewN | apply below_drew1) | exact HB.out)))); have n2_ := Aside0.mk (below_step (by repeat (first | (with_reducible first | exact HB.out | apply below_alloc | apply pw_below_drewN | apply below_drew1) | exact HB.out)) hb); clear HO120; clear HB; have HO120 := n0_; have HO126 := n1_; have HB := n2_; clear n0_ n1_ n2_; (try clear hb); (try clear hb2); (try clear hk); (try clear hi); (try clear ho0)))
        go_ret
        exact ⟨by first | rfl | (simp [errW_none, errW_some] <;> rfl) | (simp [*, errW_none, errW_some] <;> rfl), by repeat (first | (with_reducible first | exact HB.out | apply below_alloc | apply pw_below_drewN | apply below_drew1) | exact HB.out)⟩
    · rw [if_neg c4] at H
      have c4b0 : (t121 == 4294967168) = false := beq_eq_false_iff_ne.mpr c4
      have c4b1 : (t121 != 4294967168) = true := bne_iff_ne.mpr c4
      obtain rfl := Option.some.inj H
      go_enter Try.func7, Try.ntmps7
      go_wp2_with (first | ((with_reducible refine gate_dst (N := 6) rfl ?_); (try (refine gate_guard (by rfl) ?_; dsimp only)); refine Kd.R_lit (Kd.int .u8) _ 5 ?hg (N := 6) ?hd (xs := ([128] : List Int)) (inner := [.int .u8 128]) (ok := fun _ => True) (okp := fun _ => True) ?hr ?hp (fun _ hk => hk) trivial (Below.refl _ _) (Nat.le_refl _) (by simp) ?_; (case hd => rfl); (case hg => rfl); (case hr => first | (go_simp; done) | (go_simp; rfl)); (case hp => exact (Reps.one (show Kd.M (Kd.int .u8) _ _ _ 128 [.int .u8 128] from rfl) (Reps.none _ _))); intro v119 w19 ho20 hb hg_ hnew_; clear hg_ hnew_; (first | rw [← Ny118.out] at ho20 | (simp only [Int.reduceToNat] at ho20; rw [← Ny118.out] at ho20)); have n0_ := Aside0.mk (Kd.R_lower ho20 (below_size (by repeat (first | (with_reducible first | exact HB.out | apply below_alloc | apply pw_below_drewN | apply below_drew1) | exact HB.out)))); have n1_ := Aside0.mk (below_step (by repeat (first | (with_reducible first | exact HB.out | apply below_alloc | apply pw_below_drewN | apply below_drew1) | exact HB.out)) hb); clear HB; have HO120 := n0_; have HB := n1_; clear n0_ n1_; clear hb ho20; obtain ⟨Ao21, co21, eo21⟩ := Kd.R_slice HO120.out; subst eo21) | ((with_reducible refine gate_callee (f := 10) rfl ?_); refine goesL_ (some 7) rfl rfl Try.func10 (by kernel_rfl) rfl #[.int .i64 44, .slice Ao21 y118.length co21] rfl (by (try simp only [List.map_toArray, List.map_cons, List.map_nil]); first | done | rfl | (simp only [List.length_drop, List.length_take]; rfl)) ?_; (with_reducible refine (pack_Load.calls k 44 _ _ y118 t121 true _ ?side1 ?side2 A1.out).mono ?_); (case side1 => repeat (first | exact (Kd.R_reads' HO120.out).2.2 | (with_reducible refine Kd.C_alloc ?_ _) | (with_reducible refine Kd.C_drewN ?_ _) | (with_reducible refine Kd.C_drew ?_))); (case side2 => exact (Kd.R_reads' HO120.out).2.1); rintro e w' ⟨rfl, ⟨nd, rfl⟩⟩; refine ⟨_, rfl, ?_⟩) | ((with_reducible refine gate_callee (f := 8) rfl ?_); refine goesL_ (some 11) rfl rfl Try.func8 (by kernel_rfl) rfl #[.int .i64 59, .int .u64 74565] rfl (by (try simp only [List.map_toArray, List.map_cons, List.map_nil]); first | done | rfl | (simp only [List.length_drop, List.length_take]; rfl)) ?_; (with_reducible refine (pack_Store.calls k 59 74565 t123 t124 _ A2.out).mono ?_); rintro e w22 ⟨v125, rfl, ho0, hb⟩; refine ⟨_, rfl, ?_⟩; have n0_ := Aside0.mk (Kd.R_elder' (by (with_reducible repeat (first | apply Kd.R_alloc | apply Kd.R_drewN | apply Kd.R_drew)); exact HO120.out) (Kd.R_base ho0) hb); have n1_ := Aside0.mk (Kd.R_lower (Kd.R_new' ho0 (Kd.R_lt (by (with_reducible repeat (first | apply Kd.R_alloc | apply Kd.R_drewN | apply Kd.R_drew)); exact HO120.out))) (below_size (by repeat (first | (with_reducible first | exact HB.out | apply below_alloc | apply pw_below_drewN | apply below_drew1) | exact HB.out)))); have n2_ := Aside0.mk (below_step (by repeat (first | (with_reducible first | exact HB.out | apply below_alloc | apply pw_below_drewN | apply below_drew1) | exact HB.out)) hb); clear HO120; clear HB; have HO120 := n0_; have HO126 := n1_; have HB := n2_; clear n0_ n1_ n2_; (try clear hb); (try clear hb2); (try clear hk); (try clear hi); (try clear ho0)))
      go_ret
      exact ⟨by first | rfl | (simp [errW_none, errW_some] <;> rfl) | (simp [*, errW_none, errW_some] <;> rfl), by repeat (first | (with_reducible first | exact HB.out | apply below_alloc | apply pw_below_drewN | apply below_drew1) | exact HB.out)⟩
  · replace c3 := Bool.eq_false_iff.mpr c3
    subst c3
    have H1 : (some false) = some r := by rw [if_neg (show ¬ (false = true) by decide)] at H; exact H
    clear H
    have H := H1
    clear H1
    obtain rfl := Option.some.inj H
    go_enter Try.func7, Try.ntmps7
    go_wp2_with (first | ((with_reducible refine gate_dst (N := 6) rfl ?_); (try (refine gate_guard (by rfl) ?_; dsimp only)); refine Kd.R_lit (Kd.int .u8) _ 5 ?hg (N := 6) ?hd (xs := ([128] : List Int)) (inner := [.int .u8 128]) (ok := fun _ => True) (okp := fun _ => True) ?hr ?hp (fun _ hk => hk) trivial (Below.refl _ _) (Nat.le_refl _) (by simp) ?_; (case hd => rfl); (case hg => rfl); (case hr => first | (go_simp; done) | (go_simp; rfl)); (case hp => exact (Reps.one (show Kd.M (Kd.int .u8) _ _ _ 128 [.int .u8 128] from rfl) (Reps.none _ _))); intro v119 w23 ho24 hb hg_ hnew_; clear hg_ hnew_; (first | rw [← Ny118.out] at ho24 | (simp only [Int.reduceToNat] at ho24; rw [← Ny118.out] at ho24)); have n0_ := Aside0.mk (Kd.R_lower ho24 (below_size (by repeat (first | (with_reducible first | exact HB.out | apply below_alloc | apply pw_below_drewN | apply below_drew1) | exact HB.out)))); have n1_ := Aside0.mk (below_step (by repeat (first | (with_reducible first | exact HB.out | apply below_alloc | apply pw_below_drewN | apply below_drew1) | exact HB.out)) hb); clear HB; have HO120 := n0_; have HB := n1_; clear n0_ n1_; clear hb ho24; obtain ⟨Ao25, co25, eo25⟩ := Kd.R_slice HO120.out; subst eo25) | ((with_reducible refine gate_callee (f := 10) rfl ?_); refine goesL_ (some 7) rfl rfl Try.func10 (by kernel_rfl) rfl #[.int .i64 44, .slice Ao25 y118.length co25] rfl (by (try simp only [List.map_toArray, List.map_cons, List.map_nil]); first | done | rfl | (simp only [List.length_drop, List.length_take]; rfl)) ?_; (with_reducible refine (pack_Load.calls k 44 _ _ y118 t121 false _ ?side1 ?side2 A1.out).mono ?_); (case side1 => repeat (first | exact (Kd.R_reads' HO120.out).2.2 | (with_reducible refine Kd.C_alloc ?_ _) | (with_reducible refine Kd.C_drewN ?_ _) | (with_reducible refine Kd.C_drew ?_))); (case side2 => exact (Kd.R_reads' HO120.out).2.1); rintro e w' ⟨rfl, ⟨nd, rfl⟩⟩; refine ⟨_, rfl, ?_⟩) | ((with_reducible refine gate_callee (f := 8) rfl ?_); refine goesL_ (some 11) rfl rfl Try.func8 (by kernel_rfl) rfl #[.int .i64 59, .int .u64 74565] rfl (by (try simp only [List.map_toArray, List.map_cons, List.map_nil]); first | done | rfl | (simp only [List.length_drop, List.length_take]; rfl)) ?_; (with_reducible refine (pack_Store.calls k 59 74565 t123 t124 _ A2.out).mono ?_); rintro e w26 ⟨v125, rfl, ho0, hb⟩; refine ⟨_, rfl, ?_⟩; have n0_ := Aside0.mk (Kd.R_elder' (by (with_reducible repeat (first | apply Kd.R_alloc | apply Kd.R_drewN | apply Kd.R_drew)); exact HO120.out) (Kd.R_base ho0) hb); have n1_ := Aside0.mk (Kd.R_lower (Kd.R_new' ho0 (Kd.R_lt (by (with_reducible repeat (first | apply Kd.R_alloc | apply Kd.R_drewN | apply Kd.R_drew)); exact HO120.out))) (below_size (by repeat (first | (with_reducible first | exact HB.out | apply below_alloc | apply pw_below_drewN | apply below_drew1) | exact HB.out)))); have n2_ := Aside0.mk (below_step (by repeat (first | (with_reducible first | exact HB.out | apply below_alloc | apply pw_below_drewN | apply below_drew1) | exact HB.out)) hb); clear HO120; clear HB; have HO120 := n0_; have HO126 := n1_; have HB := n2_; clear n0_ n1_ n2_; (try clear hb); (try clear hb2); (try clear hk); (try clear hi); (try clear ho0)))
    go_ret
    exact ⟨by first | rfl | (simp [errW_none, errW_some] <;> rfl) | (simp [*, errW_none, errW_some] <;> rfl), by repeat (first | (with_reducible first | exact HB.out | apply below_alloc | apply pw_below_drewN | apply below_drew1) | exact HB.out)⟩

/-! ### trammelref04_Of: function 11 -/
def trammelref04_Of.l0 : Nat → Int → List (S33) → Int → Option (Int × Int × Int × Bool × Bool × Bool)
  | 0, _, _, _ => none
  | k + 1, x0, x4, x5 => if x5 < (x4.length : Int) then (if 0 ≤ x5 then (if ((rd_T33 x4 x5).f0) = x0 then (some ((rd_T33 x4 x5).f0, (rd_T33 x4 x5).f1, (rd_T33 x4 x5).f2, (rd_T33 x4 x5).f3, (rd_T33 x4 x5).f4, true)) else (trammelref04_Of.l0 k x0 x4 (wrap64 (x5 + 1)))) else (none)) else (some (0, 0, 0, false, false, false))
def trammelref04_Of.f (k : Nat) (a0 : Int) : Option (Int × Int × Int × Bool × Bool × Bool) := trammelref04_Of.l0 k a0 (([(⟨40, 32, 4, false, false⟩ : S33), (⟨41, 64, 8, false, false⟩ : S33), (⟨44, 32, 1, true, false⟩ : S33), (⟨45, 32, 1, false, false⟩ : S33), (⟨46, 32, 2, true, false⟩ : S33), (⟨47, 32, 2, false, false⟩ : S33), (⟨48, 64, 1, true, false⟩ : S33), (⟨49, 64, 1, false, false⟩ : S33), (⟨50, 64, 2, true, false⟩ : S33), (⟨51, 64, 2, false, false⟩ : S33), (⟨52, 64, 4, true, false⟩ : S33), (⟨53, 64, 4, false, false⟩ : S33), (⟨54, 32, 4, false, true⟩ : S33), (⟨55, 64, 8, false, true⟩ : S33), (⟨58, 32, 1, false, true⟩ : S33), (⟨59, 32, 2, false, true⟩ : S33), (⟨60, 64, 1, false, true⟩ : S33), (⟨61, 64, 2, false, true⟩ : S33), (⟨62, 64, 4, false, true⟩ : S33)] : List (S33))) 0
theorem trammelref04_Of.mono_l : ∀ k, (∀ y0 y1 y2, LeO (trammelref04_Of.l0 k y0 y1 y2) (trammelref04_Of.l0 (k + 1) y0 y1 y2))
  | 0 => fun _ _ _ r h => by simp [trammelref04_Of.l0] at h
  | k + 1 => by
    have ih0 := trammelref04_Of.mono_l k
    · intro y0 y1 y2
      unfold trammelref04_Of.l0
      repeat' first
      | (with_reducible exact ih0 _ _ _)
      | (with_reducible exact LeO.refl _)
      | (with_reducible exact LeO.none _)
      | (with_reducible refine LeO.ite ?_ ?_)
      | (with_reducible refine LeO.bind ?_ (fun _ => ?_))
      | exact ih0 _ _ _
      | exact LeO.none _
      | refine LeO.ite ?_ ?_
      | refine LeO.bind ?_ (fun _ => ?_)
theorem trammelref04_Of.mono : ∀ a0 k, LeO (trammelref04_Of.f k a0) (trammelref04_Of.f (k + 1) a0) := by
  intro a0 k
  have ih0 := trammelref04_Of.mono_l k
  unfold trammelref04_Of.f
  repeat' first
      | (with_reducible exact ih0 _ _ _)
      | (with_reducible exact LeO.refl _)
      | (with_reducible exact LeO.none _)
      | (with_reducible refine LeO.ite ?_ ?_)
      | (with_reducible refine LeO.bind ?_ (fun _ => ?_))
      | exact ih0 _ _ _
      | exact LeO.none _
      | refine LeO.ite ?_ ?_
      | refine LeO.bind ?_ (fun _ => ?_)
set_option maxHeartbeats 8000000 in
set_option maxRecDepth 100000 in
theorem trammelref04_Of.calls (k : Nat) (a0 : Int) (r1 : Int) (r2 : Int) (r3 : Int) (r4 : Bool) (r5 : Bool) (r6 : Bool) (w : World) (h : trammelref04_Of.f k a0 = some (r1, r2, r3, r4, r5, r6)) :
    Calls Try.prog 11 #[.int .i64 a0] w fun e w' => e = .returned (.tuple #[.agg #[.int .i64 r1, .int .i64 r2, .int .i64 r3, .bool r4, .bool r5], .bool r6]) ∧ Below w.heap.size w w' := by
  have hu33 := Try.underlying33
  have HB := Aside0.mk (Below.refl w.heap.size w)
  have H : (trammelref04_Of.l0 k a0 (([(⟨40, 32, 4, false, false⟩ : S33), (⟨41, 64, 8, false, false⟩ : S33), (⟨44, 32, 1, true, false⟩ : S33), (⟨45, 32, 1, false, false⟩ : S33), (⟨46, 32, 2, true, false⟩ : S33), (⟨47, 32, 2, false, false⟩ : S33), (⟨48, 64, 1, true, false⟩ : S33), (⟨49, 64, 1, false, false⟩ : S33), (⟨50, 64, 2, true, false⟩ : S33), (⟨51, 64, 2, false, false⟩ : S33), (⟨52, 64, 4, true, false⟩ : S33), (⟨53, 64, 4, false, false⟩ : S33), (⟨54, 32, 4, false, true⟩ : S33), (⟨55, 64, 8, false, true⟩ : S33), (⟨58, 32, 1, false, true⟩ : S33), (⟨59, 32, 2, false, true⟩ : S33), (⟨60, 64, 1, false, true⟩ : S33), (⟨61, 64, 2, false, true⟩ : S33), (⟨62, 64, 4, false, true⟩ : S33)] : List (S33))) 0) = some (r1, r2, r3, r4, r5, r6) := h
  clear h
  obtain ⟨y132, hy132⟩ : ∃ y_ : List (S33), y_ = (([(⟨40, 32, 4, false, false⟩ : S33), (⟨41, 64, 8, false, false⟩ : S33), (⟨44, 32, 1, true, false⟩ : S33), (⟨45, 32, 1, false, false⟩ : S33), (⟨46, 32, 2, true, false⟩ : S33), (⟨47, 32, 2, false, false⟩ : S33), (⟨48, 64, 1, true, false⟩ : S33), (⟨49, 64, 1, false, false⟩ : S33), (⟨50, 64, 2, true, false⟩ : S33), (⟨51, 64, 2, false, false⟩ : S33), (⟨52, 64, 4, true, false⟩ : S33), (⟨53, 64, 4, false, false⟩ : S33), (⟨54, 32, 4, false, true⟩ : S33), (⟨55, 64, 8, false, true⟩ : S33), (⟨58, 32, 1, false, true⟩ : S33), (⟨59, 32, 2, false, true⟩ : S33), (⟨60, 64, 1, false, true⟩ : S33), (⟨61, 64, 2, false, true⟩ : S33), (⟨62, 64, 4, false, true⟩ : S33)] : List (S33))) := ⟨_, rfl⟩
  replace H : (trammelref04_Of.l0 k a0 y132 0) = some (r1, r2, r3, r4, r5, r6) := by first | (rw [hy132]; with_reducible exact H) | (have H2_ := (Option.bind_some _ _).symm.trans H; rw [hy132]; with_reducible exact H2_) | (have H2_ := (Option.bind_some _ _).symm.trans H; with_reducible exact H2_) | with_reducible exact H | (rw [hy132]; exact H) | exact H
  have Ny132 := Aside0.mk hy132
  clear hy132
  have H' := Aside0.mk H
  clear H
  go_enter Try.func11, Try.ntmps11
  go_wp2_with (first | ((with_reducible refine gate_dst (N := 2) rfl ?_); refine box_event ?hg (N := 2) ?hd (cs := #[.int .i64 0, .int .i64 0, .int .i64 0, .bool false, .bool false]) (t := 33) ?hr ?_; (case hd => rfl); (case hg => rfl); (case hr => first | (go_simp; done) | (go_simp; rfl)); intro gb131 hg w2 hbox hb; have n0_ := Aside0.mk (below_step (by repeat (first | (with_reducible first | exact HB.out | apply below_alloc | apply pw_below_drewN | apply below_drew1) | exact HB.out)) hb); have n1_ := Aside0.mk (hbox); have n2_ := Aside0.mk ((by rw [hg]; exact (below_size (by repeat (first | (with_reducible first | exact HB.out | apply below_alloc | apply pw_below_drewN | apply below_drew1) | exact HB.out))) : w.heap.size ≤ gb131)); have n3_ := Aside0.mk ((by rw [hg]; exact (below_size (by repeat (first | (with_reducible first | exact HB.out | apply below_alloc | apply pw_below_drewN | apply below_drew1) | exact HB.out))) : w.heap.size ≤ gb131)); clear HB; have HB := n0_; have BK131 := n1_; have GW131 := n2_; have GE131 := n3_; clear n0_ n1_ n2_ n3_; clear hb hbox hg) | ((with_reducible refine gate_dst (N := 25) rfl ?_); refine Kd.R_lit k33 _ 33 ?hg (N := 25) ?hd (xs := ([(⟨40, 32, 4, false, false⟩ : S33), (⟨41, 64, 8, false, false⟩ : S33), (⟨44, 32, 1, true, false⟩ : S33), (⟨45, 32, 1, false, false⟩ : S33), (⟨46, 32, 2, true, false⟩ : S33), (⟨47, 32, 2, false, false⟩ : S33), (⟨48, 64, 1, true, false⟩ : S33), (⟨49, 64, 1, false, false⟩ : S33), (⟨50, 64, 2, true, false⟩ : S33), (⟨51, 64, 2, false, false⟩ : S33), (⟨52, 64, 4, true, false⟩ : S33), (⟨53, 64, 4, false, false⟩ : S33), (⟨54, 32, 4, false, true⟩ : S33), (⟨55, 64, 8, false, true⟩ : S33), (⟨58, 32, 1, false, true⟩ : S33), (⟨59, 32, 2, false, true⟩ : S33), (⟨60, 64, 1, false, true⟩ : S33), (⟨61, 64, 2, false, true⟩ : S33), (⟨62, 64, 4, false, true⟩ : S33)] : List (S33))) (inner := [.int .i64 40, .int .i64 32, .int .i64 4, .bool false, .bool false, .int .i64 41, .int .i64 64, .int .i64 8, .bool false, .bool false, .int .i64 44, .int .i64 32, .int .i64 1, .bool true, .bool false, .int .i64 45, .int .i64 32, .int .i64 1, .bool false, .bool false, .int .i64 46, .int .i64 32, .int .i64 2, .bool true, .bool false, .int .i64 47, .int .i64 32, .int .i64 2, .bool false, .bool false, .int .i64 48, .int .i64 64, .int .i64 1, .bool true, .bool false, .int .i64 49, .int .i64 64, .int .i64 1, .bool false, .bool false, .int .i64 50, .int .i64 64, .int .i64 2, .bool true, .bool false, .int .i64 51, .int .i64 64, .int .i64 2, .bool false, .bool false, .int .i64 52, .int .i64 64, .int .i64 4, .bool true, .bool false, .int .i64 53, .int .i64 64, .int .i64 4, .bool false, .bool false, .int .i64 54, .int .i64 32, .int .i64 4, .bool false, .bool true, .int .i64 55, .int .i64 64, .int .i64 8, .bool false, .bool true, .int .i64 58, .int .i64 32, .int .i64 1, .bool false, .bool true, .int .i64 59, .int .i64 32, .int .i64 2, .bool false, .bool true, .int .i64 60, .int .i64 64, .int .i64 1, .bool false, .bool true, .int .i64 61, .int .i64 64, .int .i64 2, .bool false, .bool true, .int .i64 62, .int .i64 64, .int .i64 4, .bool false, .bool true]) (ok := fun _ => True) (okp := fun _ => True) ?hr ?hp (fun _ hk => hk) trivial (Below.refl _ _) (Nat.le_refl _) (by simp) ?_; (case hd => rfl); (case hg => rfl); (case hr => first | (go_simp; done) | (go_simp; rfl)); (case hp => exact (Reps.c5 (show Kd.M k33 _ _ _ (⟨40, 32, 4, false, false⟩ : S33) [.int .i64 40, .int .i64 32, .int .i64 4, .bool false, .bool false] from (k33_mkM _ _ _ (⟨40, 32, 4, false, false⟩ : S33) )) (Reps.c5 (show Kd.M k33 _ _ _ (⟨41, 64, 8, false, false⟩ : S33) [.int .i64 41, .int .i64 64, .int .i64 8, .bool false, .bool false] from (k33_mkM _ _ _ (⟨41, 64, 8, false, false⟩ : S33) )) (Reps.c5 (show Kd.M k33 _ _ _ (⟨44, 32, 1, true, false⟩ : S33) [.int .i64 44, .int .i64 32, .int .i64 1, .bool true, .bool false] from (k33_mkM _ _ _ (⟨44, 32, 1, true, false⟩ : S33) )) (Reps.c5 (show Kd.M k33 _ _ _ (⟨45, 32, 1, false, false⟩ : S33) [.int .i64 45, .int .i64 32, .int .i64 1, .bool false, .bool false] from (k33_mkM _ _ _ (⟨45, 32, 1, false, false⟩ : S33) )) (Reps.c5 (show Kd.M k33 _ _ _ (⟨46, 32, 2, true, false⟩ : S33) [.int .i64 46, .int .i64 32, .int .i64 2, .bool true, .bool false] from (k33_mkM _ _ _ (⟨46, 32, 2, true, false⟩ : S33) )) (Reps.c5 (show Kd.M k33 _ _ _ (⟨47, 32, 2, false, false⟩ : S33) [.int .i64 47, .int .i64 32, .int .i64 2, .bool false, .bool false] from (k33_mkM _ _ _ (⟨47, 32, 2, false, false⟩ : S33) )) (Reps.c5 (show Kd.M k33 _ _ _ (⟨48, 64, 1, true, false⟩ : S33) [.int .i64 48, .int .i64 64, .int .i64 1, .bool true, .bool false] from (k33_mkM _ _ _ (⟨48, 64, 1, true, false⟩ : S33) )) (Reps.c5 (show Kd.M k33 _ _ _ (⟨49, 64, 1, false, false⟩ : S33) [.int .i64 49, .int .i64 64, .int .i64 1, .bool false, .bool false] from (k33_mkM _ _ _ (⟨49, 64, 1, false, false⟩ : S33) )) (Reps.c5 (show Kd.M k33 _ _ _ (⟨50, 64, 2, true, false⟩ : S33) [.int .i64 50, .int .i64 64, .int .i64 2, .bool true, .bool false] from (k33_mkM _ _ _ (⟨50, 64, 2, true, false⟩ : S33) )) (Reps.c5 (show Kd.M k33 _ _ _ (⟨51, 64, 2, false, false⟩ : S33) [.int .i64 51, .int .i64 64, .int .i64 2, .bool false, .bool false] from (k33_mkM _ _ _ (⟨51, 64, 2, false, false⟩ : S33) )) (Reps.c5 (show Kd.M k33 _ _ _ (⟨52, 64, 4, true, false⟩ : S33) [.int .i64 52, .int .i64 64, .int .i64 4, .bool true, .bool false] from (k33_mkM _ _ _ (⟨52, 64, 4, true, false⟩ : S33) )) (Reps.c5 (show Kd.M k33 _ _ _ (⟨53, 64, 4, false, false⟩ : S33) [.int .i64 53, .int .i64 64, .int .i64 4, .bool false, .bool false] from (k33_mkM _ _ _ (⟨53, 64, 4, false, false⟩ : S33) )) (Reps.c5 (show Kd.M k33 _ _ _ (⟨54, 32, 4, false, true⟩ : S33) [.int .i64 54, .int .i64 32, .int .i64 4, .bool false, .bool true] from (k33_mkM _ _ _ (⟨54, 32, 4, false, true⟩ : S33) )) (Reps.c5 (show Kd.M k33 _ _ _ (⟨55, 64, 8, false, true⟩ : S33) [.int .i64 55, .int .i64 64, .int .i64 8, .bool false, .bool true] from (k33_mkM _ _ _ (⟨55, 64, 8, false, true⟩ : S33) )) (Reps.c5 (show Kd.M k33 _ _ _ (⟨58, 32, 1, false, true⟩ : S33) [.int .i64 58, .int .i64 32, .int .i64 1, .bool false, .bool true] from (k33_mkM _ _ _ (⟨58, 32, 1, false, true⟩ : S33) )) (Reps.c5 (show Kd.M k33 _ _ _ (⟨59, 32, 2, false, true⟩ : S33) [.int .i64 59, .int .i64 32, .int .i64 2, .bool false, .bool true] from (k33_mkM _ _ _ (⟨59, 32, 2, false, true⟩ : S33) )) (Reps.c5 (show Kd.M k33 _ _ _ (⟨60, 64, 1, false, true⟩ : S33) [.int .i64 60, .int .i64 64, .int .i64 1, .bool false, .bool true] from (k33_mkM _ _ _ (⟨60, 64, 1, false, true⟩ : S33) )) (Reps.c5 (show Kd.M k33 _ _ _ (⟨61, 64, 2, false, true⟩ : S33) [.int .i64 61, .int .i64 64, .int .i64 2, .bool false, .bool true] from (k33_mkM _ _ _ (⟨61, 64, 2, false, true⟩ : S33) )) (Reps.c5 (show Kd.M k33 _ _ _ (⟨62, 64, 4, false, true⟩ : S33) [.int .i64 62, .int .i64 64, .int .i64 4, .bool false, .bool true] from (k33_mkM _ _ _ (⟨62, 64, 4, false, true⟩ : S33) )) (Reps.none _ _))))))))))))))))))))); intro v133 w3 ho4 hb hg_ hnew_; clear hg_ hnew_; (first | rw [← Ny132.out] at ho4 | (simp only [Int.reduceToNat] at ho4; rw [← Ny132.out] at ho4)); have n0_ := Aside0.mk (Kd.R_lower (Kd.R_newB ho4 (g := gb131) (o := .cells #[.int .i64 0, .int .i64 0, .int .i64 0, .bool false, .bool false] 33 (0, 0)) (by (with_reducible repeat (first | refine blk_drewN ?_ _ | refine blk_drew ?_ | refine blk_alloc ?_ _)); exact BK131.out)) (below_size (by repeat (first | (with_reducible first | exact HB.out | apply below_alloc | apply pw_below_drewN | apply below_drew1 | refine below_set ?_ GE131.out) | exact HB.out)))); have n1_ := Aside0.mk (blk_below (g := gb131) (o := .cells #[.int .i64 0, .int .i64 0, .int .i64 0, .bool false, .bool false] 33 (0, 0)) (by (with_reducible repeat (first | refine blk_drewN ?_ _ | refine blk_drew ?_ | refine blk_alloc ?_ _)); exact BK131.out) hb); have n2_ := Aside0.mk (below_step (by repeat (first | (with_reducible first | exact HB.out | apply below_alloc | apply pw_below_drewN | apply below_drew1 | refine below_set ?_ GE131.out) | exact HB.out)) hb); clear BK131; clear HB; have HO134 := n0_; have BK131 := n1_; have HB := n2_; clear n0_ n1_ n2_; clear hb ho4))
  go_loopg [5] k (fun kq v5 w' => ∃ (x5_1 : Int) (x132000_1 : Int) (x132001_1 : Int) (x132002_1 : Int) (x132003_1 : Bool) (x132004_1 : Bool), v5 = .int .i64 x5_1 ∧ Aside0 (trammelref04_Of.l0 kq a0 y132 x5_1 = some (r1, r2, r3, r4, r5, r6)) ∧ Aside0 (kq ≤ k) ∧ Aside0 (Kd.R k33 33 w' w.heap.size (fun k_ => k_ ≠ gb131) v133 y132) ∧ Aside0 (w'.heap[gb131]? = some (.cells #[.int .i64 x132000_1, .int .i64 x132001_1, .int .i64 x132002_1, .bool x132003_1, .bool x132004_1] 33 (0, 0))) ∧ Aside0 (Below w.heap.size w w'))
  case atStart => exact ⟨(0), (0), (0), (0), (false), (false), (by first | rfl | (simp; done) | (simp [*]; done)), H', ⟨Nat.le_refl _⟩, ⟨by (with_reducible repeat (first | apply Kd.R_alloc | apply Kd.R_drewN | apply Kd.R_drew)); exact Kd.R_mono HO134.out (fun _ hk => hk.2)⟩, ⟨by (with_reducible repeat (first | refine blk_drewN ?_ _ | refine blk_drew ?_ | refine blk_alloc ?_ _)); exact BK131.out⟩, ⟨by repeat (first | (with_reducible first | exact HB.out | apply below_alloc | apply pw_below_drewN | apply below_drew1 | refine below_set ?_ GE131.out) | exact HB.out)⟩⟩
  case round =>
    clear H'
    try clear c1
    try clear p2
    obtain ⟨x5_1, x132000_1, x132001_1, x132002_1, x132003_1, x132004_1, rfl, HA, HK1, HO_4, BK131, HB⟩ := hrel
    cases gk with
    | zero => exact absurd HA.out (by simp [trammelref04_Of.l0])
    | succ k1 =>
      have H := HA.out
      clear HA
      simp only [trammelref04_Of.l0] at H
      by_cases c5 : x5_1 < (y132.length : Int)
      · rw [if_pos c5] at H
        have c5b0 : decide (x5_1 < (y132.length : Int)) = true := decide_eq_true c5
        clear c5
        by_cases c6 : 0 ≤ x5_1
        · rw [if_pos c6] at H
          have c6b0 : decide (0 ≤ x5_1) = true := decide_eq_true c6
          clear c6
          by_cases c7 : ((rd_T33 y132 x5_1).f0) = a0
          · rw [if_pos c7] at H
            have c7b0 : (((rd_T33 y132 x5_1).f0) == a0) = true := beq_iff_eq.mpr c7
            have c7b1 : (((rd_T33 y132 x5_1).f0) != a0) = false := bne_eq_false_iff_eq.mpr c7
            clear c7
            simp only [Option.some.injEq, Prod.mk.injEq] at H
            obtain ⟨rfl, rfl, rfl, rfl, rfl, rfl⟩ := H
            obtain ⟨Ao8, co8, eo8⟩ := Kd.R_slice HO_4.out
            subst eo8
            have p135 : 0 ≤ (x5_1 : Int) := of_decide_eq_true (by first | (with_reducible assumption) | assumption)
            have q135 : x5_1 < (y132.length : Int) := of_decide_eq_true (by first | (with_reducible assumption) | assumption)
            obtain ⟨ad135, e135, hx135_0, hx135_1, hx135_2, hx135_3, hx135_4⟩ := at_T33 (Kd.R_reads' HO_4.out).2.2 x5_1 p135 q135
            cases e135
            replace p135 := eq_true p135
            replace q135 := eq_true q135
            have p136 : 0 ≤ (x5_1 : Int) := of_decide_eq_true (by first | (with_reducible assumption) | assumption)
            have q136 : x5_1 < (y132.length : Int) := of_decide_eq_true (by first | (with_reducible assumption) | assumption)
            obtain ⟨ad136, e136, hx136_0, hx136_1, hx136_2, hx136_3, hx136_4⟩ := at_T33 (Kd.R_reads' HO_4.out).2.2 x5_1 p136 q136
            obtain rfl : ad135 = ad136 := (by injection e136)
            replace p136 := eq_true p136
            replace q136 := eq_true q136
            have hcz9_0 : wr.cell? ⟨gb131, 0, none⟩ = some (.int .i64 x132000_1) := (blk_cell BK131.out 0).trans rfl
            have hcz9_1 : wr.cell? ⟨gb131, 1, none⟩ = some (.int .i64 x132001_1) := (blk_cell BK131.out 1).trans rfl
            have hcz9_2 : wr.cell? ⟨gb131, 2, none⟩ = some (.int .i64 x132002_1) := (blk_cell BK131.out 2).trans rfl
            have hcz9_3 : wr.cell? ⟨gb131, 3, none⟩ = some (.bool x132003_1) := (blk_cell BK131.out 3).trans rfl
            have hcz9_4 : wr.cell? ⟨gb131, 4, none⟩ = some (.bool x132004_1) := (blk_cell BK131.out 4).trans rfl
            have hfz9_0 := blk_frozen BK131.out 0
            have hfz9_1 := blk_frozen BK131.out 1
            have hfz9_2 := blk_frozen BK131.out 2
            have hfz9_3 := blk_frozen BK131.out 3
            have hfz9_4 := blk_frozen BK131.out 4
            go_wp2
            refine bodyPost_ret (results_ct rfl _ _ gb131 33 #[.int .i64 ((rd_T33 y132 x5_1).f0), .int .i64 ((rd_T33 y132 x5_1).f1), .int .i64 ((rd_T33 y132 x5_1).f2), .bool ((rd_T33 y132 x5_1).f3), .bool ((rd_T33 y132 x5_1).f4)] (0, 0) _ rfl (by (with_reducible repeat (first | refine blk_drewN ?_ _ | refine blk_drew ?_ | refine blk_alloc ?_ _)); refine blk_put (cs := #[.int .i64 ((rd_T33 y132 x5_1).f0), .int .i64 ((rd_T33 y132 x5_1).f1), .int .i64 ((rd_T33 y132 x5_1).f2), .bool ((rd_T33 y132 x5_1).f3), .bool x132004_1]) ?_ 4 _ (by first | rfl | (simp_all; done)); (with_reducible repeat (first | refine blk_drewN ?_ _ | refine blk_drew ?_ | refine blk_alloc ?_ _)); refine blk_put (cs := #[.int .i64 ((rd_T33 y132 x5_1).f0), .int .i64 ((rd_T33 y132 x5_1).f1), .int .i64 ((rd_T33 y132 x5_1).f2), .bool x132003_1, .bool x132004_1]) ?_ 3 _ (by first | rfl | (simp_all; done)); (with_reducible repeat (first | refine blk_drewN ?_ _ | refine blk_drew ?_ | refine blk_alloc ?_ _)); refine blk_put (cs := #[.int .i64 ((rd_T33 y132 x5_1).f0), .int .i64 ((rd_T33 y132 x5_1).f1), .int .i64 x132002_1, .bool x132003_1, .bool x132004_1]) ?_ 2 _ (by first | rfl | (simp_all; done)); (with_reducible repeat (first | refine blk_drewN ?_ _ | refine blk_drew ?_ | refine blk_alloc ?_ _)); refine blk_put (cs := #[.int .i64 ((rd_T33 y132 x5_1).f0), .int .i64 x132001_1, .int .i64 x132002_1, .bool x132003_1, .bool x132004_1]) ?_ 1 _ (by first | rfl | (simp_all; done)); (with_reducible repeat (first | refine blk_drewN ?_ _ | refine blk_drew ?_ | refine blk_alloc ?_ _)); refine blk_put (cs := #[.int .i64 x132000_1, .int .i64 x132001_1, .int .i64 x132002_1, .bool x132003_1, .bool x132004_1]) ?_ 0 _ (by first | rfl | (simp_all; done)); (with_reducible repeat (first | refine blk_drewN ?_ _ | refine blk_drew ?_ | refine blk_alloc ?_ _)); exact BK131.out) Try.underlying33 rfl (by kernel_rfl)) rfl ?_
            exact ⟨by first | rfl | (simp [errW_none, errW_some] <;> rfl) | (simp [*, errW_none, errW_some] <;> rfl), by repeat (first | (with_reducible first | exact HB.out | apply below_alloc | apply pw_below_drewN | apply below_drew1 | refine below_set ?_ GE131.out) | exact HB.out)⟩
          · rw [if_neg c7] at H
            have c7b0 : (((rd_T33 y132 x5_1).f0) == a0) = false := beq_eq_false_iff_ne.mpr c7
            have c7b1 : (((rd_T33 y132 x5_1).f0) != a0) = true := bne_iff_ne.mpr c7
            have H' := Aside0.mk H
            clear H
            obtain ⟨Ao10, co10, eo10⟩ := Kd.R_slice HO_4.out
            subst eo10
            have p135 : 0 ≤ (x5_1 : Int) := of_decide_eq_true (by first | (with_reducible assumption) | assumption)
            have q135 : x5_1 < (y132.length : Int) := of_decide_eq_true (by first | (with_reducible assumption) | assumption)
            obtain ⟨ad135, e135, hx135_0, hx135_1, hx135_2, hx135_3, hx135_4⟩ := at_T33 (Kd.R_reads' HO_4.out).2.2 x5_1 p135 q135
            cases e135
            replace p135 := eq_true p135
            replace q135 := eq_true q135
            go_wp2
            go_roundg k1
            case measure => have := HK1.out; omega
            case rel => exact ⟨(wrap64 (x5_1 + 1)), (x132000_1), (x132001_1), (x132002_1), (x132003_1), (x132004_1), (by first | rfl | (simp; done) | (simp [*]; done)), H', ⟨by have := HK1.out; omega⟩, ⟨by (with_reducible repeat (first | apply Kd.R_alloc | apply Kd.R_drewN | apply Kd.R_drew)); exact HO_4.out⟩, ⟨by (with_reducible repeat (first | refine blk_drewN ?_ _ | refine blk_drew ?_ | refine blk_alloc ?_ _)); exact BK131.out⟩, ⟨by repeat (first | (with_reducible first | exact HB.out | apply below_alloc | apply pw_below_drewN | apply below_drew1 | refine below_set ?_ GE131.out) | exact HB.out)⟩⟩
        · rw [if_neg c6] at H
          exact absurd H (by simp)
      · rw [if_neg c5] at H
        have c5b0 : decide (x5_1 < (y132.length : Int)) = false := decide_eq_false c5
        clear c5
        simp only [Option.some.injEq, Prod.mk.injEq] at H
        obtain ⟨rfl, rfl, rfl, rfl, rfl, rfl⟩ := H
        obtain ⟨Ao11, co11, eo11⟩ := Kd.R_slice HO_4.out
        subst eo11
        have hcz12_0 : wr.cell? ⟨gb131, 0, none⟩ = some (.int .i64 x132000_1) := (blk_cell BK131.out 0).trans rfl
        have hcz12_1 : wr.cell? ⟨gb131, 1, none⟩ = some (.int .i64 x132001_1) := (blk_cell BK131.out 1).trans rfl
        have hcz12_2 : wr.cell? ⟨gb131, 2, none⟩ = some (.int .i64 x132002_1) := (blk_cell BK131.out 2).trans rfl
        have hcz12_3 : wr.cell? ⟨gb131, 3, none⟩ = some (.bool x132003_1) := (blk_cell BK131.out 3).trans rfl
        have hcz12_4 : wr.cell? ⟨gb131, 4, none⟩ = some (.bool x132004_1) := (blk_cell BK131.out 4).trans rfl
        have hfz12_0 := blk_frozen BK131.out 0
        have hfz12_1 := blk_frozen BK131.out 1
        have hfz12_2 := blk_frozen BK131.out 2
        have hfz12_3 := blk_frozen BK131.out 3
        have hfz12_4 := blk_frozen BK131.out 4
        go_wp2
        refine bodyPost_ret (results_ct rfl _ _ gb131 33 #[.int .i64 0, .int .i64 0, .int .i64 0, .bool false, .bool false] (0, 0) _ rfl (by (with_reducible repeat (first | refine blk_drewN ?_ _ | refine blk_drew ?_ | refine blk_alloc ?_ _)); refine blk_put (cs := #[.int .i64 0, .int .i64 0, .int .i64 0, .bool false, .bool x132004_1]) ?_ 4 _ (by first | rfl | (simp_all; done)); (with_reducible repeat (first | refine blk_drewN ?_ _ | refine blk_drew ?_ | refine blk_alloc ?_ _)); refine blk_put (cs := #[.int .i64 0, .int .i64 0, .int .i64 0, .bool x132003_1, .bool x132004_1]) ?_ 3 _ (by first | rfl | (simp_all; done)); (with_reducible repeat (first | refine blk_drewN ?_ _ | refine blk_drew ?_ | refine blk_alloc ?_ _)); refine blk_put (cs := #[.int .i64 0, .int .i64 0, .int .i64 x132002_1, .bool x132003_1, .bool x132004_1]) ?_ 2 _ (by first | rfl | (simp_all; done)); (with_reducible repeat (first | refine blk_drewN ?_ _ | refine blk_drew ?_ | refine blk_alloc ?_ _)); refine blk_put (cs := #[.int .i64 0, .int .i64 x132001_1, .int .i64 x132002_1, .bool x132003_1, .bool x132004_1]) ?_ 1 _ (by first | rfl | (simp_all; done)); (with_reducible repeat (first | refine blk_drewN ?_ _ | refine blk_drew ?_ | refine blk_alloc ?_ _)); refine blk_put (cs := #[.int .i64 x132000_1, .int .i64 x132001_1, .int .i64 x132002_1, .bool x132003_1, .bool x132004_1]) ?_ 0 _ (by first | rfl | (simp_all; done)); (with_reducible repeat (first | refine blk_drewN ?_ _ | refine blk_drew ?_ | refine blk_alloc ?_ _)); exact BK131.out) Try.underlying33 rfl (by kernel_rfl)) rfl ?_
        exact ⟨by first | rfl | (simp [errW_none, errW_some] <;> rfl) | (simp [*, errW_none, errW_some] <;> rfl), by repeat (first | (with_reducible first | exact HB.out | apply below_alloc | apply pw_below_drewN | apply below_drew1 | refine below_set ?_ GE131.out) | exact HB.out)⟩

/-! ### pack_Access: function 12 -/
def pack_Access.f (k : Nat) (a0 : Int) : Option (Int × Int × Bool × Bool) := (pack_access.f k a0).bind fun bt137 => (some (bt137.1, bt137.2.1, bt137.2.2.2.1, bt137.2.2.2.2))
theorem pack_Access.mono : ∀ a0 k, LeO (pack_Access.f k a0) (pack_Access.f (k + 1) a0) := by
  intro a0 k
  unfold pack_Access.f
  repeat' first
      | (with_reducible exact pack_access.mono _ _)
      | (with_reducible exact LeO.refl _)
      | (with_reducible exact LeO.none _)
      | (with_reducible refine LeO.ite ?_ ?_)
      | (with_reducible refine LeO.bind ?_ (fun _ => ?_))
      | exact pack_access.mono _ _
      | exact LeO.none _
      | refine LeO.ite ?_ ?_
      | refine LeO.bind ?_ (fun _ => ?_)
set_option maxHeartbeats 8000000 in
set_option maxRecDepth 100000 in
theorem pack_Access.calls (k : Nat) (a0 : Int) (r1 : Int) (r2 : Int) (r3 : Bool) (r4 : Bool) (w : World) (h : pack_Access.f k a0 = some (r1, r2, r3, r4)) :
    Calls Try.prog 12 #[.int .i64 a0] w fun e w' => e = .returned (.tuple #[.int .i64 r1, .int .i64 r2, .bool r3, .bool r4]) ∧ Drawn0 w w' := by
  have H : ((pack_access.f k a0).bind fun bt137 => (some (bt137.1, bt137.2.1, bt137.2.2.2.1, bt137.2.2.2.2))) = some (r1, r2, r3, r4) := h
  clear h
  replace H := Option.bind_eq_some_iff.mp H
  obtain ⟨⟨t137, t138, t139, t140, t141⟩, A20, H⟩ := H
  replace H : (some (t137, t138, t140, t141)) = some (r1, r2, r3, r4) := H
  have A2 := Aside0.mk A20
  clear A20
  simp only [Option.some.injEq, Prod.mk.injEq] at H
  obtain ⟨rfl, rfl, rfl, rfl⟩ := H
  go_enter Try.func12, Try.ntmps12
  go_wp2_with (first | ((with_reducible refine gate_callee (f := 15) rfl ?_); refine goesL_ (some 13) rfl rfl Try.func15 (by kernel_rfl) rfl #[.int .i64 a0] rfl (by (try simp only [List.map_toArray, List.map_cons, List.map_nil]); first | done | rfl | (simp only [List.length_drop, List.length_take]; rfl)) ?_; (with_reducible refine (pack_access.calls k a0 t137 t138 t139 t140 t141 _ A2.out).mono ?_); rintro e w' ⟨rfl, ⟨nd, rfl⟩⟩; refine ⟨_, rfl, ?_⟩))
  refine bodyPost_ret (results_list (rs := [.tmp 2, .tmp 3, .tmp 4, .tmp 5]) rfl (by simp) (.tmp (.tmp (.tmp (.tmp .nil))))) rfl ?_
  exact ⟨by first | rfl | (simp; done) | (simp [*]; done), by repeat (first | exact Drawn0.refl _ | apply Drawn0.step)⟩

end Go.Proofs.Ytelbmologkepeaa.PPackAll
