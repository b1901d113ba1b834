-- Written by a program of this session (wip/tools/myprint.py over the print of the kit).
import Derived.Test.YtaajijommogaoaaPIvlWidensx0
import Derived.Test.YtaajijommogaoaaPIvlWidensx1
import Derived.Test.YtaajijommogaoaaPIvlWidensx2
namespace Go.Proofs.Ytaajijommogaoaa.PIvlWidens
open Go.Proofs.Ytaajijommogaoaa.Ext
open Go.RowKit Go.Proofs.YtaajijommogaoaaW.PrintWords Go.Proofs.YtaajijommogaoaaW.PrintLast Go.Proofs.YtaajijommogaoaaW.PrintMore
attribute [local go_sem] max2_int min2_int max_two min_two max_three min_three max_four min_four   -- for this text's walks alone
set_option linter.unusedVariables false
set_option linter.unusedSimpArgs false

attribute [local go_sem] fld25_1
attribute [local go_sem high] eqA25
/-! ### trammellaw16_IvlWidens: function 4 -/
mutual
def trammellaw16_IvlWidens.j0 : Nat → Int → Int → List Int → Int → Option (Bool)
  | 0, _, _, _, _ => none
  | k + 1, x0, x1, x2, x9 => (ivl_All.f x9).bind fun bt137 => ((trammellaw16_put.f (Go.bits .and .u64 x0 bt137.2) (Go.bits .and .u64 x1 bt137.2)).bind fun bt140 => (trammellaw16_IvlWidens.l0 k x2 x9 0 0 bt137.1 bt137.2 bt140.1 bt140.2))
def trammellaw16_IvlWidens.l0 : Nat → List Int → Int → Int → Int → Int → Int → Int → Int → Option (Bool)
  | 0, _, _, _, _, _, _, _, _ => none
  | k + 1, x2, x9, x12, x13, x140000, x140001, x143000, x143001 => if (wrap64 (x13 + 1)) < (x2.length : Int) then (trammellaw16_IvlWidens.j2 k x2 x9 x12 x13 (decide (x13 < 40)) x140000 x140001 x143000 x143001) else (trammellaw16_IvlWidens.j2 k x2 x9 x12 x13 false x140000 x140001 x143000 x143001)
def trammellaw16_IvlWidens.j2 : Nat → List Int → Int → Int → Int → Bool → Int → Int → Int → Int → Option (Bool)
  | 0, _, _, _, _, _, _, _, _, _ => none
  | k + 1, x2, x9, x12, x13, x38, x140000, x140001, x143000, x143001 => if x38 = true then (if 0 ≤ x13 then (if x13 < (x2.length : Int) then (if 0 ≤ (wrap64 (x13 + 1)) then (if (wrap64 (x13 + 1)) < (x2.length : Int) then ((trammellaw16_put.f (Go.bits .and .u64 (rd x2 x13) x140001) (Go.bits .and .u64 (rd x2 (wrap64 (x13 + 1))) x140001)).bind fun bt145 => ((ivl_Widen.f x143000 x143001 bt145.1 bt145.2 x9).bind fun bt148 => ((ivl_Within.f x143000 x143001 bt148.1 bt148.2).bind fun t151 => (if t151 = true then ((ivl_Within.f bt145.1 bt145.2 bt148.1 bt148.2).bind fun t152 => (if t152 = true then ((ivl_Within.f bt148.1 bt148.2 x140000 x140001).bind fun t153 => (trammellaw16_IvlWidens.j3 k x2 x9 x12 x13 (!t153) x140000 x140001 x143000 x143001 bt145.1 bt145.2 bt148.1 bt148.2)) else (trammellaw16_IvlWidens.j3 k x2 x9 x12 x13 true x140000 x140001 x143000 x143001 bt145.1 bt145.2 bt148.1 bt148.2))) else (trammellaw16_IvlWidens.j3 k x2 x9 x12 x13 true x140000 x140001 x143000 x143001 bt145.1 bt145.2 bt148.1 bt148.2))))) else (none)) else (none)) else (none)) else (none)) else (some (decide (x12 ≤ 2)))
def trammellaw16_IvlWidens.j3 : Nat → List Int → Int → Int → Int → Bool → Int → Int → Int → Int → Int → Int → Int → Int → Option (Bool)
  | 0, _, _, _, _, _, _, _, _, _, _, _, _, _ => none
  | k + 1, x2, x9, x12, x13, x76, x140000, x140001, x143000, x143001, x148000, x148001, x151000, x151001 => if x76 = true then (some false) else (if (!(x151000 == x143000) || (!(x151001 == x143001))) = true then ((ivl_Within.f x148000 x148001 x143000 x143001).bind fun t154 => (if t154 = true then (some false) else (trammellaw16_IvlWidens.l0 k x2 x9 (wrap64 (x12 + 1)) (wrap64 (x13 + 2)) x140000 x140001 x151000 x151001))) else ((ivl_Within.f x148000 x148001 x143000 x143001).bind fun t155 => (if t155 = true then (trammellaw16_IvlWidens.l0 k x2 x9 x12 (wrap64 (x13 + 2)) x140000 x140001 x151000 x151001) else (trammellaw16_IvlWidens.l0 k x2 x9 x12 (wrap64 (x13 + 2)) x140000 x140001 x151000 x151001))))
end
def trammellaw16_IvlWidens.f (k : Nat) (a0 : Int) (a1 : Int) (l2 : List Int) (a3 : Bool) : Option (Bool) := (trammellaw16_awake.f).bind fun t136 => (if t136 = true then (if a3 = true then (trammellaw16_IvlWidens.j0 k a0 a1 l2 64) else (trammellaw16_IvlWidens.j0 k a0 a1 l2 32)) else (some false))
theorem trammellaw16_IvlWidens.mono_l : ∀ k, (∀ y0 y1 y2 y3, LeO (trammellaw16_IvlWidens.j0 k y0 y1 y2 y3) (trammellaw16_IvlWidens.j0 (k + 1) y0 y1 y2 y3)) ∧ (∀ y0 y1 y2 y3 y4 y5 y6 y7, LeO (trammellaw16_IvlWidens.l0 k y0 y1 y2 y3 y4 y5 y6 y7) (trammellaw16_IvlWidens.l0 (k + 1) y0 y1 y2 y3 y4 y5 y6 y7)) ∧ (∀ y0 y1 y2 y3 y4 y5 y6 y7 y8, LeO (trammellaw16_IvlWidens.j2 k y0 y1 y2 y3 y4 y5 y6 y7 y8) (trammellaw16_IvlWidens.j2 (k + 1) y0 y1 y2 y3 y4 y5 y6 y7 y8)) ∧ (∀ y0 y1 y2 y3 y4 y5 y6 y7 y8 y9 y10 y11 y12, LeO (trammellaw16_IvlWidens.j3 k y0 y1 y2 y3 y4 y5 y6 y7 y8 y9 y10 y11 y12) (trammellaw16_IvlWidens.j3 (k + 1) y0 y1 y2 y3 y4 y5 y6 y7 y8 y9 y10 y11 y12))
  | 0 => ⟨fun _ _ _ _ r h => by simp [trammellaw16_IvlWidens.j0] at h, fun _ _ _ _ _ _ _ _ r h => by simp [trammellaw16_IvlWidens.l0] at h, fun _ _ _ _ _ _ _ _ _ r h => by simp [trammellaw16_IvlWidens.j2] at h, fun _ _ _ _ _ _ _ _ _ _ _ _ _ r h => by simp [trammellaw16_IvlWidens.j3] at h⟩
  | k + 1 => by
    obtain ⟨ih0, ih1, ih2, ih3⟩ := trammellaw16_IvlWidens.mono_l k
    refine ⟨?_, ?_, ?_, ?_⟩
    · intro y0 y1 y2 y3
      unfold trammellaw16_IvlWidens.j0
      repeat' first
      | (with_reducible exact ih0 _ _ _ _)
      | (with_reducible exact ih1 _ _ _ _ _ _ _ _)
      | (with_reducible exact ih2 _ _ _ _ _ _ _ _ _)
      | (with_reducible exact ih3 _ _ _ _ _ _ _ _ _ _ _ _ _)
      | (with_reducible exact LeO.refl _)
      | (with_reducible exact LeO.none _)
      | (with_reducible refine LeO.ite ?_ ?_)
      | (with_reducible refine LeO.bind ?_ (fun _ => ?_))
      | exact ih0 _ _ _ _
      | exact ih1 _ _ _ _ _ _ _ _
      | exact ih2 _ _ _ _ _ _ _ _ _
      | exact ih3 _ _ _ _ _ _ _ _ _ _ _ _ _
      | exact LeO.none _
      | refine LeO.ite ?_ ?_
      | refine LeO.bind ?_ (fun _ => ?_)
    · intro y0 y1 y2 y3 y4 y5 y6 y7
      unfold trammellaw16_IvlWidens.l0
      repeat' first
      | (with_reducible exact ih0 _ _ _ _)
      | (with_reducible exact ih1 _ _ _ _ _ _ _ _)
      | (with_reducible exact ih2 _ _ _ _ _ _ _ _ _)
      | (with_reducible exact ih3 _ _ _ _ _ _ _ _ _ _ _ _ _)
      | (with_reducible exact LeO.refl _)
      | (with_reducible exact LeO.none _)
      | (with_reducible refine LeO.ite ?_ ?_)
      | (with_reducible refine LeO.bind ?_ (fun _ => ?_))
      | exact ih0 _ _ _ _
      | exact ih1 _ _ _ _ _ _ _ _
      | exact ih2 _ _ _ _ _ _ _ _ _
      | exact ih3 _ _ _ _ _ _ _ _ _ _ _ _ _
      | exact LeO.none _
      | refine LeO.ite ?_ ?_
      | refine LeO.bind ?_ (fun _ => ?_)
    · intro y0 y1 y2 y3 y4 y5 y6 y7 y8
      unfold trammellaw16_IvlWidens.j2
      repeat' first
      | (with_reducible exact ih0 _ _ _ _)
      | (with_reducible exact ih1 _ _ _ _ _ _ _ _)
      | (with_reducible exact ih2 _ _ _ _ _ _ _ _ _)
      | (with_reducible exact ih3 _ _ _ _ _ _ _ _ _ _ _ _ _)
      | (with_reducible exact LeO.refl _)
      | (with_reducible exact LeO.none _)
      | (with_reducible refine LeO.ite ?_ ?_)
      | (with_reducible refine LeO.bind ?_ (fun _ => ?_))
      | exact ih0 _ _ _ _
      | exact ih1 _ _ _ _ _ _ _ _
      | exact ih2 _ _ _ _ _ _ _ _ _
      | exact ih3 _ _ _ _ _ _ _ _ _ _ _ _ _
      | exact LeO.none _
      | refine LeO.ite ?_ ?_
      | refine LeO.bind ?_ (fun _ => ?_)
    · intro y0 y1 y2 y3 y4 y5 y6 y7 y8 y9 y10 y11 y12
      unfold trammellaw16_IvlWidens.j3
      repeat' first
      | (with_reducible exact ih0 _ _ _ _)
      | (with_reducible exact ih1 _ _ _ _ _ _ _ _)
      | (with_reducible exact ih2 _ _ _ _ _ _ _ _ _)
      | (with_reducible exact ih3 _ _ _ _ _ _ _ _ _ _ _ _ _)
      | (with_reducible exact LeO.refl _)
      | (with_reducible exact LeO.none _)
      | (with_reducible refine LeO.ite ?_ ?_)
      | (with_reducible refine LeO.bind ?_ (fun _ => ?_))
      | exact ih0 _ _ _ _
      | exact ih1 _ _ _ _ _ _ _ _
      | exact ih2 _ _ _ _ _ _ _ _ _
      | exact ih3 _ _ _ _ _ _ _ _ _ _ _ _ _
      | exact LeO.none _
      | refine LeO.ite ?_ ?_
      | refine LeO.bind ?_ (fun _ => ?_)
theorem trammellaw16_IvlWidens.mono : ∀ a0 a1 a2 a3 k, LeO (trammellaw16_IvlWidens.f k a0 a1 a2 a3) (trammellaw16_IvlWidens.f (k + 1) a0 a1 a2 a3) := by
  intro a0 a1 a2 a3 k
  obtain ⟨ih0, ih1, ih2, ih3⟩ := trammellaw16_IvlWidens.mono_l k
  unfold trammellaw16_IvlWidens.f
  repeat' first
      | (with_reducible exact ih0 _ _ _ _)
      | (with_reducible exact ih1 _ _ _ _ _ _ _ _)
      | (with_reducible exact ih2 _ _ _ _ _ _ _ _ _)
      | (with_reducible exact ih3 _ _ _ _ _ _ _ _ _ _ _ _ _)
      | (with_reducible exact LeO.refl _)
      | (with_reducible exact LeO.none _)
      | (with_reducible refine LeO.ite ?_ ?_)
      | (with_reducible refine LeO.bind ?_ (fun _ => ?_))
      | exact ih0 _ _ _ _
      | exact ih1 _ _ _ _ _ _ _ _
      | exact ih2 _ _ _ _ _ _ _ _ _
      | exact ih3 _ _ _ _ _ _ _ _ _ _ _ _ _
      | exact LeO.none _
      | refine LeO.ite ?_ ?_
      | refine LeO.bind ?_ (fun _ => ?_)
def trammellaw16_IvlWidens.T12 : Bool × List (List Nat × List Nat) := (true, [([], []), ([], []), ([0, 1], [0, 1]), ([2], [2]), ([], []), ([4], [4]), ([3, 5], [3, 5]), ([], []), ([], []), ([8], [8]), ([7, 9], [7, 9]), ([10], [10]), ([], []), ([12], [12]), ([11, 13], [11, 13]), ([6, 14], [6, 14]), ([], []), ([16, 15, 15, 0, 1, 2, 3, 4, 5, 6, 7, 8, 9, 10, 11, 12, 13, 14, 15, 16], [15, 16])])
def trammellaw16_IvlWidens.B12 : List Nat := [0, 0, 3, 7, 0, 16, 63, 0, 0, 256, 896, 1920, 0, 4096, 16256, 32767, 0, 131071]
theorem trammellaw16_IvlWidens.tab12 : rtab .any (opsOf Try.f4 12) = trammellaw16_IvlWidens.T12 := by kernel_rfl
theorem trammellaw16_IvlWidens.bits12 : waitsOk trammellaw16_IvlWidens.T12.2 trammellaw16_IvlWidens.B12 = true := by kernel_rfl
set_option maxHeartbeats 8000000 in
set_option maxRecDepth 100000 in
theorem trammellaw16_IvlWidens.calls (k : Nat) (a0 : Int) (a1 : Int) (A2 : Option Addr) (c2 : Nat) (l2 : List Int) (a3 : Bool) (r : Bool) (w : World) (hr2 : Kd.C (Kd.int .u64) w A2 l2.length l2) (hc2 : l2.length ≤ c2) (hr : r = true) (h : trammellaw16_IvlWidens.f k a0 a1 l2 a3 = some r) :
    Calls Try.prog 4 #[.int .u64 a0, .int .u64 a1, .slice A2 l2.length c2, .bool a3] w fun e w' => e = .returned (.bool r) ∧ Below w.heap.size w w' := by
  have hu25 := Try.underlying25
  have HR2 := Aside0.mk hr2
  have HC2 := Aside0.mk hc2
  clear hr2 hc2
  have HB := Aside0.mk (Below.refl w.heap.size w)
  have H : ((trammellaw16_awake.f).bind fun t136 => (if t136 = true then (if a3 = true then (trammellaw16_IvlWidens.j0 k a0 a1 l2 64) else (trammellaw16_IvlWidens.j0 k a0 a1 l2 32)) else (some false))) = some r := h
  clear h
  replace H := Option.bind_eq_some_iff.mp H
  obtain ⟨t136, A50, H⟩ := H
  replace H : (if t136 = true then (if a3 = true then (trammellaw16_IvlWidens.j0 k a0 a1 l2 64) else (trammellaw16_IvlWidens.j0 k a0 a1 l2 32)) else (some false)) = some r := H
  have A5 := Aside0.mk A50
  clear A50
  by_cases c6 : t136 = true
  · subst c6
    have H1 : (if a3 = true then (trammellaw16_IvlWidens.j0 k a0 a1 l2 64) else (trammellaw16_IvlWidens.j0 k a0 a1 l2 32)) = some r := by rw [if_pos rfl] at H; exact H
    clear H
    have H := H1
    clear H1
    have HC7 := Aside0.mk H
    clear H
    go_enter Try.func4, Try.ntmps4
    go_upto_if 18 with (first | ((with_reducible refine gate_callee (f := 9) rfl ?_); refine goesL_ (some 16) rfl rfl Try.func9 (by kernel_rfl) rfl #[] rfl (by (try simp only [List.map_toArray, List.map_cons, List.map_nil]); first | done | rfl | (simp only [List.length_drop, List.length_take]; rfl)) ?_; (with_reducible refine (trammellaw16_awake.calls  true _ A5.out).mono ?_); rintro e w8 ⟨rfl, hb⟩; refine ⟨_, rfl, ?_⟩; have n0_ := Aside0.mk (below_step (by repeat (first | (with_reducible first | exact HB.out | apply below_alloc | apply pw_below_drewN | apply below_drew1) | exact HB.out)) hb); clear HB; have HB := n0_; clear n0_; (try clear hb); (try clear hb2); (try clear hk); (try clear hi)))
    (try simp only [Act.put, List.setIfInBounds_toArray, List.set_cons_zero, List.set_cons_succ])
    go_cut [9] (fun v9 wc => ∃ (kq : Nat) (x9_6 : Int), v9 = .int .i64 x9_6 ∧ Aside0 (trammellaw16_IvlWidens.j0 kq a0 a1 l2 x9_6 = some r) ∧ Aside0 (kq ≤ k) ∧ Aside0 (Below w.heap.size w wc))
    case first =>
      have H := HC7.out
      clear HC7
      by_cases c9 : a3 = true
      · subst c9
        have H1 : (trammellaw16_IvlWidens.j0 k a0 a1 l2 64) = some r := by rw [if_pos rfl] at H; exact H
        clear H
        have H := H1
        clear H1
        have H' := Aside0.mk H
        clear H
        go_wp2
        go_meet
        case rel => exact ⟨_, (64), (by first | rfl | (simp; done) | (simp [*]; done)), H', ⟨by first | omega | exact Nat.le_refl _⟩, ⟨by repeat (first | (with_reducible first | exact HB.out | apply below_alloc | apply pw_below_drewN | apply below_drew1) | exact HB.out)⟩⟩
      · replace c9 := Bool.eq_false_iff.mpr c9
        subst c9
        have H1 : (trammellaw16_IvlWidens.j0 k a0 a1 l2 32) = some r := by rw [if_neg (show ¬ (false = true) by decide)] at H; exact H
        clear H
        have H := H1
        clear H1
        have H' := Aside0.mk H
        clear H
        go_wp2
        go_meet
        case rel => exact ⟨_, (32), (by first | rfl | (simp; done) | (simp [*]; done)), H', ⟨by first | omega | exact Nat.le_refl _⟩, ⟨by repeat (first | (with_reducible first | exact HB.out | apply below_alloc | apply pw_below_drewN | apply below_drew1) | exact HB.out)⟩⟩
    case rest =>
      clear HC7
      try clear c2
      try clear p2
      try clear c4
      try clear c6
      try clear c9
      obtain ⟨kq, x9_6, rfl, HA, HJ6, HB⟩ := hcut
      cases kq with
      | zero => exact absurd HA.out (by simp [trammellaw16_IvlWidens.j0])
      | succ kj6 =>
        have H := HA.out
        clear HA
        simp only [trammellaw16_IvlWidens.j0] at H
        replace H := Option.bind_eq_some_iff.mp H
        obtain ⟨⟨t137, t138⟩, A100, H⟩ := H
        replace H : ((trammellaw16_put.f (Go.bits .and .u64 a0 t138) (Go.bits .and .u64 a1 t138)).bind fun bt140 => (trammellaw16_IvlWidens.l0 kj6 l2 x9_6 0 0 t137 t138 bt140.1 bt140.2)) = some r := H
        have A10 := Aside0.mk A100
        clear A100
        replace H := Option.bind_eq_some_iff.mp H
        obtain ⟨⟨t140, t141⟩, A110, H⟩ := H
        replace H : (trammellaw16_IvlWidens.l0 kj6 l2 x9_6 0 0 t137 t138 t140 t141) = some r := H
        have A11 := Aside0.mk A110
        clear A110
        have H' := Aside0.mk H
        clear H
        go_wp2_with (first | ((with_reducible refine gate_callee (f := 13) rfl ?_); refine goesL_ (some 20) rfl rfl Try.func13 (by kernel_rfl) rfl #[.int .i64 x9_6] rfl (by (try simp only [List.map_toArray, List.map_cons, List.map_nil]); first | done | rfl | (simp only [List.length_drop, List.length_take]; rfl)) ?_; (with_reducible refine (ivl_All.calls x9_6 t137 t138 _ A10.out).mono ?_); rintro e w12 ⟨rfl, hb⟩; refine ⟨_, rfl, ?_⟩; have n0_ := Aside0.mk (below_step (by repeat (first | (with_reducible first | exact HB.out | apply below_alloc | apply pw_below_drewN | apply below_drew1) | exact HB.out)) hb); clear HB; have HB := n0_; clear n0_; (try clear hb); (try clear hb2); (try clear hk); (try clear hi)) | ((with_reducible refine gate_dst (N := 10) rfl ?_); refine box_event ?hg (N := 10) ?hd (cs := #[.int .u64 0, .int .u64 0]) (t := 25) ?hr ?_; (case hd => rfl); (case hg => rfl); (case hr => first | (go_simp; done) | (go_simp; rfl)); intro gb139 hg w13 hbox hb; have n0_ := Aside0.mk (below_step (by repeat (first | (with_reducible first | exact HB.out | apply below_alloc | apply pw_below_drewN | apply below_drew1) | exact HB.out)) hb); have n1_ := Aside0.mk (hbox); have n2_ := Aside0.mk ((by rw [hg]; exact (below_size (by repeat (first | (with_reducible first | exact HB.out | apply below_alloc | apply pw_below_drewN | apply below_drew1) | exact HB.out))) : w.heap.size ≤ gb139)); have n3_ := Aside0.mk ((by rw [hg]; exact (below_size (by repeat (first | (with_reducible first | exact HB.out | apply below_alloc | apply pw_below_drewN | apply below_drew1) | exact HB.out))) : w.heap.size ≤ gb139)); clear HB; have HB := n0_; have BK139 := n1_; have GW139 := n2_; have GE139 := n3_; clear n0_ n1_ n2_ n3_; clear hb hbox hg; have hcz14_0 : w13.cell? ⟨gb139, 0, none⟩ = some (.int .u64 0) := (blk_cell BK139.out 0).trans rfl; have hcz14_1 : w13.cell? ⟨gb139, 1, none⟩ = some (.int .u64 0) := (blk_cell BK139.out 1).trans rfl; have hfz14_0 := blk_frozen BK139.out 0; have hfz14_1 := blk_frozen BK139.out 1) | ((with_reducible refine gate_callee (f := 10) rfl ?_); refine goesL_ (some 29) rfl rfl Try.func10 (by kernel_rfl) rfl #[.int .u64 (Go.bits .and .u64 a0 t138), .int .u64 (Go.bits .and .u64 a1 t138)] rfl (by (try simp only [List.map_toArray, List.map_cons, List.map_nil]); first | done | rfl | (simp only [List.length_drop, List.length_take]; rfl)) ?_; (with_reducible refine (trammellaw16_put.calls (Go.bits .and .u64 a0 t138) (Go.bits .and .u64 a1 t138) t140 t141 _ A11.out).mono ?_); rintro e w15 ⟨rfl, hb⟩; refine ⟨_, rfl, ?_⟩; have n0_ := Aside0.mk (blk_below (g := gb139) (o := .cells #[.int .u64 t137, .int .u64 t138] 25 (0, 0)) (by (with_reducible repeat (first | refine blk_drewN ?_ _ | refine blk_drew ?_ | refine blk_alloc ?_ _)); refine blk_put (cs := #[.int .u64 t137, .int .u64 0]) ?_ 1 _ rfl; (with_reducible repeat (first | refine blk_drewN ?_ _ | refine blk_drew ?_ | refine blk_alloc ?_ _)); refine blk_put (cs := #[.int .u64 0, .int .u64 0]) ?_ 0 _ rfl; (with_reducible repeat (first | refine blk_drewN ?_ _ | refine blk_drew ?_ | refine blk_alloc ?_ _)); exact BK139.out) hb); have n1_ := Aside0.mk (below_step (by repeat (first | (with_reducible first | exact HB.out | apply below_alloc | apply pw_below_drewN | apply below_drew1 | refine below_set ?_ GE139.out) | exact HB.out)) hb); clear BK139; clear HB; have BK139 := n0_; have HB := n1_; clear n0_ n1_; (try clear hb); (try clear hb2); (try clear hk); (try clear hi)) | ((with_reducible refine gate_dst (N := 11) rfl ?_); refine box_event ?hg (N := 11) ?hd (cs := #[.int .u64 0, .int .u64 0]) (t := 25) ?hr ?_; (case hd => rfl); (case hg => rfl); (case hr => first | (go_simp; done) | (go_simp; rfl)); intro gb142 hg w16 hbox hb; have n0_ := Aside0.mk (blk_below (g := gb139) (o := .cells #[.int .u64 t137, .int .u64 t138] 25 (0, 0)) (by (with_reducible repeat (first | refine blk_drewN ?_ _ | refine blk_drew ?_ | refine blk_alloc ?_ _)); exact BK139.out) hb); have n1_ := Aside0.mk (below_step (by repeat (first | (with_reducible first | exact HB.out | apply below_alloc | apply pw_below_drewN | apply below_drew1 | refine below_set ?_ GE139.out) | exact HB.out)) hb); have n2_ := Aside0.mk (hbox); have n3_ := Aside0.mk ((by rw [hg]; exact (below_size (by repeat (first | (with_reducible first | exact HB.out | apply below_alloc | apply pw_below_drewN | apply below_drew1 | refine below_set ?_ GE139.out) | exact HB.out))) : w.heap.size ≤ gb142)); have n4_ := Aside0.mk ((by rw [hg]; exact (below_size (by repeat (first | (with_reducible first | exact HB.out | apply below_alloc | apply pw_below_drewN | apply below_drew1 | refine below_set ?_ GE139.out) | exact HB.out))) : w.heap.size ≤ gb142)); have n5_ := Aside0.mk ((by rw [hg]; exact Nat.ne_of_lt (blk_lt (g := gb139) (o := .cells #[.int .u64 t137, .int .u64 t138] 25 (0, 0)) (by (with_reducible repeat (first | refine blk_drewN ?_ _ | refine blk_drew ?_ | refine blk_alloc ?_ _)); exact BK139.out)) : gb139 ≠ gb142)); have n6_ := Aside0.mk ((by rw [hg]; exact Nat.ne_of_gt (blk_lt (g := gb139) (o := .cells #[.int .u64 t137, .int .u64 t138] 25 (0, 0)) (by (with_reducible repeat (first | refine blk_drewN ?_ _ | refine blk_drew ?_ | refine blk_alloc ?_ _)); exact BK139.out)) : gb142 ≠ gb139)); clear BK139; clear HB; have BK139 := n0_; have HB := n1_; have BK142 := n2_; have GW142 := n3_; have GE142 := n4_; have NB139_142 := n5_; have NB142_139 := n6_; clear n0_ n1_ n2_ n3_ n4_ n5_ n6_; clear hb hbox hg; have hnb17 := NB142_139.out; have hnc17 := NB139_142.out; have hcz18_0 : w16.cell? ⟨gb142, 0, none⟩ = some (.int .u64 0) := (blk_cell BK142.out 0).trans rfl; have hcz18_1 : w16.cell? ⟨gb142, 1, none⟩ = some (.int .u64 0) := (blk_cell BK142.out 1).trans rfl; have hfz18_0 := blk_frozen BK142.out 0; have hfz18_1 := blk_frozen BK142.out 1))
        go_loopg [12, 13] kj6 (fun kq v12 v13 w' => ∃ (x12_2 : Int) (x13_2 : Int) (x143000_2 : Int) (x143001_2 : Int), v12 = .int .i64 x12_2 ∧ v13 = .int .i64 x13_2 ∧ Aside0 (trammellaw16_IvlWidens.l0 kq l2 x9_6 x12_2 x13_2 t137 t138 x143000_2 x143001_2 = some r) ∧ Aside0 (kq ≤ kj6) ∧ Aside0 (w'.heap[gb139]? = some (.cells #[.int .u64 t137, .int .u64 t138] 25 (0, 0))) ∧ Aside0 (w'.heap[gb142]? = some (.cells #[.int .u64 x143000_2, .int .u64 x143001_2] 25 (0, 0))) ∧ Aside0 (Below w.heap.size w w'))
        case atStart => exact ⟨(0), (0), (t140), (t141), (by first | rfl | (simp; done) | (simp [*]; done)), (by first | rfl | (simp; done) | (simp [*]; done)), H', ⟨Nat.le_refl _⟩, ⟨by (with_reducible repeat (first | refine blk_drewN ?_ _ | refine blk_drew ?_ | refine blk_alloc ?_ _)); refine blk_far ?_ NB139_142.out _; (with_reducible repeat (first | refine blk_drewN ?_ _ | refine blk_drew ?_ | refine blk_alloc ?_ _)); refine blk_far ?_ NB139_142.out _; (with_reducible repeat (first | refine blk_drewN ?_ _ | refine blk_drew ?_ | refine blk_alloc ?_ _)); exact BK139.out⟩, ⟨by (with_reducible repeat (first | refine blk_drewN ?_ _ | refine blk_drew ?_ | refine blk_alloc ?_ _)); refine blk_put (cs := #[.int .u64 t140, .int .u64 0]) ?_ 1 _ rfl; (with_reducible repeat (first | refine blk_drewN ?_ _ | refine blk_drew ?_ | refine blk_alloc ?_ _)); refine blk_put (cs := #[.int .u64 0, .int .u64 0]) ?_ 0 _ rfl; (with_reducible repeat (first | refine blk_drewN ?_ _ | refine blk_drew ?_ | refine blk_alloc ?_ _)); exact BK142.out⟩, ⟨by repeat (first | (with_reducible first | exact HB.out | apply below_alloc | apply pw_below_drewN | apply below_drew1 | refine below_set ?_ GE139.out | refine below_set ?_ GE142.out) | exact HB.out)⟩⟩
        case round =>
          clear H'
          try clear c1
          try clear c2
          try clear p2
          try clear c4
          try clear c6
          try clear c9
          try clear c10
          try clear c13
          try clear c17
          try clear hcz14_0
          try clear hcz14_1
          try clear hcz18_0
          try clear hcz18_1
          try clear hfz14_0
          try clear hfz14_1
          try clear hfz18_0
          try clear hfz18_1
          try clear p2
          obtain ⟨x12_2, x13_2, x143000_2, x143001_2, rfl, rfl, HA, HK2, BK139, BK142, HB⟩ := hrel
          cases gk with
          | zero => exact absurd HA.out (by simp [trammellaw16_IvlWidens.l0])
          | succ k2 =>
            have H := HA.out
            clear HA
            simp only [trammellaw16_IvlWidens.l0] at H
            have HC19 := Aside0.mk H
            clear H
            go_upto_region 10 with (fail)
            go_cut [38] (fun v38 wc => ∃ (kq : Nat) (x38_18 : Bool), v38 = .bool x38_18 ∧ Aside0 (trammellaw16_IvlWidens.j2 kq l2 x9_6 x12_2 x13_2 x38_18 t137 t138 x143000_2 x143001_2 = some r) ∧ Aside0 (kq ≤ k2) ∧ Aside0 (wc.heap[gb139]? = some (.cells #[.int .u64 t137, .int .u64 t138] 25 (0, 0))) ∧ Aside0 (wc.heap[gb142]? = some (.cells #[.int .u64 x143000_2, .int .u64 x143001_2] 25 (0, 0))) ∧ Aside0 (Below w.heap.size w wc))
            case first =>
              have H := HC19.out
              clear HC19
              by_cases c20 : (wrap64 (x13_2 + 1)) < (l2.length : Int)
              · rw [if_pos c20] at H
                have c20b0 : decide ((wrap64 (x13_2 + 1)) < (l2.length : Int)) = true := decide_eq_true c20
                clear c20
                (first | rw [c20b0] | (simp only [i64_w, i32_w]; rw [c20b0]) | skip)
                have H' := Aside0.mk H
                clear H
                go_wp2
                go_meet
                case rel => exact ⟨_, (decide (x13_2 < 40)), (by first | rfl | (simp; done) | (simp [*]; done)), H', ⟨by have := HJ6.out; have := HK2.out; first | omega | exact Nat.le_refl _⟩, ⟨by (with_reducible repeat (first | refine blk_drewN ?_ _ | refine blk_drew ?_ | refine blk_alloc ?_ _)); exact BK139.out⟩, ⟨by (with_reducible repeat (first | refine blk_drewN ?_ _ | refine blk_drew ?_ | refine blk_alloc ?_ _)); exact BK142.out⟩, ⟨by repeat (first | (with_reducible first | exact HB.out | apply below_alloc | apply pw_below_drewN | apply below_drew1 | refine below_set ?_ GE139.out | refine below_set ?_ GE142.out) | exact HB.out)⟩⟩
              · rw [if_neg c20] at H
                have c20b0 : decide ((wrap64 (x13_2 + 1)) < (l2.length : Int)) = false := decide_eq_false c20
                clear c20
                (first | rw [c20b0] | (simp only [i64_w, i32_w]; rw [c20b0]) | skip)
                have H' := Aside0.mk H
                clear H
                go_wp2
                go_meet
                case rel => exact ⟨_, (false), (by first | rfl | (simp; done) | (simp [*]; done)), H', ⟨by have := HJ6.out; have := HK2.out; first | omega | exact Nat.le_refl _⟩, ⟨by (with_reducible repeat (first | refine blk_drewN ?_ _ | refine blk_drew ?_ | refine blk_alloc ?_ _)); exact BK139.out⟩, ⟨by (with_reducible repeat (first | refine blk_drewN ?_ _ | refine blk_drew ?_ | refine blk_alloc ?_ _)); exact BK142.out⟩, ⟨by repeat (first | (with_reducible first | exact HB.out | apply below_alloc | apply pw_below_drewN | apply below_drew1 | refine below_set ?_ GE139.out | refine below_set ?_ GE142.out) | exact HB.out)⟩⟩
            case rest =>
              clear HC19
              try clear c1
              try clear c2
              try clear p2
              try clear c4
              try clear c6
              try clear p6
              try clear c9
              try clear c10
              try clear c13
              try clear c17
              try clear c20
              try clear c20b0
              try clear hcz14_0
              try clear hcz14_1
              try clear hcz18_0
              try clear hcz18_1
              try clear hfz14_0
              try clear hfz14_1
              try clear hfz18_0
              try clear hfz18_1
              try clear p2
              obtain ⟨kq, x38_18, rfl, HA, HJ18, BK139, BK142, HB⟩ := hcut
              cases kq with
              | zero => exact absurd HA.out (by simp [trammellaw16_IvlWidens.j2])
              | succ kj18 =>
                have H := HA.out
                clear HA
                simp only [trammellaw16_IvlWidens.j2] at H
                by_cases c21 : x38_18 = true
                · subst c21
                  have H1 : (if 0 ≤ x13_2 then (if x13_2 < (l2.length : Int) then (if 0 ≤ (wrap64 (x13_2 + 1)) then (if (wrap64 (x13_2 + 1)) < (l2.length : Int) then ((trammellaw16_put.f (Go.bits .and .u64 (rd l2 x13_2) t138) (Go.bits .and .u64 (rd l2 (wrap64 (x13_2 + 1))) t138)).bind fun bt145 => ((ivl_Widen.f x143000_2 x143001_2 bt145.1 bt145.2 x9_6).bind fun bt148 => ((ivl_Within.f x143000_2 x143001_2 bt148.1 bt148.2).bind fun t151 => (if t151 = true then ((ivl_Within.f bt145.1 bt145.2 bt148.1 bt148.2).bind fun t152 => (if t152 = true then ((ivl_Within.f bt148.1 bt148.2 t137 t138).bind fun t153 => (trammellaw16_IvlWidens.j3 kj18 l2 x9_6 x12_2 x13_2 (!t153) t137 t138 x143000_2 x143001_2 bt145.1 bt145.2 bt148.1 bt148.2)) else (trammellaw16_IvlWidens.j3 kj18 l2 x9_6 x12_2 x13_2 true t137 t138 x143000_2 x143001_2 bt145.1 bt145.2 bt148.1 bt148.2))) else (trammellaw16_IvlWidens.j3 kj18 l2 x9_6 x12_2 x13_2 true t137 t138 x143000_2 x143001_2 bt145.1 bt145.2 bt148.1 bt148.2))))) else (none)) else (none)) else (none)) else (none)) = some r := by rw [if_pos rfl] at H; exact H
                  clear H
                  have H := H1
                  clear H1
                  by_cases c22 : 0 ≤ x13_2
                  · rw [if_pos c22] at H
                    have c22b0 : decide (0 ≤ x13_2) = true := decide_eq_true c22
                    clear c22
                    by_cases c23 : x13_2 < (l2.length : Int)
                    · rw [if_pos c23] at H
                      have c23b0 : decide (x13_2 < (l2.length : Int)) = true := decide_eq_true c23
                      clear c23
                      obtain ⟨ji24, hji24⟩ : ∃ j_ : Int, (wrap64 (x13_2 + 1)) = j_ := ⟨_, rfl⟩
                      replace H : (if 0 ≤ (ji24) then (if (ji24) < (l2.length : Int) then ((trammellaw16_put.f (Go.bits .and .u64 (rd l2 x13_2) t138) (Go.bits .and .u64 (rd l2 (ji24)) t138)).bind fun bt145 => ((ivl_Widen.f x143000_2 x143001_2 bt145.1 bt145.2 x9_6).bind fun bt148 => ((ivl_Within.f x143000_2 x143001_2 bt148.1 bt148.2).bind fun t151 => (if t151 = true then ((ivl_Within.f bt145.1 bt145.2 bt148.1 bt148.2).bind fun t152 => (if t152 = true then ((ivl_Within.f bt148.1 bt148.2 t137 t138).bind fun t153 => (trammellaw16_IvlWidens.j3 kj18 l2 x9_6 x12_2 x13_2 (!t153) t137 t138 x143000_2 x143001_2 bt145.1 bt145.2 bt148.1 bt148.2)) else (trammellaw16_IvlWidens.j3 kj18 l2 x9_6 x12_2 x13_2 true t137 t138 x143000_2 x143001_2 bt145.1 bt145.2 bt148.1 bt148.2))) else (trammellaw16_IvlWidens.j3 kj18 l2 x9_6 x12_2 x13_2 true t137 t138 x143000_2 x143001_2 bt145.1 bt145.2 bt148.1 bt148.2))))) else (none)) else (none)) = some r := by first | (rw [hji24] at H; exact H) | (simp only [hji24] at H ⊢; exact H)
                      have hji24w : (IntKind.i64.wrap (x13_2 + 1)) = ji24 := (i64_w _).trans hji24
                      by_cases c25 : 0 ≤ (ji24)
                      · rw [if_pos c25] at H
                        have c25b0 : decide (0 ≤ (ji24)) = true := decide_eq_true c25
                        clear c25
                        by_cases c26 : (ji24) < (l2.length : Int)
                        · rw [if_pos c26] at H
                          have c26b0 : decide ((ji24) < (l2.length : Int)) = true := decide_eq_true c26
                          clear c26
                          replace H := Option.bind_eq_some_iff.mp H
                          obtain ⟨⟨t145, t146⟩, A270, H⟩ := H
                          replace H : ((ivl_Widen.f x143000_2 x143001_2 t145 t146 x9_6).bind fun bt148 => ((ivl_Within.f x143000_2 x143001_2 bt148.1 bt148.2).bind fun t151 => (if t151 = true then ((ivl_Within.f t145 t146 bt148.1 bt148.2).bind fun t152 => (if t152 = true then ((ivl_Within.f bt148.1 bt148.2 t137 t138).bind fun t153 => (trammellaw16_IvlWidens.j3 kj18 l2 x9_6 x12_2 x13_2 (!t153) t137 t138 x143000_2 x143001_2 t145 t146 bt148.1 bt148.2)) else (trammellaw16_IvlWidens.j3 kj18 l2 x9_6 x12_2 x13_2 true t137 t138 x143000_2 x143001_2 t145 t146 bt148.1 bt148.2))) else (trammellaw16_IvlWidens.j3 kj18 l2 x9_6 x12_2 x13_2 true t137 t138 x143000_2 x143001_2 t145 t146 bt148.1 bt148.2)))) = some r := H
                          have A27 := Aside0.mk A270
                          clear A270
                          replace H := Option.bind_eq_some_iff.mp H
                          obtain ⟨⟨t148, t149⟩, A280, H⟩ := H
                          replace H : ((ivl_Within.f x143000_2 x143001_2 t148 t149).bind fun t151 => (if t151 = true then ((ivl_Within.f t145 t146 t148 t149).bind fun t152 => (if t152 = true then ((ivl_Within.f t148 t149 t137 t138).bind fun t153 => (trammellaw16_IvlWidens.j3 kj18 l2 x9_6 x12_2 x13_2 (!t153) t137 t138 x143000_2 x143001_2 t145 t146 t148 t149)) else (trammellaw16_IvlWidens.j3 kj18 l2 x9_6 x12_2 x13_2 true t137 t138 x143000_2 x143001_2 t145 t146 t148 t149))) else (trammellaw16_IvlWidens.j3 kj18 l2 x9_6 x12_2 x13_2 true t137 t138 x143000_2 x143001_2 t145 t146 t148 t149))) = some r := H
                          have A28 := Aside0.mk A280
                          clear A280
                          have HC29 := Aside0.mk H
                          clear H
                          try go_wp2
                          have n0_ := Aside0.mk (blk_drew BK139.out)
                          have n1_ := Aside0.mk (blk_drew BK142.out)
                          have n2_ := Aside0.mk (below_drew1 HB.out)
                          clear BK139
                          clear BK142
                          clear HB
                          have BK139 := n0_
                          have BK142 := n1_
                          have HB := n2_
                          clear n0_ n1_ n2_
                          have p143 : 0 ≤ (x13_2 : Int) := of_decide_eq_true (by first | (with_reducible assumption) | assumption)
                          have q143 : x13_2 < (l2.length : Int) := of_decide_eq_true (by first | (with_reducible assumption) | assumption)
                          obtain ⟨ad143, e143, hx143_0⟩ := Kd.at_int HR2.out x13_2 p143 q143
                          have hw143_0 := hx143_0
                          cases e143
                          replace hx143_0 := (HB.out.cell (World.block_lt_of_cell? w _ hx143_0)).trans hx143_0
                          replace p143 := eq_true p143
                          replace q143 := eq_true q143
                          have p144 : 0 ≤ ((ji24) : Int) := of_decide_eq_true (by first | (with_reducible assumption) | assumption)
                          have q144 : (ji24) < (l2.length : Int) := of_decide_eq_true (by first | (with_reducible assumption) | assumption)
                          obtain ⟨ad144, e144, hx144_0⟩ := Kd.at_int HR2.out (ji24) p144 q144
                          have hw144_0 := hx144_0
                          obtain rfl : ad143 = ad144 := (by injection e144)
                          replace hx144_0 := (HB.out.cell (World.block_lt_of_cell? w _ hx144_0)).trans hx144_0
                          replace p144 := eq_true p144
                          replace q144 := eq_true q144
                          refine start_ (n := 18) (S := fun w' => w'.cell? ⟨gb139, 0, none⟩ = some (.int .u64 t137) ∧ w'.cell? ⟨gb139, 1, none⟩ = some (.int .u64 t138) ∧ w'.cell? (ad143.add (x13_2).toNat) = some (.int .u64 (rd l2 x13_2)) ∧ w'.cell? (ad143.add ((ji24)).toNat) = some (.int .u64 (rd l2 (ji24)))) (ds := []) #[false, false, false, false, false, false, false, false, false, false, false, false, false, false, false, false, false, false] (by kernel_rfl) rfl rfl ⟨(blk_cell BK139.out 0).trans rfl, (blk_cell BK139.out 1).trans rfl, ((HB.out.cell (World.block_lt_of_cell? w _ hw143_0)).trans hw143_0), ((HB.out.cell (World.block_lt_of_cell? w _ hw144_0)).trans hw144_0)⟩ (fun hHeld => ?_); refine with_tabW trammellaw16_IvlWidens.tab12 trammellaw16_IvlWidens.bits12 (fun HT_ HW_ => ?_)
                          generalize wc.drew = w30 at BK139 BK142 HB hx143_0 hx144_0 hHeld ⊢
                          refine pure_ (i := 0) (N := some 41) (v := ?_) (a' := ?_) #[true, false, false, false, false, false, false, false, false, false, false, false, false, false, false, false, false, false] rfl rfl (any_of HT_.out (by kernel_rfl)) (fun _ _ _ h => h) (Or.inl ⟨by rfl, ?_⟩) ?_ ?_
                          rotate_left
                          · intro w'
                            go_simp
                            with_reducible rfl
                          rotate_left
                          · simp only [Act.put, List.setIfInBounds_toArray, List.set_cons_zero, List.set_cons_succ, i64_w, i32_w]
                            rfl
                          refine pure_ (i := 1) (N := some 42) (v := ?_) (a' := ?_) #[true, true, false, false, false, false, false, false, false, false, false, false, false, false, false, false, false, false] rfl rfl (any_of HT_.out (by kernel_rfl)) (fun _ _ _ h => h) (Or.inl ⟨by rfl, ?_⟩) ?_ ?_
                          rotate_left
                          · intro w'
                            go_simp
                            with_reducible rfl
                          rotate_left
                          · simp only [Act.put, List.setIfInBounds_toArray, List.set_cons_zero, List.set_cons_succ, i64_w, i32_w]
                            rfl
                          refine pure_ (i := 2) (N := some 43) (v := ?_) (a' := ?_) #[true, true, true, false, false, false, false, false, false, false, false, false, false, false, false, false, false, false] rfl rfl (any_of HT_.out (by kernel_rfl)) (fun _ _ _ h => h) (Or.inl ⟨by rfl, ?_⟩) ?_ ?_
                          rotate_left
                          · intro w'
                            go_simp
                            with_reducible rfl
                          rotate_left
                          · simp only [Act.put, List.setIfInBounds_toArray, List.set_cons_zero, List.set_cons_succ, i64_w, i32_w]
                            rfl
                          refine pure_ (i := 4) (N := some 45) (v := ?_) (a' := ?_) #[true, true, true, false, true, false, false, false, false, false, false, false, false, false, false, false, false, false] rfl rfl (any_of HT_.out (by kernel_rfl)) (fun _ _ _ h => h) (Or.inl ⟨by rfl, ?_⟩) ?_ ?_
                          rotate_left
                          · intro w'
                            go_simp
                            with_reducible rfl
                          rotate_left
                          · simp only [Act.put, List.setIfInBounds_toArray, List.set_cons_zero, List.set_cons_succ, i64_w, i32_w]
                            rfl
                          refine pure_ (i := 7) (N := some 48) (v := ?_) (a' := ?_) #[true, true, true, false, true, false, false, true, false, false, false, false, false, false, false, false, false, false] rfl rfl (any_of HT_.out (by kernel_rfl)) (fun _ _ _ h => h) (Or.inl ⟨by rfl, ?_⟩) ?_ ?_
                          rotate_left
                          · intro w'
                            go_simp
                            with_reducible rfl
                          rotate_left
                          · simp only [Act.put, List.setIfInBounds_toArray, List.set_cons_zero, List.set_cons_succ, i64_w, i32_w]
                            rfl
                          refine pure_ (i := 8) (N := some 49) (v := ?_) (a' := ?_) #[true, true, true, false, true, false, false, true, true, false, false, false, false, false, false, false, false, false] rfl rfl (any_of HT_.out (by kernel_rfl)) (fun _ _ _ h => h) (Or.inl ⟨by rfl, ?_⟩) ?_ ?_
                          rotate_left
                          · intro w'
                            go_simp
                            with_reducible rfl
                          rotate_left
                          · simp only [Act.put, List.setIfInBounds_toArray, List.set_cons_zero, List.set_cons_succ, i64_w, i32_w]
                            rfl
                          refine pure_ (i := 9) (N := some 50) (v := ?_) (a' := ?_) #[true, true, true, false, true, false, false, true, true, true, false, false, false, false, false, false, false, false] rfl rfl (any_of HT_.out (by kernel_rfl)) (fun _ _ _ h => h) (Or.inl ⟨by rfl, ?_⟩) ?_ ?_
                          rotate_left
                          · intro w'
                            go_simp
                            with_reducible rfl
                          rotate_left
                          · simp only [Act.put, List.setIfInBounds_toArray, List.set_cons_zero, List.set_cons_succ, i64_w, i32_w]
                            rfl
                          refine pure_ (i := 10) (N := some 51) (v := ?_) (a' := ?_) #[true, true, true, false, true, false, false, true, true, true, true, false, false, false, false, false, false, false] rfl rfl (any_of HT_.out (by kernel_rfl)) (fun _ _ _ h => h) (Or.inl ⟨by rfl, ?_⟩) ?_ ?_
                          rotate_left
                          · intro w'
                            go_simp
                            with_reducible rfl
                          rotate_left
                          · simp only [Act.put, List.setIfInBounds_toArray, List.set_cons_zero, List.set_cons_succ, i64_w, i32_w]
                            rfl
                          refine pure_ (i := 12) (N := some 53) (v := ?_) (a' := ?_) #[true, true, true, false, true, false, false, true, true, true, true, false, true, false, false, false, false, false] rfl rfl (any_of HT_.out (by kernel_rfl)) (fun _ _ _ h => h) (Or.inl ⟨by rfl, ?_⟩) ?_ ?_
                          rotate_left
                          · intro w'
                            go_simp
                            with_reducible rfl
                          rotate_left
                          · simp only [Act.put, List.setIfInBounds_toArray, List.set_cons_zero, List.set_cons_succ, i64_w, i32_w]
                            rfl
                          refine take_ (i := 3) (N := some 44) (v := ?_) (a' := ?_) #[true, true, true, true, true, false, false, true, true, true, true, false, true, false, false, false, false, false] rfl rfl (take_ofW HT_.out HW_.out (by kernel_rfl)) (fun _ _ _ h => h) (Or.inl ⟨by rfl, ?_⟩) hHeld ?_ ?_
                          rotate_left
                          · rintro w' ⟨s0, s1, s2, s3⟩
                            go_simp
                            with_reducible rfl
                          rotate_left
                          · simp only [Act.put, List.setIfInBounds_toArray, List.set_cons_zero, List.set_cons_succ, i64_w, i32_w]
                            rfl
                          refine take_ (i := 5) (N := some 46) (v := ?_) (a' := ?_) #[true, true, true, true, true, true, false, true, true, true, true, false, true, false, false, false, false, false] rfl rfl (take_ofW HT_.out HW_.out (by kernel_rfl)) (fun _ _ _ h => h) (Or.inl ⟨by rfl, ?_⟩) hHeld ?_ ?_
                          rotate_left
                          · rintro w' ⟨s0, s1, s2, s3⟩
                            go_simp
                            with_reducible rfl
                          rotate_left
                          · simp only [Act.put, List.setIfInBounds_toArray, List.set_cons_zero, List.set_cons_succ, i64_w, i32_w]
                            rfl
                          refine pure_ (i := 6) (N := some 47) (v := ?_) (a' := ?_) #[true, true, true, true, true, true, true, true, true, true, true, false, true, false, false, false, false, false] rfl rfl (any_of HT_.out (by kernel_rfl)) (fun _ _ _ h => h) (Or.inl ⟨by rfl, ?_⟩) ?_ ?_
                          rotate_left
                          · intro w'
                            go_simp
                            with_reducible rfl
                          rotate_left
                          · simp only [Act.put, List.setIfInBounds_toArray, List.set_cons_zero, List.set_cons_succ, i64_w, i32_w]
                            rfl
                          refine take_ (i := 11) (N := some 52) (v := ?_) (a' := ?_) #[true, true, true, true, true, true, true, true, true, true, true, true, true, false, false, false, false, false] rfl rfl (take_ofW HT_.out HW_.out (by kernel_rfl)) (fun _ _ _ h => h) (Or.inl ⟨by rfl, ?_⟩) hHeld ?_ ?_
                          rotate_left
                          · rintro w' ⟨s0, s1, s2, s3⟩
                            go_simp
                            with_reducible rfl
                          rotate_left
                          · simp only [Act.put, List.setIfInBounds_toArray, List.set_cons_zero, List.set_cons_succ, i64_w, i32_w]
                            rfl
                          refine take_ (i := 13) (N := some 54) (v := ?_) (a' := ?_) #[true, true, true, true, true, true, true, true, true, true, true, true, true, true, false, false, false, false] rfl rfl (take_ofW HT_.out HW_.out (by kernel_rfl)) (fun _ _ _ h => h) (Or.inl ⟨by rfl, ?_⟩) hHeld ?_ ?_
                          rotate_left
                          · rintro w' ⟨s0, s1, s2, s3⟩
                            go_simp
                            with_reducible rfl
                          rotate_left
                          · simp only [Act.put, List.setIfInBounds_toArray, List.set_cons_zero, List.set_cons_succ, i64_w, i32_w]
                            rfl
                          refine pure_ (i := 14) (N := some 55) (v := ?_) (a' := ?_) #[true, true, true, true, true, true, true, true, true, true, true, true, true, true, true, false, false, false] rfl rfl (any_of HT_.out (by kernel_rfl)) (fun _ _ _ h => h) (Or.inl ⟨by rfl, ?_⟩) ?_ ?_
                          rotate_left
                          · intro w'
                            go_simp
                            with_reducible rfl
                          rotate_left
                          · simp only [Act.put, List.setIfInBounds_toArray, List.set_cons_zero, List.set_cons_succ, i64_w, i32_w]
                            rfl
                          refine join_ (σ := Nat) 1 #[true, true, true, true, true, true, true, true, true, true, true, true, true, true, true, true, true, false] (fun s_ => [(56, .agg #[.int .u64 t145, .int .u64 t146]), (14, .pointer (some ⟨s_, 0, none⟩))]) (fun s_ w' => (w'.cell? ⟨gb139, 0, none⟩ = some (.int .u64 t137) ∧ w'.cell? ⟨gb139, 1, none⟩ = some (.int .u64 t138) ∧ w'.cell? (ad143.add (x13_2).toNat) = some (.int .u64 (rd l2 x13_2)) ∧ w'.cell? (ad143.add ((ji24)).toNat) = some (.int .u64 (rd l2 (ji24)))) ∧ (w'.heap[gb139]? = some (.cells #[.int .u64 t137, .int .u64 t138] 25 (0, 0))) ∧ (w'.heap[gb142]? = some (.cells #[.int .u64 x143000_2, .int .u64 x143001_2] 25 (0, 0))) ∧ (w'.heap[s_]? = some (.cells #[.int .u64 0, .int .u64 0] 25 (0, 0))) ∧ (w.heap.size ≤ s_) ∧ (w.heap.size ≤ s_) ∧ (gb139 ≠ s_) ∧ (s_ ≠ gb139) ∧ (gb142 ≠ s_) ∧ (s_ ≠ gb142) ∧ (Below w.heap.size w w')) ?_ ?_
                          rotate_left
                          · intro hCont
                            refine two_ (i := 15) (j := 16) (Ni := some 56) (Nj := some 14) #[true, true, true, true, true, true, true, true, true, true, true, true, true, true, true, true, false, false] #[true, true, true, true, true, true, true, true, true, true, true, true, true, true, true, false, true, false] rfl rfl rfl rfl (two_of HT_.out (by kernel_rfl)) (by decide) (by decide) (fun K hK => ?_) (fun K hK => ?_)
                            · skip
                              refine goes_ Try.func10 (by kernel_rfl) rfl #[.int .u64 (Go.bits .and .u64 (rd l2 x13_2) t138), .int .u64 (Go.bits .and .u64 (rd l2 (ji24)) t138)] (by rfl) rfl rfl (by (try simp only [List.map_toArray, List.map_cons, List.map_nil]); first | done | (simp only [hji24]; rfl) | rfl | (simp only [List.length_drop, List.length_take]; rfl)) ?_
                              with_reducible refine (trammellaw16_put.calls (Go.bits .and .u64 (rd l2 x13_2) t138) (Go.bits .and .u64 (rd l2 (ji24)) t138) t145 t146 _ A27.out).mono ?_
                              rintro e w31 ⟨rfl, hb⟩
                              refine ⟨_, rfl, ?_⟩
                              have n0_ := Aside0.mk (blk_below (g := gb139) (o := .cells #[.int .u64 t137, .int .u64 t138] 25 (0, 0)) (by (with_reducible repeat (first | refine blk_drewN ?_ _ | refine blk_drew ?_ | refine blk_alloc ?_ _)); exact BK139.out) hb)
                              have n1_ := Aside0.mk (blk_below (g := gb142) (o := .cells #[.int .u64 x143000_2, .int .u64 x143001_2] 25 (0, 0)) (by (with_reducible repeat (first | refine blk_drewN ?_ _ | refine blk_drew ?_ | refine blk_alloc ?_ _)); exact BK142.out) hb)
                              have n2_ := Aside0.mk (below_step (by repeat (first | (with_reducible first | exact HB.out | apply below_alloc | apply pw_below_drewN | apply below_drew1 | refine below_set ?_ GE139.out | refine below_set ?_ GE142.out) | exact HB.out)) hb)
                              clear BK139
                              clear BK142
                              clear HB
                              have BK139 := n0_
                              have BK142 := n1_
                              have HB := n2_
                              clear n0_ n1_ n2_
                              (try clear hb)
                              (try clear hb2)
                              (try clear hk)
                              (try clear hi)
                              refine hK.out _ _ ⟨(blk_cell BK139.out 0).trans rfl, (blk_cell BK139.out 1).trans rfl, ((HB.out.cell (World.block_lt_of_cell? w _ hw143_0)).trans hw143_0), ((HB.out.cell (World.block_lt_of_cell? w _ hw144_0)).trans hw144_0)⟩ (fun hHeld => ?_)
                              clear hK K
                              refine norm_ (a' := ?_) ?_ ?_
                              rotate_left
                              · show Act.put _ (some 56) _ = _
                                simp only [Act.put, List.setIfInBounds_toArray, List.set_cons_zero, List.set_cons_succ, i64_w, i32_w]
                                rfl
                              refine one_ (i := 16) (N := some 14) #[true, true, true, true, true, true, true, true, true, true, true, true, true, true, true, true, true, false] rfl rfl (one_of HT_.out (by kernel_rfl)) (by decide) (fun K hK => ?_)
                              refine box_step ?hg (N := 14) ?hd (cs := #[.int .u64 0, .int .u64 0]) (t := 25) ?hr ?_; (case hd => rfl); (case hg => rfl); (case hr => first | (go_simp; done) | (go_simp; rfl))
                              intro gb147 hg w32 hbox hb
                              have n0_ := Aside0.mk (blk_below (g := gb139) (o := .cells #[.int .u64 t137, .int .u64 t138] 25 (0, 0)) (by (with_reducible repeat (first | refine blk_drewN ?_ _ | refine blk_drew ?_ | refine blk_alloc ?_ _)); exact BK139.out) hb)
                              have n1_ := Aside0.mk (blk_below (g := gb142) (o := .cells #[.int .u64 x143000_2, .int .u64 x143001_2] 25 (0, 0)) (by (with_reducible repeat (first | refine blk_drewN ?_ _ | refine blk_drew ?_ | refine blk_alloc ?_ _)); exact BK142.out) hb)
                              have n2_ := Aside0.mk (below_step (by repeat (first | (with_reducible first | exact HB.out | apply below_alloc | apply pw_below_drewN | apply below_drew1 | refine below_set ?_ GE139.out | refine below_set ?_ GE142.out) | exact HB.out)) hb)
                              have n3_ := Aside0.mk (hbox)
                              have n4_ := Aside0.mk ((by rw [hg]; exact (below_size (by repeat (first | (with_reducible first | exact HB.out | apply below_alloc | apply pw_below_drewN | apply below_drew1 | refine below_set ?_ GE139.out | refine below_set ?_ GE142.out) | exact HB.out))) : w.heap.size ≤ gb147))
                              have n5_ := Aside0.mk ((by rw [hg]; exact (below_size (by repeat (first | (with_reducible first | exact HB.out | apply below_alloc | apply pw_below_drewN | apply below_drew1 | refine below_set ?_ GE139.out | refine below_set ?_ GE142.out) | exact HB.out))) : w.heap.size ≤ gb147))
                              have n6_ := Aside0.mk ((by rw [hg]; exact Nat.ne_of_lt (blk_lt (g := gb139) (o := .cells #[.int .u64 t137, .int .u64 t138] 25 (0, 0)) (by (with_reducible repeat (first | refine blk_drewN ?_ _ | refine blk_drew ?_ | refine blk_alloc ?_ _)); exact BK139.out)) : gb139 ≠ gb147))
                              have n7_ := Aside0.mk ((by rw [hg]; exact Nat.ne_of_gt (blk_lt (g := gb139) (o := .cells #[.int .u64 t137, .int .u64 t138] 25 (0, 0)) (by (with_reducible repeat (first | refine blk_drewN ?_ _ | refine blk_drew ?_ | refine blk_alloc ?_ _)); exact BK139.out)) : gb147 ≠ gb139))
                              have n8_ := Aside0.mk ((by rw [hg]; exact Nat.ne_of_lt (blk_lt (g := gb142) (o := .cells #[.int .u64 x143000_2, .int .u64 x143001_2] 25 (0, 0)) (by (with_reducible repeat (first | refine blk_drewN ?_ _ | refine blk_drew ?_ | refine blk_alloc ?_ _)); exact BK142.out)) : gb142 ≠ gb147))
                              have n9_ := Aside0.mk ((by rw [hg]; exact Nat.ne_of_gt (blk_lt (g := gb142) (o := .cells #[.int .u64 x143000_2, .int .u64 x143001_2] 25 (0, 0)) (by (with_reducible repeat (first | refine blk_drewN ?_ _ | refine blk_drew ?_ | refine blk_alloc ?_ _)); exact BK142.out)) : gb147 ≠ gb142))
                              clear BK139
                              clear BK142
                              clear HB
                              have BK139 := n0_
                              have BK142 := n1_
                              have HB := n2_
                              have BK147 := n3_
                              have GW147 := n4_
                              have GE147 := n5_
                              have NB139_147 := n6_
                              have NB147_139 := n7_
                              have NB142_147 := n8_
                              have NB147_142 := n9_
                              clear n0_ n1_ n2_ n3_ n4_ n5_ n6_ n7_ n8_ n9_
                              clear hb hbox hg
                              refine hK.out _ _ ⟨(blk_cell BK139.out 0).trans rfl, (blk_cell BK139.out 1).trans rfl, ((HB.out.cell (World.block_lt_of_cell? w _ hw143_0)).trans hw143_0), ((HB.out.cell (World.block_lt_of_cell? w _ hw144_0)).trans hw144_0)⟩ (fun hHeld => ?_)
                              clear hK K
                              refine norm_ (a' := ?_) ?_ ?_
                              rotate_left
                              · show Act.put _ (some 14) _ = _
                                simp only [Act.put, List.setIfInBounds_toArray, List.set_cons_zero, List.set_cons_succ, i64_w, i32_w]
                                rfl
                              exact norm_ (by simp only [putAll, Act.put, List.setIfInBounds_toArray, List.set_cons_zero, List.set_cons_succ]) (hCont (gb147) _ ⟨hHeld, (by (with_reducible repeat (first | refine blk_drewN ?_ _ | refine blk_drew ?_ | refine blk_alloc ?_ _)); exact BK139.out), (by (with_reducible repeat (first | refine blk_drewN ?_ _ | refine blk_drew ?_ | refine blk_alloc ?_ _)); exact BK142.out), (by (with_reducible repeat (first | refine blk_drewN ?_ _ | refine blk_drew ?_ | refine blk_alloc ?_ _)); exact BK147.out), GW147.out, GE147.out, NB139_147.out, NB147_139.out, NB142_147.out, NB147_142.out, (by repeat (first | (with_reducible first | exact HB.out | apply below_alloc | apply pw_below_drewN | apply below_drew1 | refine below_set ?_ GE139.out | refine below_set ?_ GE142.out | refine below_set ?_ GE147.out) | exact HB.out))⟩)
                            · skip
                              refine box_step ?hg (N := 14) ?hd (cs := #[.int .u64 0, .int .u64 0]) (t := 25) ?hr ?_; (case hd => rfl); (case hg => rfl); (case hr => first | (go_simp; done) | (go_simp; rfl))
                              intro gb147 hg w31 hbox hb
                              have n0_ := Aside0.mk (blk_below (g := gb139) (o := .cells #[.int .u64 t137, .int .u64 t138] 25 (0, 0)) (by (with_reducible repeat (first | refine blk_drewN ?_ _ | refine blk_drew ?_ | refine blk_alloc ?_ _)); exact BK139.out) hb)
                              have n1_ := Aside0.mk (blk_below (g := gb142) (o := .cells #[.int .u64 x143000_2, .int .u64 x143001_2] 25 (0, 0)) (by (with_reducible repeat (first | refine blk_drewN ?_ _ | refine blk_drew ?_ | refine blk_alloc ?_ _)); exact BK142.out) hb)
                              have n2_ := Aside0.mk (below_step (by repeat (first | (with_reducible first | exact HB.out | apply below_alloc | apply pw_below_drewN | apply below_drew1 | refine below_set ?_ GE139.out | refine below_set ?_ GE142.out) | exact HB.out)) hb)
                              have n3_ := Aside0.mk (hbox)
                              have n4_ := Aside0.mk ((by rw [hg]; exact (below_size (by repeat (first | (with_reducible first | exact HB.out | apply below_alloc | apply pw_below_drewN | apply below_drew1 | refine below_set ?_ GE139.out | refine below_set ?_ GE142.out) | exact HB.out))) : w.heap.size ≤ gb147))
                              have n5_ := Aside0.mk ((by rw [hg]; exact (below_size (by repeat (first | (with_reducible first | exact HB.out | apply below_alloc | apply pw_below_drewN | apply below_drew1 | refine below_set ?_ GE139.out | refine below_set ?_ GE142.out) | exact HB.out))) : w.heap.size ≤ gb147))
                              have n6_ := Aside0.mk ((by rw [hg]; exact Nat.ne_of_lt (blk_lt (g := gb139) (o := .cells #[.int .u64 t137, .int .u64 t138] 25 (0, 0)) (by (with_reducible repeat (first | refine blk_drewN ?_ _ | refine blk_drew ?_ | refine blk_alloc ?_ _)); exact BK139.out)) : gb139 ≠ gb147))
                              have n7_ := Aside0.mk ((by rw [hg]; exact Nat.ne_of_gt (blk_lt (g := gb139) (o := .cells #[.int .u64 t137, .int .u64 t138] 25 (0, 0)) (by (with_reducible repeat (first | refine blk_drewN ?_ _ | refine blk_drew ?_ | refine blk_alloc ?_ _)); exact BK139.out)) : gb147 ≠ gb139))
                              have n8_ := Aside0.mk ((by rw [hg]; exact Nat.ne_of_lt (blk_lt (g := gb142) (o := .cells #[.int .u64 x143000_2, .int .u64 x143001_2] 25 (0, 0)) (by (with_reducible repeat (first | refine blk_drewN ?_ _ | refine blk_drew ?_ | refine blk_alloc ?_ _)); exact BK142.out)) : gb142 ≠ gb147))
                              have n9_ := Aside0.mk ((by rw [hg]; exact Nat.ne_of_gt (blk_lt (g := gb142) (o := .cells #[.int .u64 x143000_2, .int .u64 x143001_2] 25 (0, 0)) (by (with_reducible repeat (first | refine blk_drewN ?_ _ | refine blk_drew ?_ | refine blk_alloc ?_ _)); exact BK142.out)) : gb147 ≠ gb142))
                              clear BK139
                              clear BK142
                              clear HB
                              have BK139 := n0_
                              have BK142 := n1_
                              have HB := n2_
                              have BK147 := n3_
                              have GW147 := n4_
                              have GE147 := n5_
                              have NB139_147 := n6_
                              have NB147_139 := n7_
                              have NB142_147 := n8_
                              have NB147_142 := n9_
                              clear n0_ n1_ n2_ n3_ n4_ n5_ n6_ n7_ n8_ n9_
                              clear hb hbox hg
                              refine hK.out _ _ ⟨(blk_cell BK139.out 0).trans rfl, (blk_cell BK139.out 1).trans rfl, ((HB.out.cell (World.block_lt_of_cell? w _ hw143_0)).trans hw143_0), ((HB.out.cell (World.block_lt_of_cell? w _ hw144_0)).trans hw144_0)⟩ (fun hHeld => ?_)
                              clear hK K
                              refine norm_ (a' := ?_) ?_ ?_
                              rotate_left
                              · show Act.put _ (some 14) _ = _
                                simp only [Act.put, List.setIfInBounds_toArray, List.set_cons_zero, List.set_cons_succ, i64_w, i32_w]
                                rfl
                              refine one_ (i := 15) (N := some 56) #[true, true, true, true, true, true, true, true, true, true, true, true, true, true, true, true, true, false] rfl rfl (one_of HT_.out (by kernel_rfl)) (by decide) (fun K hK => ?_)
                              refine goes_ Try.func10 (by kernel_rfl) rfl #[.int .u64 (Go.bits .and .u64 (rd l2 x13_2) t138), .int .u64 (Go.bits .and .u64 (rd l2 (ji24)) t138)] (by rfl) rfl rfl (by (try simp only [List.map_toArray, List.map_cons, List.map_nil]); first | done | (simp only [hji24]; rfl) | rfl | (simp only [List.length_drop, List.length_take]; rfl)) ?_
                              with_reducible refine (trammellaw16_put.calls (Go.bits .and .u64 (rd l2 x13_2) t138) (Go.bits .and .u64 (rd l2 (ji24)) t138) t145 t146 _ A27.out).mono ?_
                              rintro e w32 ⟨rfl, hb⟩
                              refine ⟨_, rfl, ?_⟩
                              have n0_ := Aside0.mk (blk_below (g := gb139) (o := .cells #[.int .u64 t137, .int .u64 t138] 25 (0, 0)) (by (with_reducible repeat (first | refine blk_drewN ?_ _ | refine blk_drew ?_ | refine blk_alloc ?_ _)); exact BK139.out) hb)
                              have n1_ := Aside0.mk (blk_below (g := gb142) (o := .cells #[.int .u64 x143000_2, .int .u64 x143001_2] 25 (0, 0)) (by (with_reducible repeat (first | refine blk_drewN ?_ _ | refine blk_drew ?_ | refine blk_alloc ?_ _)); exact BK142.out) hb)
                              have n2_ := Aside0.mk (blk_below (g := gb147) (o := .cells #[.int .u64 0, .int .u64 0] 25 (0, 0)) (by (with_reducible repeat (first | refine blk_drewN ?_ _ | refine blk_drew ?_ | refine blk_alloc ?_ _)); exact BK147.out) hb)
                              have n3_ := Aside0.mk (below_step (by repeat (first | (with_reducible first | exact HB.out | apply below_alloc | apply pw_below_drewN | apply below_drew1 | refine below_set ?_ GE139.out | refine below_set ?_ GE142.out | refine below_set ?_ GE147.out) | exact HB.out)) hb)
                              clear BK139
                              clear BK142
                              clear BK147
                              clear HB
                              have BK139 := n0_
                              have BK142 := n1_
                              have BK147 := n2_
                              have HB := n3_
                              clear n0_ n1_ n2_ n3_
                              (try clear hb)
                              (try clear hb2)
                              (try clear hk)
                              (try clear hi)
                              refine hK.out _ _ ⟨(blk_cell BK139.out 0).trans rfl, (blk_cell BK139.out 1).trans rfl, ((HB.out.cell (World.block_lt_of_cell? w _ hw143_0)).trans hw143_0), ((HB.out.cell (World.block_lt_of_cell? w _ hw144_0)).trans hw144_0)⟩ (fun hHeld => ?_)
                              clear hK K
                              refine norm_ (a' := ?_) ?_ ?_
                              rotate_left
                              · show Act.put _ (some 56) _ = _
                                simp only [Act.put, List.setIfInBounds_toArray, List.set_cons_zero, List.set_cons_succ, i64_w, i32_w]
                                rfl
                              exact norm_ (by simp only [putAll, Act.put, List.setIfInBounds_toArray, List.set_cons_zero, List.set_cons_succ]) (hCont (gb147) _ ⟨hHeld, (by (with_reducible repeat (first | refine blk_drewN ?_ _ | refine blk_drew ?_ | refine blk_alloc ?_ _)); exact BK139.out), (by (with_reducible repeat (first | refine blk_drewN ?_ _ | refine blk_drew ?_ | refine blk_alloc ?_ _)); exact BK142.out), (by (with_reducible repeat (first | refine blk_drewN ?_ _ | refine blk_drew ?_ | refine blk_alloc ?_ _)); exact BK147.out), GW147.out, GE147.out, NB139_147.out, NB147_139.out, NB142_147.out, NB147_142.out, (by repeat (first | (with_reducible first | exact HB.out | apply below_alloc | apply pw_below_drewN | apply below_drew1 | refine below_set ?_ GE139.out | refine below_set ?_ GE142.out | refine below_set ?_ GE147.out) | exact HB.out))⟩)
                          rintro gb147 w33 ⟨hS_, h0_, h1_, h2_, h3_, h4_, h5_, h6_, h7_, h8_, h9_⟩
                          have n0_ : Aside0 (w33.heap[gb139]? = some (.cells #[.int .u64 t137, .int .u64 t138] 25 (0, 0))) := ⟨h0_⟩
                          have n1_ : Aside0 (w33.heap[gb142]? = some (.cells #[.int .u64 x143000_2, .int .u64 x143001_2] 25 (0, 0))) := ⟨h1_⟩
                          have n2_ : Aside0 (w33.heap[gb147]? = some (.cells #[.int .u64 0, .int .u64 0] 25 (0, 0))) := ⟨h2_⟩
                          have n3_ : Aside0 (w.heap.size ≤ gb147) := ⟨h3_⟩
                          have n4_ : Aside0 (w.heap.size ≤ gb147) := ⟨h4_⟩
                          have n5_ : Aside0 (gb139 ≠ gb147) := ⟨h5_⟩
                          have n6_ : Aside0 (gb147 ≠ gb139) := ⟨h6_⟩
                          have n7_ : Aside0 (gb142 ≠ gb147) := ⟨h7_⟩
                          have n8_ : Aside0 (gb147 ≠ gb142) := ⟨h8_⟩
                          have n9_ : Aside0 (Below w.heap.size w w33) := ⟨h9_⟩
                          clear BK139
                          clear BK142
                          clear HB
                          clear h0_ h1_ h2_ h3_ h4_ h5_ h6_ h7_ h8_ h9_
                          have BK139 := n0_
                          have BK142 := n1_
                          have BK147 := n2_
                          have GW147 := n3_
                          have GE147 := n4_
                          have NB139_147 := n5_
                          have NB147_139 := n6_
                          have NB142_147 := n7_
                          have NB147_142 := n8_
                          have HB := n9_
                          clear n0_ n1_ n2_ n3_ n4_ n5_ n6_ n7_ n8_ n9_
                          have hHeld : w33.cell? ⟨gb139, 0, none⟩ = some (.int .u64 t137) ∧ w33.cell? ⟨gb139, 1, none⟩ = some (.int .u64 t138) ∧ w33.cell? (ad143.add (x13_2).toNat) = some (.int .u64 (rd l2 x13_2)) ∧ w33.cell? (ad143.add ((ji24)).toNat) = some (.int .u64 (rd l2 (ji24))) := hS_
                          refine norm_ (a' := ?_) ?_ ?_
                          rotate_left
                          · simp only [putAll, Act.put, List.setIfInBounds_toArray, List.set_cons_zero, List.set_cons_succ]
                            rfl
                          refine one_ (i := 17) (N := none) #[true, true, true, true, true, true, true, true, true, true, true, true, true, true, true, true, true, true] rfl rfl (one_of HT_.out (by kernel_rfl)) (by decide) (fun K hK => ?_)
                          have hs34 : w33.cell? ⟨gb147, 0, none⟩ = some (.int .u64 0) := (blk_cell BK147.out 0).trans rfl
                          have hfs34 := blk_frozen BK147.out 0
                          have hns34_0 := NB139_147.out
                          have hns34_1 := NB142_147.out
                          have hms34_0 := NB147_139.out
                          have hms34_1 := NB147_142.out
                          have hs35 : w33.cell? ⟨gb147, 1, none⟩ = some (.int .u64 0) := (blk_cell BK147.out 1).trans rfl
                          have hfs35 := blk_frozen BK147.out 1
                          have hns35_0 := NB139_147.out
                          have hns35_1 := NB142_147.out
                          have hms35_0 := NB147_139.out
                          have hms35_1 := NB147_142.out
                          refine skip_ (w1 := ?_) (by rfl) rfl ?_ ?_
                          rotate_left
                          · go_simp
                            rfl
                          refine hK.out _ _ ⟨((cell_far (p := ⟨gb147, _, none⟩) NB139_147.out _).trans (((cell_far (p := ⟨gb147, _, none⟩) NB139_147.out _).trans (hHeld.1)))), ((cell_far (p := ⟨gb147, _, none⟩) NB139_147.out _).trans (((cell_far (p := ⟨gb147, _, none⟩) NB139_147.out _).trans (hHeld.2.1)))), ((cell_far (p := ⟨gb147, _, none⟩) (by first | exact Nat.ne_of_lt (Nat.lt_of_lt_of_le (by have := World.block_lt_of_cell? _ _ hw143_0; first | rwa [add_block] at this | exact this) GW147.out) | (rw [add_block]; exact Nat.ne_of_lt (Nat.lt_of_lt_of_le (by have := World.block_lt_of_cell? _ _ hw143_0; first | rwa [add_block] at this | exact this) GW147.out)) | (show (Addr.add _ _).block ≠ _; rw [add_block]; exact Nat.ne_of_lt (Nat.lt_of_lt_of_le (by have := World.block_lt_of_cell? _ _ hw143_0; first | rwa [add_block] at this | exact this) GW147.out)) | (dsimp only; exact Nat.ne_of_lt (Nat.lt_of_lt_of_le (by have := World.block_lt_of_cell? _ _ hw143_0; first | rwa [add_block] at this | exact this) GW147.out))) _).trans (((cell_far (p := ⟨gb147, _, none⟩) (by first | exact Nat.ne_of_lt (Nat.lt_of_lt_of_le (by have := World.block_lt_of_cell? _ _ hw143_0; first | rwa [add_block] at this | exact this) GW147.out) | (rw [add_block]; exact Nat.ne_of_lt (Nat.lt_of_lt_of_le (by have := World.block_lt_of_cell? _ _ hw143_0; first | rwa [add_block] at this | exact this) GW147.out)) | (show (Addr.add _ _).block ≠ _; rw [add_block]; exact Nat.ne_of_lt (Nat.lt_of_lt_of_le (by have := World.block_lt_of_cell? _ _ hw143_0; first | rwa [add_block] at this | exact this) GW147.out)) | (dsimp only; exact Nat.ne_of_lt (Nat.lt_of_lt_of_le (by have := World.block_lt_of_cell? _ _ hw143_0; first | rwa [add_block] at this | exact this) GW147.out))) _).trans (hHeld.2.2.1)))), ((cell_far (p := ⟨gb147, _, none⟩) (by first | exact Nat.ne_of_lt (Nat.lt_of_lt_of_le (by have := World.block_lt_of_cell? _ _ hw144_0; first | rwa [add_block] at this | exact this) GW147.out) | (rw [add_block]; exact Nat.ne_of_lt (Nat.lt_of_lt_of_le (by have := World.block_lt_of_cell? _ _ hw144_0; first | rwa [add_block] at this | exact this) GW147.out)) | (show (Addr.add _ _).block ≠ _; rw [add_block]; exact Nat.ne_of_lt (Nat.lt_of_lt_of_le (by have := World.block_lt_of_cell? _ _ hw144_0; first | rwa [add_block] at this | exact this) GW147.out)) | (dsimp only; exact Nat.ne_of_lt (Nat.lt_of_lt_of_le (by have := World.block_lt_of_cell? _ _ hw144_0; first | rwa [add_block] at this | exact this) GW147.out))) _).trans (((cell_far (p := ⟨gb147, _, none⟩) (by first | exact Nat.ne_of_lt (Nat.lt_of_lt_of_le (by have := World.block_lt_of_cell? _ _ hw144_0; first | rwa [add_block] at this | exact this) GW147.out) | (rw [add_block]; exact Nat.ne_of_lt (Nat.lt_of_lt_of_le (by have := World.block_lt_of_cell? _ _ hw144_0; first | rwa [add_block] at this | exact this) GW147.out)) | (show (Addr.add _ _).block ≠ _; rw [add_block]; exact Nat.ne_of_lt (Nat.lt_of_lt_of_le (by have := World.block_lt_of_cell? _ _ hw144_0; first | rwa [add_block] at this | exact this) GW147.out)) | (dsimp only; exact Nat.ne_of_lt (Nat.lt_of_lt_of_le (by have := World.block_lt_of_cell? _ _ hw144_0; first | rwa [add_block] at this | exact this) GW147.out))) _).trans (hHeld.2.2.2))))⟩ (fun hHeld => ?_)
                          clear hK K
                          refine done_ (done_of HT_.out (by kernel_rfl)) ?_
                          have hnb36 := NB142_139.out
                          have hnc36 := NB139_142.out
                          have hnb37 := NB142_147.out
                          have hnc37 := NB147_142.out
                          have hcz38_0 : w33.cell? ⟨gb142, 0, none⟩ = some (.int .u64 x143000_2) := (blk_cell BK142.out 0).trans rfl
                          have hcz38_1 : w33.cell? ⟨gb142, 1, none⟩ = some (.int .u64 x143001_2) := (blk_cell BK142.out 1).trans rfl
                          have hfz38_0 := blk_frozen BK142.out 0
                          have hfz38_1 := blk_frozen BK142.out 1
                          have hnb39 := NB147_139.out
                          have hnc39 := NB139_147.out
                          have hcz40_0 : w33.cell? ⟨gb147, 0, none⟩ = some (.int .u64 0) := (blk_cell BK147.out 0).trans rfl
                          have hcz40_1 : w33.cell? ⟨gb147, 1, none⟩ = some (.int .u64 0) := (blk_cell BK147.out 1).trans rfl
                          have hfz40_0 := blk_frozen BK147.out 0
                          have hfz40_1 := blk_frozen BK147.out 1
                          go_upto_region 14 with (first | ((with_reducible refine gate_callee (f := 14) rfl ?_); refine goesL_ (some 60) rfl rfl Try.func14 (by kernel_rfl) rfl #[.agg #[.int .u64 x143000_2, .int .u64 x143001_2], .agg #[.int .u64 t145, .int .u64 t146], .int .i64 x9_6] rfl (by (try simp only [List.map_toArray, List.map_cons, List.map_nil]); first | done | rfl | (simp only [List.length_drop, List.length_take]; rfl)) ?_; (with_reducible refine (ivl_Widen.calls x143000_2 x143001_2 t145 t146 x9_6 t148 t149 _ A28.out).mono ?_); rintro e w41 ⟨rfl, hb⟩; refine ⟨_, rfl, ?_⟩; have n0_ := Aside0.mk (blk_below (g := gb139) (o := .cells #[.int .u64 t137, .int .u64 t138] 25 (0, 0)) (by (with_reducible repeat (first | refine blk_drewN ?_ _ | refine blk_drew ?_ | refine blk_alloc ?_ _)); refine blk_far ?_ NB139_147.out _; (with_reducible repeat (first | refine blk_drewN ?_ _ | refine blk_drew ?_ | refine blk_alloc ?_ _)); refine blk_far ?_ NB139_147.out _; (with_reducible repeat (first | refine blk_drewN ?_ _ | refine blk_drew ?_ | refine blk_alloc ?_ _)); exact BK139.out) hb); have n1_ := Aside0.mk (blk_below (g := gb142) (o := .cells #[.int .u64 x143000_2, .int .u64 x143001_2] 25 (0, 0)) (by (with_reducible repeat (first | refine blk_drewN ?_ _ | refine blk_drew ?_ | refine blk_alloc ?_ _)); refine blk_far ?_ NB142_147.out _; (with_reducible repeat (first | refine blk_drewN ?_ _ | refine blk_drew ?_ | refine blk_alloc ?_ _)); refine blk_far ?_ NB142_147.out _; (with_reducible repeat (first | refine blk_drewN ?_ _ | refine blk_drew ?_ | refine blk_alloc ?_ _)); exact BK142.out) hb); have n2_ := Aside0.mk (blk_below (g := gb147) (o := .cells #[.int .u64 t145, .int .u64 t146] 25 (0, 0)) (by (with_reducible repeat (first | refine blk_drewN ?_ _ | refine blk_drew ?_ | refine blk_alloc ?_ _)); refine blk_put (cs := #[.int .u64 t145, .int .u64 0]) ?_ 1 _ rfl; (with_reducible repeat (first | refine blk_drewN ?_ _ | refine blk_drew ?_ | refine blk_alloc ?_ _)); refine blk_put (cs := #[.int .u64 0, .int .u64 0]) ?_ 0 _ rfl; (with_reducible repeat (first | refine blk_drewN ?_ _ | refine blk_drew ?_ | refine blk_alloc ?_ _)); exact BK147.out) hb); have n3_ := Aside0.mk (below_step (by repeat (first | (with_reducible first | exact HB.out | apply below_alloc | apply pw_below_drewN | apply below_drew1 | refine below_set ?_ GE139.out | refine below_set ?_ GE142.out | refine below_set ?_ GE147.out) | exact HB.out)) hb); clear BK139; clear BK142; clear BK147; clear HB; have BK139 := n0_; have BK142 := n1_; have BK147 := n2_; have HB := n3_; clear n0_ n1_ n2_ n3_; (try clear hb); (try clear hb2); (try clear hk); (try clear hi)) | ((with_reducible refine gate_dst (N := 15) rfl ?_); refine box_event ?hg (N := 15) ?hd (cs := #[.int .u64 0, .int .u64 0]) (t := 25) ?hr ?_; (case hd => rfl); (case hg => rfl); (case hr => first | (go_simp; done) | (go_simp; rfl)); intro gb150 hg w42 hbox hb; have n0_ := Aside0.mk (blk_below (g := gb139) (o := .cells #[.int .u64 t137, .int .u64 t138] 25 (0, 0)) (by (with_reducible repeat (first | refine blk_drewN ?_ _ | refine blk_drew ?_ | refine blk_alloc ?_ _)); exact BK139.out) hb); have n1_ := Aside0.mk (blk_below (g := gb142) (o := .cells #[.int .u64 x143000_2, .int .u64 x143001_2] 25 (0, 0)) (by (with_reducible repeat (first | refine blk_drewN ?_ _ | refine blk_drew ?_ | refine blk_alloc ?_ _)); exact BK142.out) hb); have n2_ := Aside0.mk (blk_below (g := gb147) (o := .cells #[.int .u64 t145, .int .u64 t146] 25 (0, 0)) (by (with_reducible repeat (first | refine blk_drewN ?_ _ | refine blk_drew ?_ | refine blk_alloc ?_ _)); exact BK147.out) hb); have n3_ := Aside0.mk (below_step (by repeat (first | (with_reducible first | exact HB.out | apply below_alloc | apply pw_below_drewN | apply below_drew1 | refine below_set ?_ GE139.out | refine below_set ?_ GE142.out | refine below_set ?_ GE147.out) | exact HB.out)) hb); have n4_ := Aside0.mk (hbox); have n5_ := Aside0.mk ((by rw [hg]; exact (below_size (by repeat (first | (with_reducible first | exact HB.out | apply below_alloc | apply pw_below_drewN | apply below_drew1 | refine below_set ?_ GE139.out | refine below_set ?_ GE142.out | refine below_set ?_ GE147.out) | exact HB.out))) : w.heap.size ≤ gb150)); have n6_ := Aside0.mk ((by rw [hg]; exact (below_size (by repeat (first | (with_reducible first | exact HB.out | apply below_alloc | apply pw_below_drewN | apply below_drew1 | refine below_set ?_ GE139.out | refine below_set ?_ GE142.out | refine below_set ?_ GE147.out) | exact HB.out))) : w.heap.size ≤ gb150)); have n7_ := Aside0.mk ((by rw [hg]; exact Nat.ne_of_lt (blk_lt (g := gb139) (o := .cells #[.int .u64 t137, .int .u64 t138] 25 (0, 0)) (by (with_reducible repeat (first | refine blk_drewN ?_ _ | refine blk_drew ?_ | refine blk_alloc ?_ _)); exact BK139.out)) : gb139 ≠ gb150)); have n8_ := Aside0.mk ((by rw [hg]; exact Nat.ne_of_gt (blk_lt (g := gb139) (o := .cells #[.int .u64 t137, .int .u64 t138] 25 (0, 0)) (by (with_reducible repeat (first | refine blk_drewN ?_ _ | refine blk_drew ?_ | refine blk_alloc ?_ _)); exact BK139.out)) : gb150 ≠ gb139)); have n9_ := Aside0.mk ((by rw [hg]; exact Nat.ne_of_lt (blk_lt (g := gb142) (o := .cells #[.int .u64 x143000_2, .int .u64 x143001_2] 25 (0, 0)) (by (with_reducible repeat (first | refine blk_drewN ?_ _ | refine blk_drew ?_ | refine blk_alloc ?_ _)); exact BK142.out)) : gb142 ≠ gb150)); have n10_ := Aside0.mk ((by rw [hg]; exact Nat.ne_of_gt (blk_lt (g := gb142) (o := .cells #[.int .u64 x143000_2, .int .u64 x143001_2] 25 (0, 0)) (by (with_reducible repeat (first | refine blk_drewN ?_ _ | refine blk_drew ?_ | refine blk_alloc ?_ _)); exact BK142.out)) : gb150 ≠ gb142)); have n11_ := Aside0.mk ((by rw [hg]; exact Nat.ne_of_lt (blk_lt (g := gb147) (o := .cells #[.int .u64 t145, .int .u64 t146] 25 (0, 0)) (by (with_reducible repeat (first | refine blk_drewN ?_ _ | refine blk_drew ?_ | refine blk_alloc ?_ _)); exact BK147.out)) : gb147 ≠ gb150)); have n12_ := Aside0.mk ((by rw [hg]; exact Nat.ne_of_gt (blk_lt (g := gb147) (o := .cells #[.int .u64 t145, .int .u64 t146] 25 (0, 0)) (by (with_reducible repeat (first | refine blk_drewN ?_ _ | refine blk_drew ?_ | refine blk_alloc ?_ _)); exact BK147.out)) : gb150 ≠ gb147)); clear BK139; clear BK142; clear BK147; clear HB; have BK139 := n0_; have BK142 := n1_; have BK147 := n2_; have HB := n3_; have BK150 := n4_; have GW150 := n5_; have GE150 := n6_; have NB139_150 := n7_; have NB150_139 := n8_; have NB142_150 := n9_; have NB150_142 := n10_; have NB147_150 := n11_; have NB150_147 := n12_; clear n0_ n1_ n2_ n3_ n4_ n5_ n6_ n7_ n8_ n9_ n10_ n11_ n12_; clear hb hbox hg; have hnb43 := NB150_139.out; have hnc43 := NB139_150.out; have hnb44 := NB150_142.out; have hnc44 := NB142_150.out; have hnb45 := NB150_147.out; have hnc45 := NB147_150.out; have hcz46_0 : w42.cell? ⟨gb150, 0, none⟩ = some (.int .u64 0) := (blk_cell BK150.out 0).trans rfl; have hcz46_1 : w42.cell? ⟨gb150, 1, none⟩ = some (.int .u64 0) := (blk_cell BK150.out 1).trans rfl; have hfz46_0 := blk_frozen BK150.out 0; have hfz46_1 := blk_frozen BK150.out 1))
                          (try simp only [Act.put, List.setIfInBounds_toArray, List.set_cons_zero, List.set_cons_succ])
                          go_cut [76] (fun v76 wc => ∃ (kq : Nat) (x76_28 : Bool), v76 = .bool x76_28 ∧ Aside0 (trammellaw16_IvlWidens.j3 kq l2 x9_6 x12_2 x13_2 x76_28 t137 t138 x143000_2 x143001_2 t145 t146 t148 t149 = some r) ∧ Aside0 (kq ≤ kj18) ∧ Aside0 (wc.heap[gb139]? = some (.cells #[.int .u64 t137, .int .u64 t138] 25 (0, 0))) ∧ Aside0 (wc.heap[gb142]? = some (.cells #[.int .u64 x143000_2, .int .u64 x143001_2] 25 (0, 0))) ∧ Aside0 (wc.heap[gb147]? = some (.cells #[.int .u64 t145, .int .u64 t146] 25 (0, 0))) ∧ Aside0 (wc.heap[gb150]? = some (.cells #[.int .u64 t148, .int .u64 t149] 25 (0, 0))) ∧ Aside0 (Below w.heap.size w wc))
                          case first =>
                            have H := HC29.out
                            clear HC29
                            replace H := Option.bind_eq_some_iff.mp H
                            obtain ⟨t151, A470, H⟩ := H
                            replace H : (if t151 = true then ((ivl_Within.f t145 t146 t148 t149).bind fun t152 => (if t152 = true then ((ivl_Within.f t148 t149 t137 t138).bind fun t153 => (trammellaw16_IvlWidens.j3 kj18 l2 x9_6 x12_2 x13_2 (!t153) t137 t138 x143000_2 x143001_2 t145 t146 t148 t149)) else (trammellaw16_IvlWidens.j3 kj18 l2 x9_6 x12_2 x13_2 true t137 t138 x143000_2 x143001_2 t145 t146 t148 t149))) else (trammellaw16_IvlWidens.j3 kj18 l2 x9_6 x12_2 x13_2 true t137 t138 x143000_2 x143001_2 t145 t146 t148 t149)) = some r := H
                            have A47 := Aside0.mk A470
                            clear A470
                            by_cases c48 : t151 = true
                            · subst c48
                              have H1 : ((ivl_Within.f t145 t146 t148 t149).bind fun t152 => (if t152 = true then ((ivl_Within.f t148 t149 t137 t138).bind fun t153 => (trammellaw16_IvlWidens.j3 kj18 l2 x9_6 x12_2 x13_2 (!t153) t137 t138 x143000_2 x143001_2 t145 t146 t148 t149)) else (trammellaw16_IvlWidens.j3 kj18 l2 x9_6 x12_2 x13_2 true t137 t138 x143000_2 x143001_2 t145 t146 t148 t149))) = some r := by rw [if_pos rfl] at H; exact H
                              clear H
                              have H := H1
                              clear H1
                              replace H := Option.bind_eq_some_iff.mp H
                              obtain ⟨t152, A490, H⟩ := H
                              replace H : (if t152 = true then ((ivl_Within.f t148 t149 t137 t138).bind fun t153 => (trammellaw16_IvlWidens.j3 kj18 l2 x9_6 x12_2 x13_2 (!t153) t137 t138 x143000_2 x143001_2 t145 t146 t148 t149)) else (trammellaw16_IvlWidens.j3 kj18 l2 x9_6 x12_2 x13_2 true t137 t138 x143000_2 x143001_2 t145 t146 t148 t149)) = some r := H
                              have A49 := Aside0.mk A490
                              clear A490
                              by_cases c50 : t152 = true
                              · subst c50
                                have H1 : ((ivl_Within.f t148 t149 t137 t138).bind fun t153 => (trammellaw16_IvlWidens.j3 kj18 l2 x9_6 x12_2 x13_2 (!t153) t137 t138 x143000_2 x143001_2 t145 t146 t148 t149)) = some r := by rw [if_pos rfl] at H; exact H
                                clear H
                                have H := H1
                                clear H1
                                replace H := Option.bind_eq_some_iff.mp H
                                obtain ⟨t153, A510, H⟩ := H
                                replace H : (trammellaw16_IvlWidens.j3 kj18 l2 x9_6 x12_2 x13_2 (!t153) t137 t138 x143000_2 x143001_2 t145 t146 t148 t149) = some r := H
                                have A51 := Aside0.mk A510
                                clear A510
                                have H' := Aside0.mk H
                                clear H
                                have hnb52 := NB142_139.out
                                have hnc52 := NB139_142.out
                                have hnb53 := NB142_147.out
                                have hnc53 := NB147_142.out
                                have hnb54 := NB142_150.out
                                have hnc54 := NB150_142.out
                                have hcz55_0 : w42.cell? ⟨gb142, 0, none⟩ = some (.int .u64 x143000_2) := (blk_cell BK142.out 0).trans rfl
                                have hcz55_1 : w42.cell? ⟨gb142, 1, none⟩ = some (.int .u64 x143001_2) := (blk_cell BK142.out 1).trans rfl
                                have hfz55_0 := blk_frozen BK142.out 0
                                have hfz55_1 := blk_frozen BK142.out 1
                                have hnb56 := NB150_139.out
                                have hnc56 := NB139_150.out
                                have hnb57 := NB150_147.out
                                have hnc57 := NB147_150.out
                                have hcz58_0 : w42.cell? ⟨gb150, 0, none⟩ = some (.int .u64 0) := (blk_cell BK150.out 0).trans rfl
                                have hcz58_1 : w42.cell? ⟨gb150, 1, none⟩ = some (.int .u64 0) := (blk_cell BK150.out 1).trans rfl
                                have hfz58_0 := blk_frozen BK150.out 0
                                have hfz58_1 := blk_frozen BK150.out 1
                                go_wp2_with (first | ((with_reducible refine gate_callee (f := 11) rfl ?_); refine goesL_ (some 63) rfl rfl Try.func11 (by kernel_rfl) rfl #[.agg #[.int .u64 x143000_2, .int .u64 x143001_2], .agg #[.int .u64 t148, .int .u64 t149]] rfl (by (try simp only [List.map_toArray, List.map_cons, List.map_nil]); first | done | rfl | (simp only [List.length_drop, List.length_take]; rfl)) ?_; (with_reducible refine (ivl_Within.calls x143000_2 x143001_2 t148 t149 true _ A47.out).mono ?_); rintro e w59 ⟨rfl, hb⟩; refine ⟨_, rfl, ?_⟩; have n0_ := Aside0.mk (blk_below (g := gb139) (o := .cells #[.int .u64 t137, .int .u64 t138] 25 (0, 0)) (by (with_reducible repeat (first | refine blk_drewN ?_ _ | refine blk_drew ?_ | refine blk_alloc ?_ _)); refine blk_far ?_ NB139_150.out _; (with_reducible repeat (first | refine blk_drewN ?_ _ | refine blk_drew ?_ | refine blk_alloc ?_ _)); refine blk_far ?_ NB139_150.out _; (with_reducible repeat (first | refine blk_drewN ?_ _ | refine blk_drew ?_ | refine blk_alloc ?_ _)); exact BK139.out) hb); have n1_ := Aside0.mk (blk_below (g := gb142) (o := .cells #[.int .u64 x143000_2, .int .u64 x143001_2] 25 (0, 0)) (by (with_reducible repeat (first | refine blk_drewN ?_ _ | refine blk_drew ?_ | refine blk_alloc ?_ _)); refine blk_far ?_ NB142_150.out _; (with_reducible repeat (first | refine blk_drewN ?_ _ | refine blk_drew ?_ | refine blk_alloc ?_ _)); refine blk_far ?_ NB142_150.out _; (with_reducible repeat (first | refine blk_drewN ?_ _ | refine blk_drew ?_ | refine blk_alloc ?_ _)); exact BK142.out) hb); have n2_ := Aside0.mk (blk_below (g := gb147) (o := .cells #[.int .u64 t145, .int .u64 t146] 25 (0, 0)) (by (with_reducible repeat (first | refine blk_drewN ?_ _ | refine blk_drew ?_ | refine blk_alloc ?_ _)); refine blk_far ?_ NB147_150.out _; (with_reducible repeat (first | refine blk_drewN ?_ _ | refine blk_drew ?_ | refine blk_alloc ?_ _)); refine blk_far ?_ NB147_150.out _; (with_reducible repeat (first | refine blk_drewN ?_ _ | refine blk_drew ?_ | refine blk_alloc ?_ _)); exact BK147.out) hb); have n3_ := Aside0.mk (blk_below (g := gb150) (o := .cells #[.int .u64 t148, .int .u64 t149] 25 (0, 0)) (by (with_reducible repeat (first | refine blk_drewN ?_ _ | refine blk_drew ?_ | refine blk_alloc ?_ _)); refine blk_put (cs := #[.int .u64 t148, .int .u64 0]) ?_ 1 _ rfl; (with_reducible repeat (first | refine blk_drewN ?_ _ | refine blk_drew ?_ | refine blk_alloc ?_ _)); refine blk_put (cs := #[.int .u64 0, .int .u64 0]) ?_ 0 _ rfl; (with_reducible repeat (first | refine blk_drewN ?_ _ | refine blk_drew ?_ | refine blk_alloc ?_ _)); exact BK150.out) hb); have n4_ := Aside0.mk (below_step (by repeat (first | (with_reducible first | exact HB.out | apply below_alloc | apply pw_below_drewN | apply below_drew1 | refine below_set ?_ GE139.out | refine below_set ?_ GE142.out | refine below_set ?_ GE147.out | refine below_set ?_ GE150.out) | exact HB.out)) hb); clear BK139; clear BK142; clear BK147; clear BK150; clear HB; have BK139 := n0_; have BK142 := n1_; have BK147 := n2_; have BK150 := n3_; have HB := n4_; clear n0_ n1_ n2_ n3_ n4_; (try clear hb); (try clear hb2); (try clear hk); (try clear hi); have hnb60 := NB147_139.out; have hnc60 := NB139_147.out; have hcz61_0 : w59.cell? ⟨gb147, 0, none⟩ = some (.int .u64 t145) := (blk_cell BK147.out 0).trans rfl; have hcz61_1 : w59.cell? ⟨gb147, 1, none⟩ = some (.int .u64 t146) := (blk_cell BK147.out 1).trans rfl; have hfz61_0 := blk_frozen BK147.out 0; have hfz61_1 := blk_frozen BK147.out 1; have hcz62_0 : w59.cell? ⟨gb150, 0, none⟩ = some (.int .u64 t148) := (blk_cell BK150.out 0).trans rfl; have hcz62_1 : w59.cell? ⟨gb150, 1, none⟩ = some (.int .u64 t149) := (blk_cell BK150.out 1).trans rfl; have hfz62_0 := blk_frozen BK150.out 0; have hfz62_1 := blk_frozen BK150.out 1) | (go_at_call 11; (with_reducible refine (ivl_Within.calls t145 t146 t148 t149 true _ A49.out).mono ?_); rintro e w63 ⟨rfl, hb⟩; have n0_ := Aside0.mk (blk_below (g := gb139) (o := .cells #[.int .u64 t137, .int .u64 t138] 25 (0, 0)) (by (with_reducible repeat (first | refine blk_drewN ?_ _ | refine blk_drew ?_ | refine blk_alloc ?_ _)); exact BK139.out) hb); have n1_ := Aside0.mk (blk_below (g := gb142) (o := .cells #[.int .u64 x143000_2, .int .u64 x143001_2] 25 (0, 0)) (by (with_reducible repeat (first | refine blk_drewN ?_ _ | refine blk_drew ?_ | refine blk_alloc ?_ _)); exact BK142.out) hb); have n2_ := Aside0.mk (blk_below (g := gb147) (o := .cells #[.int .u64 t145, .int .u64 t146] 25 (0, 0)) (by (with_reducible repeat (first | refine blk_drewN ?_ _ | refine blk_drew ?_ | refine blk_alloc ?_ _)); exact BK147.out) hb); have n3_ := Aside0.mk (blk_below (g := gb150) (o := .cells #[.int .u64 t148, .int .u64 t149] 25 (0, 0)) (by (with_reducible repeat (first | refine blk_drewN ?_ _ | refine blk_drew ?_ | refine blk_alloc ?_ _)); exact BK150.out) hb); have n4_ := Aside0.mk (below_step (by repeat (first | (with_reducible first | exact HB.out | apply below_alloc | apply pw_below_drewN | apply below_drew1 | refine below_set ?_ GE139.out | refine below_set ?_ GE142.out | refine below_set ?_ GE147.out | refine below_set ?_ GE150.out) | exact HB.out)) hb); clear BK139; clear BK142; clear BK147; clear BK150; clear HB; have BK139 := n0_; have BK142 := n1_; have BK147 := n2_; have BK150 := n3_; have HB := n4_; clear n0_ n1_ n2_ n3_ n4_; (try clear hb); (try clear hb2); (try clear hk); (try clear hi); have hcz64_0 : w63.cell? ⟨gb150, 0, none⟩ = some (.int .u64 t148) := (blk_cell BK150.out 0).trans rfl; have hcz64_1 : w63.cell? ⟨gb150, 1, none⟩ = some (.int .u64 t149) := (blk_cell BK150.out 1).trans rfl; have hfz64_0 := blk_frozen BK150.out 0; have hfz64_1 := blk_frozen BK150.out 1; have hcz65_0 : w63.cell? ⟨gb139, 0, none⟩ = some (.int .u64 t137) := (blk_cell BK139.out 0).trans rfl; have hcz65_1 : w63.cell? ⟨gb139, 1, none⟩ = some (.int .u64 t138) := (blk_cell BK139.out 1).trans rfl; have hfz65_0 := blk_frozen BK139.out 0; have hfz65_1 := blk_frozen BK139.out 1) | (go_at_call 11; (with_reducible refine (ivl_Within.calls t148 t149 t137 t138 t153 _ A51.out).mono ?_); rintro e w66 ⟨rfl, hb⟩; have n0_ := Aside0.mk (blk_below (g := gb139) (o := .cells #[.int .u64 t137, .int .u64 t138] 25 (0, 0)) (by (with_reducible repeat (first | refine blk_drewN ?_ _ | refine blk_drew ?_ | refine blk_alloc ?_ _)); exact BK139.out) hb); have n1_ := Aside0.mk (blk_below (g := gb142) (o := .cells #[.int .u64 x143000_2, .int .u64 x143001_2] 25 (0, 0)) (by (with_reducible repeat (first | refine blk_drewN ?_ _ | refine blk_drew ?_ | refine blk_alloc ?_ _)); exact BK142.out) hb); have n2_ := Aside0.mk (blk_below (g := gb147) (o := .cells #[.int .u64 t145, .int .u64 t146] 25 (0, 0)) (by (with_reducible repeat (first | refine blk_drewN ?_ _ | refine blk_drew ?_ | refine blk_alloc ?_ _)); exact BK147.out) hb); have n3_ := Aside0.mk (blk_below (g := gb150) (o := .cells #[.int .u64 t148, .int .u64 t149] 25 (0, 0)) (by (with_reducible repeat (first | refine blk_drewN ?_ _ | refine blk_drew ?_ | refine blk_alloc ?_ _)); exact BK150.out) hb); have n4_ := Aside0.mk (below_step (by repeat (first | (with_reducible first | exact HB.out | apply below_alloc | apply pw_below_drewN | apply below_drew1 | refine below_set ?_ GE139.out | refine below_set ?_ GE142.out | refine below_set ?_ GE147.out | refine below_set ?_ GE150.out) | exact HB.out)) hb); clear BK139; clear BK142; clear BK147; clear BK150; clear HB; have BK139 := n0_; have BK142 := n1_; have BK147 := n2_; have BK150 := n3_; have HB := n4_; clear n0_ n1_ n2_ n3_ n4_; (try clear hb); (try clear hb2); (try clear hk); (try clear hi)))
                                go_meet
                                case rel => exact ⟨_, (!t153), (by first | rfl | (simp; done) | (simp [*]; done)), H', ⟨by have := HJ6.out; have := HK2.out; have := HJ18.out; first | omega | exact Nat.le_refl _⟩, ⟨by (with_reducible repeat (first | refine blk_drewN ?_ _ | refine blk_drew ?_ | refine blk_alloc ?_ _)); exact BK139.out⟩, ⟨by (with_reducible repeat (first | refine blk_drewN ?_ _ | refine blk_drew ?_ | refine blk_alloc ?_ _)); exact BK142.out⟩, ⟨by (with_reducible repeat (first | refine blk_drewN ?_ _ | refine blk_drew ?_ | refine blk_alloc ?_ _)); exact BK147.out⟩, ⟨by (with_reducible repeat (first | refine blk_drewN ?_ _ | refine blk_drew ?_ | refine blk_alloc ?_ _)); exact BK150.out⟩, ⟨by repeat (first | (with_reducible first | exact HB.out | apply below_alloc | apply pw_below_drewN | apply below_drew1 | refine below_set ?_ GE139.out | refine below_set ?_ GE142.out | refine below_set ?_ GE147.out | refine below_set ?_ GE150.out) | exact HB.out)⟩⟩
                              · replace c50 := Bool.eq_false_iff.mpr c50
                                subst c50
                                have H1 : (trammellaw16_IvlWidens.j3 kj18 l2 x9_6 x12_2 x13_2 true t137 t138 x143000_2 x143001_2 t145 t146 t148 t149) = some r := by rw [if_neg (show ¬ (false = true) by decide)] at H; exact H
                                clear H
                                have H := H1
                                clear H1
                                have H' := Aside0.mk H
                                clear H
                                have hnb67 := NB142_139.out
                                have hnc67 := NB139_142.out
                                have hnb68 := NB142_147.out
                                have hnc68 := NB147_142.out
                                have hnb69 := NB142_150.out
                                have hnc69 := NB150_142.out
                                have hcz70_0 : w42.cell? ⟨gb142, 0, none⟩ = some (.int .u64 x143000_2) := (blk_cell BK142.out 0).trans rfl
                                have hcz70_1 : w42.cell? ⟨gb142, 1, none⟩ = some (.int .u64 x143001_2) := (blk_cell BK142.out 1).trans rfl
                                have hfz70_0 := blk_frozen BK142.out 0
                                have hfz70_1 := blk_frozen BK142.out 1
                                have hnb71 := NB150_139.out
                                have hnc71 := NB139_150.out
                                have hnb72 := NB150_147.out
                                have hnc72 := NB147_150.out
                                have hcz73_0 : w42.cell? ⟨gb150, 0, none⟩ = some (.int .u64 0) := (blk_cell BK150.out 0).trans rfl
                                have hcz73_1 : w42.cell? ⟨gb150, 1, none⟩ = some (.int .u64 0) := (blk_cell BK150.out 1).trans rfl
                                have hfz73_0 := blk_frozen BK150.out 0
                                have hfz73_1 := blk_frozen BK150.out 1
                                go_wp2_with (first | ((with_reducible refine gate_callee (f := 11) rfl ?_); refine goesL_ (some 63) rfl rfl Try.func11 (by kernel_rfl) rfl #[.agg #[.int .u64 x143000_2, .int .u64 x143001_2], .agg #[.int .u64 t148, .int .u64 t149]] rfl (by (try simp only [List.map_toArray, List.map_cons, List.map_nil]); first | done | rfl | (simp only [List.length_drop, List.length_take]; rfl)) ?_; (with_reducible refine (ivl_Within.calls x143000_2 x143001_2 t148 t149 true _ A47.out).mono ?_); rintro e w74 ⟨rfl, hb⟩; refine ⟨_, rfl, ?_⟩; have n0_ := Aside0.mk (blk_below (g := gb139) (o := .cells #[.int .u64 t137, .int .u64 t138] 25 (0, 0)) (by (with_reducible repeat (first | refine blk_drewN ?_ _ | refine blk_drew ?_ | refine blk_alloc ?_ _)); refine blk_far ?_ NB139_150.out _; (with_reducible repeat (first | refine blk_drewN ?_ _ | refine blk_drew ?_ | refine blk_alloc ?_ _)); refine blk_far ?_ NB139_150.out _; (with_reducible repeat (first | refine blk_drewN ?_ _ | refine blk_drew ?_ | refine blk_alloc ?_ _)); exact BK139.out) hb); have n1_ := Aside0.mk (blk_below (g := gb142) (o := .cells #[.int .u64 x143000_2, .int .u64 x143001_2] 25 (0, 0)) (by (with_reducible repeat (first | refine blk_drewN ?_ _ | refine blk_drew ?_ | refine blk_alloc ?_ _)); refine blk_far ?_ NB142_150.out _; (with_reducible repeat (first | refine blk_drewN ?_ _ | refine blk_drew ?_ | refine blk_alloc ?_ _)); refine blk_far ?_ NB142_150.out _; (with_reducible repeat (first | refine blk_drewN ?_ _ | refine blk_drew ?_ | refine blk_alloc ?_ _)); exact BK142.out) hb); have n2_ := Aside0.mk (blk_below (g := gb147) (o := .cells #[.int .u64 t145, .int .u64 t146] 25 (0, 0)) (by (with_reducible repeat (first | refine blk_drewN ?_ _ | refine blk_drew ?_ | refine blk_alloc ?_ _)); refine blk_far ?_ NB147_150.out _; (with_reducible repeat (first | refine blk_drewN ?_ _ | refine blk_drew ?_ | refine blk_alloc ?_ _)); refine blk_far ?_ NB147_150.out _; (with_reducible repeat (first | refine blk_drewN ?_ _ | refine blk_drew ?_ | refine blk_alloc ?_ _)); exact BK147.out) hb); have n3_ := Aside0.mk (blk_below (g := gb150) (o := .cells #[.int .u64 t148, .int .u64 t149] 25 (0, 0)) (by (with_reducible repeat (first | refine blk_drewN ?_ _ | refine blk_drew ?_ | refine blk_alloc ?_ _)); refine blk_put (cs := #[.int .u64 t148, .int .u64 0]) ?_ 1 _ rfl; (with_reducible repeat (first | refine blk_drewN ?_ _ | refine blk_drew ?_ | refine blk_alloc ?_ _)); refine blk_put (cs := #[.int .u64 0, .int .u64 0]) ?_ 0 _ rfl; (with_reducible repeat (first | refine blk_drewN ?_ _ | refine blk_drew ?_ | refine blk_alloc ?_ _)); exact BK150.out) hb); have n4_ := Aside0.mk (below_step (by repeat (first | (with_reducible first | exact HB.out | apply below_alloc | apply pw_below_drewN | apply below_drew1 | refine below_set ?_ GE139.out | refine below_set ?_ GE142.out | refine below_set ?_ GE147.out | refine below_set ?_ GE150.out) | exact HB.out)) hb); clear BK139; clear BK142; clear BK147; clear BK150; clear HB; have BK139 := n0_; have BK142 := n1_; have BK147 := n2_; have BK150 := n3_; have HB := n4_; clear n0_ n1_ n2_ n3_ n4_; (try clear hb); (try clear hb2); (try clear hk); (try clear hi); have hnb75 := NB147_139.out; have hnc75 := NB139_147.out; have hcz76_0 : w74.cell? ⟨gb147, 0, none⟩ = some (.int .u64 t145) := (blk_cell BK147.out 0).trans rfl; have hcz76_1 : w74.cell? ⟨gb147, 1, none⟩ = some (.int .u64 t146) := (blk_cell BK147.out 1).trans rfl; have hfz76_0 := blk_frozen BK147.out 0; have hfz76_1 := blk_frozen BK147.out 1; have hcz77_0 : w74.cell? ⟨gb150, 0, none⟩ = some (.int .u64 t148) := (blk_cell BK150.out 0).trans rfl; have hcz77_1 : w74.cell? ⟨gb150, 1, none⟩ = some (.int .u64 t149) := (blk_cell BK150.out 1).trans rfl; have hfz77_0 := blk_frozen BK150.out 0; have hfz77_1 := blk_frozen BK150.out 1) | (go_at_call 11; (with_reducible refine (ivl_Within.calls t145 t146 t148 t149 false _ A49.out).mono ?_); rintro e w78 ⟨rfl, hb⟩; have n0_ := Aside0.mk (blk_below (g := gb139) (o := .cells #[.int .u64 t137, .int .u64 t138] 25 (0, 0)) (by (with_reducible repeat (first | refine blk_drewN ?_ _ | refine blk_drew ?_ | refine blk_alloc ?_ _)); exact BK139.out) hb); have n1_ := Aside0.mk (blk_below (g := gb142) (o := .cells #[.int .u64 x143000_2, .int .u64 x143001_2] 25 (0, 0)) (by (with_reducible repeat (first | refine blk_drewN ?_ _ | refine blk_drew ?_ | refine blk_alloc ?_ _)); exact BK142.out) hb); have n2_ := Aside0.mk (blk_below (g := gb147) (o := .cells #[.int .u64 t145, .int .u64 t146] 25 (0, 0)) (by (with_reducible repeat (first | refine blk_drewN ?_ _ | refine blk_drew ?_ | refine blk_alloc ?_ _)); exact BK147.out) hb); have n3_ := Aside0.mk (blk_below (g := gb150) (o := .cells #[.int .u64 t148, .int .u64 t149] 25 (0, 0)) (by (with_reducible repeat (first | refine blk_drewN ?_ _ | refine blk_drew ?_ | refine blk_alloc ?_ _)); exact BK150.out) hb); have n4_ := Aside0.mk (below_step (by repeat (first | (with_reducible first | exact HB.out | apply below_alloc | apply pw_below_drewN | apply below_drew1 | refine below_set ?_ GE139.out | refine below_set ?_ GE142.out | refine below_set ?_ GE147.out | refine below_set ?_ GE150.out) | exact HB.out)) hb); clear BK139; clear BK142; clear BK147; clear BK150; clear HB; have BK139 := n0_; have BK142 := n1_; have BK147 := n2_; have BK150 := n3_; have HB := n4_; clear n0_ n1_ n2_ n3_ n4_; (try clear hb); (try clear hb2); (try clear hk); (try clear hi)))
                                go_meet
                                case rel => exact ⟨_, (true), (by first | rfl | (simp; done) | (simp [*]; done)), H', ⟨by have := HJ6.out; have := HK2.out; have := HJ18.out; first | omega | exact Nat.le_refl _⟩, ⟨by (with_reducible repeat (first | refine blk_drewN ?_ _ | refine blk_drew ?_ | refine blk_alloc ?_ _)); exact BK139.out⟩, ⟨by (with_reducible repeat (first | refine blk_drewN ?_ _ | refine blk_drew ?_ | refine blk_alloc ?_ _)); exact BK142.out⟩, ⟨by (with_reducible repeat (first | refine blk_drewN ?_ _ | refine blk_drew ?_ | refine blk_alloc ?_ _)); exact BK147.out⟩, ⟨by (with_reducible repeat (first | refine blk_drewN ?_ _ | refine blk_drew ?_ | refine blk_alloc ?_ _)); exact BK150.out⟩, ⟨by repeat (first | (with_reducible first | exact HB.out | apply below_alloc | apply pw_below_drewN | apply below_drew1 | refine below_set ?_ GE139.out | refine below_set ?_ GE142.out | refine below_set ?_ GE147.out | refine below_set ?_ GE150.out) | exact HB.out)⟩⟩
                            · replace c48 := Bool.eq_false_iff.mpr c48
                              subst c48
                              have H1 : (trammellaw16_IvlWidens.j3 kj18 l2 x9_6 x12_2 x13_2 true t137 t138 x143000_2 x143001_2 t145 t146 t148 t149) = some r := by rw [if_neg (show ¬ (false = true) by decide)] at H; exact H
                              clear H
                              have H := H1
                              clear H1
                              have H' := Aside0.mk H
                              clear H
                              have hnb79 := NB142_139.out
                              have hnc79 := NB139_142.out
                              have hnb80 := NB142_147.out
                              have hnc80 := NB147_142.out
                              have hnb81 := NB142_150.out
                              have hnc81 := NB150_142.out
                              have hcz82_0 : w42.cell? ⟨gb142, 0, none⟩ = some (.int .u64 x143000_2) := (blk_cell BK142.out 0).trans rfl
                              have hcz82_1 : w42.cell? ⟨gb142, 1, none⟩ = some (.int .u64 x143001_2) := (blk_cell BK142.out 1).trans rfl
                              have hfz82_0 := blk_frozen BK142.out 0
                              have hfz82_1 := blk_frozen BK142.out 1
                              have hnb83 := NB150_139.out
                              have hnc83 := NB139_150.out
                              have hnb84 := NB150_147.out
                              have hnc84 := NB147_150.out
                              have hcz85_0 : w42.cell? ⟨gb150, 0, none⟩ = some (.int .u64 0) := (blk_cell BK150.out 0).trans rfl
                              have hcz85_1 : w42.cell? ⟨gb150, 1, none⟩ = some (.int .u64 0) := (blk_cell BK150.out 1).trans rfl
                              have hfz85_0 := blk_frozen BK150.out 0
                              have hfz85_1 := blk_frozen BK150.out 1
                              go_wp2_with (first | ((with_reducible refine gate_callee (f := 11) rfl ?_); refine goesL_ (some 63) rfl rfl Try.func11 (by kernel_rfl) rfl #[.agg #[.int .u64 x143000_2, .int .u64 x143001_2], .agg #[.int .u64 t148, .int .u64 t149]] rfl (by (try simp only [List.map_toArray, List.map_cons, List.map_nil]); first | done | rfl | (simp only [List.length_drop, List.length_take]; rfl)) ?_; (with_reducible refine (ivl_Within.calls x143000_2 x143001_2 t148 t149 false _ A47.out).mono ?_); rintro e w86 ⟨rfl, hb⟩; refine ⟨_, rfl, ?_⟩; have n0_ := Aside0.mk (blk_below (g := gb139) (o := .cells #[.int .u64 t137, .int .u64 t138] 25 (0, 0)) (by (with_reducible repeat (first | refine blk_drewN ?_ _ | refine blk_drew ?_ | refine blk_alloc ?_ _)); refine blk_far ?_ NB139_150.out _; (with_reducible repeat (first | refine blk_drewN ?_ _ | refine blk_drew ?_ | refine blk_alloc ?_ _)); refine blk_far ?_ NB139_150.out _; (with_reducible repeat (first | refine blk_drewN ?_ _ | refine blk_drew ?_ | refine blk_alloc ?_ _)); exact BK139.out) hb); have n1_ := Aside0.mk (blk_below (g := gb142) (o := .cells #[.int .u64 x143000_2, .int .u64 x143001_2] 25 (0, 0)) (by (with_reducible repeat (first | refine blk_drewN ?_ _ | refine blk_drew ?_ | refine blk_alloc ?_ _)); refine blk_far ?_ NB142_150.out _; (with_reducible repeat (first | refine blk_drewN ?_ _ | refine blk_drew ?_ | refine blk_alloc ?_ _)); refine blk_far ?_ NB142_150.out _; (with_reducible repeat (first | refine blk_drewN ?_ _ | refine blk_drew ?_ | refine blk_alloc ?_ _)); exact BK142.out) hb); have n2_ := Aside0.mk (blk_below (g := gb147) (o := .cells #[.int .u64 t145, .int .u64 t146] 25 (0, 0)) (by (with_reducible repeat (first | refine blk_drewN ?_ _ | refine blk_drew ?_ | refine blk_alloc ?_ _)); refine blk_far ?_ NB147_150.out _; (with_reducible repeat (first | refine blk_drewN ?_ _ | refine blk_drew ?_ | refine blk_alloc ?_ _)); refine blk_far ?_ NB147_150.out _; (with_reducible repeat (first | refine blk_drewN ?_ _ | refine blk_drew ?_ | refine blk_alloc ?_ _)); exact BK147.out) hb); have n3_ := Aside0.mk (blk_below (g := gb150) (o := .cells #[.int .u64 t148, .int .u64 t149] 25 (0, 0)) (by (with_reducible repeat (first | refine blk_drewN ?_ _ | refine blk_drew ?_ | refine blk_alloc ?_ _)); refine blk_put (cs := #[.int .u64 t148, .int .u64 0]) ?_ 1 _ rfl; (with_reducible repeat (first | refine blk_drewN ?_ _ | refine blk_drew ?_ | refine blk_alloc ?_ _)); refine blk_put (cs := #[.int .u64 0, .int .u64 0]) ?_ 0 _ rfl; (with_reducible repeat (first | refine blk_drewN ?_ _ | refine blk_drew ?_ | refine blk_alloc ?_ _)); exact BK150.out) hb); have n4_ := Aside0.mk (below_step (by repeat (first | (with_reducible first | exact HB.out | apply below_alloc | apply pw_below_drewN | apply below_drew1 | refine below_set ?_ GE139.out | refine below_set ?_ GE142.out | refine below_set ?_ GE147.out | refine below_set ?_ GE150.out) | exact HB.out)) hb); clear BK139; clear BK142; clear BK147; clear BK150; clear HB; have BK139 := n0_; have BK142 := n1_; have BK147 := n2_; have BK150 := n3_; have HB := n4_; clear n0_ n1_ n2_ n3_ n4_; (try clear hb); (try clear hb2); (try clear hk); (try clear hi)))
                              go_meet
                              case rel => exact ⟨_, (true), (by first | rfl | (simp; done) | (simp [*]; done)), H', ⟨by have := HJ6.out; have := HK2.out; have := HJ18.out; first | omega | exact Nat.le_refl _⟩, ⟨by (with_reducible repeat (first | refine blk_drewN ?_ _ | refine blk_drew ?_ | refine blk_alloc ?_ _)); exact BK139.out⟩, ⟨by (with_reducible repeat (first | refine blk_drewN ?_ _ | refine blk_drew ?_ | refine blk_alloc ?_ _)); exact BK142.out⟩, ⟨by (with_reducible repeat (first | refine blk_drewN ?_ _ | refine blk_drew ?_ | refine blk_alloc ?_ _)); exact BK147.out⟩, ⟨by (with_reducible repeat (first | refine blk_drewN ?_ _ | refine blk_drew ?_ | refine blk_alloc ?_ _)); exact BK150.out⟩, ⟨by repeat (first | (with_reducible first | exact HB.out | apply below_alloc | apply pw_below_drewN | apply below_drew1 | refine below_set ?_ GE139.out | refine below_set ?_ GE142.out | refine below_set ?_ GE147.out | refine below_set ?_ GE150.out) | exact HB.out)⟩⟩
                          case rest =>
                            clear HC29
                            try clear c1
                            try clear p1
                            try clear q1
                            try clear hx1
                            try clear c2
                            try clear p2
                            try clear c3
                            try clear c4
                            try clear c5
                            try clear c6
                            try clear p6
                            try clear c7
                            try clear c8
                            try clear c9
                            try clear c10
                            try clear c11
                            try clear c13
                            try clear c14
                            try clear p14
                            try clear q14
                            try clear hx14
                            try clear c17
                            try clear c20
                            try clear c20b0
                            try clear c21
                            try clear c22
                            try clear c22b0
                            try clear c23
                            try clear c23b0
                            try clear c25
                            try clear c25b0
                            try clear c26
                            try clear c26b0
                            try clear c36
                            try clear c37
                            try clear c39
                            try clear c43
                            try clear c44
                            try clear c45
                            try clear c48
                            try clear c50
                            try clear c52
                            try clear c53
                            try clear c54
                            try clear c56
                            try clear c57
                            try clear c60
                            try clear p64
                            try clear c67
                            try clear c68
                            try clear c69
                            try clear c71
                            try clear c72
                            try clear c75
                            try clear c79
                            try clear c80
                            try clear c81
                            try clear c83
                            try clear c84
                            try clear hcz14_0
                            try clear hcz14_1
                            try clear hcz18_0
                            try clear hcz18_1
                            try clear hcz38_0
                            try clear hcz38_1
                            try clear hcz40_0
                            try clear hcz40_1
                            try clear hcz46_0
                            try clear hcz46_1
                            try clear hcz55_0
                            try clear hcz55_1
                            try clear hcz58_0
                            try clear hcz58_1
                            try clear hcz61_0
                            try clear hcz61_1
                            try clear hcz62_0
                            try clear hcz62_1
                            try clear hcz64_0
                            try clear hcz64_1
                            try clear hcz65_0
                            try clear hcz65_1
                            try clear hcz70_0
                            try clear hcz70_1
                            try clear hcz73_0
                            try clear hcz73_1
                            try clear hcz76_0
                            try clear hcz76_1
                            try clear hcz77_0
                            try clear hcz77_1
                            try clear hcz82_0
                            try clear hcz82_1
                            try clear hcz85_0
                            try clear hcz85_1
                            try clear hfz14_0
                            try clear hfz14_1
                            try clear hfz18_0
                            try clear hfz18_1
                            try clear hfz38_0
                            try clear hfz38_1
                            try clear hfz40_0
                            try clear hfz40_1
                            try clear hfz46_0
                            try clear hfz46_1
                            try clear hfz55_0
                            try clear hfz55_1
                            try clear hfz58_0
                            try clear hfz58_1
                            try clear hfz61_0
                            try clear hfz61_1
                            try clear hfz62_0
                            try clear hfz62_1
                            try clear hfz64_0
                            try clear hfz64_1
                            try clear hfz65_0
                            try clear hfz65_1
                            try clear hfz70_0
                            try clear hfz70_1
                            try clear hfz73_0
                            try clear hfz73_1
                            try clear hfz76_0
                            try clear hfz76_1
                            try clear hfz77_0
                            try clear hfz77_1
                            try clear hfz82_0
                            try clear hfz82_1
                            try clear hfz85_0
                            try clear hfz85_1
                            try clear hx143_0
                            try clear hx144_0
                            try clear p143
                            try clear p144
                            try clear p2
                            try clear p6
                            try clear q143
                            try clear q144
                            obtain ⟨kq, x76_28, rfl, HA, HJ28, BK139, BK142, BK147, BK150, HB⟩ := hcut
                            cases kq with
                            | zero => exact absurd HA.out (by simp [trammellaw16_IvlWidens.j3])
                            | succ kj28 =>
                              have H := HA.out
                              clear HA
                              simp only [trammellaw16_IvlWidens.j3] at H
                              by_cases c87 : x76_28 = true
                              · subst c87
                                have H1 : (some false) = some r := by rw [if_pos rfl] at H; exact H
                                clear H
                                have H := H1
                                clear H1
                                exact absurd (Option.some.inj H) (by rw [hr]; decide)
                              · replace c87 := Bool.eq_false_iff.mpr c87
                                subst c87
                                have H1 : (if (!(t148 == x143000_2) || (!(t149 == x143001_2))) = true then ((ivl_Within.f t145 t146 x143000_2 x143001_2).bind fun t154 => (if t154 = true then (some false) else (trammellaw16_IvlWidens.l0 kj28 l2 x9_6 (wrap64 (x12_2 + 1)) (wrap64 (x13_2 + 2)) t137 t138 t148 t149))) else ((ivl_Within.f t145 t146 x143000_2 x143001_2).bind fun t155 => (if t155 = true then (trammellaw16_IvlWidens.l0 kj28 l2 x9_6 x12_2 (wrap64 (x13_2 + 2)) t137 t138 t148 t149) else (trammellaw16_IvlWidens.l0 kj28 l2 x9_6 x12_2 (wrap64 (x13_2 + 2)) t137 t138 t148 t149)))) = some r := by rw [if_neg (show ¬ (false = true) by decide)] at H; exact H
                                clear H
                                have H := H1
                                clear H1
                                by_cases c88 : (!(t148 == x143000_2) || (!(t149 == x143001_2))) = true
                                · rw [if_pos c88] at H
                                  have c88b0 : (!(t148 == x143000_2) || (!(t149 == x143001_2))) = true := c88
                                  clear c88
                                  replace H := Option.bind_eq_some_iff.mp H
                                  obtain ⟨t154, A890, H⟩ := H
                                  replace H : (if t154 = true then (some false) else (trammellaw16_IvlWidens.l0 kj28 l2 x9_6 (wrap64 (x12_2 + 1)) (wrap64 (x13_2 + 2)) t137 t138 t148 t149)) = some r := H
                                  have A89 := Aside0.mk A890
                                  clear A890
                                  by_cases c90 : t154 = true
                                  · subst c90
                                    have H1 : (some false) = some r := by rw [if_pos rfl] at H; exact H
                                    clear H
                                    have H := H1
                                    clear H1
                                    exact absurd (Option.some.inj H) (by rw [hr]; decide)
                                  · replace c90 := Bool.eq_false_iff.mpr c90
                                    subst c90
                                    have H1 : (trammellaw16_IvlWidens.l0 kj28 l2 x9_6 (wrap64 (x12_2 + 1)) (wrap64 (x13_2 + 2)) t137 t138 t148 t149) = some r := by rw [if_neg (show ¬ (false = true) by decide)] at H; exact H
                                    clear H
                                    have H := H1
                                    clear H1
                                    have H' := Aside0.mk H
                                    clear H
                                    have hnb91 := NB150_139.out
                                    have hnc91 := NB139_150.out
                                    have hnb92 := NB150_142.out
                                    have hnc92 := NB142_150.out
                                    have hnb93 := NB150_147.out
                                    have hnc93 := NB147_150.out
                                    have hcz94_0 : wc.cell? ⟨gb150, 0, none⟩ = some (.int .u64 t148) := (blk_cell BK150.out 0).trans rfl
                                    have hcz94_1 : wc.cell? ⟨gb150, 1, none⟩ = some (.int .u64 t149) := (blk_cell BK150.out 1).trans rfl
                                    have hfz94_0 := blk_frozen BK150.out 0
                                    have hfz94_1 := blk_frozen BK150.out 1
                                    have hnb95 := NB142_139.out
                                    have hnc95 := NB139_142.out
                                    have hnb96 := NB142_147.out
                                    have hnc96 := NB147_142.out
                                    have hcz97_0 : wc.cell? ⟨gb142, 0, none⟩ = some (.int .u64 x143000_2) := (blk_cell BK142.out 0).trans rfl
                                    have hcz97_1 : wc.cell? ⟨gb142, 1, none⟩ = some (.int .u64 x143001_2) := (blk_cell BK142.out 1).trans rfl
                                    have hfz97_0 := blk_frozen BK142.out 0
                                    have hfz97_1 := blk_frozen BK142.out 1
                                    have hnb98 := NB147_139.out
                                    have hnc98 := NB139_147.out
                                    have hcz99_0 : wc.cell? ⟨gb147, 0, none⟩ = some (.int .u64 t145) := (blk_cell BK147.out 0).trans rfl
                                    have hcz99_1 : wc.cell? ⟨gb147, 1, none⟩ = some (.int .u64 t146) := (blk_cell BK147.out 1).trans rfl
                                    have hfz99_0 := blk_frozen BK147.out 0
                                    have hfz99_1 := blk_frozen BK147.out 1
                                    go_wp2_with (first | ((with_reducible refine gate_callee (f := 11) rfl ?_); refine goesL_ (some 84) rfl rfl Try.func11 (by kernel_rfl) rfl #[.agg #[.int .u64 t145, .int .u64 t146], .agg #[.int .u64 x143000_2, .int .u64 x143001_2]] rfl (by (try simp only [List.map_toArray, List.map_cons, List.map_nil]); first | done | rfl | (simp only [List.length_drop, List.length_take]; rfl)) ?_; (with_reducible refine (ivl_Within.calls t145 t146 x143000_2 x143001_2 false _ A89.out).mono ?_); rintro e w100 ⟨rfl, hb⟩; refine ⟨_, rfl, ?_⟩; have n0_ := Aside0.mk (blk_below (g := gb139) (o := .cells #[.int .u64 t137, .int .u64 t138] 25 (0, 0)) (by (with_reducible repeat (first | refine blk_drewN ?_ _ | refine blk_drew ?_ | refine blk_alloc ?_ _)); exact BK139.out) hb); have n1_ := Aside0.mk (blk_below (g := gb142) (o := .cells #[.int .u64 x143000_2, .int .u64 x143001_2] 25 (0, 0)) (by (with_reducible repeat (first | refine blk_drewN ?_ _ | refine blk_drew ?_ | refine blk_alloc ?_ _)); exact BK142.out) hb); have n2_ := Aside0.mk (blk_below (g := gb147) (o := .cells #[.int .u64 t145, .int .u64 t146] 25 (0, 0)) (by (with_reducible repeat (first | refine blk_drewN ?_ _ | refine blk_drew ?_ | refine blk_alloc ?_ _)); exact BK147.out) hb); have n3_ := Aside0.mk (blk_below (g := gb150) (o := .cells #[.int .u64 t148, .int .u64 t149] 25 (0, 0)) (by (with_reducible repeat (first | refine blk_drewN ?_ _ | refine blk_drew ?_ | refine blk_alloc ?_ _)); exact BK150.out) hb); have n4_ := Aside0.mk (below_step (by repeat (first | (with_reducible first | exact HB.out | apply below_alloc | apply pw_below_drewN | apply below_drew1 | refine below_set ?_ GE139.out | refine below_set ?_ GE142.out | refine below_set ?_ GE147.out | refine below_set ?_ GE150.out) | exact HB.out)) hb); clear BK139; clear BK142; clear BK147; clear BK150; clear HB; have BK139 := n0_; have BK142 := n1_; have BK147 := n2_; have BK150 := n3_; have HB := n4_; clear n0_ n1_ n2_ n3_ n4_; (try clear hb); (try clear hb2); (try clear hk); (try clear hi); have hcz101_0 : w100.cell? ⟨gb150, 0, none⟩ = some (.int .u64 t148) := (blk_cell BK150.out 0).trans rfl; have hcz101_1 : w100.cell? ⟨gb150, 1, none⟩ = some (.int .u64 t149) := (blk_cell BK150.out 1).trans rfl; have hfz101_0 := blk_frozen BK150.out 0; have hfz101_1 := blk_frozen BK150.out 1; have hcz102_0 : w100.cell? ⟨gb142, 0, none⟩ = some (.int .u64 x143000_2) := (blk_cell BK142.out 0).trans rfl; have hcz102_1 : w100.cell? ⟨gb142, 1, none⟩ = some (.int .u64 x143001_2) := (blk_cell BK142.out 1).trans rfl; have hfz102_0 := blk_frozen BK142.out 0; have hfz102_1 := blk_frozen BK142.out 1))
                                    go_roundg kj28
                                    case measure => have := HJ6.out; have := HK2.out; have := HJ18.out; have := HJ28.out; omega
                                    case rel => exact ⟨(wrap64 (x12_2 + 1)), (wrap64 (x13_2 + 2)), (t148), (t149), (by first | rfl | (simp; done) | (simp [*]; done)), (by first | rfl | (simp; done) | (simp [*]; done)), H', ⟨by have := HJ6.out; have := HK2.out; have := HJ18.out; have := HJ28.out; omega⟩, ⟨by (with_reducible repeat (first | refine blk_drewN ?_ _ | refine blk_drew ?_ | refine blk_alloc ?_ _)); refine blk_far ?_ NB139_142.out _; (with_reducible repeat (first | refine blk_drewN ?_ _ | refine blk_drew ?_ | refine blk_alloc ?_ _)); refine blk_far ?_ NB139_142.out _; (with_reducible repeat (first | refine blk_drewN ?_ _ | refine blk_drew ?_ | refine blk_alloc ?_ _)); exact BK139.out⟩, ⟨by (with_reducible repeat (first | refine blk_drewN ?_ _ | refine blk_drew ?_ | refine blk_alloc ?_ _)); refine blk_put (cs := #[.int .u64 t148, .int .u64 x143001_2]) ?_ 1 _ rfl; (with_reducible repeat (first | refine blk_drewN ?_ _ | refine blk_drew ?_ | refine blk_alloc ?_ _)); refine blk_put (cs := #[.int .u64 x143000_2, .int .u64 x143001_2]) ?_ 0 _ rfl; (with_reducible repeat (first | refine blk_drewN ?_ _ | refine blk_drew ?_ | refine blk_alloc ?_ _)); exact BK142.out⟩, ⟨by repeat (first | (with_reducible first | exact HB.out | apply below_alloc | apply pw_below_drewN | apply below_drew1 | refine below_set ?_ GE139.out | refine below_set ?_ GE142.out | refine below_set ?_ GE147.out | refine below_set ?_ GE150.out) | exact HB.out)⟩⟩
                                · rw [if_neg c88] at H
                                  have c88b0 : (!(t148 == x143000_2) || (!(t149 == x143001_2))) = false := by simpa using c88
                                  clear c88
                                  replace H := Option.bind_eq_some_iff.mp H
                                  obtain ⟨t155, A1030, H⟩ := H
                                  replace H : (if t155 = true then (trammellaw16_IvlWidens.l0 kj28 l2 x9_6 x12_2 (wrap64 (x13_2 + 2)) t137 t138 t148 t149) else (trammellaw16_IvlWidens.l0 kj28 l2 x9_6 x12_2 (wrap64 (x13_2 + 2)) t137 t138 t148 t149)) = some r := H
                                  have A103 := Aside0.mk A1030
                                  clear A1030
                                  by_cases c104 : t155 = true
                                  · subst c104
                                    have H1 : (trammellaw16_IvlWidens.l0 kj28 l2 x9_6 x12_2 (wrap64 (x13_2 + 2)) t137 t138 t148 t149) = some r := by rw [if_pos rfl] at H; exact H
                                    clear H
                                    have H := H1
                                    clear H1
                                    have H' := Aside0.mk H
                                    clear H
                                    have hnb105 := NB150_139.out
                                    have hnc105 := NB139_150.out
                                    have hnb106 := NB150_142.out
                                    have hnc106 := NB142_150.out
                                    have hnb107 := NB150_147.out
                                    have hnc107 := NB147_150.out
                                    have hcz108_0 : wc.cell? ⟨gb150, 0, none⟩ = some (.int .u64 t148) := (blk_cell BK150.out 0).trans rfl
                                    have hcz108_1 : wc.cell? ⟨gb150, 1, none⟩ = some (.int .u64 t149) := (blk_cell BK150.out 1).trans rfl
                                    have hfz108_0 := blk_frozen BK150.out 0
                                    have hfz108_1 := blk_frozen BK150.out 1
                                    have hnb109 := NB142_139.out
                                    have hnc109 := NB139_142.out
                                    have hnb110 := NB142_147.out
                                    have hnc110 := NB147_142.out
                                    have hcz111_0 : wc.cell? ⟨gb142, 0, none⟩ = some (.int .u64 x143000_2) := (blk_cell BK142.out 0).trans rfl
                                    have hcz111_1 : wc.cell? ⟨gb142, 1, none⟩ = some (.int .u64 x143001_2) := (blk_cell BK142.out 1).trans rfl
                                    have hfz111_0 := blk_frozen BK142.out 0
                                    have hfz111_1 := blk_frozen BK142.out 1
                                    have hnb112 := NB147_139.out
                                    have hnc112 := NB139_147.out
                                    have hcz113_0 : wc.cell? ⟨gb147, 0, none⟩ = some (.int .u64 t145) := (blk_cell BK147.out 0).trans rfl
                                    have hcz113_1 : wc.cell? ⟨gb147, 1, none⟩ = some (.int .u64 t146) := (blk_cell BK147.out 1).trans rfl
                                    have hfz113_0 := blk_frozen BK147.out 0
                                    have hfz113_1 := blk_frozen BK147.out 1
                                    go_wp2_with (first | ((with_reducible refine gate_callee (f := 11) rfl ?_); refine goesL_ (some 84) rfl rfl Try.func11 (by kernel_rfl) rfl #[.agg #[.int .u64 t145, .int .u64 t146], .agg #[.int .u64 x143000_2, .int .u64 x143001_2]] rfl (by (try simp only [List.map_toArray, List.map_cons, List.map_nil]); first | done | rfl | (simp only [List.length_drop, List.length_take]; rfl)) ?_; (with_reducible refine (ivl_Within.calls t145 t146 x143000_2 x143001_2 true _ A103.out).mono ?_); rintro e w114 ⟨rfl, hb⟩; refine ⟨_, rfl, ?_⟩; have n0_ := Aside0.mk (blk_below (g := gb139) (o := .cells #[.int .u64 t137, .int .u64 t138] 25 (0, 0)) (by (with_reducible repeat (first | refine blk_drewN ?_ _ | refine blk_drew ?_ | refine blk_alloc ?_ _)); exact BK139.out) hb); have n1_ := Aside0.mk (blk_below (g := gb142) (o := .cells #[.int .u64 x143000_2, .int .u64 x143001_2] 25 (0, 0)) (by (with_reducible repeat (first | refine blk_drewN ?_ _ | refine blk_drew ?_ | refine blk_alloc ?_ _)); exact BK142.out) hb); have n2_ := Aside0.mk (blk_below (g := gb147) (o := .cells #[.int .u64 t145, .int .u64 t146] 25 (0, 0)) (by (with_reducible repeat (first | refine blk_drewN ?_ _ | refine blk_drew ?_ | refine blk_alloc ?_ _)); exact BK147.out) hb); have n3_ := Aside0.mk (blk_below (g := gb150) (o := .cells #[.int .u64 t148, .int .u64 t149] 25 (0, 0)) (by (with_reducible repeat (first | refine blk_drewN ?_ _ | refine blk_drew ?_ | refine blk_alloc ?_ _)); exact BK150.out) hb); have n4_ := Aside0.mk (below_step (by repeat (first | (with_reducible first | exact HB.out | apply below_alloc | apply pw_below_drewN | apply below_drew1 | refine below_set ?_ GE139.out | refine below_set ?_ GE142.out | refine below_set ?_ GE147.out | refine below_set ?_ GE150.out) | exact HB.out)) hb); clear BK139; clear BK142; clear BK147; clear BK150; clear HB; have BK139 := n0_; have BK142 := n1_; have BK147 := n2_; have BK150 := n3_; have HB := n4_; clear n0_ n1_ n2_ n3_ n4_; (try clear hb); (try clear hb2); (try clear hk); (try clear hi); have hcz115_0 : w114.cell? ⟨gb150, 0, none⟩ = some (.int .u64 t148) := (blk_cell BK150.out 0).trans rfl; have hcz115_1 : w114.cell? ⟨gb150, 1, none⟩ = some (.int .u64 t149) := (blk_cell BK150.out 1).trans rfl; have hfz115_0 := blk_frozen BK150.out 0; have hfz115_1 := blk_frozen BK150.out 1; have hcz116_0 : w114.cell? ⟨gb142, 0, none⟩ = some (.int .u64 x143000_2) := (blk_cell BK142.out 0).trans rfl; have hcz116_1 : w114.cell? ⟨gb142, 1, none⟩ = some (.int .u64 x143001_2) := (blk_cell BK142.out 1).trans rfl; have hfz116_0 := blk_frozen BK142.out 0; have hfz116_1 := blk_frozen BK142.out 1))
                                    go_roundg kj28
                                    case measure => have := HJ6.out; have := HK2.out; have := HJ18.out; have := HJ28.out; omega
                                    case rel => exact ⟨(x12_2), (wrap64 (x13_2 + 2)), (t148), (t149), (by first | rfl | (simp; done) | (simp [*]; done)), (by first | rfl | (simp; done) | (simp [*]; done)), H', ⟨by have := HJ6.out; have := HK2.out; have := HJ18.out; have := HJ28.out; omega⟩, ⟨by (with_reducible repeat (first | refine blk_drewN ?_ _ | refine blk_drew ?_ | refine blk_alloc ?_ _)); refine blk_far ?_ NB139_142.out _; (with_reducible repeat (first | refine blk_drewN ?_ _ | refine blk_drew ?_ | refine blk_alloc ?_ _)); refine blk_far ?_ NB139_142.out _; (with_reducible repeat (first | refine blk_drewN ?_ _ | refine blk_drew ?_ | refine blk_alloc ?_ _)); exact BK139.out⟩, ⟨by (with_reducible repeat (first | refine blk_drewN ?_ _ | refine blk_drew ?_ | refine blk_alloc ?_ _)); refine blk_put (cs := #[.int .u64 t148, .int .u64 x143001_2]) ?_ 1 _ rfl; (with_reducible repeat (first | refine blk_drewN ?_ _ | refine blk_drew ?_ | refine blk_alloc ?_ _)); refine blk_put (cs := #[.int .u64 x143000_2, .int .u64 x143001_2]) ?_ 0 _ rfl; (with_reducible repeat (first | refine blk_drewN ?_ _ | refine blk_drew ?_ | refine blk_alloc ?_ _)); exact BK142.out⟩, ⟨by repeat (first | (with_reducible first | exact HB.out | apply below_alloc | apply pw_below_drewN | apply below_drew1 | refine below_set ?_ GE139.out | refine below_set ?_ GE142.out | refine below_set ?_ GE147.out | refine below_set ?_ GE150.out) | exact HB.out)⟩⟩
                                  · replace c104 := Bool.eq_false_iff.mpr c104
                                    subst c104
                                    have H1 : (trammellaw16_IvlWidens.l0 kj28 l2 x9_6 x12_2 (wrap64 (x13_2 + 2)) t137 t138 t148 t149) = some r := by rw [if_neg (show ¬ (false = true) by decide)] at H; exact H
                                    clear H
                                    have H := H1
                                    clear H1
                                    have H' := Aside0.mk H
                                    clear H
                                    have hnb117 := NB150_139.out
                                    have hnc117 := NB139_150.out
                                    have hnb118 := NB150_142.out
                                    have hnc118 := NB142_150.out
                                    have hnb119 := NB150_147.out
                                    have hnc119 := NB147_150.out
                                    have hcz120_0 : wc.cell? ⟨gb150, 0, none⟩ = some (.int .u64 t148) := (blk_cell BK150.out 0).trans rfl
                                    have hcz120_1 : wc.cell? ⟨gb150, 1, none⟩ = some (.int .u64 t149) := (blk_cell BK150.out 1).trans rfl
                                    have hfz120_0 := blk_frozen BK150.out 0
                                    have hfz120_1 := blk_frozen BK150.out 1
                                    have hnb121 := NB142_139.out
                                    have hnc121 := NB139_142.out
                                    have hnb122 := NB142_147.out
                                    have hnc122 := NB147_142.out
                                    have hcz123_0 : wc.cell? ⟨gb142, 0, none⟩ = some (.int .u64 x143000_2) := (blk_cell BK142.out 0).trans rfl
                                    have hcz123_1 : wc.cell? ⟨gb142, 1, none⟩ = some (.int .u64 x143001_2) := (blk_cell BK142.out 1).trans rfl
                                    have hfz123_0 := blk_frozen BK142.out 0
                                    have hfz123_1 := blk_frozen BK142.out 1
                                    have hnb124 := NB147_139.out
                                    have hnc124 := NB139_147.out
                                    have hcz125_0 : wc.cell? ⟨gb147, 0, none⟩ = some (.int .u64 t145) := (blk_cell BK147.out 0).trans rfl
                                    have hcz125_1 : wc.cell? ⟨gb147, 1, none⟩ = some (.int .u64 t146) := (blk_cell BK147.out 1).trans rfl
                                    have hfz125_0 := blk_frozen BK147.out 0
                                    have hfz125_1 := blk_frozen BK147.out 1
                                    go_wp2_with (first | ((with_reducible refine gate_callee (f := 11) rfl ?_); refine goesL_ (some 84) rfl rfl Try.func11 (by kernel_rfl) rfl #[.agg #[.int .u64 t145, .int .u64 t146], .agg #[.int .u64 x143000_2, .int .u64 x143001_2]] rfl (by (try simp only [List.map_toArray, List.map_cons, List.map_nil]); first | done | rfl | (simp only [List.length_drop, List.length_take]; rfl)) ?_; (with_reducible refine (ivl_Within.calls t145 t146 x143000_2 x143001_2 false _ A103.out).mono ?_); rintro e w126 ⟨rfl, hb⟩; refine ⟨_, rfl, ?_⟩; have n0_ := Aside0.mk (blk_below (g := gb139) (o := .cells #[.int .u64 t137, .int .u64 t138] 25 (0, 0)) (by (with_reducible repeat (first | refine blk_drewN ?_ _ | refine blk_drew ?_ | refine blk_alloc ?_ _)); exact BK139.out) hb); have n1_ := Aside0.mk (blk_below (g := gb142) (o := .cells #[.int .u64 x143000_2, .int .u64 x143001_2] 25 (0, 0)) (by (with_reducible repeat (first | refine blk_drewN ?_ _ | refine blk_drew ?_ | refine blk_alloc ?_ _)); exact BK142.out) hb); have n2_ := Aside0.mk (blk_below (g := gb147) (o := .cells #[.int .u64 t145, .int .u64 t146] 25 (0, 0)) (by (with_reducible repeat (first | refine blk_drewN ?_ _ | refine blk_drew ?_ | refine blk_alloc ?_ _)); exact BK147.out) hb); have n3_ := Aside0.mk (blk_below (g := gb150) (o := .cells #[.int .u64 t148, .int .u64 t149] 25 (0, 0)) (by (with_reducible repeat (first | refine blk_drewN ?_ _ | refine blk_drew ?_ | refine blk_alloc ?_ _)); exact BK150.out) hb); have n4_ := Aside0.mk (below_step (by repeat (first | (with_reducible first | exact HB.out | apply below_alloc | apply pw_below_drewN | apply below_drew1 | refine below_set ?_ GE139.out | refine below_set ?_ GE142.out | refine below_set ?_ GE147.out | refine below_set ?_ GE150.out) | exact HB.out)) hb); clear BK139; clear BK142; clear BK147; clear BK150; clear HB; have BK139 := n0_; have BK142 := n1_; have BK147 := n2_; have BK150 := n3_; have HB := n4_; clear n0_ n1_ n2_ n3_ n4_; (try clear hb); (try clear hb2); (try clear hk); (try clear hi); have hcz127_0 : w126.cell? ⟨gb150, 0, none⟩ = some (.int .u64 t148) := (blk_cell BK150.out 0).trans rfl; have hcz127_1 : w126.cell? ⟨gb150, 1, none⟩ = some (.int .u64 t149) := (blk_cell BK150.out 1).trans rfl; have hfz127_0 := blk_frozen BK150.out 0; have hfz127_1 := blk_frozen BK150.out 1; have hcz128_0 : w126.cell? ⟨gb142, 0, none⟩ = some (.int .u64 x143000_2) := (blk_cell BK142.out 0).trans rfl; have hcz128_1 : w126.cell? ⟨gb142, 1, none⟩ = some (.int .u64 x143001_2) := (blk_cell BK142.out 1).trans rfl; have hfz128_0 := blk_frozen BK142.out 0; have hfz128_1 := blk_frozen BK142.out 1))
                                    go_roundg kj28
                                    case measure => have := HJ6.out; have := HK2.out; have := HJ18.out; have := HJ28.out; omega
                                    case rel => exact ⟨(x12_2), (wrap64 (x13_2 + 2)), (t148), (t149), (by first | rfl | (simp; done) | (simp [*]; done)), (by first | rfl | (simp; done) | (simp [*]; done)), H', ⟨by have := HJ6.out; have := HK2.out; have := HJ18.out; have := HJ28.out; omega⟩, ⟨by (with_reducible repeat (first | refine blk_drewN ?_ _ | refine blk_drew ?_ | refine blk_alloc ?_ _)); refine blk_far ?_ NB139_142.out _; (with_reducible repeat (first | refine blk_drewN ?_ _ | refine blk_drew ?_ | refine blk_alloc ?_ _)); refine blk_far ?_ NB139_142.out _; (with_reducible repeat (first | refine blk_drewN ?_ _ | refine blk_drew ?_ | refine blk_alloc ?_ _)); exact BK139.out⟩, ⟨by (with_reducible repeat (first | refine blk_drewN ?_ _ | refine blk_drew ?_ | refine blk_alloc ?_ _)); refine blk_put (cs := #[.int .u64 t148, .int .u64 x143001_2]) ?_ 1 _ rfl; (with_reducible repeat (first | refine blk_drewN ?_ _ | refine blk_drew ?_ | refine blk_alloc ?_ _)); refine blk_put (cs := #[.int .u64 x143000_2, .int .u64 x143001_2]) ?_ 0 _ rfl; (with_reducible repeat (first | refine blk_drewN ?_ _ | refine blk_drew ?_ | refine blk_alloc ?_ _)); exact BK142.out⟩, ⟨by repeat (first | (with_reducible first | exact HB.out | apply below_alloc | apply pw_below_drewN | apply below_drew1 | refine below_set ?_ GE139.out | refine below_set ?_ GE142.out | refine below_set ?_ GE147.out | refine below_set ?_ GE150.out) | exact HB.out)⟩⟩
                        · rw [if_neg c26] at H
                          exact absurd H (by simp)
                      · rw [if_neg c25] at H
                        exact absurd H (by simp)
                    · rw [if_neg c23] at H
                      exact absurd H (by simp)
                  · rw [if_neg c22] at H
                    exact absurd H (by simp)
                · replace c21 := Bool.eq_false_iff.mpr c21
                  subst c21
                  have H1 : (some (decide (x12_2 ≤ 2))) = some r := by rw [if_neg (show ¬ (false = true) by decide)] at H; exact H
                  clear H
                  have H := H1
                  clear H1
                  obtain rfl := Option.some.inj H
                  go_wp2
                  go_ret
                  exact ⟨by first | rfl | (simp [errW_none, errW_some] <;> rfl) | (simp [*, errW_none, errW_some] <;> rfl), by repeat (first | (with_reducible first | exact HB.out | apply below_alloc | apply pw_below_drewN | apply below_drew1 | refine below_set ?_ GE139.out | refine below_set ?_ GE142.out) | exact HB.out)⟩
  · replace c6 := Bool.eq_false_iff.mpr c6
    subst c6
    have H1 : (some false) = some r := by rw [if_neg (show ¬ (false = true) by decide)] at H; exact H
    clear H
    have H := H1
    clear H1
    exact absurd (Option.some.inj H) (by rw [hr]; decide)

/-- THE ONE PURE STATEMENT of trammellaw16_IvlWidens: yours. -/
def trammellaw16_IvlWidens.Pure : Prop := ∀ (a0 : Int) (a1 : Int) (l2 : List Int) (a3 : Bool), (Lit.int .u64 a0).wf = true → (Lit.int .u64 a1).wf = true → l2.length ≤ maxLen → l2.length * 8 ≤ 140737488351232 → (∀ x ∈ l2, (Lit.int .u64 x).wf = true) → ∃ k, trammellaw16_IvlWidens.f k a0 a1 l2 a3 = some true
theorem trammellaw16_IvlWidens.walk (P : trammellaw16_IvlWidens.Pure) (a0 : Int) (a1 : Int) (a2 : Option Addr) (len2 cap2 : Nat) (z2 : List Int) (a3 : Bool) (w : World) (w0 : (Lit.int .u64 a0).wf = true) (w1 : (Lit.int .u64 a1).wf = true) (w2 : (a2 = none ∧ len2 = 0 ∧ cap2 = 0 ∧ z2 = []) ∨ ∃ x, a2 = some x ∧ len2 ≤ cap2 ∧ cap2 ≤ maxLen ∧ z2.length = cap2 ∧ (∀ i, i < z2.length → w.cell? (x.add i) = some (.int .u64 (z2.getD i 0))) ∧ ∀ n ∈ z2, (Lit.int .u64 n).wf = true) (y2 : len2 * 8 ≤ 140737488351232) :
    Calls Try.prog 4 #[.int .u64 a0, .int .u64 a1, .slice a2 len2 cap2, .bool a3] w fun e w' => e = .returned (.bool true) ∧ Below w.heap.size w w' := by
  obtain ⟨l2, rfl, hr2, hm2, hw2, hc2⟩ := ReadsInt.ofRowC w2
  obtain ⟨k, h⟩ := P a0 a1 l2 a3 w0 w1 hm2 y2 hw2
  refine (trammellaw16_IvlWidens.calls k a0 a1 _ _ l2 a3 true w (Kd.C_of_reads (d := (0 : Int)) (h1 := fun _ => rfl) hr2) hc2 rfl h).mono ?_
  rintro e w' ⟨rfl, hd⟩
  exact ⟨rfl, hd⟩

end Go.Proofs.Ytaajijommogaoaa.PIvlWidens
