-- Written by a program of this session (wip/tools/myprint.py over the print of the kit).
import Derived.Test.YtfhmhoefeokihaaDoorPLowGrowsx0
import Derived.Test.YtfhmhoefeokihaaDoorPLowGrowsx1
import Derived.Test.YtfhmhoefeokihaaDoorPLowGrowsx2
import Derived.Test.YtfhmhoefeokihaaDoorPLowGrowsx3
namespace Go.Proofs.YtfhmhoefeokihaaDoor.PLowGrows
open Go.Proofs.YtfhmhoefeokihaaDoor.Ext
open Go.Proofs.YtfhmhoefeokihaaDoor.Tabs
open Go.RowKit Go.Proofs.YtfhmhoefeokihaaDoorW.PrintWords Go.Proofs.YtfhmhoefeokihaaDoorW.PrintLast Go.Proofs.YtfhmhoefeokihaaDoorW.PrintMore
attribute [local go_sem] max2_int min2_int max_two min_two max_three min_three max_four min_four   -- for this text's walks alone
set_option linter.unusedVariables false
set_option linter.unusedSimpArgs false

attribute [local go_sem high] eqA25
theorem zp3_ {P : Prop} (h : P := by (simp only [Act.put, List.setIfInBounds_toArray, List.set_cons_zero, List.set_cons_succ, i64_w, i32_w]; rfl)) : P := h
theorem zl3_ {P Q : Prop} (x : Q) (h : Q → P := by (intro x_; (with_reducible repeat (first | refine blk_drewN ?_ _ | refine blk_drew ?_ | refine blk_alloc ?_ _)); exact x_)) : P := h x
theorem zb3_0 {P : Prop} (h : P := by (repeat (first | (with_reducible first | exact HB.out | apply below_alloc | apply pw_below_drewN | apply below_drew1 | refine below_set ?_ GE161.out | refine below_set ?_ GE162.out | refine below_set ?_ GE165.out) | exact HB.out))) : P := h
theorem zb3_1 {P : Prop} (h : P := by ((try simp only [List.map_toArray, List.map_cons, List.map_nil]); first | done | rfl | (simp only [List.length_drop, List.length_take]; rfl))) : P := h
theorem zb3_2 {P : Prop} (h : P := by (repeat (first | (with_reducible first | exact HB.out | apply below_alloc | apply pw_below_drewN | apply below_drew1) | exact HB.out))) : P := h
theorem zb3_3 {P : Prop} (h : P := by (repeat (first | (with_reducible first | exact HB.out | apply below_alloc | apply pw_below_drewN | apply below_drew1 | refine below_set ?_ GE161.out | refine below_set ?_ GE162.out) | exact HB.out))) : P := h
/-! ### trammellaw17_LowGrows: function 3 -/
def trammellaw17_LowGrows.j0 : Nat → Int → Int → Int → Int → Int → Int → Option (Bool)
  | 0, _, _, _, _, _, _ => none
  | k + 1, x0, x1, x2, x3, x4, x13 => (trammellaw17_some.f k x0 x2).bind fun bt157 => ((trammellaw17_some.f k x1 x3).bind fun bt159 => ((low_Cut.f bt157.1 bt157.2 (wrap64 (x4))).bind fun bt163 => ((low_Add.f k bt157.1 bt157.2 bt159.1 bt159.2 x13).bind fun bt166 => ((low_Add.f k bt163.1 bt163.2 bt159.1 bt159.2 x13).bind fun bt168 => ((low_Within.f bt166.1 bt166.2 bt168.1 bt168.2).bind fun t170 => (if t170 = true then ((low_Sub.f k bt157.1 bt157.2 bt159.1 bt159.2 x13).bind fun bt171 => ((low_Sub.f k bt163.1 bt163.2 bt159.1 bt159.2 x13).bind fun bt173 => ((low_Within.f bt171.1 bt171.2 bt173.1 bt173.2).bind fun t175 => (if t175 = true then ((low_Mul.f k bt157.1 bt157.2 bt159.1 bt159.2 x13).bind fun bt176 => ((low_Mul.f k bt163.1 bt163.2 bt159.1 bt159.2 x13).bind fun bt178 => ((low_Within.f bt176.1 bt176.2 bt178.1 bt178.2).bind fun t180 => (if t180 = true then ((low_And.f bt157.1 bt157.2 bt159.1 bt159.2).bind fun bt181 => ((low_And.f bt163.1 bt163.2 bt159.1 bt159.2).bind fun bt183 => ((low_Within.f bt181.1 bt181.2 bt183.1 bt183.2).bind fun t185 => (if t185 = true then ((low_Or.f bt157.1 bt157.2 bt159.1 bt159.2).bind fun bt186 => ((low_Or.f bt163.1 bt163.2 bt159.1 bt159.2).bind fun bt188 => ((low_Within.f bt186.1 bt186.2 bt188.1 bt188.2).bind fun t190 => (if t190 = true then ((low_Xor.f bt157.1 bt157.2 bt159.1 bt159.2).bind fun bt191 => ((low_Xor.f bt163.1 bt163.2 bt159.1 bt159.2).bind fun bt193 => ((low_Within.f bt191.1 bt191.2 bt193.1 bt193.2).bind fun t195 => (if t195 = true then ((low_Add.f k bt157.1 bt157.2 bt159.1 bt159.2 x13).bind fun bt196 => ((low_Add.f k bt159.1 bt159.2 bt157.1 bt157.2 x13).bind fun bt198 => (if (bt196.1 == bt198.1 && (bt196.2 == bt198.2)) = true then ((low_Mul.f k bt157.1 bt157.2 bt159.1 bt159.2 x13).bind fun bt200 => ((low_Mul.f k bt159.1 bt159.2 bt157.1 bt157.2 x13).bind fun bt202 => (if (bt200.1 == bt202.1 && (bt200.2 == bt202.2)) = true then ((low_And.f bt157.1 bt157.2 bt159.1 bt159.2).bind fun bt204 => ((low_And.f bt159.1 bt159.2 bt157.1 bt157.2).bind fun bt206 => (if (bt204.1 == bt206.1 && (bt204.2 == bt206.2)) = true then ((low_Or.f bt157.1 bt157.2 bt159.1 bt159.2).bind fun bt208 => ((low_Or.f bt159.1 bt159.2 bt157.1 bt157.2).bind fun bt210 => (if (bt208.1 == bt210.1 && (bt208.2 == bt210.2)) = true then ((low_Xor.f bt157.1 bt157.2 bt159.1 bt159.2).bind fun bt212 => ((low_Xor.f bt159.1 bt159.2 bt157.1 bt157.2).bind fun bt214 => (some (bt212.1 == bt214.1 && (bt212.2 == bt214.2))))) else (some false)))) else (some false)))) else (some false)))) else (some false)))) else (some false))))) else (some false))))) else (some false))))) else (some false))))) else (some false))))) else (some false)))))))
def trammellaw17_LowGrows.f (k : Nat) (a0 : Int) (a1 : Int) (a2 : Int) (a3 : Int) (a4 : Int) (a5 : Bool) : Option (Bool) := (trammellaw17_awake.f k).bind fun t156 => (if t156 = true then (if a5 = true then (trammellaw17_LowGrows.j0 k a0 a1 a2 a3 a4 64) else (trammellaw17_LowGrows.j0 k a0 a1 a2 a3 a4 32)) else (some false))
theorem trammellaw17_LowGrows.mono_l : ∀ k, (∀ y0 y1 y2 y3 y4 y5, LeO (trammellaw17_LowGrows.j0 k y0 y1 y2 y3 y4 y5) (trammellaw17_LowGrows.j0 (k + 1) y0 y1 y2 y3 y4 y5))
  | 0 => fun _ _ _ _ _ _ r h => by simp [trammellaw17_LowGrows.j0] at h
  | k + 1 => by
    have ih0 := trammellaw17_LowGrows.mono_l k
    · intro y0 y1 y2 y3 y4 y5
      unfold trammellaw17_LowGrows.j0
      repeat' first
      | (with_reducible exact ih0 _ _ _ _ _ _)
      | (with_reducible exact low_Add.mono _ _ _ _ _ _)
      | (with_reducible exact low_Mul.mono _ _ _ _ _ _)
      | (with_reducible exact low_Sub.mono _ _ _ _ _ _)
      | (with_reducible exact trammellaw17_awake.mono _)
      | (with_reducible exact trammellaw17_some.mono _ _ _)
      | (with_reducible exact LeO.refl _)
      | (with_reducible exact LeO.none _)
      | (with_reducible refine LeO.ite ?_ ?_)
      | (with_reducible refine LeO.bind ?_ (fun _ => ?_))
      | exact ih0 _ _ _ _ _ _
      | exact low_Add.mono _ _ _ _ _ _
      | exact low_Mul.mono _ _ _ _ _ _
      | exact low_Sub.mono _ _ _ _ _ _
      | exact trammellaw17_awake.mono _
      | exact trammellaw17_some.mono _ _ _
      | exact LeO.none _
      | refine LeO.ite ?_ ?_
      | refine LeO.bind ?_ (fun _ => ?_)
theorem trammellaw17_LowGrows.mono : ∀ a0 a1 a2 a3 a4 a5 k, LeO (trammellaw17_LowGrows.f k a0 a1 a2 a3 a4 a5) (trammellaw17_LowGrows.f (k + 1) a0 a1 a2 a3 a4 a5) := by
  intro a0 a1 a2 a3 a4 a5 k
  have ih0 := trammellaw17_LowGrows.mono_l k
  unfold trammellaw17_LowGrows.f
  repeat' first
      | (with_reducible exact ih0 _ _ _ _ _ _)
      | (with_reducible exact low_Add.mono _ _ _ _ _ _)
      | (with_reducible exact low_Mul.mono _ _ _ _ _ _)
      | (with_reducible exact low_Sub.mono _ _ _ _ _ _)
      | (with_reducible exact trammellaw17_awake.mono _)
      | (with_reducible exact trammellaw17_some.mono _ _ _)
      | (with_reducible exact LeO.refl _)
      | (with_reducible exact LeO.none _)
      | (with_reducible refine LeO.ite ?_ ?_)
      | (with_reducible refine LeO.bind ?_ (fun _ => ?_))
      | exact ih0 _ _ _ _ _ _
      | exact low_Add.mono _ _ _ _ _ _
      | exact low_Mul.mono _ _ _ _ _ _
      | exact low_Sub.mono _ _ _ _ _ _
      | exact trammellaw17_awake.mono _
      | exact trammellaw17_some.mono _ _ _
      | exact LeO.none _
      | refine LeO.ite ?_ ?_
      | refine LeO.bind ?_ (fun _ => ?_)
def trammellaw17_LowGrows.T8 : Bool × List (List Nat × List Nat) := (true, [([], []), ([], []), ([], []), ([0, 1, 2], [0, 1, 2]), ([], []), ([], []), ([], []), ([4, 5, 6, 3], [4, 5, 6]), ([3, 7, 7], [3, 7]), ([8, 8], [8]), ([9], [9]), ([9], [9]), ([9], [9]), ([10, 11, 12, 9, 9], [9, 10, 11, 12]), ([9], [9]), ([9], [9]), ([9], [9]), ([14, 15, 16, 13, 9], [9, 14, 15, 16]), ([13, 17, 17, 9], [9, 13, 17]), ([9, 18], [9, 18]), ([19, 18], [19]), ([20], [20]), ([20], [20]), ([20], [20]), ([21, 22, 23, 20, 20], [20, 21, 22, 23]), ([20], [20]), ([20], [20]), ([20], [20]), ([25, 26, 27, 24, 20], [20, 25, 26, 27]), ([24, 28, 28, 20], [20, 24, 28]), ([20, 29], [20, 29]), ([30, 29], [30]), ([31], [31]), ([31], [31]), ([32, 33, 31, 31], [31, 32, 33]), ([31], [31]), ([31], [31]), ([35, 36, 34, 31], [31, 35, 36]), ([34, 37, 37, 31], [31, 34, 37]), ([31, 38], [31, 38]), ([39, 38], [39]), ([40], [40]), ([40], [40]), ([41, 42, 40, 40], [40, 41, 42]), ([40], [40]), ([40], [40]), ([44, 45, 43, 40], [40, 44, 45]), ([43, 46, 46, 40], [40, 43, 46]), ([40, 47], [40, 47]), ([48, 47], [48]), ([49], [49]), ([49], [49]), ([50, 51, 49, 49], [49, 50, 51]), ([49], [49]), ([49], [49]), ([53, 54, 52, 49], [49, 53, 54]), ([52, 55, 55, 49], [49, 52, 55]), ([49, 56], [49, 56]), ([57, 56], [57]), ([58], [58]), ([58], [58]), ([58], [58]), ([59, 60, 61, 58, 58], [58, 59, 60, 61]), ([58], [58]), ([58], [58]), ([58], [58]), ([63, 64, 65, 62, 58], [58, 63, 64, 65]), ([62, 66, 58], [58, 62, 66]), ([58, 67], [58, 67]), ([68, 66], [68]), ([69], [69]), ([69], [69]), ([69], [69]), ([70, 71, 72, 69, 69], [69, 70, 71, 72]), ([69], [69]), ([69], [69]), ([69], [69]), ([74, 75, 76, 73, 69], [69, 74, 75, 76]), ([73, 77, 69], [69, 73, 77]), ([69, 78], [69, 78]), ([79, 77], [79]), ([80], [80]), ([80], [80]), ([81, 82, 80, 80], [80, 81, 82]), ([80], [80]), ([80], [80]), ([84, 85, 83, 80], [80, 84, 85]), ([83, 86, 80], [80, 83, 86]), ([80, 87], [80, 87]), ([88, 86], [88]), ([89], [89]), ([89], [89]), ([90, 91, 89, 89], [89, 90, 91]), ([89], [89]), ([89], [89]), ([93, 94, 92, 89], [89, 93, 94]), ([92, 95, 89], [89, 92, 95]), ([89, 96], [89, 96]), ([97, 95], [97]), ([98], [98]), ([98], [98]), ([99, 100, 98, 98], [98, 99, 100]), ([98], [98]), ([98], [98]), ([102, 103, 101, 98], [98, 102, 103]), ([101, 104, 98], [98, 101, 104]), ([98, 105], [98, 105]), ([106, 104, 0, 1, 2, 3, 4, 5, 6, 7, 8, 9, 10, 11, 12, 13, 14, 15, 16, 17, 18, 19, 20, 21, 22, 23, 24, 25, 26, 27, 28, 29, 30, 31, 32, 33, 34, 35, 36, 37, 38, 39, 40, 41, 42, 43, 44, 45, 46, 47, 48, 49, 50, 51, 52, 53, 54, 55, 56, 57, 58, 59, 60, 61, 62, 63, 64, 65, 66, 67, 68, 69, 70, 71, 72, 73, 74, 75, 76, 77, 78, 79, 80, 81, 82, 83, 84, 85, 86, 87, 88, 89, 90, 91, 92, 93, 94, 95, 96, 97, 98, 99, 100, 101, 102, 103, 104, 105, 106], [106])])
def trammellaw17_LowGrows.B8 : List Nat := [0, 0, 0, 7, 0, 0, 0, 127, 255, 511, 1023, 1023, 1023, 8191, 1023, 1023, 1023, 131071, 262143, 524287, 1048575, 2097151, 2097151, 2097151, 16777215, 2097151, 2097151, 2097151, 268435455, 536870911, 1073741823, 2147483647, 4294967295, 4294967295, 17179869183, 4294967295, 4294967295, 137438953471, 274877906943, 549755813887, 1099511627775, 2199023255551, 2199023255551, 8796093022207, 2199023255551, 2199023255551, 70368744177663, 140737488355327, 281474976710655, 562949953421311, 1125899906842623, 1125899906842623, 4503599627370495, 1125899906842623, 1125899906842623, 36028797018963967, 72057594037927935, 144115188075855871, 288230376151711743, 576460752303423487, 576460752303423487, 576460752303423487, 4611686018427387903, 576460752303423487, 576460752303423487, 576460752303423487, 73786976294838206463, 147573952589676412927, 295147905179352825855, 590295810358705651711, 1180591620717411303423, 1180591620717411303423, 1180591620717411303423, 9444732965739290427391, 1180591620717411303423, 1180591620717411303423, 1180591620717411303423, 151115727451828646838271, 302231454903657293676543, 604462909807314587353087, 1208925819614629174706175, 2417851639229258349412351, 2417851639229258349412351, 9671406556917033397649407, 2417851639229258349412351, 2417851639229258349412351, 77371252455336267181195263, 154742504910672534362390527, 309485009821345068724781055, 618970019642690137449562111, 1237940039285380274899124223, 1237940039285380274899124223, 4951760157141521099596496895, 1237940039285380274899124223, 1237940039285380274899124223, 39614081257132168796771975167, 79228162514264337593543950335, 158456325028528675187087900671, 316912650057057350374175801343, 633825300114114700748351602687, 633825300114114700748351602687, 2535301200456458802993406410751, 633825300114114700748351602687, 633825300114114700748351602687, 20282409603651670423947251286015, 40564819207303340847894502572031, 81129638414606681695789005144063, 162259276829213363391578010288127]
theorem trammellaw17_LowGrows.tab8 : rtab .any (opsOf Tryd.f3 8) = trammellaw17_LowGrows.T8 := by kernel_rfl
theorem trammellaw17_LowGrows.bits8 : waitsOk trammellaw17_LowGrows.T8.2 trammellaw17_LowGrows.B8 = true := by kernel_rfl
set_option maxHeartbeats 8000000 in
set_option maxRecDepth 100000 in
theorem trammellaw17_LowGrows.calls (k : Nat) (a0 : Int) (a1 : Int) (a2 : Int) (a3 : Int) (a4 : Int) (a5 : Bool) (r : Bool) (w : World) (hT : Tabs w) (hr : r = true) (h : trammellaw17_LowGrows.f k a0 a1 a2 a3 a4 a5 = some r) :
  Calls Tryd.prog 3 #[.int .u64 a0, .int .u64 a1, .int .u8 a2, .int .u8 a3, .int .u8 a4, .bool a5] w fun e w' => e = .returned (.bool r) ∧ Below w.heap.size w w' := by
 have hu25 := Tryd.underlying25
 have HB := Aside0.mk (Below.refl w.heap.size w)
 have HT := Aside0.mk hT
 clear hT
 have H : ((trammellaw17_awake.f k).bind fun t156 => (if t156 = true then (if a5 = true then (trammellaw17_LowGrows.j0 k a0 a1 a2 a3 a4 64) else (trammellaw17_LowGrows.j0 k a0 a1 a2 a3 a4 32)) else (some false))) = some r := h
 clear h
 replace H := Option.bind_eq_some_iff.mp H
 obtain ⟨t156, A70, H⟩ := H
 replace H : (if t156 = true then (if a5 = true then (trammellaw17_LowGrows.j0 k a0 a1 a2 a3 a4 64) else (trammellaw17_LowGrows.j0 k a0 a1 a2 a3 a4 32)) else (some false)) = some r := H
 have A7 := Aside0.mk A70
 clear A70
 by_cases c8 : t156 = true
 ·subst c8
  have H1 : (if a5 = true then (trammellaw17_LowGrows.j0 k a0 a1 a2 a3 a4 64) else (trammellaw17_LowGrows.j0 k a0 a1 a2 a3 a4 32)) = some r := by rw [if_pos rfl] at H; exact H
  clear H
  have H := H1
  clear H1
  have HC9 := Aside0.mk H
  clear H
  go_enter Tryd.func3, Tryd.ntmps3
  go_upto_if 19 with (first | ((with_reducible refine gate_callee (f := 7) rfl ?_); refine goesL_ (some 17) rfl rfl Tryd.func7 (by kernel_rfl) rfl #[] rfl zb3_1 ?_; (with_reducible refine (trammellaw17_awake.calls k  true _ A7.out).mono ?_); rintro e w10 ⟨rfl, hb⟩; refine ⟨_, rfl, ?_⟩; have n0_ := Aside0.mk (below_step zb3_2 hb); clear HB; have HB := n0_; clear n0_; (try clear hb); (try clear hb2); (try clear hk); (try clear hi)))
  (try simp only [Act.put, List.setIfInBounds_toArray, List.set_cons_zero, List.set_cons_succ])
  go_cut [13] (fun v13 wc => ∃ (kq : Nat) (x13_8 : Int), v13 = .int .i64 x13_8 ∧ Aside0 (trammellaw17_LowGrows.j0 kq a0 a1 a2 a3 a4 x13_8 = some r) ∧ Aside0 (kq ≤ k) ∧ Aside0 (Below w.heap.size w wc))
  case first =>
   have H := HC9.out
   clear HC9
   by_cases c11 : a5 = true
   ·subst c11
    have H1 : (trammellaw17_LowGrows.j0 k a0 a1 a2 a3 a4 64) = some r := by rw [if_pos rfl] at H; exact H
    clear H
    have H := H1
    clear H1
    have H' := Aside0.mk H
    clear H
    go_wp2
    go_meet
    case rel => exact ⟨_, (64), (by first | rfl | (simp; done) | (simp [*]; done)), H', ⟨by first | omega | exact Nat.le_refl _⟩, ⟨by repeat (first | (with_reducible first | exact HB.out | apply below_alloc | apply pw_below_drewN | apply below_drew1) | exact HB.out)⟩⟩
   ·replace c11 := Bool.eq_false_iff.mpr c11
    subst c11
    have H1 : (trammellaw17_LowGrows.j0 k a0 a1 a2 a3 a4 32) = some r := by rw [if_neg (show ¬ (false = true) by decide)] at H; exact H
    clear H
    have H := H1
    clear H1
    have H' := Aside0.mk H
    clear H
    go_wp2
    go_meet
    case rel => exact ⟨_, (32), (by first | rfl | (simp; done) | (simp [*]; done)), H', ⟨by first | omega | exact Nat.le_refl _⟩, ⟨by repeat (first | (with_reducible first | exact HB.out | apply below_alloc | apply pw_below_drewN | apply below_drew1) | exact HB.out)⟩⟩
  case rest =>
   clear HC9
   try clear c1; try clear p2; try clear c3; try clear c7; try clear c8; try clear c11
   obtain ⟨kq, x13_8, rfl, HA, HJ8, HB⟩ := hcut
   cases kq with
   | zero => exact absurd HA.out (by simp [trammellaw17_LowGrows.j0])
   | succ kj8 =>
    have H := HA.out
    clear HA
    simp only [trammellaw17_LowGrows.j0] at H
    replace H := Option.bind_eq_some_iff.mp H
    obtain ⟨⟨t157, t158⟩, A120, H⟩ := H
    replace H : ((trammellaw17_some.f kj8 a1 a3).bind fun bt159 => ((low_Cut.f t157 t158 (wrap64 (a4))).bind fun bt163 => ((low_Add.f kj8 t157 t158 bt159.1 bt159.2 x13_8).bind fun bt166 => ((low_Add.f kj8 bt163.1 bt163.2 bt159.1 bt159.2 x13_8).bind fun bt168 => ((low_Within.f bt166.1 bt166.2 bt168.1 bt168.2).bind fun t170 => (if t170 = true then ((low_Sub.f kj8 t157 t158 bt159.1 bt159.2 x13_8).bind fun bt171 => ((low_Sub.f kj8 bt163.1 bt163.2 bt159.1 bt159.2 x13_8).bind fun bt173 => ((low_Within.f bt171.1 bt171.2 bt173.1 bt173.2).bind fun t175 => (if t175 = true then ((low_Mul.f kj8 t157 t158 bt159.1 bt159.2 x13_8).bind fun bt176 => ((low_Mul.f kj8 bt163.1 bt163.2 bt159.1 bt159.2 x13_8).bind fun bt178 => ((low_Within.f bt176.1 bt176.2 bt178.1 bt178.2).bind fun t180 => (if t180 = true then ((low_And.f t157 t158 bt159.1 bt159.2).bind fun bt181 => ((low_And.f bt163.1 bt163.2 bt159.1 bt159.2).bind fun bt183 => ((low_Within.f bt181.1 bt181.2 bt183.1 bt183.2).bind fun t185 => (if t185 = true then ((low_Or.f t157 t158 bt159.1 bt159.2).bind fun bt186 => ((low_Or.f bt163.1 bt163.2 bt159.1 bt159.2).bind fun bt188 => ((low_Within.f bt186.1 bt186.2 bt188.1 bt188.2).bind fun t190 => (if t190 = true then ((low_Xor.f t157 t158 bt159.1 bt159.2).bind fun bt191 => ((low_Xor.f bt163.1 bt163.2 bt159.1 bt159.2).bind fun bt193 => ((low_Within.f bt191.1 bt191.2 bt193.1 bt193.2).bind fun t195 => (if t195 = true then ((low_Add.f kj8 t157 t158 bt159.1 bt159.2 x13_8).bind fun bt196 => ((low_Add.f kj8 bt159.1 bt159.2 t157 t158 x13_8).bind fun bt198 => (if (bt196.1 == bt198.1 && (bt196.2 == bt198.2)) = true then ((low_Mul.f kj8 t157 t158 bt159.1 bt159.2 x13_8).bind fun bt200 => ((low_Mul.f kj8 bt159.1 bt159.2 t157 t158 x13_8).bind fun bt202 => (if (bt200.1 == bt202.1 && (bt200.2 == bt202.2)) = true then ((low_And.f t157 t158 bt159.1 bt159.2).bind fun bt204 => ((low_And.f bt159.1 bt159.2 t157 t158).bind fun bt206 => (if (bt204.1 == bt206.1 && (bt204.2 == bt206.2)) = true then ((low_Or.f t157 t158 bt159.1 bt159.2).bind fun bt208 => ((low_Or.f bt159.1 bt159.2 t157 t158).bind fun bt210 => (if (bt208.1 == bt210.1 && (bt208.2 == bt210.2)) = true then ((low_Xor.f t157 t158 bt159.1 bt159.2).bind fun bt212 => ((low_Xor.f bt159.1 bt159.2 t157 t158).bind fun bt214 => (some (bt212.1 == bt214.1 && (bt212.2 == bt214.2))))) else (some false)))) else (some false)))) else (some false)))) else (some false)))) else (some false))))) else (some false))))) else (some false))))) else (some false))))) else (some false))))) else (some false))))))) = some r := H
    have A12 := Aside0.mk A120
    clear A120
    replace H := Option.bind_eq_some_iff.mp H
    obtain ⟨⟨t159, t160⟩, A130, H⟩ := H
    replace H : ((low_Cut.f t157 t158 (wrap64 (a4))).bind fun bt163 => ((low_Add.f kj8 t157 t158 t159 t160 x13_8).bind fun bt166 => ((low_Add.f kj8 bt163.1 bt163.2 t159 t160 x13_8).bind fun bt168 => ((low_Within.f bt166.1 bt166.2 bt168.1 bt168.2).bind fun t170 => (if t170 = true then ((low_Sub.f kj8 t157 t158 t159 t160 x13_8).bind fun bt171 => ((low_Sub.f kj8 bt163.1 bt163.2 t159 t160 x13_8).bind fun bt173 => ((low_Within.f bt171.1 bt171.2 bt173.1 bt173.2).bind fun t175 => (if t175 = true then ((low_Mul.f kj8 t157 t158 t159 t160 x13_8).bind fun bt176 => ((low_Mul.f kj8 bt163.1 bt163.2 t159 t160 x13_8).bind fun bt178 => ((low_Within.f bt176.1 bt176.2 bt178.1 bt178.2).bind fun t180 => (if t180 = true then ((low_And.f t157 t158 t159 t160).bind fun bt181 => ((low_And.f bt163.1 bt163.2 t159 t160).bind fun bt183 => ((low_Within.f bt181.1 bt181.2 bt183.1 bt183.2).bind fun t185 => (if t185 = true then ((low_Or.f t157 t158 t159 t160).bind fun bt186 => ((low_Or.f bt163.1 bt163.2 t159 t160).bind fun bt188 => ((low_Within.f bt186.1 bt186.2 bt188.1 bt188.2).bind fun t190 => (if t190 = true then ((low_Xor.f t157 t158 t159 t160).bind fun bt191 => ((low_Xor.f bt163.1 bt163.2 t159 t160).bind fun bt193 => ((low_Within.f bt191.1 bt191.2 bt193.1 bt193.2).bind fun t195 => (if t195 = true then ((low_Add.f kj8 t157 t158 t159 t160 x13_8).bind fun bt196 => ((low_Add.f kj8 t159 t160 t157 t158 x13_8).bind fun bt198 => (if (bt196.1 == bt198.1 && (bt196.2 == bt198.2)) = true then ((low_Mul.f kj8 t157 t158 t159 t160 x13_8).bind fun bt200 => ((low_Mul.f kj8 t159 t160 t157 t158 x13_8).bind fun bt202 => (if (bt200.1 == bt202.1 && (bt200.2 == bt202.2)) = true then ((low_And.f t157 t158 t159 t160).bind fun bt204 => ((low_And.f t159 t160 t157 t158).bind fun bt206 => (if (bt204.1 == bt206.1 && (bt204.2 == bt206.2)) = true then ((low_Or.f t157 t158 t159 t160).bind fun bt208 => ((low_Or.f t159 t160 t157 t158).bind fun bt210 => (if (bt208.1 == bt210.1 && (bt208.2 == bt210.2)) = true then ((low_Xor.f t157 t158 t159 t160).bind fun bt212 => ((low_Xor.f t159 t160 t157 t158).bind fun bt214 => (some (bt212.1 == bt214.1 && (bt212.2 == bt214.2))))) else (some false)))) else (some false)))) else (some false)))) else (some false)))) else (some false))))) else (some false))))) else (some false))))) else (some false))))) else (some false))))) else (some false)))))) = some r := H
    have A13 := Aside0.mk A130
    clear A130
    replace H := Option.bind_eq_some_iff.mp H
    obtain ⟨⟨t163, t164⟩, A140, H⟩ := H
    replace H : ((low_Add.f kj8 t157 t158 t159 t160 x13_8).bind fun bt166 => ((low_Add.f kj8 t163 t164 t159 t160 x13_8).bind fun bt168 => ((low_Within.f bt166.1 bt166.2 bt168.1 bt168.2).bind fun t170 => (if t170 = true then ((low_Sub.f kj8 t157 t158 t159 t160 x13_8).bind fun bt171 => ((low_Sub.f kj8 t163 t164 t159 t160 x13_8).bind fun bt173 => ((low_Within.f bt171.1 bt171.2 bt173.1 bt173.2).bind fun t175 => (if t175 = true then ((low_Mul.f kj8 t157 t158 t159 t160 x13_8).bind fun bt176 => ((low_Mul.f kj8 t163 t164 t159 t160 x13_8).bind fun bt178 => ((low_Within.f bt176.1 bt176.2 bt178.1 bt178.2).bind fun t180 => (if t180 = true then ((low_And.f t157 t158 t159 t160).bind fun bt181 => ((low_And.f t163 t164 t159 t160).bind fun bt183 => ((low_Within.f bt181.1 bt181.2 bt183.1 bt183.2).bind fun t185 => (if t185 = true then ((low_Or.f t157 t158 t159 t160).bind fun bt186 => ((low_Or.f t163 t164 t159 t160).bind fun bt188 => ((low_Within.f bt186.1 bt186.2 bt188.1 bt188.2).bind fun t190 => (if t190 = true then ((low_Xor.f t157 t158 t159 t160).bind fun bt191 => ((low_Xor.f t163 t164 t159 t160).bind fun bt193 => ((low_Within.f bt191.1 bt191.2 bt193.1 bt193.2).bind fun t195 => (if t195 = true then ((low_Add.f kj8 t157 t158 t159 t160 x13_8).bind fun bt196 => ((low_Add.f kj8 t159 t160 t157 t158 x13_8).bind fun bt198 => (if (bt196.1 == bt198.1 && (bt196.2 == bt198.2)) = true then ((low_Mul.f kj8 t157 t158 t159 t160 x13_8).bind fun bt200 => ((low_Mul.f kj8 t159 t160 t157 t158 x13_8).bind fun bt202 => (if (bt200.1 == bt202.1 && (bt200.2 == bt202.2)) = true then ((low_And.f t157 t158 t159 t160).bind fun bt204 => ((low_And.f t159 t160 t157 t158).bind fun bt206 => (if (bt204.1 == bt206.1 && (bt204.2 == bt206.2)) = true then ((low_Or.f t157 t158 t159 t160).bind fun bt208 => ((low_Or.f t159 t160 t157 t158).bind fun bt210 => (if (bt208.1 == bt210.1 && (bt208.2 == bt210.2)) = true then ((low_Xor.f t157 t158 t159 t160).bind fun bt212 => ((low_Xor.f t159 t160 t157 t158).bind fun bt214 => (some (bt212.1 == bt214.1 && (bt212.2 == bt214.2))))) else (some false)))) else (some false)))) else (some false)))) else (some false)))) else (some false))))) else (some false))))) else (some false))))) else (some false))))) else (some false))))) else (some false))))) = some r := H
    have A14 := Aside0.mk A140
    clear A140
    replace H := Option.bind_eq_some_iff.mp H
    obtain ⟨⟨t166, t167⟩, A150, H⟩ := H
    replace H : ((low_Add.f kj8 t163 t164 t159 t160 x13_8).bind fun bt168 => ((low_Within.f t166 t167 bt168.1 bt168.2).bind fun t170 => (if t170 = true then ((low_Sub.f kj8 t157 t158 t159 t160 x13_8).bind fun bt171 => ((low_Sub.f kj8 t163 t164 t159 t160 x13_8).bind fun bt173 => ((low_Within.f bt171.1 bt171.2 bt173.1 bt173.2).bind fun t175 => (if t175 = true then ((low_Mul.f kj8 t157 t158 t159 t160 x13_8).bind fun bt176 => ((low_Mul.f kj8 t163 t164 t159 t160 x13_8).bind fun bt178 => ((low_Within.f bt176.1 bt176.2 bt178.1 bt178.2).bind fun t180 => (if t180 = true then ((low_And.f t157 t158 t159 t160).bind fun bt181 => ((low_And.f t163 t164 t159 t160).bind fun bt183 => ((low_Within.f bt181.1 bt181.2 bt183.1 bt183.2).bind fun t185 => (if t185 = true then ((low_Or.f t157 t158 t159 t160).bind fun bt186 => ((low_Or.f t163 t164 t159 t160).bind fun bt188 => ((low_Within.f bt186.1 bt186.2 bt188.1 bt188.2).bind fun t190 => (if t190 = true then ((low_Xor.f t157 t158 t159 t160).bind fun bt191 => ((low_Xor.f t163 t164 t159 t160).bind fun bt193 => ((low_Within.f bt191.1 bt191.2 bt193.1 bt193.2).bind fun t195 => (if t195 = true then ((low_Add.f kj8 t157 t158 t159 t160 x13_8).bind fun bt196 => ((low_Add.f kj8 t159 t160 t157 t158 x13_8).bind fun bt198 => (if (bt196.1 == bt198.1 && (bt196.2 == bt198.2)) = true then ((low_Mul.f kj8 t157 t158 t159 t160 x13_8).bind fun bt200 => ((low_Mul.f kj8 t159 t160 t157 t158 x13_8).bind fun bt202 => (if (bt200.1 == bt202.1 && (bt200.2 == bt202.2)) = true then ((low_And.f t157 t158 t159 t160).bind fun bt204 => ((low_And.f t159 t160 t157 t158).bind fun bt206 => (if (bt204.1 == bt206.1 && (bt204.2 == bt206.2)) = true then ((low_Or.f t157 t158 t159 t160).bind fun bt208 => ((low_Or.f t159 t160 t157 t158).bind fun bt210 => (if (bt208.1 == bt210.1 && (bt208.2 == bt210.2)) = true then ((low_Xor.f t157 t158 t159 t160).bind fun bt212 => ((low_Xor.f t159 t160 t157 t158).bind fun bt214 => (some (bt212.1 == bt214.1 && (bt212.2 == bt214.2))))) else (some false)))) else (some false)))) else (some false)))) else (some false)))) else (some false))))) else (some false))))) else (some false))))) else (some false))))) else (some false))))) else (some false)))) = some r := H
    have A15 := Aside0.mk A150
    clear A150
    replace H := Option.bind_eq_some_iff.mp H
    obtain ⟨⟨t168, t169⟩, A160, H⟩ := H
    replace H : ((low_Within.f t166 t167 t168 t169).bind fun t170 => (if t170 = true then ((low_Sub.f kj8 t157 t158 t159 t160 x13_8).bind fun bt171 => ((low_Sub.f kj8 t163 t164 t159 t160 x13_8).bind fun bt173 => ((low_Within.f bt171.1 bt171.2 bt173.1 bt173.2).bind fun t175 => (if t175 = true then ((low_Mul.f kj8 t157 t158 t159 t160 x13_8).bind fun bt176 => ((low_Mul.f kj8 t163 t164 t159 t160 x13_8).bind fun bt178 => ((low_Within.f bt176.1 bt176.2 bt178.1 bt178.2).bind fun t180 => (if t180 = true then ((low_And.f t157 t158 t159 t160).bind fun bt181 => ((low_And.f t163 t164 t159 t160).bind fun bt183 => ((low_Within.f bt181.1 bt181.2 bt183.1 bt183.2).bind fun t185 => (if t185 = true then ((low_Or.f t157 t158 t159 t160).bind fun bt186 => ((low_Or.f t163 t164 t159 t160).bind fun bt188 => ((low_Within.f bt186.1 bt186.2 bt188.1 bt188.2).bind fun t190 => (if t190 = true then ((low_Xor.f t157 t158 t159 t160).bind fun bt191 => ((low_Xor.f t163 t164 t159 t160).bind fun bt193 => ((low_Within.f bt191.1 bt191.2 bt193.1 bt193.2).bind fun t195 => (if t195 = true then ((low_Add.f kj8 t157 t158 t159 t160 x13_8).bind fun bt196 => ((low_Add.f kj8 t159 t160 t157 t158 x13_8).bind fun bt198 => (if (bt196.1 == bt198.1 && (bt196.2 == bt198.2)) = true then ((low_Mul.f kj8 t157 t158 t159 t160 x13_8).bind fun bt200 => ((low_Mul.f kj8 t159 t160 t157 t158 x13_8).bind fun bt202 => (if (bt200.1 == bt202.1 && (bt200.2 == bt202.2)) = true then ((low_And.f t157 t158 t159 t160).bind fun bt204 => ((low_And.f t159 t160 t157 t158).bind fun bt206 => (if (bt204.1 == bt206.1 && (bt204.2 == bt206.2)) = true then ((low_Or.f t157 t158 t159 t160).bind fun bt208 => ((low_Or.f t159 t160 t157 t158).bind fun bt210 => (if (bt208.1 == bt210.1 && (bt208.2 == bt210.2)) = true then ((low_Xor.f t157 t158 t159 t160).bind fun bt212 => ((low_Xor.f t159 t160 t157 t158).bind fun bt214 => (some (bt212.1 == bt214.1 && (bt212.2 == bt214.2))))) else (some false)))) else (some false)))) else (some false)))) else (some false)))) else (some false))))) else (some false))))) else (some false))))) else (some false))))) else (some false))))) else (some false))) = some r := H
    have A16 := Aside0.mk A160
    clear A160
    replace H := Option.bind_eq_some_iff.mp H
    obtain ⟨t170, A170, H⟩ := H
    replace H : (if t170 = true then ((low_Sub.f kj8 t157 t158 t159 t160 x13_8).bind fun bt171 => ((low_Sub.f kj8 t163 t164 t159 t160 x13_8).bind fun bt173 => ((low_Within.f bt171.1 bt171.2 bt173.1 bt173.2).bind fun t175 => (if t175 = true then ((low_Mul.f kj8 t157 t158 t159 t160 x13_8).bind fun bt176 => ((low_Mul.f kj8 t163 t164 t159 t160 x13_8).bind fun bt178 => ((low_Within.f bt176.1 bt176.2 bt178.1 bt178.2).bind fun t180 => (if t180 = true then ((low_And.f t157 t158 t159 t160).bind fun bt181 => ((low_And.f t163 t164 t159 t160).bind fun bt183 => ((low_Within.f bt181.1 bt181.2 bt183.1 bt183.2).bind fun t185 => (if t185 = true then ((low_Or.f t157 t158 t159 t160).bind fun bt186 => ((low_Or.f t163 t164 t159 t160).bind fun bt188 => ((low_Within.f bt186.1 bt186.2 bt188.1 bt188.2).bind fun t190 => (if t190 = true then ((low_Xor.f t157 t158 t159 t160).bind fun bt191 => ((low_Xor.f t163 t164 t159 t160).bind fun bt193 => ((low_Within.f bt191.1 bt191.2 bt193.1 bt193.2).bind fun t195 => (if t195 = true then ((low_Add.f kj8 t157 t158 t159 t160 x13_8).bind fun bt196 => ((low_Add.f kj8 t159 t160 t157 t158 x13_8).bind fun bt198 => (if (bt196.1 == bt198.1 && (bt196.2 == bt198.2)) = true then ((low_Mul.f kj8 t157 t158 t159 t160 x13_8).bind fun bt200 => ((low_Mul.f kj8 t159 t160 t157 t158 x13_8).bind fun bt202 => (if (bt200.1 == bt202.1 && (bt200.2 == bt202.2)) = true then ((low_And.f t157 t158 t159 t160).bind fun bt204 => ((low_And.f t159 t160 t157 t158).bind fun bt206 => (if (bt204.1 == bt206.1 && (bt204.2 == bt206.2)) = true then ((low_Or.f t157 t158 t159 t160).bind fun bt208 => ((low_Or.f t159 t160 t157 t158).bind fun bt210 => (if (bt208.1 == bt210.1 && (bt208.2 == bt210.2)) = true then ((low_Xor.f t157 t158 t159 t160).bind fun bt212 => ((low_Xor.f t159 t160 t157 t158).bind fun bt214 => (some (bt212.1 == bt214.1 && (bt212.2 == bt214.2))))) else (some false)))) else (some false)))) else (some false)))) else (some false)))) else (some false))))) else (some false))))) else (some false))))) else (some false))))) else (some false))))) else (some false)) = some r := H
    have A17 := Aside0.mk A170
    clear A170
    by_cases c18 : t170 = true
    ·subst c18
     have H1 : ((low_Sub.f kj8 t157 t158 t159 t160 x13_8).bind fun bt171 => ((low_Sub.f kj8 t163 t164 t159 t160 x13_8).bind fun bt173 => ((low_Within.f bt171.1 bt171.2 bt173.1 bt173.2).bind fun t175 => (if t175 = true then ((low_Mul.f kj8 t157 t158 t159 t160 x13_8).bind fun bt176 => ((low_Mul.f kj8 t163 t164 t159 t160 x13_8).bind fun bt178 => ((low_Within.f bt176.1 bt176.2 bt178.1 bt178.2).bind fun t180 => (if t180 = true then ((low_And.f t157 t158 t159 t160).bind fun bt181 => ((low_And.f t163 t164 t159 t160).bind fun bt183 => ((low_Within.f bt181.1 bt181.2 bt183.1 bt183.2).bind fun t185 => (if t185 = true then ((low_Or.f t157 t158 t159 t160).bind fun bt186 => ((low_Or.f t163 t164 t159 t160).bind fun bt188 => ((low_Within.f bt186.1 bt186.2 bt188.1 bt188.2).bind fun t190 => (if t190 = true then ((low_Xor.f t157 t158 t159 t160).bind fun bt191 => ((low_Xor.f t163 t164 t159 t160).bind fun bt193 => ((low_Within.f bt191.1 bt191.2 bt193.1 bt193.2).bind fun t195 => (if t195 = true then ((low_Add.f kj8 t157 t158 t159 t160 x13_8).bind fun bt196 => ((low_Add.f kj8 t159 t160 t157 t158 x13_8).bind fun bt198 => (if (bt196.1 == bt198.1 && (bt196.2 == bt198.2)) = true then ((low_Mul.f kj8 t157 t158 t159 t160 x13_8).bind fun bt200 => ((low_Mul.f kj8 t159 t160 t157 t158 x13_8).bind fun bt202 => (if (bt200.1 == bt202.1 && (bt200.2 == bt202.2)) = true then ((low_And.f t157 t158 t159 t160).bind fun bt204 => ((low_And.f t159 t160 t157 t158).bind fun bt206 => (if (bt204.1 == bt206.1 && (bt204.2 == bt206.2)) = true then ((low_Or.f t157 t158 t159 t160).bind fun bt208 => ((low_Or.f t159 t160 t157 t158).bind fun bt210 => (if (bt208.1 == bt210.1 && (bt208.2 == bt210.2)) = true then ((low_Xor.f t157 t158 t159 t160).bind fun bt212 => ((low_Xor.f t159 t160 t157 t158).bind fun bt214 => (some (bt212.1 == bt214.1 && (bt212.2 == bt214.2))))) else (some false)))) else (some false)))) else (some false)))) else (some false)))) else (some false))))) else (some false))))) else (some false))))) else (some false))))) else (some false))))) = some r := by rw [if_pos rfl] at H; exact H
     clear H
     have H := H1
     clear H1
     replace H := Option.bind_eq_some_iff.mp H
     obtain ⟨⟨t171, t172⟩, A190, H⟩ := H
     replace H : ((low_Sub.f kj8 t163 t164 t159 t160 x13_8).bind fun bt173 => ((low_Within.f t171 t172 bt173.1 bt173.2).bind fun t175 => (if t175 = true then ((low_Mul.f kj8 t157 t158 t159 t160 x13_8).bind fun bt176 => ((low_Mul.f kj8 t163 t164 t159 t160 x13_8).bind fun bt178 => ((low_Within.f bt176.1 bt176.2 bt178.1 bt178.2).bind fun t180 => (if t180 = true then ((low_And.f t157 t158 t159 t160).bind fun bt181 => ((low_And.f t163 t164 t159 t160).bind fun bt183 => ((low_Within.f bt181.1 bt181.2 bt183.1 bt183.2).bind fun t185 => (if t185 = true then ((low_Or.f t157 t158 t159 t160).bind fun bt186 => ((low_Or.f t163 t164 t159 t160).bind fun bt188 => ((low_Within.f bt186.1 bt186.2 bt188.1 bt188.2).bind fun t190 => (if t190 = true then ((low_Xor.f t157 t158 t159 t160).bind fun bt191 => ((low_Xor.f t163 t164 t159 t160).bind fun bt193 => ((low_Within.f bt191.1 bt191.2 bt193.1 bt193.2).bind fun t195 => (if t195 = true then ((low_Add.f kj8 t157 t158 t159 t160 x13_8).bind fun bt196 => ((low_Add.f kj8 t159 t160 t157 t158 x13_8).bind fun bt198 => (if (bt196.1 == bt198.1 && (bt196.2 == bt198.2)) = true then ((low_Mul.f kj8 t157 t158 t159 t160 x13_8).bind fun bt200 => ((low_Mul.f kj8 t159 t160 t157 t158 x13_8).bind fun bt202 => (if (bt200.1 == bt202.1 && (bt200.2 == bt202.2)) = true then ((low_And.f t157 t158 t159 t160).bind fun bt204 => ((low_And.f t159 t160 t157 t158).bind fun bt206 => (if (bt204.1 == bt206.1 && (bt204.2 == bt206.2)) = true then ((low_Or.f t157 t158 t159 t160).bind fun bt208 => ((low_Or.f t159 t160 t157 t158).bind fun bt210 => (if (bt208.1 == bt210.1 && (bt208.2 == bt210.2)) = true then ((low_Xor.f t157 t158 t159 t160).bind fun bt212 => ((low_Xor.f t159 t160 t157 t158).bind fun bt214 => (some (bt212.1 == bt214.1 && (bt212.2 == bt214.2))))) else (some false)))) else (some false)))) else (some false)))) else (some false)))) else (some false))))) else (some false))))) else (some false))))) else (some false))))) else (some false)))) = some r := H
     have A19 := Aside0.mk A190
     clear A190
     replace H := Option.bind_eq_some_iff.mp H
     obtain ⟨⟨t173, t174⟩, A200, H⟩ := H
     replace H : ((low_Within.f t171 t172 t173 t174).bind fun t175 => (if t175 = true then ((low_Mul.f kj8 t157 t158 t159 t160 x13_8).bind fun bt176 => ((low_Mul.f kj8 t163 t164 t159 t160 x13_8).bind fun bt178 => ((low_Within.f bt176.1 bt176.2 bt178.1 bt178.2).bind fun t180 => (if t180 = true then ((low_And.f t157 t158 t159 t160).bind fun bt181 => ((low_And.f t163 t164 t159 t160).bind fun bt183 => ((low_Within.f bt181.1 bt181.2 bt183.1 bt183.2).bind fun t185 => (if t185 = true then ((low_Or.f t157 t158 t159 t160).bind fun bt186 => ((low_Or.f t163 t164 t159 t160).bind fun bt188 => ((low_Within.f bt186.1 bt186.2 bt188.1 bt188.2).bind fun t190 => (if t190 = true then ((low_Xor.f t157 t158 t159 t160).bind fun bt191 => ((low_Xor.f t163 t164 t159 t160).bind fun bt193 => ((low_Within.f bt191.1 bt191.2 bt193.1 bt193.2).bind fun t195 => (if t195 = true then ((low_Add.f kj8 t157 t158 t159 t160 x13_8).bind fun bt196 => ((low_Add.f kj8 t159 t160 t157 t158 x13_8).bind fun bt198 => (if (bt196.1 == bt198.1 && (bt196.2 == bt198.2)) = true then ((low_Mul.f kj8 t157 t158 t159 t160 x13_8).bind fun bt200 => ((low_Mul.f kj8 t159 t160 t157 t158 x13_8).bind fun bt202 => (if (bt200.1 == bt202.1 && (bt200.2 == bt202.2)) = true then ((low_And.f t157 t158 t159 t160).bind fun bt204 => ((low_And.f t159 t160 t157 t158).bind fun bt206 => (if (bt204.1 == bt206.1 && (bt204.2 == bt206.2)) = true then ((low_Or.f t157 t158 t159 t160).bind fun bt208 => ((low_Or.f t159 t160 t157 t158).bind fun bt210 => (if (bt208.1 == bt210.1 && (bt208.2 == bt210.2)) = true then ((low_Xor.f t157 t158 t159 t160).bind fun bt212 => ((low_Xor.f t159 t160 t157 t158).bind fun bt214 => (some (bt212.1 == bt214.1 && (bt212.2 == bt214.2))))) else (some false)))) else (some false)))) else (some false)))) else (some false)))) else (some false))))) else (some false))))) else (some false))))) else (some false))))) else (some false))) = some r := H
     have A20 := Aside0.mk A200
     clear A200
     replace H := Option.bind_eq_some_iff.mp H
     obtain ⟨t175, A210, H⟩ := H
     replace H : (if t175 = true then ((low_Mul.f kj8 t157 t158 t159 t160 x13_8).bind fun bt176 => ((low_Mul.f kj8 t163 t164 t159 t160 x13_8).bind fun bt178 => ((low_Within.f bt176.1 bt176.2 bt178.1 bt178.2).bind fun t180 => (if t180 = true then ((low_And.f t157 t158 t159 t160).bind fun bt181 => ((low_And.f t163 t164 t159 t160).bind fun bt183 => ((low_Within.f bt181.1 bt181.2 bt183.1 bt183.2).bind fun t185 => (if t185 = true then ((low_Or.f t157 t158 t159 t160).bind fun bt186 => ((low_Or.f t163 t164 t159 t160).bind fun bt188 => ((low_Within.f bt186.1 bt186.2 bt188.1 bt188.2).bind fun t190 => (if t190 = true then ((low_Xor.f t157 t158 t159 t160).bind fun bt191 => ((low_Xor.f t163 t164 t159 t160).bind fun bt193 => ((low_Within.f bt191.1 bt191.2 bt193.1 bt193.2).bind fun t195 => (if t195 = true then ((low_Add.f kj8 t157 t158 t159 t160 x13_8).bind fun bt196 => ((low_Add.f kj8 t159 t160 t157 t158 x13_8).bind fun bt198 => (if (bt196.1 == bt198.1 && (bt196.2 == bt198.2)) = true then ((low_Mul.f kj8 t157 t158 t159 t160 x13_8).bind fun bt200 => ((low_Mul.f kj8 t159 t160 t157 t158 x13_8).bind fun bt202 => (if (bt200.1 == bt202.1 && (bt200.2 == bt202.2)) = true then ((low_And.f t157 t158 t159 t160).bind fun bt204 => ((low_And.f t159 t160 t157 t158).bind fun bt206 => (if (bt204.1 == bt206.1 && (bt204.2 == bt206.2)) = true then ((low_Or.f t157 t158 t159 t160).bind fun bt208 => ((low_Or.f t159 t160 t157 t158).bind fun bt210 => (if (bt208.1 == bt210.1 && (bt208.2 == bt210.2)) = true then ((low_Xor.f t157 t158 t159 t160).bind fun bt212 => ((low_Xor.f t159 t160 t157 t158).bind fun bt214 => (some (bt212.1 == bt214.1 && (bt212.2 == bt214.2))))) else (some false)))) else (some false)))) else (some false)))) else (some false)))) else (some false))))) else (some false))))) else (some false))))) else (some false))))) else (some false)) = some r := H
     have A21 := Aside0.mk A210
     clear A210
     by_cases c22 : t175 = true
     ·subst c22
      have H1 : ((low_Mul.f kj8 t157 t158 t159 t160 x13_8).bind fun bt176 => ((low_Mul.f kj8 t163 t164 t159 t160 x13_8).bind fun bt178 => ((low_Within.f bt176.1 bt176.2 bt178.1 bt178.2).bind fun t180 => (if t180 = true then ((low_And.f t157 t158 t159 t160).bind fun bt181 => ((low_And.f t163 t164 t159 t160).bind fun bt183 => ((low_Within.f bt181.1 bt181.2 bt183.1 bt183.2).bind fun t185 => (if t185 = true then ((low_Or.f t157 t158 t159 t160).bind fun bt186 => ((low_Or.f t163 t164 t159 t160).bind fun bt188 => ((low_Within.f bt186.1 bt186.2 bt188.1 bt188.2).bind fun t190 => (if t190 = true then ((low_Xor.f t157 t158 t159 t160).bind fun bt191 => ((low_Xor.f t163 t164 t159 t160).bind fun bt193 => ((low_Within.f bt191.1 bt191.2 bt193.1 bt193.2).bind fun t195 => (if t195 = true then ((low_Add.f kj8 t157 t158 t159 t160 x13_8).bind fun bt196 => ((low_Add.f kj8 t159 t160 t157 t158 x13_8).bind fun bt198 => (if (bt196.1 == bt198.1 && (bt196.2 == bt198.2)) = true then ((low_Mul.f kj8 t157 t158 t159 t160 x13_8).bind fun bt200 => ((low_Mul.f kj8 t159 t160 t157 t158 x13_8).bind fun bt202 => (if (bt200.1 == bt202.1 && (bt200.2 == bt202.2)) = true then ((low_And.f t157 t158 t159 t160).bind fun bt204 => ((low_And.f t159 t160 t157 t158).bind fun bt206 => (if (bt204.1 == bt206.1 && (bt204.2 == bt206.2)) = true then ((low_Or.f t157 t158 t159 t160).bind fun bt208 => ((low_Or.f t159 t160 t157 t158).bind fun bt210 => (if (bt208.1 == bt210.1 && (bt208.2 == bt210.2)) = true then ((low_Xor.f t157 t158 t159 t160).bind fun bt212 => ((low_Xor.f t159 t160 t157 t158).bind fun bt214 => (some (bt212.1 == bt214.1 && (bt212.2 == bt214.2))))) else (some false)))) else (some false)))) else (some false)))) else (some false)))) else (some false))))) else (some false))))) else (some false))))) else (some false))))) = some r := by rw [if_pos rfl] at H; exact H
      clear H
      have H := H1
      clear H1
      replace H := Option.bind_eq_some_iff.mp H
      obtain ⟨⟨t176, t177⟩, A230, H⟩ := H
      replace H : ((low_Mul.f kj8 t163 t164 t159 t160 x13_8).bind fun bt178 => ((low_Within.f t176 t177 bt178.1 bt178.2).bind fun t180 => (if t180 = true then ((low_And.f t157 t158 t159 t160).bind fun bt181 => ((low_And.f t163 t164 t159 t160).bind fun bt183 => ((low_Within.f bt181.1 bt181.2 bt183.1 bt183.2).bind fun t185 => (if t185 = true then ((low_Or.f t157 t158 t159 t160).bind fun bt186 => ((low_Or.f t163 t164 t159 t160).bind fun bt188 => ((low_Within.f bt186.1 bt186.2 bt188.1 bt188.2).bind fun t190 => (if t190 = true then ((low_Xor.f t157 t158 t159 t160).bind fun bt191 => ((low_Xor.f t163 t164 t159 t160).bind fun bt193 => ((low_Within.f bt191.1 bt191.2 bt193.1 bt193.2).bind fun t195 => (if t195 = true then ((low_Add.f kj8 t157 t158 t159 t160 x13_8).bind fun bt196 => ((low_Add.f kj8 t159 t160 t157 t158 x13_8).bind fun bt198 => (if (bt196.1 == bt198.1 && (bt196.2 == bt198.2)) = true then ((low_Mul.f kj8 t157 t158 t159 t160 x13_8).bind fun bt200 => ((low_Mul.f kj8 t159 t160 t157 t158 x13_8).bind fun bt202 => (if (bt200.1 == bt202.1 && (bt200.2 == bt202.2)) = true then ((low_And.f t157 t158 t159 t160).bind fun bt204 => ((low_And.f t159 t160 t157 t158).bind fun bt206 => (if (bt204.1 == bt206.1 && (bt204.2 == bt206.2)) = true then ((low_Or.f t157 t158 t159 t160).bind fun bt208 => ((low_Or.f t159 t160 t157 t158).bind fun bt210 => (if (bt208.1 == bt210.1 && (bt208.2 == bt210.2)) = true then ((low_Xor.f t157 t158 t159 t160).bind fun bt212 => ((low_Xor.f t159 t160 t157 t158).bind fun bt214 => (some (bt212.1 == bt214.1 && (bt212.2 == bt214.2))))) else (some false)))) else (some false)))) else (some false)))) else (some false)))) else (some false))))) else (some false))))) else (some false))))) else (some false)))) = some r := H
      have A23 := Aside0.mk A230
      clear A230
      replace H := Option.bind_eq_some_iff.mp H
      obtain ⟨⟨t178, t179⟩, A240, H⟩ := H
      replace H : ((low_Within.f t176 t177 t178 t179).bind fun t180 => (if t180 = true then ((low_And.f t157 t158 t159 t160).bind fun bt181 => ((low_And.f t163 t164 t159 t160).bind fun bt183 => ((low_Within.f bt181.1 bt181.2 bt183.1 bt183.2).bind fun t185 => (if t185 = true then ((low_Or.f t157 t158 t159 t160).bind fun bt186 => ((low_Or.f t163 t164 t159 t160).bind fun bt188 => ((low_Within.f bt186.1 bt186.2 bt188.1 bt188.2).bind fun t190 => (if t190 = true then ((low_Xor.f t157 t158 t159 t160).bind fun bt191 => ((low_Xor.f t163 t164 t159 t160).bind fun bt193 => ((low_Within.f bt191.1 bt191.2 bt193.1 bt193.2).bind fun t195 => (if t195 = true then ((low_Add.f kj8 t157 t158 t159 t160 x13_8).bind fun bt196 => ((low_Add.f kj8 t159 t160 t157 t158 x13_8).bind fun bt198 => (if (bt196.1 == bt198.1 && (bt196.2 == bt198.2)) = true then ((low_Mul.f kj8 t157 t158 t159 t160 x13_8).bind fun bt200 => ((low_Mul.f kj8 t159 t160 t157 t158 x13_8).bind fun bt202 => (if (bt200.1 == bt202.1 && (bt200.2 == bt202.2)) = true then ((low_And.f t157 t158 t159 t160).bind fun bt204 => ((low_And.f t159 t160 t157 t158).bind fun bt206 => (if (bt204.1 == bt206.1 && (bt204.2 == bt206.2)) = true then ((low_Or.f t157 t158 t159 t160).bind fun bt208 => ((low_Or.f t159 t160 t157 t158).bind fun bt210 => (if (bt208.1 == bt210.1 && (bt208.2 == bt210.2)) = true then ((low_Xor.f t157 t158 t159 t160).bind fun bt212 => ((low_Xor.f t159 t160 t157 t158).bind fun bt214 => (some (bt212.1 == bt214.1 && (bt212.2 == bt214.2))))) else (some false)))) else (some false)))) else (some false)))) else (some false)))) else (some false))))) else (some false))))) else (some false))))) else (some false))) = some r := H
      have A24 := Aside0.mk A240
      clear A240
      replace H := Option.bind_eq_some_iff.mp H
      obtain ⟨t180, A250, H⟩ := H
      replace H : (if t180 = true then ((low_And.f t157 t158 t159 t160).bind fun bt181 => ((low_And.f t163 t164 t159 t160).bind fun bt183 => ((low_Within.f bt181.1 bt181.2 bt183.1 bt183.2).bind fun t185 => (if t185 = true then ((low_Or.f t157 t158 t159 t160).bind fun bt186 => ((low_Or.f t163 t164 t159 t160).bind fun bt188 => ((low_Within.f bt186.1 bt186.2 bt188.1 bt188.2).bind fun t190 => (if t190 = true then ((low_Xor.f t157 t158 t159 t160).bind fun bt191 => ((low_Xor.f t163 t164 t159 t160).bind fun bt193 => ((low_Within.f bt191.1 bt191.2 bt193.1 bt193.2).bind fun t195 => (if t195 = true then ((low_Add.f kj8 t157 t158 t159 t160 x13_8).bind fun bt196 => ((low_Add.f kj8 t159 t160 t157 t158 x13_8).bind fun bt198 => (if (bt196.1 == bt198.1 && (bt196.2 == bt198.2)) = true then ((low_Mul.f kj8 t157 t158 t159 t160 x13_8).bind fun bt200 => ((low_Mul.f kj8 t159 t160 t157 t158 x13_8).bind fun bt202 => (if (bt200.1 == bt202.1 && (bt200.2 == bt202.2)) = true then ((low_And.f t157 t158 t159 t160).bind fun bt204 => ((low_And.f t159 t160 t157 t158).bind fun bt206 => (if (bt204.1 == bt206.1 && (bt204.2 == bt206.2)) = true then ((low_Or.f t157 t158 t159 t160).bind fun bt208 => ((low_Or.f t159 t160 t157 t158).bind fun bt210 => (if (bt208.1 == bt210.1 && (bt208.2 == bt210.2)) = true then ((low_Xor.f t157 t158 t159 t160).bind fun bt212 => ((low_Xor.f t159 t160 t157 t158).bind fun bt214 => (some (bt212.1 == bt214.1 && (bt212.2 == bt214.2))))) else (some false)))) else (some false)))) else (some false)))) else (some false)))) else (some false))))) else (some false))))) else (some false))))) else (some false)) = some r := H
      have A25 := Aside0.mk A250
      clear A250
      by_cases c26 : t180 = true
      ·subst c26
       have H1 : ((low_And.f t157 t158 t159 t160).bind fun bt181 => ((low_And.f t163 t164 t159 t160).bind fun bt183 => ((low_Within.f bt181.1 bt181.2 bt183.1 bt183.2).bind fun t185 => (if t185 = true then ((low_Or.f t157 t158 t159 t160).bind fun bt186 => ((low_Or.f t163 t164 t159 t160).bind fun bt188 => ((low_Within.f bt186.1 bt186.2 bt188.1 bt188.2).bind fun t190 => (if t190 = true then ((low_Xor.f t157 t158 t159 t160).bind fun bt191 => ((low_Xor.f t163 t164 t159 t160).bind fun bt193 => ((low_Within.f bt191.1 bt191.2 bt193.1 bt193.2).bind fun t195 => (if t195 = true then ((low_Add.f kj8 t157 t158 t159 t160 x13_8).bind fun bt196 => ((low_Add.f kj8 t159 t160 t157 t158 x13_8).bind fun bt198 => (if (bt196.1 == bt198.1 && (bt196.2 == bt198.2)) = true then ((low_Mul.f kj8 t157 t158 t159 t160 x13_8).bind fun bt200 => ((low_Mul.f kj8 t159 t160 t157 t158 x13_8).bind fun bt202 => (if (bt200.1 == bt202.1 && (bt200.2 == bt202.2)) = true then ((low_And.f t157 t158 t159 t160).bind fun bt204 => ((low_And.f t159 t160 t157 t158).bind fun bt206 => (if (bt204.1 == bt206.1 && (bt204.2 == bt206.2)) = true then ((low_Or.f t157 t158 t159 t160).bind fun bt208 => ((low_Or.f t159 t160 t157 t158).bind fun bt210 => (if (bt208.1 == bt210.1 && (bt208.2 == bt210.2)) = true then ((low_Xor.f t157 t158 t159 t160).bind fun bt212 => ((low_Xor.f t159 t160 t157 t158).bind fun bt214 => (some (bt212.1 == bt214.1 && (bt212.2 == bt214.2))))) else (some false)))) else (some false)))) else (some false)))) else (some false)))) else (some false))))) else (some false))))) else (some false))))) = some r := by rw [if_pos rfl] at H; exact H
       clear H
       have H := H1
       clear H1
       replace H := Option.bind_eq_some_iff.mp H
       obtain ⟨⟨t181, t182⟩, A270, H⟩ := H
       replace H : ((low_And.f t163 t164 t159 t160).bind fun bt183 => ((low_Within.f t181 t182 bt183.1 bt183.2).bind fun t185 => (if t185 = true then ((low_Or.f t157 t158 t159 t160).bind fun bt186 => ((low_Or.f t163 t164 t159 t160).bind fun bt188 => ((low_Within.f bt186.1 bt186.2 bt188.1 bt188.2).bind fun t190 => (if t190 = true then ((low_Xor.f t157 t158 t159 t160).bind fun bt191 => ((low_Xor.f t163 t164 t159 t160).bind fun bt193 => ((low_Within.f bt191.1 bt191.2 bt193.1 bt193.2).bind fun t195 => (if t195 = true then ((low_Add.f kj8 t157 t158 t159 t160 x13_8).bind fun bt196 => ((low_Add.f kj8 t159 t160 t157 t158 x13_8).bind fun bt198 => (if (bt196.1 == bt198.1 && (bt196.2 == bt198.2)) = true then ((low_Mul.f kj8 t157 t158 t159 t160 x13_8).bind fun bt200 => ((low_Mul.f kj8 t159 t160 t157 t158 x13_8).bind fun bt202 => (if (bt200.1 == bt202.1 && (bt200.2 == bt202.2)) = true then ((low_And.f t157 t158 t159 t160).bind fun bt204 => ((low_And.f t159 t160 t157 t158).bind fun bt206 => (if (bt204.1 == bt206.1 && (bt204.2 == bt206.2)) = true then ((low_Or.f t157 t158 t159 t160).bind fun bt208 => ((low_Or.f t159 t160 t157 t158).bind fun bt210 => (if (bt208.1 == bt210.1 && (bt208.2 == bt210.2)) = true then ((low_Xor.f t157 t158 t159 t160).bind fun bt212 => ((low_Xor.f t159 t160 t157 t158).bind fun bt214 => (some (bt212.1 == bt214.1 && (bt212.2 == bt214.2))))) else (some false)))) else (some false)))) else (some false)))) else (some false)))) else (some false))))) else (some false))))) else (some false)))) = some r := H
       have A27 := Aside0.mk A270
       clear A270
       replace H := Option.bind_eq_some_iff.mp H
       obtain ⟨⟨t183, t184⟩, A280, H⟩ := H
       replace H : ((low_Within.f t181 t182 t183 t184).bind fun t185 => (if t185 = true then ((low_Or.f t157 t158 t159 t160).bind fun bt186 => ((low_Or.f t163 t164 t159 t160).bind fun bt188 => ((low_Within.f bt186.1 bt186.2 bt188.1 bt188.2).bind fun t190 => (if t190 = true then ((low_Xor.f t157 t158 t159 t160).bind fun bt191 => ((low_Xor.f t163 t164 t159 t160).bind fun bt193 => ((low_Within.f bt191.1 bt191.2 bt193.1 bt193.2).bind fun t195 => (if t195 = true then ((low_Add.f kj8 t157 t158 t159 t160 x13_8).bind fun bt196 => ((low_Add.f kj8 t159 t160 t157 t158 x13_8).bind fun bt198 => (if (bt196.1 == bt198.1 && (bt196.2 == bt198.2)) = true then ((low_Mul.f kj8 t157 t158 t159 t160 x13_8).bind fun bt200 => ((low_Mul.f kj8 t159 t160 t157 t158 x13_8).bind fun bt202 => (if (bt200.1 == bt202.1 && (bt200.2 == bt202.2)) = true then ((low_And.f t157 t158 t159 t160).bind fun bt204 => ((low_And.f t159 t160 t157 t158).bind fun bt206 => (if (bt204.1 == bt206.1 && (bt204.2 == bt206.2)) = true then ((low_Or.f t157 t158 t159 t160).bind fun bt208 => ((low_Or.f t159 t160 t157 t158).bind fun bt210 => (if (bt208.1 == bt210.1 && (bt208.2 == bt210.2)) = true then ((low_Xor.f t157 t158 t159 t160).bind fun bt212 => ((low_Xor.f t159 t160 t157 t158).bind fun bt214 => (some (bt212.1 == bt214.1 && (bt212.2 == bt214.2))))) else (some false)))) else (some false)))) else (some false)))) else (some false)))) else (some false))))) else (some false))))) else (some false))) = some r := H
       have A28 := Aside0.mk A280
       clear A280
       replace H := Option.bind_eq_some_iff.mp H
       obtain ⟨t185, A290, H⟩ := H
       replace H : (if t185 = true then ((low_Or.f t157 t158 t159 t160).bind fun bt186 => ((low_Or.f t163 t164 t159 t160).bind fun bt188 => ((low_Within.f bt186.1 bt186.2 bt188.1 bt188.2).bind fun t190 => (if t190 = true then ((low_Xor.f t157 t158 t159 t160).bind fun bt191 => ((low_Xor.f t163 t164 t159 t160).bind fun bt193 => ((low_Within.f bt191.1 bt191.2 bt193.1 bt193.2).bind fun t195 => (if t195 = true then ((low_Add.f kj8 t157 t158 t159 t160 x13_8).bind fun bt196 => ((low_Add.f kj8 t159 t160 t157 t158 x13_8).bind fun bt198 => (if (bt196.1 == bt198.1 && (bt196.2 == bt198.2)) = true then ((low_Mul.f kj8 t157 t158 t159 t160 x13_8).bind fun bt200 => ((low_Mul.f kj8 t159 t160 t157 t158 x13_8).bind fun bt202 => (if (bt200.1 == bt202.1 && (bt200.2 == bt202.2)) = true then ((low_And.f t157 t158 t159 t160).bind fun bt204 => ((low_And.f t159 t160 t157 t158).bind fun bt206 => (if (bt204.1 == bt206.1 && (bt204.2 == bt206.2)) = true then ((low_Or.f t157 t158 t159 t160).bind fun bt208 => ((low_Or.f t159 t160 t157 t158).bind fun bt210 => (if (bt208.1 == bt210.1 && (bt208.2 == bt210.2)) = true then ((low_Xor.f t157 t158 t159 t160).bind fun bt212 => ((low_Xor.f t159 t160 t157 t158).bind fun bt214 => (some (bt212.1 == bt214.1 && (bt212.2 == bt214.2))))) else (some false)))) else (some false)))) else (some false)))) else (some false)))) else (some false))))) else (some false))))) else (some false)) = some r := H
       have A29 := Aside0.mk A290
       clear A290
       by_cases c30 : t185 = true
       ·subst c30
        have H1 : ((low_Or.f t157 t158 t159 t160).bind fun bt186 => ((low_Or.f t163 t164 t159 t160).bind fun bt188 => ((low_Within.f bt186.1 bt186.2 bt188.1 bt188.2).bind fun t190 => (if t190 = true then ((low_Xor.f t157 t158 t159 t160).bind fun bt191 => ((low_Xor.f t163 t164 t159 t160).bind fun bt193 => ((low_Within.f bt191.1 bt191.2 bt193.1 bt193.2).bind fun t195 => (if t195 = true then ((low_Add.f kj8 t157 t158 t159 t160 x13_8).bind fun bt196 => ((low_Add.f kj8 t159 t160 t157 t158 x13_8).bind fun bt198 => (if (bt196.1 == bt198.1 && (bt196.2 == bt198.2)) = true then ((low_Mul.f kj8 t157 t158 t159 t160 x13_8).bind fun bt200 => ((low_Mul.f kj8 t159 t160 t157 t158 x13_8).bind fun bt202 => (if (bt200.1 == bt202.1 && (bt200.2 == bt202.2)) = true then ((low_And.f t157 t158 t159 t160).bind fun bt204 => ((low_And.f t159 t160 t157 t158).bind fun bt206 => (if (bt204.1 == bt206.1 && (bt204.2 == bt206.2)) = true then ((low_Or.f t157 t158 t159 t160).bind fun bt208 => ((low_Or.f t159 t160 t157 t158).bind fun bt210 => (if (bt208.1 == bt210.1 && (bt208.2 == bt210.2)) = true then ((low_Xor.f t157 t158 t159 t160).bind fun bt212 => ((low_Xor.f t159 t160 t157 t158).bind fun bt214 => (some (bt212.1 == bt214.1 && (bt212.2 == bt214.2))))) else (some false)))) else (some false)))) else (some false)))) else (some false)))) else (some false))))) else (some false))))) = some r := by rw [if_pos rfl] at H; exact H
        clear H
        have H := H1
        clear H1
        replace H := Option.bind_eq_some_iff.mp H
        obtain ⟨⟨t186, t187⟩, A310, H⟩ := H
        replace H : ((low_Or.f t163 t164 t159 t160).bind fun bt188 => ((low_Within.f t186 t187 bt188.1 bt188.2).bind fun t190 => (if t190 = true then ((low_Xor.f t157 t158 t159 t160).bind fun bt191 => ((low_Xor.f t163 t164 t159 t160).bind fun bt193 => ((low_Within.f bt191.1 bt191.2 bt193.1 bt193.2).bind fun t195 => (if t195 = true then ((low_Add.f kj8 t157 t158 t159 t160 x13_8).bind fun bt196 => ((low_Add.f kj8 t159 t160 t157 t158 x13_8).bind fun bt198 => (if (bt196.1 == bt198.1 && (bt196.2 == bt198.2)) = true then ((low_Mul.f kj8 t157 t158 t159 t160 x13_8).bind fun bt200 => ((low_Mul.f kj8 t159 t160 t157 t158 x13_8).bind fun bt202 => (if (bt200.1 == bt202.1 && (bt200.2 == bt202.2)) = true then ((low_And.f t157 t158 t159 t160).bind fun bt204 => ((low_And.f t159 t160 t157 t158).bind fun bt206 => (if (bt204.1 == bt206.1 && (bt204.2 == bt206.2)) = true then ((low_Or.f t157 t158 t159 t160).bind fun bt208 => ((low_Or.f t159 t160 t157 t158).bind fun bt210 => (if (bt208.1 == bt210.1 && (bt208.2 == bt210.2)) = true then ((low_Xor.f t157 t158 t159 t160).bind fun bt212 => ((low_Xor.f t159 t160 t157 t158).bind fun bt214 => (some (bt212.1 == bt214.1 && (bt212.2 == bt214.2))))) else (some false)))) else (some false)))) else (some false)))) else (some false)))) else (some false))))) else (some false)))) = some r := H
        have A31 := Aside0.mk A310
        clear A310
        replace H := Option.bind_eq_some_iff.mp H
        obtain ⟨⟨t188, t189⟩, A320, H⟩ := H
        replace H : ((low_Within.f t186 t187 t188 t189).bind fun t190 => (if t190 = true then ((low_Xor.f t157 t158 t159 t160).bind fun bt191 => ((low_Xor.f t163 t164 t159 t160).bind fun bt193 => ((low_Within.f bt191.1 bt191.2 bt193.1 bt193.2).bind fun t195 => (if t195 = true then ((low_Add.f kj8 t157 t158 t159 t160 x13_8).bind fun bt196 => ((low_Add.f kj8 t159 t160 t157 t158 x13_8).bind fun bt198 => (if (bt196.1 == bt198.1 && (bt196.2 == bt198.2)) = true then ((low_Mul.f kj8 t157 t158 t159 t160 x13_8).bind fun bt200 => ((low_Mul.f kj8 t159 t160 t157 t158 x13_8).bind fun bt202 => (if (bt200.1 == bt202.1 && (bt200.2 == bt202.2)) = true then ((low_And.f t157 t158 t159 t160).bind fun bt204 => ((low_And.f t159 t160 t157 t158).bind fun bt206 => (if (bt204.1 == bt206.1 && (bt204.2 == bt206.2)) = true then ((low_Or.f t157 t158 t159 t160).bind fun bt208 => ((low_Or.f t159 t160 t157 t158).bind fun bt210 => (if (bt208.1 == bt210.1 && (bt208.2 == bt210.2)) = true then ((low_Xor.f t157 t158 t159 t160).bind fun bt212 => ((low_Xor.f t159 t160 t157 t158).bind fun bt214 => (some (bt212.1 == bt214.1 && (bt212.2 == bt214.2))))) else (some false)))) else (some false)))) else (some false)))) else (some false)))) else (some false))))) else (some false))) = some r := H
        have A32 := Aside0.mk A320
        clear A320
        replace H := Option.bind_eq_some_iff.mp H
        obtain ⟨t190, A330, H⟩ := H
        replace H : (if t190 = true then ((low_Xor.f t157 t158 t159 t160).bind fun bt191 => ((low_Xor.f t163 t164 t159 t160).bind fun bt193 => ((low_Within.f bt191.1 bt191.2 bt193.1 bt193.2).bind fun t195 => (if t195 = true then ((low_Add.f kj8 t157 t158 t159 t160 x13_8).bind fun bt196 => ((low_Add.f kj8 t159 t160 t157 t158 x13_8).bind fun bt198 => (if (bt196.1 == bt198.1 && (bt196.2 == bt198.2)) = true then ((low_Mul.f kj8 t157 t158 t159 t160 x13_8).bind fun bt200 => ((low_Mul.f kj8 t159 t160 t157 t158 x13_8).bind fun bt202 => (if (bt200.1 == bt202.1 && (bt200.2 == bt202.2)) = true then ((low_And.f t157 t158 t159 t160).bind fun bt204 => ((low_And.f t159 t160 t157 t158).bind fun bt206 => (if (bt204.1 == bt206.1 && (bt204.2 == bt206.2)) = true then ((low_Or.f t157 t158 t159 t160).bind fun bt208 => ((low_Or.f t159 t160 t157 t158).bind fun bt210 => (if (bt208.1 == bt210.1 && (bt208.2 == bt210.2)) = true then ((low_Xor.f t157 t158 t159 t160).bind fun bt212 => ((low_Xor.f t159 t160 t157 t158).bind fun bt214 => (some (bt212.1 == bt214.1 && (bt212.2 == bt214.2))))) else (some false)))) else (some false)))) else (some false)))) else (some false)))) else (some false))))) else (some false)) = some r := H
        have A33 := Aside0.mk A330
        clear A330
        by_cases c34 : t190 = true
        ·subst c34
         have H1 : ((low_Xor.f t157 t158 t159 t160).bind fun bt191 => ((low_Xor.f t163 t164 t159 t160).bind fun bt193 => ((low_Within.f bt191.1 bt191.2 bt193.1 bt193.2).bind fun t195 => (if t195 = true then ((low_Add.f kj8 t157 t158 t159 t160 x13_8).bind fun bt196 => ((low_Add.f kj8 t159 t160 t157 t158 x13_8).bind fun bt198 => (if (bt196.1 == bt198.1 && (bt196.2 == bt198.2)) = true then ((low_Mul.f kj8 t157 t158 t159 t160 x13_8).bind fun bt200 => ((low_Mul.f kj8 t159 t160 t157 t158 x13_8).bind fun bt202 => (if (bt200.1 == bt202.1 && (bt200.2 == bt202.2)) = true then ((low_And.f t157 t158 t159 t160).bind fun bt204 => ((low_And.f t159 t160 t157 t158).bind fun bt206 => (if (bt204.1 == bt206.1 && (bt204.2 == bt206.2)) = true then ((low_Or.f t157 t158 t159 t160).bind fun bt208 => ((low_Or.f t159 t160 t157 t158).bind fun bt210 => (if (bt208.1 == bt210.1 && (bt208.2 == bt210.2)) = true then ((low_Xor.f t157 t158 t159 t160).bind fun bt212 => ((low_Xor.f t159 t160 t157 t158).bind fun bt214 => (some (bt212.1 == bt214.1 && (bt212.2 == bt214.2))))) else (some false)))) else (some false)))) else (some false)))) else (some false)))) else (some false))))) = some r := by rw [if_pos rfl] at H; exact H
         clear H
         have H := H1
         clear H1
         replace H := Option.bind_eq_some_iff.mp H
         obtain ⟨⟨t191, t192⟩, A350, H⟩ := H
         replace H : ((low_Xor.f t163 t164 t159 t160).bind fun bt193 => ((low_Within.f t191 t192 bt193.1 bt193.2).bind fun t195 => (if t195 = true then ((low_Add.f kj8 t157 t158 t159 t160 x13_8).bind fun bt196 => ((low_Add.f kj8 t159 t160 t157 t158 x13_8).bind fun bt198 => (if (bt196.1 == bt198.1 && (bt196.2 == bt198.2)) = true then ((low_Mul.f kj8 t157 t158 t159 t160 x13_8).bind fun bt200 => ((low_Mul.f kj8 t159 t160 t157 t158 x13_8).bind fun bt202 => (if (bt200.1 == bt202.1 && (bt200.2 == bt202.2)) = true then ((low_And.f t157 t158 t159 t160).bind fun bt204 => ((low_And.f t159 t160 t157 t158).bind fun bt206 => (if (bt204.1 == bt206.1 && (bt204.2 == bt206.2)) = true then ((low_Or.f t157 t158 t159 t160).bind fun bt208 => ((low_Or.f t159 t160 t157 t158).bind fun bt210 => (if (bt208.1 == bt210.1 && (bt208.2 == bt210.2)) = true then ((low_Xor.f t157 t158 t159 t160).bind fun bt212 => ((low_Xor.f t159 t160 t157 t158).bind fun bt214 => (some (bt212.1 == bt214.1 && (bt212.2 == bt214.2))))) else (some false)))) else (some false)))) else (some false)))) else (some false)))) else (some false)))) = some r := H
         have A35 := Aside0.mk A350
         clear A350
         replace H := Option.bind_eq_some_iff.mp H
         obtain ⟨⟨t193, t194⟩, A360, H⟩ := H
         replace H : ((low_Within.f t191 t192 t193 t194).bind fun t195 => (if t195 = true then ((low_Add.f kj8 t157 t158 t159 t160 x13_8).bind fun bt196 => ((low_Add.f kj8 t159 t160 t157 t158 x13_8).bind fun bt198 => (if (bt196.1 == bt198.1 && (bt196.2 == bt198.2)) = true then ((low_Mul.f kj8 t157 t158 t159 t160 x13_8).bind fun bt200 => ((low_Mul.f kj8 t159 t160 t157 t158 x13_8).bind fun bt202 => (if (bt200.1 == bt202.1 && (bt200.2 == bt202.2)) = true then ((low_And.f t157 t158 t159 t160).bind fun bt204 => ((low_And.f t159 t160 t157 t158).bind fun bt206 => (if (bt204.1 == bt206.1 && (bt204.2 == bt206.2)) = true then ((low_Or.f t157 t158 t159 t160).bind fun bt208 => ((low_Or.f t159 t160 t157 t158).bind fun bt210 => (if (bt208.1 == bt210.1 && (bt208.2 == bt210.2)) = true then ((low_Xor.f t157 t158 t159 t160).bind fun bt212 => ((low_Xor.f t159 t160 t157 t158).bind fun bt214 => (some (bt212.1 == bt214.1 && (bt212.2 == bt214.2))))) else (some false)))) else (some false)))) else (some false)))) else (some false)))) else (some false))) = some r := H
         have A36 := Aside0.mk A360
         clear A360
         replace H := Option.bind_eq_some_iff.mp H
         obtain ⟨t195, A370, H⟩ := H
         replace H : (if t195 = true then ((low_Add.f kj8 t157 t158 t159 t160 x13_8).bind fun bt196 => ((low_Add.f kj8 t159 t160 t157 t158 x13_8).bind fun bt198 => (if (bt196.1 == bt198.1 && (bt196.2 == bt198.2)) = true then ((low_Mul.f kj8 t157 t158 t159 t160 x13_8).bind fun bt200 => ((low_Mul.f kj8 t159 t160 t157 t158 x13_8).bind fun bt202 => (if (bt200.1 == bt202.1 && (bt200.2 == bt202.2)) = true then ((low_And.f t157 t158 t159 t160).bind fun bt204 => ((low_And.f t159 t160 t157 t158).bind fun bt206 => (if (bt204.1 == bt206.1 && (bt204.2 == bt206.2)) = true then ((low_Or.f t157 t158 t159 t160).bind fun bt208 => ((low_Or.f t159 t160 t157 t158).bind fun bt210 => (if (bt208.1 == bt210.1 && (bt208.2 == bt210.2)) = true then ((low_Xor.f t157 t158 t159 t160).bind fun bt212 => ((low_Xor.f t159 t160 t157 t158).bind fun bt214 => (some (bt212.1 == bt214.1 && (bt212.2 == bt214.2))))) else (some false)))) else (some false)))) else (some false)))) else (some false)))) else (some false)) = some r := H
         have A37 := Aside0.mk A370
         clear A370
         by_cases c38 : t195 = true
         ·subst c38
          have H1 : ((low_Add.f kj8 t157 t158 t159 t160 x13_8).bind fun bt196 => ((low_Add.f kj8 t159 t160 t157 t158 x13_8).bind fun bt198 => (if (bt196.1 == bt198.1 && (bt196.2 == bt198.2)) = true then ((low_Mul.f kj8 t157 t158 t159 t160 x13_8).bind fun bt200 => ((low_Mul.f kj8 t159 t160 t157 t158 x13_8).bind fun bt202 => (if (bt200.1 == bt202.1 && (bt200.2 == bt202.2)) = true then ((low_And.f t157 t158 t159 t160).bind fun bt204 => ((low_And.f t159 t160 t157 t158).bind fun bt206 => (if (bt204.1 == bt206.1 && (bt204.2 == bt206.2)) = true then ((low_Or.f t157 t158 t159 t160).bind fun bt208 => ((low_Or.f t159 t160 t157 t158).bind fun bt210 => (if (bt208.1 == bt210.1 && (bt208.2 == bt210.2)) = true then ((low_Xor.f t157 t158 t159 t160).bind fun bt212 => ((low_Xor.f t159 t160 t157 t158).bind fun bt214 => (some (bt212.1 == bt214.1 && (bt212.2 == bt214.2))))) else (some false)))) else (some false)))) else (some false)))) else (some false)))) = some r := by rw [if_pos rfl] at H; exact H
          clear H
          have H := H1
          clear H1
          replace H := Option.bind_eq_some_iff.mp H
          obtain ⟨⟨t196, t197⟩, A390, H⟩ := H
          replace H : ((low_Add.f kj8 t159 t160 t157 t158 x13_8).bind fun bt198 => (if (t196 == bt198.1 && (t197 == bt198.2)) = true then ((low_Mul.f kj8 t157 t158 t159 t160 x13_8).bind fun bt200 => ((low_Mul.f kj8 t159 t160 t157 t158 x13_8).bind fun bt202 => (if (bt200.1 == bt202.1 && (bt200.2 == bt202.2)) = true then ((low_And.f t157 t158 t159 t160).bind fun bt204 => ((low_And.f t159 t160 t157 t158).bind fun bt206 => (if (bt204.1 == bt206.1 && (bt204.2 == bt206.2)) = true then ((low_Or.f t157 t158 t159 t160).bind fun bt208 => ((low_Or.f t159 t160 t157 t158).bind fun bt210 => (if (bt208.1 == bt210.1 && (bt208.2 == bt210.2)) = true then ((low_Xor.f t157 t158 t159 t160).bind fun bt212 => ((low_Xor.f t159 t160 t157 t158).bind fun bt214 => (some (bt212.1 == bt214.1 && (bt212.2 == bt214.2))))) else (some false)))) else (some false)))) else (some false)))) else (some false))) = some r := H
          have A39 := Aside0.mk A390
          clear A390
          replace H := Option.bind_eq_some_iff.mp H
          obtain ⟨⟨t198, t199⟩, A400, H⟩ := H
          replace H : (if (t196 == t198 && (t197 == t199)) = true then ((low_Mul.f kj8 t157 t158 t159 t160 x13_8).bind fun bt200 => ((low_Mul.f kj8 t159 t160 t157 t158 x13_8).bind fun bt202 => (if (bt200.1 == bt202.1 && (bt200.2 == bt202.2)) = true then ((low_And.f t157 t158 t159 t160).bind fun bt204 => ((low_And.f t159 t160 t157 t158).bind fun bt206 => (if (bt204.1 == bt206.1 && (bt204.2 == bt206.2)) = true then ((low_Or.f t157 t158 t159 t160).bind fun bt208 => ((low_Or.f t159 t160 t157 t158).bind fun bt210 => (if (bt208.1 == bt210.1 && (bt208.2 == bt210.2)) = true then ((low_Xor.f t157 t158 t159 t160).bind fun bt212 => ((low_Xor.f t159 t160 t157 t158).bind fun bt214 => (some (bt212.1 == bt214.1 && (bt212.2 == bt214.2))))) else (some false)))) else (some false)))) else (some false)))) else (some false)) = some r := H
          have A40 := Aside0.mk A400
          clear A400
          by_cases c41 : (t196 == t198 && (t197 == t199)) = true
          ·rw [if_pos c41] at H
           have c41b0 : (t196 == t198 && (t197 == t199)) = true := c41
           (try (have c41b1 : decide (t196 = t198 && (t197 == t199)) = true := by simpa using c41))
           (try (have c41b2 : (t196 == t198 && (t197 == t199)) = true := by simpa using c41))
           clear c41
           replace H := Option.bind_eq_some_iff.mp H
           obtain ⟨⟨t200, t201⟩, A420, H⟩ := H
           replace H : ((low_Mul.f kj8 t159 t160 t157 t158 x13_8).bind fun bt202 => (if (t200 == bt202.1 && (t201 == bt202.2)) = true then ((low_And.f t157 t158 t159 t160).bind fun bt204 => ((low_And.f t159 t160 t157 t158).bind fun bt206 => (if (bt204.1 == bt206.1 && (bt204.2 == bt206.2)) = true then ((low_Or.f t157 t158 t159 t160).bind fun bt208 => ((low_Or.f t159 t160 t157 t158).bind fun bt210 => (if (bt208.1 == bt210.1 && (bt208.2 == bt210.2)) = true then ((low_Xor.f t157 t158 t159 t160).bind fun bt212 => ((low_Xor.f t159 t160 t157 t158).bind fun bt214 => (some (bt212.1 == bt214.1 && (bt212.2 == bt214.2))))) else (some false)))) else (some false)))) else (some false))) = some r := H
           have A42 := Aside0.mk A420
           clear A420
           replace H := Option.bind_eq_some_iff.mp H
           obtain ⟨⟨t202, t203⟩, A430, H⟩ := H
           replace H : (if (t200 == t202 && (t201 == t203)) = true then ((low_And.f t157 t158 t159 t160).bind fun bt204 => ((low_And.f t159 t160 t157 t158).bind fun bt206 => (if (bt204.1 == bt206.1 && (bt204.2 == bt206.2)) = true then ((low_Or.f t157 t158 t159 t160).bind fun bt208 => ((low_Or.f t159 t160 t157 t158).bind fun bt210 => (if (bt208.1 == bt210.1 && (bt208.2 == bt210.2)) = true then ((low_Xor.f t157 t158 t159 t160).bind fun bt212 => ((low_Xor.f t159 t160 t157 t158).bind fun bt214 => (some (bt212.1 == bt214.1 && (bt212.2 == bt214.2))))) else (some false)))) else (some false)))) else (some false)) = some r := H
           have A43 := Aside0.mk A430
           clear A430
           by_cases c44 : (t200 == t202 && (t201 == t203)) = true
           ·rw [if_pos c44] at H
            have c44b0 : (t200 == t202 && (t201 == t203)) = true := c44
            (try (have c44b1 : decide (t200 = t202 && (t201 == t203)) = true := by simpa using c44))
            (try (have c44b2 : (t200 == t202 && (t201 == t203)) = true := by simpa using c44))
            clear c44
            replace H := Option.bind_eq_some_iff.mp H
            obtain ⟨⟨t204, t205⟩, A450, H⟩ := H
            replace H : ((low_And.f t159 t160 t157 t158).bind fun bt206 => (if (t204 == bt206.1 && (t205 == bt206.2)) = true then ((low_Or.f t157 t158 t159 t160).bind fun bt208 => ((low_Or.f t159 t160 t157 t158).bind fun bt210 => (if (bt208.1 == bt210.1 && (bt208.2 == bt210.2)) = true then ((low_Xor.f t157 t158 t159 t160).bind fun bt212 => ((low_Xor.f t159 t160 t157 t158).bind fun bt214 => (some (bt212.1 == bt214.1 && (bt212.2 == bt214.2))))) else (some false)))) else (some false))) = some r := H
            have A45 := Aside0.mk A450
            clear A450
            replace H := Option.bind_eq_some_iff.mp H
            obtain ⟨⟨t206, t207⟩, A460, H⟩ := H
            replace H : (if (t204 == t206 && (t205 == t207)) = true then ((low_Or.f t157 t158 t159 t160).bind fun bt208 => ((low_Or.f t159 t160 t157 t158).bind fun bt210 => (if (bt208.1 == bt210.1 && (bt208.2 == bt210.2)) = true then ((low_Xor.f t157 t158 t159 t160).bind fun bt212 => ((low_Xor.f t159 t160 t157 t158).bind fun bt214 => (some (bt212.1 == bt214.1 && (bt212.2 == bt214.2))))) else (some false)))) else (some false)) = some r := H
            have A46 := Aside0.mk A460
            clear A460
            by_cases c47 : (t204 == t206 && (t205 == t207)) = true
            ·rw [if_pos c47] at H
             have c47b0 : (t204 == t206 && (t205 == t207)) = true := c47
             (try (have c47b1 : decide (t204 = t206 && (t205 == t207)) = true := by simpa using c47))
             (try (have c47b2 : (t204 == t206 && (t205 == t207)) = true := by simpa using c47))
             clear c47
             replace H := Option.bind_eq_some_iff.mp H
             obtain ⟨⟨t208, t209⟩, A480, H⟩ := H
             replace H : ((low_Or.f t159 t160 t157 t158).bind fun bt210 => (if (t208 == bt210.1 && (t209 == bt210.2)) = true then ((low_Xor.f t157 t158 t159 t160).bind fun bt212 => ((low_Xor.f t159 t160 t157 t158).bind fun bt214 => (some (bt212.1 == bt214.1 && (bt212.2 == bt214.2))))) else (some false))) = some r := H
             have A48 := Aside0.mk A480
             clear A480
             replace H := Option.bind_eq_some_iff.mp H
             obtain ⟨⟨t210, t211⟩, A490, H⟩ := H
             replace H : (if (t208 == t210 && (t209 == t211)) = true then ((low_Xor.f t157 t158 t159 t160).bind fun bt212 => ((low_Xor.f t159 t160 t157 t158).bind fun bt214 => (some (bt212.1 == bt214.1 && (bt212.2 == bt214.2))))) else (some false)) = some r := H
             have A49 := Aside0.mk A490
             clear A490
             by_cases c50 : (t208 == t210 && (t209 == t211)) = true
             ·rw [if_pos c50] at H
              have c50b0 : (t208 == t210 && (t209 == t211)) = true := c50
              (try (have c50b1 : decide (t208 = t210 && (t209 == t211)) = true := by simpa using c50))
              (try (have c50b2 : (t208 == t210 && (t209 == t211)) = true := by simpa using c50))
              clear c50
              replace H := Option.bind_eq_some_iff.mp H
              obtain ⟨⟨t212, t213⟩, A510, H⟩ := H
              replace H : ((low_Xor.f t159 t160 t157 t158).bind fun bt214 => (some (t212 == bt214.1 && (t213 == bt214.2)))) = some r := H
              have A51 := Aside0.mk A510
              clear A510
              replace H := Option.bind_eq_some_iff.mp H
              obtain ⟨⟨t214, t215⟩, A520, H⟩ := H
              replace H : (some (t212 == t214 && (t213 == t215))) = some r := H
              have A52 := Aside0.mk A520
              clear A520
              obtain rfl := Option.some.inj H
              try go_wp2_with (first | ((with_reducible refine gate_callee (f := 8) rfl ?_); refine goesL_ (some 22) rfl rfl Tryd.func8 (by kernel_rfl) rfl #[.int .u64 a0, .int .u8 a2] rfl zb3_1 ?_; (with_reducible refine (trammellaw17_some.calls kj8 a0 a2 t157 t158 _ A12.out).mono ?_); rintro e w53 ⟨rfl, hb⟩; refine ⟨_, rfl, ?_⟩; have n0_ := Aside0.mk (below_step zb3_2 hb); clear HB; have HB := n0_; clear n0_; (try clear hb); (try clear hb2); (try clear hk); (try clear hi)) | ((with_reducible refine gate_callee (f := 8) rfl ?_); refine goesL_ (some 25) rfl rfl Tryd.func8 (by kernel_rfl) rfl #[.int .u64 a1, .int .u8 a3] rfl zb3_1 ?_; (with_reducible refine (trammellaw17_some.calls kj8 a1 a3 t159 t160 _ A13.out).mono ?_); rintro e w54 ⟨rfl, hb⟩; refine ⟨_, rfl, ?_⟩; have n0_ := Aside0.mk (below_step zb3_2 hb); clear HB; have HB := n0_; clear n0_; (try clear hb); (try clear hb2); (try clear hk); (try clear hi)) | ((with_reducible refine gate_dst (N := 14) rfl ?_); refine box_event ?hg (N := 14) ?hd (cs := #[.int .i64 0, .int .u64 0]) (t := 25) ?hr ?_; (case hd => rfl); (case hg => rfl); (case hr => first | (go_simp; done) | (go_simp; rfl)); intro gb161 hg w55 hbox hb; have n0_ := Aside0.mk (below_step zb3_2 hb); have n1_ := Aside0.mk (hbox); have n2_ := Aside0.mk ((by rw [hg]; exact (below_size zb3_2) : w.heap.size ≤ gb161)); have n3_ := Aside0.mk ((by rw [hg]; exact (below_size zb3_2) : w.heap.size ≤ gb161)); clear HB; have HB := n0_; have BK161 := n1_; have GW161 := n2_; have GE161 := n3_; clear n0_ n1_ n2_ n3_; clear hb hbox hg) | ((with_reducible refine gate_dst (N := 15) rfl ?_); refine box_event ?hg (N := 15) ?hd (cs := #[.int .i64 0, .int .u64 0]) (t := 25) ?hr ?_; (case hd => rfl); (case hg => rfl); (case hr => first | (go_simp; done) | (go_simp; rfl)); intro gb162 hg w56 hbox hb; have n0_ := Aside0.mk (blk_below (g := gb161) (o := .cells #[.int .i64 0, .int .u64 0] 25 (0, 0)) (by exact zl3_ BK161.out) hb); have n1_ := Aside0.mk (below_step (by repeat (first | (with_reducible first | exact HB.out | apply below_alloc | apply pw_below_drewN | apply below_drew1 | refine below_set ?_ GE161.out) | exact HB.out)) hb); have n2_ := Aside0.mk (hbox); have n3_ := Aside0.mk ((by rw [hg]; exact (below_size (by repeat (first | (with_reducible first | exact HB.out | apply below_alloc | apply pw_below_drewN | apply below_drew1 | refine below_set ?_ GE161.out) | exact HB.out))) : w.heap.size ≤ gb162)); have n4_ := Aside0.mk ((by rw [hg]; exact (below_size (by repeat (first | (with_reducible first | exact HB.out | apply below_alloc | apply pw_below_drewN | apply below_drew1 | refine below_set ?_ GE161.out) | exact HB.out))) : w.heap.size ≤ gb162)); have n5_ := Aside0.mk ((by rw [hg]; exact Nat.ne_of_lt (blk_lt (g := gb161) (o := .cells #[.int .i64 0, .int .u64 0] 25 (0, 0)) (by exact zl3_ BK161.out)) : gb161 ≠ gb162)); have n6_ := Aside0.mk ((by rw [hg]; exact Nat.ne_of_gt (blk_lt (g := gb161) (o := .cells #[.int .i64 0, .int .u64 0] 25 (0, 0)) (by exact zl3_ BK161.out)) : gb162 ≠ gb161)); clear BK161; clear HB; have BK161 := n0_; have HB := n1_; have BK162 := n2_; have GW162 := n3_; have GE162 := n4_; have NB161_162 := n5_; have NB162_161 := n6_; clear n0_ n1_ n2_ n3_ n4_ n5_ n6_; clear hb hbox hg; have hnb57 := NB161_162.out; have hnc57 := NB162_161.out; have hcz58_0 : w56.cell? ⟨gb161, 0, none⟩ = some (.int .i64 0) := (blk_cell BK161.out 0).trans rfl; have hcz58_1 : w56.cell? ⟨gb161, 1, none⟩ = some (.int .u64 0) := (blk_cell BK161.out 1).trans rfl; have hfz58_0 := blk_frozen BK161.out 0; have hfz58_1 := blk_frozen BK161.out 1; have hcz59_0 : w56.cell? ⟨gb162, 0, none⟩ = some (.int .i64 0) := (blk_cell BK162.out 0).trans rfl; have hcz59_1 : w56.cell? ⟨gb162, 1, none⟩ = some (.int .u64 0) := (blk_cell BK162.out 1).trans rfl; have hfz59_0 := blk_frozen BK162.out 0; have hfz59_1 := blk_frozen BK162.out 1) | ((with_reducible refine gate_callee (f := 9) rfl ?_); refine goesL_ (some 29) rfl rfl Tryd.func9 (by kernel_rfl) rfl #[.agg #[.int .i64 t157, .int .u64 t158], .int .i64 (wrap64 (a4))] rfl zb3_1 ?_; (with_reducible refine (low_Cut.calls t157 t158 (wrap64 (a4)) t163 t164 _ A14.out).mono ?_); rintro e w60 ⟨rfl, hb⟩; refine ⟨_, rfl, ?_⟩; have n0_ := Aside0.mk (blk_below (g := gb161) (o := .cells #[.int .i64 t157, .int .u64 t158] 25 (0, 0)) (by (with_reducible repeat (first | refine blk_drewN ?_ _ | refine blk_drew ?_ | refine blk_alloc ?_ _)); refine blk_far ?_ NB161_162.out _; (with_reducible repeat (first | refine blk_drewN ?_ _ | refine blk_drew ?_ | refine blk_alloc ?_ _)); refine blk_far ?_ NB161_162.out _; (with_reducible repeat (first | refine blk_drewN ?_ _ | refine blk_drew ?_ | refine blk_alloc ?_ _)); refine blk_put (cs := #[.int .i64 t157, .int .u64 0]) ?_ 1 _ (by first | rfl | (simp_all; done)); (with_reducible repeat (first | refine blk_drewN ?_ _ | refine blk_drew ?_ | refine blk_alloc ?_ _)); refine blk_put (cs := #[.int .i64 0, .int .u64 0]) ?_ 0 _ (by first | rfl | (simp_all; done)); exact zl3_ BK161.out) hb); have n1_ := Aside0.mk (blk_below (g := gb162) (o := .cells #[.int .i64 t159, .int .u64 t160] 25 (0, 0)) (by (with_reducible repeat (first | refine blk_drewN ?_ _ | refine blk_drew ?_ | refine blk_alloc ?_ _)); refine blk_put (cs := #[.int .i64 t159, .int .u64 0]) ?_ 1 _ (by first | rfl | (simp_all; done)); (with_reducible repeat (first | refine blk_drewN ?_ _ | refine blk_drew ?_ | refine blk_alloc ?_ _)); refine blk_put (cs := #[.int .i64 0, .int .u64 0]) ?_ 0 _ (by first | rfl | (simp_all; done)); (with_reducible repeat (first | refine blk_drewN ?_ _ | refine blk_drew ?_ | refine blk_alloc ?_ _)); refine blk_far ?_ NB162_161.out _; (with_reducible repeat (first | refine blk_drewN ?_ _ | refine blk_drew ?_ | refine blk_alloc ?_ _)); refine blk_far ?_ NB162_161.out _; exact zl3_ BK162.out) hb); have n2_ := Aside0.mk (below_step zb3_3 hb); clear BK161; clear BK162; clear HB; have BK161 := n0_; have BK162 := n1_; have HB := n2_; clear n0_ n1_ n2_; (try clear hb); (try clear hb2); (try clear hk); (try clear hi)) | ((with_reducible refine gate_dst (N := 16) rfl ?_); refine box_event ?hg (N := 16) ?hd (cs := #[.int .i64 0, .int .u64 0]) (t := 25) ?hr ?_; (case hd => rfl); (case hg => rfl); (case hr => first | (go_simp; done) | (go_simp; rfl)); intro gb165 hg w61 hbox hb; have n0_ := Aside0.mk (blk_below (g := gb161) (o := .cells #[.int .i64 t157, .int .u64 t158] 25 (0, 0)) (by exact zl3_ BK161.out) hb); have n1_ := Aside0.mk (blk_below (g := gb162) (o := .cells #[.int .i64 t159, .int .u64 t160] 25 (0, 0)) (by exact zl3_ BK162.out) hb); have n2_ := Aside0.mk (below_step zb3_3 hb); have n3_ := Aside0.mk (hbox); have n4_ := Aside0.mk ((by rw [hg]; exact (below_size zb3_3) : w.heap.size ≤ gb165)); have n5_ := Aside0.mk ((by rw [hg]; exact (below_size zb3_3) : w.heap.size ≤ gb165)); have n6_ := Aside0.mk ((by rw [hg]; exact Nat.ne_of_lt (blk_lt (g := gb161) (o := .cells #[.int .i64 t157, .int .u64 t158] 25 (0, 0)) (by exact zl3_ BK161.out)) : gb161 ≠ gb165)); have n7_ := Aside0.mk ((by rw [hg]; exact Nat.ne_of_gt (blk_lt (g := gb161) (o := .cells #[.int .i64 t157, .int .u64 t158] 25 (0, 0)) (by exact zl3_ BK161.out)) : gb165 ≠ gb161)); have n8_ := Aside0.mk ((by rw [hg]; exact Nat.ne_of_lt (blk_lt (g := gb162) (o := .cells #[.int .i64 t159, .int .u64 t160] 25 (0, 0)) (by exact zl3_ BK162.out)) : gb162 ≠ gb165)); have n9_ := Aside0.mk ((by rw [hg]; exact Nat.ne_of_gt (blk_lt (g := gb162) (o := .cells #[.int .i64 t159, .int .u64 t160] 25 (0, 0)) (by exact zl3_ BK162.out)) : gb165 ≠ gb162)); clear BK161; clear BK162; clear HB; have BK161 := n0_; have BK162 := n1_; have HB := n2_; have BK165 := n3_; have GW165 := n4_; have GE165 := n5_; have NB161_165 := n6_; have NB165_161 := n7_; have NB162_165 := n8_; have NB165_162 := n9_; clear n0_ n1_ n2_ n3_ n4_ n5_ n6_ n7_ n8_ n9_; clear hb hbox hg; have hnb62 := NB165_161.out; have hnc62 := NB161_165.out; have hnb63 := NB165_162.out; have hnc63 := NB162_165.out; have hcz64_0 : w61.cell? ⟨gb165, 0, none⟩ = some (.int .i64 0) := (blk_cell BK165.out 0).trans rfl; have hcz64_1 : w61.cell? ⟨gb165, 1, none⟩ = some (.int .u64 0) := (blk_cell BK165.out 1).trans rfl; have hfz64_0 := blk_frozen BK165.out 0; have hfz64_1 := blk_frozen BK165.out 1))
              have n0_ : Aside0 (((w61.setCell ⟨gb165, 0, none⟩ (.int .i64 t163)).setCell ⟨gb165, 1, none⟩ (.int .u64 t164)).heap[gb161]? = some (.cells #[.int .i64 t157, .int .u64 t158] 25 (0, 0))) := ⟨by (with_reducible repeat (first | refine blk_drewN ?_ _ | refine blk_drew ?_ | refine blk_alloc ?_ _)); refine blk_far ?_ NB161_165.out _; (with_reducible repeat (first | refine blk_drewN ?_ _ | refine blk_drew ?_ | refine blk_alloc ?_ _)); refine blk_far ?_ NB161_165.out _; exact zl3_ BK161.out⟩
              have n1_ : Aside0 (((w61.setCell ⟨gb165, 0, none⟩ (.int .i64 t163)).setCell ⟨gb165, 1, none⟩ (.int .u64 t164)).heap[gb162]? = some (.cells #[.int .i64 t159, .int .u64 t160] 25 (0, 0))) := ⟨by (with_reducible repeat (first | refine blk_drewN ?_ _ | refine blk_drew ?_ | refine blk_alloc ?_ _)); refine blk_far ?_ NB162_165.out _; (with_reducible repeat (first | refine blk_drewN ?_ _ | refine blk_drew ?_ | refine blk_alloc ?_ _)); refine blk_far ?_ NB162_165.out _; exact zl3_ BK162.out⟩
              have n2_ : Aside0 (((w61.setCell ⟨gb165, 0, none⟩ (.int .i64 t163)).setCell ⟨gb165, 1, none⟩ (.int .u64 t164)).heap[gb165]? = some (.cells #[.int .i64 t163, .int .u64 t164] 25 (0, 0))) := ⟨by (with_reducible repeat (first | refine blk_drewN ?_ _ | refine blk_drew ?_ | refine blk_alloc ?_ _)); refine blk_put (cs := #[.int .i64 t163, .int .u64 0]) ?_ 1 _ (by first | rfl | (simp_all; done)); (with_reducible repeat (first | refine blk_drewN ?_ _ | refine blk_drew ?_ | refine blk_alloc ?_ _)); refine blk_put (cs := #[.int .i64 0, .int .u64 0]) ?_ 0 _ (by first | rfl | (simp_all; done)); exact zl3_ BK165.out⟩
              have n3_ : Aside0 (Below w.heap.size w ((w61.setCell ⟨gb165, 0, none⟩ (.int .i64 t163)).setCell ⟨gb165, 1, none⟩ (.int .u64 t164))) := ⟨by repeat (first | (with_reducible first | exact HB.out | apply below_alloc | apply pw_below_drewN | apply below_drew1 | refine below_set ?_ GE161.out | refine below_set ?_ GE162.out | refine below_set ?_ GE165.out) | exact HB.out)⟩
              (try clear BK161)
              (try clear BK162)
              (try clear BK165)
              (try clear HB)
              generalize ((w61.setCell ⟨gb165, 0, none⟩ (.int .i64 t163)).setCell ⟨gb165, 1, none⟩ (.int .u64 t164)) = w65 at n0_ n1_ n2_ n3_ ⊢
              have BK161 := n0_
              have BK162 := n1_
              have BK165 := n2_
              have HB := n3_
              clear n0_ n1_ n2_ n3_
              have n0_ := Aside0.mk (blk_drew BK161.out)
              have n1_ := Aside0.mk (blk_drew BK162.out)
              have n2_ := Aside0.mk (blk_drew BK165.out)
              have n3_ := Aside0.mk (below_drew1 HB.out)
              clear BK161
              clear BK162
              clear BK165
              clear HB
              have BK161 := n0_
              have BK162 := n1_
              have BK165 := n2_
              have HB := n3_
              clear n0_ n1_ n2_ n3_
              refine start_ (n := 108) (S := fun w' => w'.cell? ⟨gb161, 0, none⟩ = some (.int .i64 t157) ∧ w'.cell? ⟨gb161, 1, none⟩ = some (.int .u64 t158) ∧ w'.cell? ⟨gb162, 0, none⟩ = some (.int .i64 t159) ∧ w'.cell? ⟨gb162, 1, none⟩ = some (.int .u64 t160) ∧ w'.cell? ⟨gb165, 0, none⟩ = some (.int .i64 t163) ∧ w'.cell? ⟨gb165, 1, none⟩ = some (.int .u64 t164)) (ds := []) #[false, false, false, false, false, false, false, false, false, false, false, false, false, false, false, false, false, false, false, false, false, false, false, false, false, false, false, false, false, false, false, false, false, false, false, false, false, false, false, false, false, false, false, false, false, false, false, false, false, false, false, false, false, false, false, false, false, false, false, false, false, false, false, false, false, false, false, false, false, false, false, false, false, false, false, false, false, false, false, false, false, false, false, false, false, false, false, false, false, false, false, false, false, false, false, false, false, false, false, false, false, false, false, false, false, false, false, false] (by kernel_rfl) rfl rfl ⟨(blk_cell BK161.out 0).trans rfl, (blk_cell BK161.out 1).trans rfl, (blk_cell BK162.out 0).trans rfl, (blk_cell BK162.out 1).trans rfl, (blk_cell BK165.out 0).trans rfl, (blk_cell BK165.out 1).trans rfl⟩ (fun hHeld => ?_); refine with_tabW trammellaw17_LowGrows.tab8 trammellaw17_LowGrows.bits8 (fun HT_ HW_ => ?_)
              generalize w65.drew = w66 at BK161 BK162 BK165 HB hHeld ⊢
              refine pure_ (i := 2) (N := some 32) (v := ?_) (a' := ?_) #[false, false, true, false, false, false, false, false, false, false, false, false, false, false, false, false, false, false, false, false, false, false, false, false, false, false, false, false, false, false, false, false, false, false, false, false, false, false, false, false, false, false, false, false, false, false, false, false, false, false, false, false, false, false, false, false, false, false, false, false, false, false, false, false, false, false, false, false, false, false, false, false, false, false, false, false, false, false, false, false, false, false, false, false, false, false, false, false, false, false, false, false, false, false, false, false, false, false, false, false, false, false, false, false, false, false, false, false] rfl rfl (any_of HT_.out (by kernel_rfl)) (fun _ _ _ h => h) (Or.inl ⟨by rfl, ?_⟩) ?_ ?_
              rotate_left
              ·intro w'
               go_simp
               with_reducible rfl
              rotate_left
              ·exact zp3_
              refine pure_ (i := 6) (N := some 36) (v := ?_) (a' := ?_) #[false, false, true, false, false, false, true, false, false, false, false, false, false, false, false, false, false, false, false, false, false, false, false, false, false, false, false, false, false, false, false, false, false, false, false, false, false, false, false, false, false, false, false, false, false, false, false, false, false, false, false, false, false, false, false, false, false, false, false, false, false, false, false, false, false, false, false, false, false, false, false, false, false, false, false, false, false, false, false, false, false, false, false, false, false, false, false, false, false, false, false, false, false, false, false, false, false, false, false, false, false, false, false, false, false, false, false, false] rfl rfl (any_of HT_.out (by kernel_rfl)) (fun _ _ _ h => h) (Or.inl ⟨by rfl, ?_⟩) ?_ ?_
              rotate_left
              ·intro w'
               go_simp
               with_reducible rfl
              rotate_left
              ·exact zp3_
              refine take_ (i := 0) (N := some 30) (v := ?_) (a' := ?_) #[true, false, true, false, false, false, true, false, false, false, false, false, false, false, false, false, false, false, false, false, false, false, false, false, false, false, false, false, false, false, false, false, false, false, false, false, false, false, false, false, false, false, false, false, false, false, false, false, false, false, false, false, false, false, false, false, false, false, false, false, false, false, false, false, false, false, false, false, false, false, false, false, false, false, false, false, false, false, false, false, false, false, false, false, false, false, false, false, false, false, false, false, false, false, false, false, false, false, false, false, false, false, false, false, false, false, false, false] rfl rfl (take_ofW HT_.out HW_.out (by kernel_rfl)) (fun _ _ _ h => h) (Or.inl ⟨by rfl, ?_⟩) hHeld ?_ ?_
              rotate_left
              ·rintro w' ⟨s0, s1, s2, s3, s4, s5⟩
               go_simp
               with_reducible rfl
              rotate_left
              ·exact zp3_
              refine take_ (i := 1) (N := some 31) (v := ?_) (a' := ?_) #[true, true, true, false, false, false, true, false, false, false, false, false, false, false, false, false, false, false, false, false, false, false, false, false, false, false, false, false, false, false, false, false, false, false, false, false, false, false, false, false, false, false, false, false, false, false, false, false, false, false, false, false, false, false, false, false, false, false, false, false, false, false, false, false, false, false, false, false, false, false, false, false, false, false, false, false, false, false, false, false, false, false, false, false, false, false, false, false, false, false, false, false, false, false, false, false, false, false, false, false, false, false, false, false, false, false, false, false] rfl rfl (take_ofW HT_.out HW_.out (by kernel_rfl)) (fun _ _ _ h => h) (Or.inl ⟨by rfl, ?_⟩) hHeld ?_ ?_
              rotate_left
              ·rintro w' ⟨s0, s1, s2, s3, s4, s5⟩
               go_simp
               with_reducible rfl
              rotate_left
              ·exact zp3_
              refine take_ (i := 4) (N := some 34) (v := ?_) (a' := ?_) #[true, true, true, false, true, false, true, false, false, false, false, false, false, false, false, false, false, false, false, false, false, false, false, false, false, false, false, false, false, false, false, false, false, false, false, false, false, false, false, false, false, false, false, false, false, false, false, false, false, false, false, false, false, false, false, false, false, false, false, false, false, false, false, false, false, false, false, false, false, false, false, false, false, false, false, false, false, false, false, false, false, false, false, false, false, false, false, false, false, false, false, false, false, false, false, false, false, false, false, false, false, false, false, false, false, false, false, false] rfl rfl (take_ofW HT_.out HW_.out (by kernel_rfl)) (fun _ _ _ h => h) (Or.inl ⟨by rfl, ?_⟩) hHeld ?_ ?_
              rotate_left
              ·rintro w' ⟨s0, s1, s2, s3, s4, s5⟩
               go_simp
               with_reducible rfl
              rotate_left
              ·exact zp3_
              refine take_ (i := 5) (N := some 35) (v := ?_) (a' := ?_) #[true, true, true, false, true, true, true, false, false, false, false, false, false, false, false, false, false, false, false, false, false, false, false, false, false, false, false, false, false, false, false, false, false, false, false, false, false, false, false, false, false, false, false, false, false, false, false, false, false, false, false, false, false, false, false, false, false, false, false, false, false, false, false, false, false, false, false, false, false, false, false, false, false, false, false, false, false, false, false, false, false, false, false, false, false, false, false, false, false, false, false, false, false, false, false, false, false, false, false, false, false, false, false, false, false, false, false, false] rfl rfl (take_ofW HT_.out HW_.out (by kernel_rfl)) (fun _ _ _ h => h) (Or.inl ⟨by rfl, ?_⟩) hHeld ?_ ?_
              rotate_left
              ·rintro w' ⟨s0, s1, s2, s3, s4, s5⟩
               go_simp
               with_reducible rfl
              rotate_left
              ·exact zp3_
              refine one_ (i := 3) (N := some 33) #[true, true, true, true, true, true, true, false, false, false, false, false, false, false, false, false, false, false, false, false, false, false, false, false, false, false, false, false, false, false, false, false, false, false, false, false, false, false, false, false, false, false, false, false, false, false, false, false, false, false, false, false, false, false, false, false, false, false, false, false, false, false, false, false, false, false, false, false, false, false, false, false, false, false, false, false, false, false, false, false, false, false, false, false, false, false, false, false, false, false, false, false, false, false, false, false, false, false, false, false, false, false, false, false, false, false, false, false] rfl rfl (one_of HT_.out (by kernel_rfl)) (by decide) (fun K hK => ?_)
              refine goes_ Tryd.func11 (by kernel_rfl) rfl #[.agg #[.int .i64 t157, .int .u64 t158], .agg #[.int .i64 t159, .int .u64 t160], .int .i64 x13_8] (by rfl) rfl rfl zb3_1 ?_
              with_reducible refine (low_Add.calls kj8 t157 t158 t159 t160 x13_8 t166 t167 _ A15.out).mono ?_
              rintro e w67 ⟨rfl, hb⟩
              refine ⟨_, rfl, ?_⟩
              have n0_ := Aside0.mk (blk_below (g := gb161) (o := .cells #[.int .i64 t157, .int .u64 t158] 25 (0, 0)) (by exact zl3_ BK161.out) hb)
              have n1_ := Aside0.mk (blk_below (g := gb162) (o := .cells #[.int .i64 t159, .int .u64 t160] 25 (0, 0)) (by exact zl3_ BK162.out) hb)
              have n2_ := Aside0.mk (blk_below (g := gb165) (o := .cells #[.int .i64 t163, .int .u64 t164] 25 (0, 0)) (by exact zl3_ BK165.out) hb)
              have n3_ := Aside0.mk (below_step zb3_0 hb)
              clear BK161
              clear BK162
              clear BK165
              clear HB
              have BK161 := n0_
              have BK162 := n1_
              have BK165 := n2_
              have HB := n3_
              clear n0_ n1_ n2_ n3_
              (try clear hb)
              (try clear hb2)
              (try clear hk)
              (try clear hi)
              refine hK.out _ _ ⟨(blk_cell BK161.out 0).trans rfl, (blk_cell BK161.out 1).trans rfl, (blk_cell BK162.out 0).trans rfl, (blk_cell BK162.out 1).trans rfl, (blk_cell BK165.out 0).trans rfl, (blk_cell BK165.out 1).trans rfl⟩ (fun hHeld => ?_)
              clear hK K
              refine norm_ (a' := ?_) ?_ ?_
              rotate_left
              ·show Act.put _ (some 33) _ = _
               simp only [Act.put, List.setIfInBounds_toArray, List.set_cons_zero, List.set_cons_succ, i64_w, i32_w]
               rfl
              refine one_ (i := 7) (N := some 37) #[true, true, true, true, true, true, true, true, false, false, false, false, false, false, false, false, false, false, false, false, false, false, false, false, false, false, false, false, false, false, false, false, false, false, false, false, false, false, false, false, false, false, false, false, false, false, false, false, false, false, false, false, false, false, false, false, false, false, false, false, false, false, false, false, false, false, false, false, false, false, false, false, false, false, false, false, false, false, false, false, false, false, false, false, false, false, false, false, false, false, false, false, false, false, false, false, false, false, false, false, false, false, false, false, false, false, false, false] rfl rfl (one_of HT_.out (by kernel_rfl)) (by decide) (fun K hK => ?_)
              refine goes_ Tryd.func11 (by kernel_rfl) rfl #[.agg #[.int .i64 t163, .int .u64 t164], .agg #[.int .i64 t159, .int .u64 t160], .int .i64 x13_8] (by rfl) rfl rfl zb3_1 ?_
              with_reducible refine (low_Add.calls kj8 t163 t164 t159 t160 x13_8 t168 t169 _ A16.out).mono ?_
              rintro e w68 ⟨rfl, hb⟩
              refine ⟨_, rfl, ?_⟩
              have n0_ := Aside0.mk (blk_below (g := gb161) (o := .cells #[.int .i64 t157, .int .u64 t158] 25 (0, 0)) (by exact zl3_ BK161.out) hb)
              have n1_ := Aside0.mk (blk_below (g := gb162) (o := .cells #[.int .i64 t159, .int .u64 t160] 25 (0, 0)) (by exact zl3_ BK162.out) hb)
              have n2_ := Aside0.mk (blk_below (g := gb165) (o := .cells #[.int .i64 t163, .int .u64 t164] 25 (0, 0)) (by exact zl3_ BK165.out) hb)
              have n3_ := Aside0.mk (below_step zb3_0 hb)
              clear BK161
              clear BK162
              clear BK165
              clear HB
              have BK161 := n0_
              have BK162 := n1_
              have BK165 := n2_
              have HB := n3_
              clear n0_ n1_ n2_ n3_
              (try clear hb)
              (try clear hb2)
              (try clear hk)
              (try clear hi)
              refine hK.out _ _ ⟨(blk_cell BK161.out 0).trans rfl, (blk_cell BK161.out 1).trans rfl, (blk_cell BK162.out 0).trans rfl, (blk_cell BK162.out 1).trans rfl, (blk_cell BK165.out 0).trans rfl, (blk_cell BK165.out 1).trans rfl⟩ (fun hHeld => ?_)
              clear hK K
              refine norm_ (a' := ?_) ?_ ?_
              rotate_left
              ·show Act.put _ (some 37) _ = _
               simp only [Act.put, List.setIfInBounds_toArray, List.set_cons_zero, List.set_cons_succ, i64_w, i32_w]
               rfl
              refine one_ (i := 8) (N := some 38) #[true, true, true, true, true, true, true, true, true, false, false, false, false, false, false, false, false, false, false, false, false, false, false, false, false, false, false, false, false, false, false, false, false, false, false, false, false, false, false, false, false, false, false, false, false, false, false, false, false, false, false, false, false, false, false, false, false, false, false, false, false, false, false, false, false, false, false, false, false, false, false, false, false, false, false, false, false, false, false, false, false, false, false, false, false, false, false, false, false, false, false, false, false, false, false, false, false, false, false, false, false, false, false, false, false, false, false, false] rfl rfl (one_of HT_.out (by kernel_rfl)) (by decide) (fun K hK => ?_)
              refine goes_ Tryd.func10 (by kernel_rfl) rfl #[.agg #[.int .i64 t166, .int .u64 t167], .agg #[.int .i64 t168, .int .u64 t169]] (by rfl) rfl rfl zb3_1 ?_
              with_reducible refine (low_Within.calls t166 t167 t168 t169 true _ A17.out).mono ?_
              rintro e w69 ⟨rfl, hb⟩
              refine ⟨_, rfl, ?_⟩
              have n0_ := Aside0.mk (blk_below (g := gb161) (o := .cells #[.int .i64 t157, .int .u64 t158] 25 (0, 0)) (by exact zl3_ BK161.out) hb)
              have n1_ := Aside0.mk (blk_below (g := gb162) (o := .cells #[.int .i64 t159, .int .u64 t160] 25 (0, 0)) (by exact zl3_ BK162.out) hb)
              have n2_ := Aside0.mk (blk_below (g := gb165) (o := .cells #[.int .i64 t163, .int .u64 t164] 25 (0, 0)) (by exact zl3_ BK165.out) hb)
              have n3_ := Aside0.mk (below_step zb3_0 hb)
              clear BK161
              clear BK162
              clear BK165
              clear HB
              have BK161 := n0_
              have BK162 := n1_
              have BK165 := n2_
              have HB := n3_
              clear n0_ n1_ n2_ n3_
              (try clear hb)
              (try clear hb2)
              (try clear hk)
              (try clear hi)
              refine hK.out _ _ ⟨(blk_cell BK161.out 0).trans rfl, (blk_cell BK161.out 1).trans rfl, (blk_cell BK162.out 0).trans rfl, (blk_cell BK162.out 1).trans rfl, (blk_cell BK165.out 0).trans rfl, (blk_cell BK165.out 1).trans rfl⟩ (fun hHeld => ?_)
              clear hK K
              refine norm_ (a' := ?_) ?_ ?_
              rotate_left
              ·show Act.put _ (some 38) _ = _
               simp only [Act.put, List.setIfInBounds_toArray, List.set_cons_zero, List.set_cons_succ, i64_w, i32_w]
               rfl
              refine pure_ (i := 9) (N := some 39) (v := ?_) (a' := ?_) #[true, true, true, true, true, true, true, true, true, true, false, false, false, false, false, false, false, false, false, false, false, false, false, false, false, false, false, false, false, false, false, false, false, false, false, false, false, false, false, false, false, false, false, false, false, false, false, false, false, false, false, false, false, false, false, false, false, false, false, false, false, false, false, false, false, false, false, false, false, false, false, false, false, false, false, false, false, false, false, false, false, false, false, false, false, false, false, false, false, false, false, false, false, false, false, false, false, false, false, false, false, false, false, false, false, false, false, false] rfl rfl (any_of HT_.out (by kernel_rfl)) (fun _ _ _ h => h) (Or.inl ⟨by rfl, ?_⟩) ?_ ?_
              rotate_left
              ·intro w'
               go_simp
               with_reducible rfl
              rotate_left
              ·exact zp3_
              refine pure_ (i := 12) (N := some 42) (v := ?_) (a' := ?_) #[true, true, true, true, true, true, true, true, true, true, false, false, true, false, false, false, false, false, false, false, false, false, false, false, false, false, false, false, false, false, false, false, false, false, false, false, false, false, false, false, false, false, false, false, false, false, false, false, false, false, false, false, false, false, false, false, false, false, false, false, false, false, false, false, false, false, false, false, false, false, false, false, false, false, false, false, false, false, false, false, false, false, false, false, false, false, false, false, false, false, false, false, false, false, false, false, false, false, false, false, false, false, false, false, false, false, false, false] rfl rfl (any_of HT_.out (by kernel_rfl)) (fun _ _ _ h => h) (Or.inl ⟨by rfl, ?_⟩) ?_ ?_
              rotate_left
              ·intro w'
               go_simp
               with_reducible rfl
              rotate_left
              ·exact zp3_
              refine pure_ (i := 16) (N := some 46) (v := ?_) (a' := ?_) #[true, true, true, true, true, true, true, true, true, true, false, false, true, false, false, false, true, false, false, false, false, false, false, false, false, false, false, false, false, false, false, false, false, false, false, false, false, false, false, false, false, false, false, false, false, false, false, false, false, false, false, false, false, false, false, false, false, false, false, false, false, false, false, false, false, false, false, false, false, false, false, false, false, false, false, false, false, false, false, false, false, false, false, false, false, false, false, false, false, false, false, false, false, false, false, false, false, false, false, false, false, false, false, false, false, false, false, false] rfl rfl (any_of HT_.out (by kernel_rfl)) (fun _ _ _ h => h) (Or.inl ⟨by rfl, ?_⟩) ?_ ?_
              rotate_left
              ·intro w'
               go_simp
               with_reducible rfl
              rotate_left
              ·exact zp3_
              refine take_ (i := 10) (N := some 40) (v := ?_) (a' := ?_) #[true, true, true, true, true, true, true, true, true, true, true, false, true, false, false, false, true, false, false, false, false, false, false, false, false, false, false, false, false, false, false, false, false, false, false, false, false, false, false, false, false, false, false, false, false, false, false, false, false, false, false, false, false, false, false, false, false, false, false, false, false, false, false, false, false, false, false, false, false, false, false, false, false, false, false, false, false, false, false, false, false, false, false, false, false, false, false, false, false, false, false, false, false, false, false, false, false, false, false, false, false, false, false, false, false, false, false, false] rfl rfl (take_ofW HT_.out HW_.out (by kernel_rfl)) (fun _ _ _ h => h) (Or.inl ⟨by rfl, ?_⟩) hHeld ?_ ?_
              rotate_left
              ·rintro w' ⟨s0, s1, s2, s3, s4, s5⟩
               go_simp
               with_reducible rfl
              rotate_left
              ·exact zp3_
              refine take_ (i := 11) (N := some 41) (v := ?_) (a' := ?_) #[true, true, true, true, true, true, true, true, true, true, true, true, true, false, false, false, true, false, false, false, false, false, false, false, false, false, false, false, false, false, false, false, false, false, false, false, false, false, false, false, false, false, false, false, false, false, false, false, false, false, false, false, false, false, false, false, false, false, false, false, false, false, false, false, false, false, false, false, false, false, false, false, false, false, false, false, false, false, false, false, false, false, false, false, false, false, false, false, false, false, false, false, false, false, false, false, false, false, false, false, false, false, false, false, false, false, false, false] rfl rfl (take_ofW HT_.out HW_.out (by kernel_rfl)) (fun _ _ _ h => h) (Or.inl ⟨by rfl, ?_⟩) hHeld ?_ ?_
              rotate_left
              ·rintro w' ⟨s0, s1, s2, s3, s4, s5⟩
               go_simp
               with_reducible rfl
              rotate_left
              ·exact zp3_
              refine take_ (i := 14) (N := some 44) (v := ?_) (a' := ?_) #[true, true, true, true, true, true, true, true, true, true, true, true, true, false, true, false, true, false, false, false, false, false, false, false, false, false, false, false, false, false, false, false, false, false, false, false, false, false, false, false, false, false, false, false, false, false, false, false, false, false, false, false, false, false, false, false, false, false, false, false, false, false, false, false, false, false, false, false, false, false, false, false, false, false, false, false, false, false, false, false, false, false, false, false, false, false, false, false, false, false, false, false, false, false, false, false, false, false, false, false, false, false, false, false, false, false, false, false] rfl rfl (take_ofW HT_.out HW_.out (by kernel_rfl)) (fun _ _ _ h => h) (Or.inl ⟨by rfl, ?_⟩) hHeld ?_ ?_
              rotate_left
              ·rintro w' ⟨s0, s1, s2, s3, s4, s5⟩
               go_simp
               with_reducible rfl
              rotate_left
              ·exact zp3_
              refine take_ (i := 15) (N := some 45) (v := ?_) (a' := ?_) #[true, true, true, true, true, true, true, true, true, true, true, true, true, false, true, true, true, false, false, false, false, false, false, false, false, false, false, false, false, false, false, false, false, false, false, false, false, false, false, false, false, false, false, false, false, false, false, false, false, false, false, false, false, false, false, false, false, false, false, false, false, false, false, false, false, false, false, false, false, false, false, false, false, false, false, false, false, false, false, false, false, false, false, false, false, false, false, false, false, false, false, false, false, false, false, false, false, false, false, false, false, false, false, false, false, false, false, false] rfl rfl (take_ofW HT_.out HW_.out (by kernel_rfl)) (fun _ _ _ h => h) (Or.inl ⟨by rfl, ?_⟩) hHeld ?_ ?_
              rotate_left
              ·rintro w' ⟨s0, s1, s2, s3, s4, s5⟩
               go_simp
               with_reducible rfl
              rotate_left
              ·exact zp3_
              refine one_ (i := 13) (N := some 43) #[true, true, true, true, true, true, true, true, true, true, true, true, true, true, true, true, true, false, false, false, false, false, false, false, false, false, false, false, false, false, false, false, false, false, false, false, false, false, false, false, false, false, false, false, false, false, false, false, false, false, false, false, false, false, false, false, false, false, false, false, false, false, false, false, false, false, false, false, false, false, false, false, false, false, false, false, false, false, false, false, false, false, false, false, false, false, false, false, false, false, false, false, false, false, false, false, false, false, false, false, false, false, false, false, false, false, false, false] rfl rfl (one_of HT_.out (by kernel_rfl)) (by decide) (fun K hK => ?_)
              refine goes_ Tryd.func12 (by kernel_rfl) rfl #[.agg #[.int .i64 t157, .int .u64 t158], .agg #[.int .i64 t159, .int .u64 t160], .int .i64 x13_8] (by rfl) rfl rfl zb3_1 ?_
              with_reducible refine (low_Sub.calls kj8 t157 t158 t159 t160 x13_8 t171 t172 _ A19.out).mono ?_
              rintro e w70 ⟨rfl, hb⟩
              refine ⟨_, rfl, ?_⟩
              have n0_ := Aside0.mk (blk_below (g := gb161) (o := .cells #[.int .i64 t157, .int .u64 t158] 25 (0, 0)) (by exact zl3_ BK161.out) hb)
              have n1_ := Aside0.mk (blk_below (g := gb162) (o := .cells #[.int .i64 t159, .int .u64 t160] 25 (0, 0)) (by exact zl3_ BK162.out) hb)
              have n2_ := Aside0.mk (blk_below (g := gb165) (o := .cells #[.int .i64 t163, .int .u64 t164] 25 (0, 0)) (by exact zl3_ BK165.out) hb)
              have n3_ := Aside0.mk (below_step zb3_0 hb)
              clear BK161
              clear BK162
              clear BK165
              clear HB
              have BK161 := n0_
              have BK162 := n1_
              have BK165 := n2_
              have HB := n3_
              clear n0_ n1_ n2_ n3_
              (try clear hb)
              (try clear hb2)
              (try clear hk)
              (try clear hi)
              refine hK.out _ _ ⟨(blk_cell BK161.out 0).trans rfl, (blk_cell BK161.out 1).trans rfl, (blk_cell BK162.out 0).trans rfl, (blk_cell BK162.out 1).trans rfl, (blk_cell BK165.out 0).trans rfl, (blk_cell BK165.out 1).trans rfl⟩ (fun hHeld => ?_)
              clear hK K
              refine norm_ (a' := ?_) ?_ ?_
              rotate_left
              ·show Act.put _ (some 43) _ = _
               simp only [Act.put, List.setIfInBounds_toArray, List.set_cons_zero, List.set_cons_succ, i64_w, i32_w]
               rfl
              refine one_ (i := 17) (N := some 47) #[true, true, true, true, true, true, true, true, true, true, true, true, true, true, true, true, true, true, false, false, false, false, false, false, false, false, false, false, false, false, false, false, false, false, false, false, false, false, false, false, false, false, false, false, false, false, false, false, false, false, false, false, false, false, false, false, false, false, false, false, false, false, false, false, false, false, false, false, false, false, false, false, false, false, false, false, false, false, false, false, false, false, false, false, false, false, false, false, false, false, false, false, false, false, false, false, false, false, false, false, false, false, false, false, false, false, false, false] rfl rfl (one_of HT_.out (by kernel_rfl)) (by decide) (fun K hK => ?_)
              refine goes_ Tryd.func12 (by kernel_rfl) rfl #[.agg #[.int .i64 t163, .int .u64 t164], .agg #[.int .i64 t159, .int .u64 t160], .int .i64 x13_8] (by rfl) rfl rfl zb3_1 ?_
              with_reducible refine (low_Sub.calls kj8 t163 t164 t159 t160 x13_8 t173 t174 _ A20.out).mono ?_
              rintro e w71 ⟨rfl, hb⟩
              refine ⟨_, rfl, ?_⟩
              have n0_ := Aside0.mk (blk_below (g := gb161) (o := .cells #[.int .i64 t157, .int .u64 t158] 25 (0, 0)) (by exact zl3_ BK161.out) hb)
              have n1_ := Aside0.mk (blk_below (g := gb162) (o := .cells #[.int .i64 t159, .int .u64 t160] 25 (0, 0)) (by exact zl3_ BK162.out) hb)
              have n2_ := Aside0.mk (blk_below (g := gb165) (o := .cells #[.int .i64 t163, .int .u64 t164] 25 (0, 0)) (by exact zl3_ BK165.out) hb)
              have n3_ := Aside0.mk (below_step zb3_0 hb)
              clear BK161
              clear BK162
              clear BK165
              clear HB
              have BK161 := n0_
              have BK162 := n1_
              have BK165 := n2_
              have HB := n3_
              clear n0_ n1_ n2_ n3_
              (try clear hb)
              (try clear hb2)
              (try clear hk)
              (try clear hi)
              refine hK.out _ _ ⟨(blk_cell BK161.out 0).trans rfl, (blk_cell BK161.out 1).trans rfl, (blk_cell BK162.out 0).trans rfl, (blk_cell BK162.out 1).trans rfl, (blk_cell BK165.out 0).trans rfl, (blk_cell BK165.out 1).trans rfl⟩ (fun hHeld => ?_)
              clear hK K
              refine norm_ (a' := ?_) ?_ ?_
              rotate_left
              ·show Act.put _ (some 47) _ = _
               simp only [Act.put, List.setIfInBounds_toArray, List.set_cons_zero, List.set_cons_succ, i64_w, i32_w]
               rfl
              refine one_ (i := 18) (N := some 48) #[true, true, true, true, true, true, true, true, true, true, true, true, true, true, true, true, true, true, true, false, false, false, false, false, false, false, false, false, false, false, false, false, false, false, false, false, false, false, false, false, false, false, false, false, false, false, false, false, false, false, false, false, false, false, false, false, false, false, false, false, false, false, false, false, false, false, false, false, false, false, false, false, false, false, false, false, false, false, false, false, false, false, false, false, false, false, false, false, false, false, false, false, false, false, false, false, false, false, false, false, false, false, false, false, false, false, false, false] rfl rfl (one_of HT_.out (by kernel_rfl)) (by decide) (fun K hK => ?_)
              refine goes_ Tryd.func10 (by kernel_rfl) rfl #[.agg #[.int .i64 t171, .int .u64 t172], .agg #[.int .i64 t173, .int .u64 t174]] (by rfl) rfl rfl zb3_1 ?_
              with_reducible refine (low_Within.calls t171 t172 t173 t174 true _ A21.out).mono ?_
              rintro e w72 ⟨rfl, hb⟩
              refine ⟨_, rfl, ?_⟩
              have n0_ := Aside0.mk (blk_below (g := gb161) (o := .cells #[.int .i64 t157, .int .u64 t158] 25 (0, 0)) (by exact zl3_ BK161.out) hb)
              have n1_ := Aside0.mk (blk_below (g := gb162) (o := .cells #[.int .i64 t159, .int .u64 t160] 25 (0, 0)) (by exact zl3_ BK162.out) hb)
              have n2_ := Aside0.mk (blk_below (g := gb165) (o := .cells #[.int .i64 t163, .int .u64 t164] 25 (0, 0)) (by exact zl3_ BK165.out) hb)
              have n3_ := Aside0.mk (below_step zb3_0 hb)
              clear BK161
              clear BK162
              clear BK165
              clear HB
              have BK161 := n0_
              have BK162 := n1_
              have BK165 := n2_
              have HB := n3_
              clear n0_ n1_ n2_ n3_
              (try clear hb)
              (try clear hb2)
              (try clear hk)
              (try clear hi)
              refine hK.out _ _ ⟨(blk_cell BK161.out 0).trans rfl, (blk_cell BK161.out 1).trans rfl, (blk_cell BK162.out 0).trans rfl, (blk_cell BK162.out 1).trans rfl, (blk_cell BK165.out 0).trans rfl, (blk_cell BK165.out 1).trans rfl⟩ (fun hHeld => ?_)
              clear hK K
              refine norm_ (a' := ?_) ?_ ?_
              rotate_left
              ·show Act.put _ (some 48) _ = _
               simp only [Act.put, List.setIfInBounds_toArray, List.set_cons_zero, List.set_cons_succ, i64_w, i32_w]
               rfl
              refine pure_ (i := 19) (N := some 49) (v := ?_) (a' := ?_) #[true, true, true, true, true, true, true, true, true, true, true, true, true, true, true, true, true, true, true, true, false, false, false, false, false, false, false, false, false, false, false, false, false, false, false, false, false, false, false, false, false, false, false, false, false, false, false, false, false, false, false, false, false, false, false, false, false, false, false, false, false, false, false, false, false, false, false, false, false, false, false, false, false, false, false, false, false, false, false, false, false, false, false, false, false, false, false, false, false, false, false, false, false, false, false, false, false, false, false, false, false, false, false, false, false, false, false, false] rfl rfl (any_of HT_.out (by kernel_rfl)) (fun _ _ _ h => h) (Or.inl ⟨by rfl, ?_⟩) ?_ ?_
              rotate_left
              ·intro w'
               go_simp
               with_reducible rfl
              rotate_left
              ·exact zp3_
              refine pure_ (i := 20) (N := some 50) (v := ?_) (a' := ?_) #[true, true, true, true, true, true, true, true, true, true, true, true, true, true, true, true, true, true, true, true, true, false, false, false, false, false, false, false, false, false, false, false, false, false, false, false, false, false, false, false, false, false, false, false, false, false, false, false, false, false, false, false, false, false, false, false, false, false, false, false, false, false, false, false, false, false, false, false, false, false, false, false, false, false, false, false, false, false, false, false, false, false, false, false, false, false, false, false, false, false, false, false, false, false, false, false, false, false, false, false, false, false, false, false, false, false, false, false] rfl rfl (any_of HT_.out (by kernel_rfl)) (fun _ _ _ h => h) (Or.inl ⟨by rfl, ?_⟩) ?_ ?_
              rotate_left
              ·intro w'
               go_simp
               with_reducible rfl
              rotate_left
              ·exact zp3_
              refine pure_ (i := 23) (N := some 53) (v := ?_) (a' := ?_) #[true, true, true, true, true, true, true, true, true, true, true, true, true, true, true, true, true, true, true, true, true, false, false, true, false, false, false, false, false, false, false, false, false, false, false, false, false, false, false, false, false, false, false, false, false, false, false, false, false, false, false, false, false, false, false, false, false, false, false, false, false, false, false, false, false, false, false, false, false, false, false, false, false, false, false, false, false, false, false, false, false, false, false, false, false, false, false, false, false, false, false, false, false, false, false, false, false, false, false, false, false, false, false, false, false, false, false, false] rfl rfl (any_of HT_.out (by kernel_rfl)) (fun _ _ _ h => h) (Or.inl ⟨by rfl, ?_⟩) ?_ ?_
              rotate_left
              ·intro w'
               go_simp
               with_reducible rfl
              rotate_left
              ·exact zp3_
              refine pure_ (i := 27) (N := some 57) (v := ?_) (a' := ?_) #[true, true, true, true, true, true, true, true, true, true, true, true, true, true, true, true, true, true, true, true, true, false, false, true, false, false, false, true, false, false, false, false, false, false, false, false, false, false, false, false, false, false, false, false, false, false, false, false, false, false, false, false, false, false, false, false, false, false, false, false, false, false, false, false, false, false, false, false, false, false, false, false, false, false, false, false, false, false, false, false, false, false, false, false, false, false, false, false, false, false, false, false, false, false, false, false, false, false, false, false, false, false, false, false, false, false, false, false] rfl rfl (any_of HT_.out (by kernel_rfl)) (fun _ _ _ h => h) (Or.inl ⟨by rfl, ?_⟩) ?_ ?_
              rotate_left
              ·intro w'
               go_simp
               with_reducible rfl
              rotate_left
              ·exact zp3_
              refine take_ (i := 21) (N := some 51) (v := ?_) (a' := ?_) #[true, true, true, true, true, true, true, true, true, true, true, true, true, true, true, true, true, true, true, true, true, true, false, true, false, false, false, true, false, false, false, false, false, false, false, false, false, false, false, false, false, false, false, false, false, false, false, false, false, false, false, false, false, false, false, false, false, false, false, false, false, false, false, false, false, false, false, false, false, false, false, false, false, false, false, false, false, false, false, false, false, false, false, false, false, false, false, false, false, false, false, false, false, false, false, false, false, false, false, false, false, false, false, false, false, false, false, false] rfl rfl (take_ofW HT_.out HW_.out (by kernel_rfl)) (fun _ _ _ h => h) (Or.inl ⟨by rfl, ?_⟩) hHeld ?_ ?_
              rotate_left
              ·rintro w' ⟨s0, s1, s2, s3, s4, s5⟩
               go_simp
               with_reducible rfl
              rotate_left
              ·exact zp3_
              refine take_ (i := 22) (N := some 52) (v := ?_) (a' := ?_) #[true, true, true, true, true, true, true, true, true, true, true, true, true, true, true, true, true, true, true, true, true, true, true, true, false, false, false, true, false, false, false, false, false, false, false, false, false, false, false, false, false, false, false, false, false, false, false, false, false, false, false, false, false, false, false, false, false, false, false, false, false, false, false, false, false, false, false, false, false, false, false, false, false, false, false, false, false, false, false, false, false, false, false, false, false, false, false, false, false, false, false, false, false, false, false, false, false, false, false, false, false, false, false, false, false, false, false, false] rfl rfl (take_ofW HT_.out HW_.out (by kernel_rfl)) (fun _ _ _ h => h) (Or.inl ⟨by rfl, ?_⟩) hHeld ?_ ?_
              rotate_left
              ·rintro w' ⟨s0, s1, s2, s3, s4, s5⟩
               go_simp
               with_reducible rfl
              rotate_left
              ·exact zp3_
              refine take_ (i := 25) (N := some 55) (v := ?_) (a' := ?_) #[true, true, true, true, true, true, true, true, true, true, true, true, true, true, true, true, true, true, true, true, true, true, true, true, false, true, false, true, false, false, false, false, false, false, false, false, false, false, false, false, false, false, false, false, false, false, false, false, false, false, false, false, false, false, false, false, false, false, false, false, false, false, false, false, false, false, false, false, false, false, false, false, false, false, false, false, false, false, false, false, false, false, false, false, false, false, false, false, false, false, false, false, false, false, false, false, false, false, false, false, false, false, false, false, false, false, false, false] rfl rfl (take_ofW HT_.out HW_.out (by kernel_rfl)) (fun _ _ _ h => h) (Or.inl ⟨by rfl, ?_⟩) hHeld ?_ ?_
              rotate_left
              ·rintro w' ⟨s0, s1, s2, s3, s4, s5⟩
               go_simp
               with_reducible rfl
              rotate_left
              ·exact zp3_
              refine take_ (i := 26) (N := some 56) (v := ?_) (a' := ?_) #[true, true, true, true, true, true, true, true, true, true, true, true, true, true, true, true, true, true, true, true, true, true, true, true, false, true, true, true, false, false, false, false, false, false, false, false, false, false, false, false, false, false, false, false, false, false, false, false, false, false, false, false, false, false, false, false, false, false, false, false, false, false, false, false, false, false, false, false, false, false, false, false, false, false, false, false, false, false, false, false, false, false, false, false, false, false, false, false, false, false, false, false, false, false, false, false, false, false, false, false, false, false, false, false, false, false, false, false] rfl rfl (take_ofW HT_.out HW_.out (by kernel_rfl)) (fun _ _ _ h => h) (Or.inl ⟨by rfl, ?_⟩) hHeld ?_ ?_
              rotate_left
              ·rintro w' ⟨s0, s1, s2, s3, s4, s5⟩
               go_simp
               with_reducible rfl
              rotate_left
              ·exact zp3_
              refine one_ (i := 24) (N := some 54) #[true, true, true, true, true, true, true, true, true, true, true, true, true, true, true, true, true, true, true, true, true, true, true, true, true, true, true, true, false, false, false, false, false, false, false, false, false, false, false, false, false, false, false, false, false, false, false, false, false, false, false, false, false, false, false, false, false, false, false, false, false, false, false, false, false, false, false, false, false, false, false, false, false, false, false, false, false, false, false, false, false, false, false, false, false, false, false, false, false, false, false, false, false, false, false, false, false, false, false, false, false, false, false, false, false, false, false, false] rfl rfl (one_of HT_.out (by kernel_rfl)) (by decide) (fun K hK => ?_)
              refine goes_ Tryd.func13 (by kernel_rfl) rfl #[.agg #[.int .i64 t157, .int .u64 t158], .agg #[.int .i64 t159, .int .u64 t160], .int .i64 x13_8] (by rfl) rfl rfl zb3_1 ?_
              with_reducible refine (low_Mul.calls kj8 t157 t158 t159 t160 x13_8 t176 t177 _ A23.out).mono ?_
              rintro e w73 ⟨rfl, hb⟩
              refine ⟨_, rfl, ?_⟩
              have n0_ := Aside0.mk (blk_below (g := gb161) (o := .cells #[.int .i64 t157, .int .u64 t158] 25 (0, 0)) (by exact zl3_ BK161.out) hb)
              have n1_ := Aside0.mk (blk_below (g := gb162) (o := .cells #[.int .i64 t159, .int .u64 t160] 25 (0, 0)) (by exact zl3_ BK162.out) hb)
              have n2_ := Aside0.mk (blk_below (g := gb165) (o := .cells #[.int .i64 t163, .int .u64 t164] 25 (0, 0)) (by exact zl3_ BK165.out) hb)
              have n3_ := Aside0.mk (below_step zb3_0 hb)
              clear BK161
              clear BK162
              clear BK165
              clear HB
              have BK161 := n0_
              have BK162 := n1_
              have BK165 := n2_
              have HB := n3_
              clear n0_ n1_ n2_ n3_
              (try clear hb)
              (try clear hb2)
              (try clear hk)
              (try clear hi)
              refine hK.out _ _ ⟨(blk_cell BK161.out 0).trans rfl, (blk_cell BK161.out 1).trans rfl, (blk_cell BK162.out 0).trans rfl, (blk_cell BK162.out 1).trans rfl, (blk_cell BK165.out 0).trans rfl, (blk_cell BK165.out 1).trans rfl⟩ (fun hHeld => ?_)
              clear hK K
              refine norm_ (a' := ?_) ?_ ?_
              rotate_left
              ·show Act.put _ (some 54) _ = _
               simp only [Act.put, List.setIfInBounds_toArray, List.set_cons_zero, List.set_cons_succ, i64_w, i32_w]
               rfl
              refine one_ (i := 28) (N := some 58) #[true, true, true, true, true, true, true, true, true, true, true, true, true, true, true, true, true, true, true, true, true, true, true, true, true, true, true, true, true, false, false, false, false, false, false, false, false, false, false, false, false, false, false, false, false, false, false, false, false, false, false, false, false, false, false, false, false, false, false, false, false, false, false, false, false, false, false, false, false, false, false, false, false, false, false, false, false, false, false, false, false, false, false, false, false, false, false, false, false, false, false, false, false, false, false, false, false, false, false, false, false, false, false, false, false, false, false, false] rfl rfl (one_of HT_.out (by kernel_rfl)) (by decide) (fun K hK => ?_)
              refine goes_ Tryd.func13 (by kernel_rfl) rfl #[.agg #[.int .i64 t163, .int .u64 t164], .agg #[.int .i64 t159, .int .u64 t160], .int .i64 x13_8] (by rfl) rfl rfl zb3_1 ?_
              with_reducible refine (low_Mul.calls kj8 t163 t164 t159 t160 x13_8 t178 t179 _ A24.out).mono ?_
              rintro e w74 ⟨rfl, hb⟩
              refine ⟨_, rfl, ?_⟩
              have n0_ := Aside0.mk (blk_below (g := gb161) (o := .cells #[.int .i64 t157, .int .u64 t158] 25 (0, 0)) (by exact zl3_ BK161.out) hb)
              have n1_ := Aside0.mk (blk_below (g := gb162) (o := .cells #[.int .i64 t159, .int .u64 t160] 25 (0, 0)) (by exact zl3_ BK162.out) hb)
              have n2_ := Aside0.mk (blk_below (g := gb165) (o := .cells #[.int .i64 t163, .int .u64 t164] 25 (0, 0)) (by exact zl3_ BK165.out) hb)
              have n3_ := Aside0.mk (below_step zb3_0 hb)
              clear BK161
              clear BK162
              clear BK165
              clear HB
              have BK161 := n0_
              have BK162 := n1_
              have BK165 := n2_
              have HB := n3_
              clear n0_ n1_ n2_ n3_
              (try clear hb)
              (try clear hb2)
              (try clear hk)
              (try clear hi)
              refine hK.out _ _ ⟨(blk_cell BK161.out 0).trans rfl, (blk_cell BK161.out 1).trans rfl, (blk_cell BK162.out 0).trans rfl, (blk_cell BK162.out 1).trans rfl, (blk_cell BK165.out 0).trans rfl, (blk_cell BK165.out 1).trans rfl⟩ (fun hHeld => ?_)
              clear hK K
              refine norm_ (a' := ?_) ?_ ?_
              rotate_left
              ·show Act.put _ (some 58) _ = _
               simp only [Act.put, List.setIfInBounds_toArray, List.set_cons_zero, List.set_cons_succ, i64_w, i32_w]
               rfl
              refine one_ (i := 29) (N := some 59) #[true, true, true, true, true, true, true, true, true, true, true, true, true, true, true, true, true, true, true, true, true, true, true, true, true, true, true, true, true, true, false, false, false, false, false, false, false, false, false, false, false, false, false, false, false, false, false, false, false, false, false, false, false, false, false, false, false, false, false, false, false, false, false, false, false, false, false, false, false, false, false, false, false, false, false, false, false, false, false, false, false, false, false, false, false, false, false, false, false, false, false, false, false, false, false, false, false, false, false, false, false, false, false, false, false, false, false, false] rfl rfl (one_of HT_.out (by kernel_rfl)) (by decide) (fun K hK => ?_)
              refine goes_ Tryd.func10 (by kernel_rfl) rfl #[.agg #[.int .i64 t176, .int .u64 t177], .agg #[.int .i64 t178, .int .u64 t179]] (by rfl) rfl rfl zb3_1 ?_
              with_reducible refine (low_Within.calls t176 t177 t178 t179 true _ A25.out).mono ?_
              rintro e w75 ⟨rfl, hb⟩
              refine ⟨_, rfl, ?_⟩
              have n0_ := Aside0.mk (blk_below (g := gb161) (o := .cells #[.int .i64 t157, .int .u64 t158] 25 (0, 0)) (by exact zl3_ BK161.out) hb)
              have n1_ := Aside0.mk (blk_below (g := gb162) (o := .cells #[.int .i64 t159, .int .u64 t160] 25 (0, 0)) (by exact zl3_ BK162.out) hb)
              have n2_ := Aside0.mk (blk_below (g := gb165) (o := .cells #[.int .i64 t163, .int .u64 t164] 25 (0, 0)) (by exact zl3_ BK165.out) hb)
              have n3_ := Aside0.mk (below_step zb3_0 hb)
              clear BK161
              clear BK162
              clear BK165
              clear HB
              have BK161 := n0_
              have BK162 := n1_
              have BK165 := n2_
              have HB := n3_
              clear n0_ n1_ n2_ n3_
              (try clear hb)
              (try clear hb2)
              (try clear hk)
              (try clear hi)
              refine hK.out _ _ ⟨(blk_cell BK161.out 0).trans rfl, (blk_cell BK161.out 1).trans rfl, (blk_cell BK162.out 0).trans rfl, (blk_cell BK162.out 1).trans rfl, (blk_cell BK165.out 0).trans rfl, (blk_cell BK165.out 1).trans rfl⟩ (fun hHeld => ?_)
              clear hK K
              refine norm_ (a' := ?_) ?_ ?_
              rotate_left
              ·show Act.put _ (some 59) _ = _
               simp only [Act.put, List.setIfInBounds_toArray, List.set_cons_zero, List.set_cons_succ, i64_w, i32_w]
               rfl
              refine pure_ (i := 30) (N := some 60) (v := ?_) (a' := ?_) #[true, true, true, true, true, true, true, true, true, true, true, true, true, true, true, true, true, true, true, true, true, true, true, true, true, true, true, true, true, true, true, false, false, false, false, false, false, false, false, false, false, false, false, false, false, false, false, false, false, false, false, false, false, false, false, false, false, false, false, false, false, false, false, false, false, false, false, false, false, false, false, false, false, false, false, false, false, false, false, false, false, false, false, false, false, false, false, false, false, false, false, false, false, false, false, false, false, false, false, false, false, false, false, false, false, false, false, false] rfl rfl (any_of HT_.out (by kernel_rfl)) (fun _ _ _ h => h) (Or.inl ⟨by rfl, ?_⟩) ?_ ?_
              rotate_left
              ·intro w'
               go_simp
               with_reducible rfl
              rotate_left
              ·exact zp3_
              refine pure_ (i := 31) (N := some 61) (v := ?_) (a' := ?_) #[true, true, true, true, true, true, true, true, true, true, true, true, true, true, true, true, true, true, true, true, true, true, true, true, true, true, true, true, true, true, true, true, false, false, false, false, false, false, false, false, false, false, false, false, false, false, false, false, false, false, false, false, false, false, false, false, false, false, false, false, false, false, false, false, false, false, false, false, false, false, false, false, false, false, false, false, false, false, false, false, false, false, false, false, false, false, false, false, false, false, false, false, false, false, false, false, false, false, false, false, false, false, false, false, false, false, false, false] rfl rfl (any_of HT_.out (by kernel_rfl)) (fun _ _ _ h => h) (Or.inl ⟨by rfl, ?_⟩) ?_ ?_
              rotate_left
              ·intro w'
               go_simp
               with_reducible rfl
              rotate_left
              ·exact zp3_
              refine take_ (i := 32) (N := some 62) (v := ?_) (a' := ?_) #[true, true, true, true, true, true, true, true, true, true, true, true, true, true, true, true, true, true, true, true, true, true, true, true, true, true, true, true, true, true, true, true, true, false, false, false, false, false, false, false, false, false, false, false, false, false, false, false, false, false, false, false, false, false, false, false, false, false, false, false, false, false, false, false, false, false, false, false, false, false, false, false, false, false, false, false, false, false, false, false, false, false, false, false, false, false, false, false, false, false, false, false, false, false, false, false, false, false, false, false, false, false, false, false, false, false, false, false] rfl rfl (take_ofW HT_.out HW_.out (by kernel_rfl)) (fun _ _ _ h => h) (Or.inl ⟨by rfl, ?_⟩) hHeld ?_ ?_
              rotate_left
              ·rintro w' ⟨s0, s1, s2, s3, s4, s5⟩
               go_simp
               with_reducible rfl
              rotate_left
              ·exact zp3_
              refine take_ (i := 33) (N := some 63) (v := ?_) (a' := ?_) #[true, true, true, true, true, true, true, true, true, true, true, true, true, true, true, true, true, true, true, true, true, true, true, true, true, true, true, true, true, true, true, true, true, true, false, false, false, false, false, false, false, false, false, false, false, false, false, false, false, false, false, false, false, false, false, false, false, false, false, false, false, false, false, false, false, false, false, false, false, false, false, false, false, false, false, false, false, false, false, false, false, false, false, false, false, false, false, false, false, false, false, false, false, false, false, false, false, false, false, false, false, false, false, false, false, false, false, false] rfl rfl (take_ofW HT_.out HW_.out (by kernel_rfl)) (fun _ _ _ h => h) (Or.inl ⟨by rfl, ?_⟩) hHeld ?_ ?_
              rotate_left
              ·rintro w' ⟨s0, s1, s2, s3, s4, s5⟩
               go_simp
               with_reducible rfl
              rotate_left
              ·exact zp3_
              refine take_ (i := 35) (N := some 65) (v := ?_) (a' := ?_) #[true, true, true, true, true, true, true, true, true, true, true, true, true, true, true, true, true, true, true, true, true, true, true, true, true, true, true, true, true, true, true, true, true, true, false, true, false, false, false, false, false, false, false, false, false, false, false, false, false, false, false, false, false, false, false, false, false, false, false, false, false, false, false, false, false, false, false, false, false, false, false, false, false, false, false, false, false, false, false, false, false, false, false, false, false, false, false, false, false, false, false, false, false, false, false, false, false, false, false, false, false, false, false, false, false, false, false, false] rfl rfl (take_ofW HT_.out HW_.out (by kernel_rfl)) (fun _ _ _ h => h) (Or.inl ⟨by rfl, ?_⟩) hHeld ?_ ?_
              rotate_left
              ·rintro w' ⟨s0, s1, s2, s3, s4, s5⟩
               go_simp
               with_reducible rfl
              rotate_left
              ·exact zp3_
              refine take_ (i := 36) (N := some 66) (v := ?_) (a' := ?_) #[true, true, true, true, true, true, true, true, true, true, true, true, true, true, true, true, true, true, true, true, true, true, true, true, true, true, true, true, true, true, true, true, true, true, false, true, true, false, false, false, false, false, false, false, false, false, false, false, false, false, false, false, false, false, false, false, false, false, false, false, false, false, false, false, false, false, false, false, false, false, false, false, false, false, false, false, false, false, false, false, false, false, false, false, false, false, false, false, false, false, false, false, false, false, false, false, false, false, false, false, false, false, false, false, false, false, false, false] rfl rfl (take_ofW HT_.out HW_.out (by kernel_rfl)) (fun _ _ _ h => h) (Or.inl ⟨by rfl, ?_⟩) hHeld ?_ ?_
              rotate_left
              ·rintro w' ⟨s0, s1, s2, s3, s4, s5⟩
               go_simp
               with_reducible rfl
              rotate_left
              ·exact zp3_
              refine one_ (i := 34) (N := some 64) #[true, true, true, true, true, true, true, true, true, true, true, true, true, true, true, true, true, true, true, true, true, true, true, true, true, true, true, true, true, true, true, true, true, true, true, true, true, false, false, false, false, false, false, false, false, false, false, false, false, false, false, false, false, false, false, false, false, false, false, false, false, false, false, false, false, false, false, false, false, false, false, false, false, false, false, false, false, false, false, false, false, false, false, false, false, false, false, false, false, false, false, false, false, false, false, false, false, false, false, false, false, false, false, false, false, false, false, false] rfl rfl (one_of HT_.out (by kernel_rfl)) (by decide) (fun K hK => ?_)
              refine goes_ Tryd.func14 (by kernel_rfl) rfl #[.agg #[.int .i64 t157, .int .u64 t158], .agg #[.int .i64 t159, .int .u64 t160]] (by rfl) rfl rfl zb3_1 ?_
              with_reducible refine (low_And.calls t157 t158 t159 t160 t181 t182 _ ?side1 A27.out).mono ?_
              (case side1 => exact tabs_below HT.out zb3_0)
              rintro e w76 ⟨rfl, hb⟩
              refine ⟨_, rfl, ?_⟩
              have n0_ := Aside0.mk (blk_below (g := gb161) (o := .cells #[.int .i64 t157, .int .u64 t158] 25 (0, 0)) (by exact zl3_ BK161.out) hb)
              have n1_ := Aside0.mk (blk_below (g := gb162) (o := .cells #[.int .i64 t159, .int .u64 t160] 25 (0, 0)) (by exact zl3_ BK162.out) hb)
              have n2_ := Aside0.mk (blk_below (g := gb165) (o := .cells #[.int .i64 t163, .int .u64 t164] 25 (0, 0)) (by exact zl3_ BK165.out) hb)
              have n3_ := Aside0.mk (below_step zb3_0 hb)
              clear BK161
              clear BK162
              clear BK165
              clear HB
              have BK161 := n0_
              have BK162 := n1_
              have BK165 := n2_
              have HB := n3_
              clear n0_ n1_ n2_ n3_
              (try clear hb)
              (try clear hb2)
              (try clear hk)
              (try clear hi)
              refine hK.out _ _ ⟨(blk_cell BK161.out 0).trans rfl, (blk_cell BK161.out 1).trans rfl, (blk_cell BK162.out 0).trans rfl, (blk_cell BK162.out 1).trans rfl, (blk_cell BK165.out 0).trans rfl, (blk_cell BK165.out 1).trans rfl⟩ (fun hHeld => ?_)
              clear hK K
              refine norm_ (a' := ?_) ?_ ?_
              rotate_left
              ·show Act.put _ (some 64) _ = _
               simp only [Act.put, List.setIfInBounds_toArray, List.set_cons_zero, List.set_cons_succ, i64_w, i32_w]
               rfl
              refine one_ (i := 37) (N := some 67) #[true, true, true, true, true, true, true, true, true, true, true, true, true, true, true, true, true, true, true, true, true, true, true, true, true, true, true, true, true, true, true, true, true, true, true, true, true, true, false, false, false, false, false, false, false, false, false, false, false, false, false, false, false, false, false, false, false, false, false, false, false, false, false, false, false, false, false, false, false, false, false, false, false, false, false, false, false, false, false, false, false, false, false, false, false, false, false, false, false, false, false, false, false, false, false, false, false, false, false, false, false, false, false, false, false, false, false, false] rfl rfl (one_of HT_.out (by kernel_rfl)) (by decide) (fun K hK => ?_)
              refine goes_ Tryd.func14 (by kernel_rfl) rfl #[.agg #[.int .i64 t163, .int .u64 t164], .agg #[.int .i64 t159, .int .u64 t160]] (by rfl) rfl rfl zb3_1 ?_
              with_reducible refine (low_And.calls t163 t164 t159 t160 t183 t184 _ ?side1 A28.out).mono ?_
              (case side1 => exact tabs_below HT.out zb3_0)
              rintro e w77 ⟨rfl, hb⟩
              refine ⟨_, rfl, ?_⟩
              have n0_ := Aside0.mk (blk_below (g := gb161) (o := .cells #[.int .i64 t157, .int .u64 t158] 25 (0, 0)) (by exact zl3_ BK161.out) hb)
              have n1_ := Aside0.mk (blk_below (g := gb162) (o := .cells #[.int .i64 t159, .int .u64 t160] 25 (0, 0)) (by exact zl3_ BK162.out) hb)
              have n2_ := Aside0.mk (blk_below (g := gb165) (o := .cells #[.int .i64 t163, .int .u64 t164] 25 (0, 0)) (by exact zl3_ BK165.out) hb)
              have n3_ := Aside0.mk (below_step zb3_0 hb)
              clear BK161
              clear BK162
              clear BK165
              clear HB
              have BK161 := n0_
              have BK162 := n1_
              have BK165 := n2_
              have HB := n3_
              clear n0_ n1_ n2_ n3_
              (try clear hb)
              (try clear hb2)
              (try clear hk)
              (try clear hi)
              refine hK.out _ _ ⟨(blk_cell BK161.out 0).trans rfl, (blk_cell BK161.out 1).trans rfl, (blk_cell BK162.out 0).trans rfl, (blk_cell BK162.out 1).trans rfl, (blk_cell BK165.out 0).trans rfl, (blk_cell BK165.out 1).trans rfl⟩ (fun hHeld => ?_)
              clear hK K
              refine norm_ (a' := ?_) ?_ ?_
              rotate_left
              ·show Act.put _ (some 67) _ = _
               simp only [Act.put, List.setIfInBounds_toArray, List.set_cons_zero, List.set_cons_succ, i64_w, i32_w]
               rfl
              refine one_ (i := 38) (N := some 68) #[true, true, true, true, true, true, true, true, true, true, true, true, true, true, true, true, true, true, true, true, true, true, true, true, true, true, true, true, true, true, true, true, true, true, true, true, true, true, true, false, false, false, false, false, false, false, false, false, false, false, false, false, false, false, false, false, false, false, false, false, false, false, false, false, false, false, false, false, false, false, false, false, false, false, false, false, false, false, false, false, false, false, false, false, false, false, false, false, false, false, false, false, false, false, false, false, false, false, false, false, false, false, false, false, false, false, false, false] rfl rfl (one_of HT_.out (by kernel_rfl)) (by decide) (fun K hK => ?_)
              refine goes_ Tryd.func10 (by kernel_rfl) rfl #[.agg #[.int .i64 t181, .int .u64 t182], .agg #[.int .i64 t183, .int .u64 t184]] (by rfl) rfl rfl zb3_1 ?_
              with_reducible refine (low_Within.calls t181 t182 t183 t184 true _ A29.out).mono ?_
              rintro e w78 ⟨rfl, hb⟩
              refine ⟨_, rfl, ?_⟩
              have n0_ := Aside0.mk (blk_below (g := gb161) (o := .cells #[.int .i64 t157, .int .u64 t158] 25 (0, 0)) (by exact zl3_ BK161.out) hb)
              have n1_ := Aside0.mk (blk_below (g := gb162) (o := .cells #[.int .i64 t159, .int .u64 t160] 25 (0, 0)) (by exact zl3_ BK162.out) hb)
              have n2_ := Aside0.mk (blk_below (g := gb165) (o := .cells #[.int .i64 t163, .int .u64 t164] 25 (0, 0)) (by exact zl3_ BK165.out) hb)
              have n3_ := Aside0.mk (below_step zb3_0 hb)
              clear BK161
              clear BK162
              clear BK165
              clear HB
              have BK161 := n0_
              have BK162 := n1_
              have BK165 := n2_
              have HB := n3_
              clear n0_ n1_ n2_ n3_
              (try clear hb)
              (try clear hb2)
              (try clear hk)
              (try clear hi)
              refine hK.out _ _ ⟨(blk_cell BK161.out 0).trans rfl, (blk_cell BK161.out 1).trans rfl, (blk_cell BK162.out 0).trans rfl, (blk_cell BK162.out 1).trans rfl, (blk_cell BK165.out 0).trans rfl, (blk_cell BK165.out 1).trans rfl⟩ (fun hHeld => ?_)
              clear hK K
              refine norm_ (a' := ?_) ?_ ?_
              rotate_left
              ·show Act.put _ (some 68) _ = _
               simp only [Act.put, List.setIfInBounds_toArray, List.set_cons_zero, List.set_cons_succ, i64_w, i32_w]
               rfl
              refine pure_ (i := 39) (N := some 69) (v := ?_) (a' := ?_) #[true, true, true, true, true, true, true, true, true, true, true, true, true, true, true, true, true, true, true, true, true, true, true, true, true, true, true, true, true, true, true, true, true, true, true, true, true, true, true, true, false, false, false, false, false, false, false, false, false, false, false, false, false, false, false, false, false, false, false, false, false, false, false, false, false, false, false, false, false, false, false, false, false, false, false, false, false, false, false, false, false, false, false, false, false, false, false, false, false, false, false, false, false, false, false, false, false, false, false, false, false, false, false, false, false, false, false, false] rfl rfl (any_of HT_.out (by kernel_rfl)) (fun _ _ _ h => h) (Or.inl ⟨by rfl, ?_⟩) ?_ ?_
              rotate_left
              ·intro w'
               go_simp
               with_reducible rfl
              rotate_left
              ·exact zp3_
              refine pure_ (i := 40) (N := some 70) (v := ?_) (a' := ?_) #[true, true, true, true, true, true, true, true, true, true, true, true, true, true, true, true, true, true, true, true, true, true, true, true, true, true, true, true, true, true, true, true, true, true, true, true, true, true, true, true, true, false, false, false, false, false, false, false, false, false, false, false, false, false, false, false, false, false, false, false, false, false, false, false, false, false, false, false, false, false, false, false, false, false, false, false, false, false, false, false, false, false, false, false, false, false, false, false, false, false, false, false, false, false, false, false, false, false, false, false, false, false, false, false, false, false, false, false] rfl rfl (any_of HT_.out (by kernel_rfl)) (fun _ _ _ h => h) (Or.inl ⟨by rfl, ?_⟩) ?_ ?_
              rotate_left
              ·intro w'
               go_simp
               with_reducible rfl
              rotate_left
              ·exact zp3_
              refine take_ (i := 41) (N := some 71) (v := ?_) (a' := ?_) #[true, true, true, true, true, true, true, true, true, true, true, true, true, true, true, true, true, true, true, true, true, true, true, true, true, true, true, true, true, true, true, true, true, true, true, true, true, true, true, true, true, true, false, false, false, false, false, false, false, false, false, false, false, false, false, false, false, false, false, false, false, false, false, false, false, false, false, false, false, false, false, false, false, false, false, false, false, false, false, false, false, false, false, false, false, false, false, false, false, false, false, false, false, false, false, false, false, false, false, false, false, false, false, false, false, false, false, false] rfl rfl (take_ofW HT_.out HW_.out (by kernel_rfl)) (fun _ _ _ h => h) (Or.inl ⟨by rfl, ?_⟩) hHeld ?_ ?_
              rotate_left
              ·rintro w' ⟨s0, s1, s2, s3, s4, s5⟩
               go_simp
               with_reducible rfl
              rotate_left
              ·exact zp3_
              refine take_ (i := 42) (N := some 72) (v := ?_) (a' := ?_) #[true, true, true, true, true, true, true, true, true, true, true, true, true, true, true, true, true, true, true, true, true, true, true, true, true, true, true, true, true, true, true, true, true, true, true, true, true, true, true, true, true, true, true, false, false, false, false, false, false, false, false, false, false, false, false, false, false, false, false, false, false, false, false, false, false, false, false, false, false, false, false, false, false, false, false, false, false, false, false, false, false, false, false, false, false, false, false, false, false, false, false, false, false, false, false, false, false, false, false, false, false, false, false, false, false, false, false, false] rfl rfl (take_ofW HT_.out HW_.out (by kernel_rfl)) (fun _ _ _ h => h) (Or.inl ⟨by rfl, ?_⟩) hHeld ?_ ?_
              rotate_left
              ·rintro w' ⟨s0, s1, s2, s3, s4, s5⟩
               go_simp
               with_reducible rfl
              rotate_left
              ·exact zp3_
              refine take_ (i := 44) (N := some 74) (v := ?_) (a' := ?_) #[true, true, true, true, true, true, true, true, true, true, true, true, true, true, true, true, true, true, true, true, true, true, true, true, true, true, true, true, true, true, true, true, true, true, true, true, true, true, true, true, true, true, true, false, true, false, false, false, false, false, false, false, false, false, false, false, false, false, false, false, false, false, false, false, false, false, false, false, false, false, false, false, false, false, false, false, false, false, false, false, false, false, false, false, false, false, false, false, false, false, false, false, false, false, false, false, false, false, false, false, false, false, false, false, false, false, false, false] rfl rfl (take_ofW HT_.out HW_.out (by kernel_rfl)) (fun _ _ _ h => h) (Or.inl ⟨by rfl, ?_⟩) hHeld ?_ ?_
              rotate_left
              ·rintro w' ⟨s0, s1, s2, s3, s4, s5⟩
               go_simp
               with_reducible rfl
              rotate_left
              ·exact zp3_
              refine take_ (i := 45) (N := some 75) (v := ?_) (a' := ?_) #[true, true, true, true, true, true, true, true, true, true, true, true, true, true, true, true, true, true, true, true, true, true, true, true, true, true, true, true, true, true, true, true, true, true, true, true, true, true, true, true, true, true, true, false, true, true, false, false, false, false, false, false, false, false, false, false, false, false, false, false, false, false, false, false, false, false, false, false, false, false, false, false, false, false, false, false, false, false, false, false, false, false, false, false, false, false, false, false, false, false, false, false, false, false, false, false, false, false, false, false, false, false, false, false, false, false, false, false] rfl rfl (take_ofW HT_.out HW_.out (by kernel_rfl)) (fun _ _ _ h => h) (Or.inl ⟨by rfl, ?_⟩) hHeld ?_ ?_
              rotate_left
              ·rintro w' ⟨s0, s1, s2, s3, s4, s5⟩
               go_simp
               with_reducible rfl
              rotate_left
              ·exact zp3_
              refine one_ (i := 43) (N := some 73) #[true, true, true, true, true, true, true, true, true, true, true, true, true, true, true, true, true, true, true, true, true, true, true, true, true, true, true, true, true, true, true, true, true, true, true, true, true, true, true, true, true, true, true, true, true, true, false, false, false, false, false, false, false, false, false, false, false, false, false, false, false, false, false, false, false, false, false, false, false, false, false, false, false, false, false, false, false, false, false, false, false, false, false, false, false, false, false, false, false, false, false, false, false, false, false, false, false, false, false, false, false, false, false, false, false, false, false, false] rfl rfl (one_of HT_.out (by kernel_rfl)) (by decide) (fun K hK => ?_)
              refine goes_ Tryd.func15 (by kernel_rfl) rfl #[.agg #[.int .i64 t157, .int .u64 t158], .agg #[.int .i64 t159, .int .u64 t160]] (by rfl) rfl rfl zb3_1 ?_
              with_reducible refine (low_Or.calls t157 t158 t159 t160 t186 t187 _ A31.out).mono ?_
              rintro e w79 ⟨rfl, hb⟩
              refine ⟨_, rfl, ?_⟩
              have n0_ := Aside0.mk (blk_below (g := gb161) (o := .cells #[.int .i64 t157, .int .u64 t158] 25 (0, 0)) (by exact zl3_ BK161.out) hb)
              have n1_ := Aside0.mk (blk_below (g := gb162) (o := .cells #[.int .i64 t159, .int .u64 t160] 25 (0, 0)) (by exact zl3_ BK162.out) hb)
              have n2_ := Aside0.mk (blk_below (g := gb165) (o := .cells #[.int .i64 t163, .int .u64 t164] 25 (0, 0)) (by exact zl3_ BK165.out) hb)
              have n3_ := Aside0.mk (below_step zb3_0 hb)
              clear BK161
              clear BK162
              clear BK165
              clear HB
              have BK161 := n0_
              have BK162 := n1_
              have BK165 := n2_
              have HB := n3_
              clear n0_ n1_ n2_ n3_
              (try clear hb)
              (try clear hb2)
              (try clear hk)
              (try clear hi)
              refine hK.out _ _ ⟨(blk_cell BK161.out 0).trans rfl, (blk_cell BK161.out 1).trans rfl, (blk_cell BK162.out 0).trans rfl, (blk_cell BK162.out 1).trans rfl, (blk_cell BK165.out 0).trans rfl, (blk_cell BK165.out 1).trans rfl⟩ (fun hHeld => ?_)
              clear hK K
              refine norm_ (a' := ?_) ?_ ?_
              rotate_left
              ·show Act.put _ (some 73) _ = _
               simp only [Act.put, List.setIfInBounds_toArray, List.set_cons_zero, List.set_cons_succ, i64_w, i32_w]
               rfl
              refine one_ (i := 46) (N := some 76) #[true, true, true, true, true, true, true, true, true, true, true, true, true, true, true, true, true, true, true, true, true, true, true, true, true, true, true, true, true, true, true, true, true, true, true, true, true, true, true, true, true, true, true, true, true, true, true, false, false, false, false, false, false, false, false, false, false, false, false, false, false, false, false, false, false, false, false, false, false, false, false, false, false, false, false, false, false, false, false, false, false, false, false, false, false, false, false, false, false, false, false, false, false, false, false, false, false, false, false, false, false, false, false, false, false, false, false, false] rfl rfl (one_of HT_.out (by kernel_rfl)) (by decide) (fun K hK => ?_)
              refine goes_ Tryd.func15 (by kernel_rfl) rfl #[.agg #[.int .i64 t163, .int .u64 t164], .agg #[.int .i64 t159, .int .u64 t160]] (by rfl) rfl rfl zb3_1 ?_
              with_reducible refine (low_Or.calls t163 t164 t159 t160 t188 t189 _ A32.out).mono ?_
              rintro e w80 ⟨rfl, hb⟩
              refine ⟨_, rfl, ?_⟩
              have n0_ := Aside0.mk (blk_below (g := gb161) (o := .cells #[.int .i64 t157, .int .u64 t158] 25 (0, 0)) (by exact zl3_ BK161.out) hb)
              have n1_ := Aside0.mk (blk_below (g := gb162) (o := .cells #[.int .i64 t159, .int .u64 t160] 25 (0, 0)) (by exact zl3_ BK162.out) hb)
              have n2_ := Aside0.mk (blk_below (g := gb165) (o := .cells #[.int .i64 t163, .int .u64 t164] 25 (0, 0)) (by exact zl3_ BK165.out) hb)
              have n3_ := Aside0.mk (below_step zb3_0 hb)
              clear BK161
              clear BK162
              clear BK165
              clear HB
              have BK161 := n0_
              have BK162 := n1_
              have BK165 := n2_
              have HB := n3_
              clear n0_ n1_ n2_ n3_
              (try clear hb)
              (try clear hb2)
              (try clear hk)
              (try clear hi)
              refine hK.out _ _ ⟨(blk_cell BK161.out 0).trans rfl, (blk_cell BK161.out 1).trans rfl, (blk_cell BK162.out 0).trans rfl, (blk_cell BK162.out 1).trans rfl, (blk_cell BK165.out 0).trans rfl, (blk_cell BK165.out 1).trans rfl⟩ (fun hHeld => ?_)
              clear hK K
              refine norm_ (a' := ?_) ?_ ?_
              rotate_left
              ·show Act.put _ (some 76) _ = _
               simp only [Act.put, List.setIfInBounds_toArray, List.set_cons_zero, List.set_cons_succ, i64_w, i32_w]
               rfl
              refine one_ (i := 47) (N := some 77) #[true, true, true, true, true, true, true, true, true, true, true, true, true, true, true, true, true, true, true, true, true, true, true, true, true, true, true, true, true, true, true, true, true, true, true, true, true, true, true, true, true, true, true, true, true, true, true, true, false, false, false, false, false, false, false, false, false, false, false, false, false, false, false, false, false, false, false, false, false, false, false, false, false, false, false, false, false, false, false, false, false, false, false, false, false, false, false, false, false, false, false, false, false, false, false, false, false, false, false, false, false, false, false, false, false, false, false, false] rfl rfl (one_of HT_.out (by kernel_rfl)) (by decide) (fun K hK => ?_)
              refine goes_ Tryd.func10 (by kernel_rfl) rfl #[.agg #[.int .i64 t186, .int .u64 t187], .agg #[.int .i64 t188, .int .u64 t189]] (by rfl) rfl rfl zb3_1 ?_
              with_reducible refine (low_Within.calls t186 t187 t188 t189 true _ A33.out).mono ?_
              rintro e w81 ⟨rfl, hb⟩
              refine ⟨_, rfl, ?_⟩
              have n0_ := Aside0.mk (blk_below (g := gb161) (o := .cells #[.int .i64 t157, .int .u64 t158] 25 (0, 0)) (by exact zl3_ BK161.out) hb)
              have n1_ := Aside0.mk (blk_below (g := gb162) (o := .cells #[.int .i64 t159, .int .u64 t160] 25 (0, 0)) (by exact zl3_ BK162.out) hb)
              have n2_ := Aside0.mk (blk_below (g := gb165) (o := .cells #[.int .i64 t163, .int .u64 t164] 25 (0, 0)) (by exact zl3_ BK165.out) hb)
              have n3_ := Aside0.mk (below_step zb3_0 hb)
              clear BK161
              clear BK162
              clear BK165
              clear HB
              have BK161 := n0_
              have BK162 := n1_
              have BK165 := n2_
              have HB := n3_
              clear n0_ n1_ n2_ n3_
              (try clear hb)
              (try clear hb2)
              (try clear hk)
              (try clear hi)
              refine hK.out _ _ ⟨(blk_cell BK161.out 0).trans rfl, (blk_cell BK161.out 1).trans rfl, (blk_cell BK162.out 0).trans rfl, (blk_cell BK162.out 1).trans rfl, (blk_cell BK165.out 0).trans rfl, (blk_cell BK165.out 1).trans rfl⟩ (fun hHeld => ?_)
              clear hK K
              refine norm_ (a' := ?_) ?_ ?_
              rotate_left
              ·show Act.put _ (some 77) _ = _
               simp only [Act.put, List.setIfInBounds_toArray, List.set_cons_zero, List.set_cons_succ, i64_w, i32_w]
               rfl
              refine pure_ (i := 48) (N := some 78) (v := ?_) (a' := ?_) #[true, true, true, true, true, true, true, true, true, true, true, true, true, true, true, true, true, true, true, true, true, true, true, true, true, true, true, true, true, true, true, true, true, true, true, true, true, true, true, true, true, true, true, true, true, true, true, true, true, false, false, false, false, false, false, false, false, false, false, false, false, false, false, false, false, false, false, false, false, false, false, false, false, false, false, false, false, false, false, false, false, false, false, false, false, false, false, false, false, false, false, false, false, false, false, false, false, false, false, false, false, false, false, false, false, false, false, false] rfl rfl (any_of HT_.out (by kernel_rfl)) (fun _ _ _ h => h) (Or.inl ⟨by rfl, ?_⟩) ?_ ?_
              rotate_left
              ·intro w'
               go_simp
               with_reducible rfl
              rotate_left
              ·exact zp3_
              refine pure_ (i := 49) (N := some 79) (v := ?_) (a' := ?_) #[true, true, true, true, true, true, true, true, true, true, true, true, true, true, true, true, true, true, true, true, true, true, true, true, true, true, true, true, true, true, true, true, true, true, true, true, true, true, true, true, true, true, true, true, true, true, true, true, true, true, false, false, false, false, false, false, false, false, false, false, false, false, false, false, false, false, false, false, false, false, false, false, false, false, false, false, false, false, false, false, false, false, false, false, false, false, false, false, false, false, false, false, false, false, false, false, false, false, false, false, false, false, false, false, false, false, false, false] rfl rfl (any_of HT_.out (by kernel_rfl)) (fun _ _ _ h => h) (Or.inl ⟨by rfl, ?_⟩) ?_ ?_
              rotate_left
              ·intro w'
               go_simp
               with_reducible rfl
              rotate_left
              ·exact zp3_
              refine take_ (i := 50) (N := some 80) (v := ?_) (a' := ?_) #[true, true, true, true, true, true, true, true, true, true, true, true, true, true, true, true, true, true, true, true, true, true, true, true, true, true, true, true, true, true, true, true, true, true, true, true, true, true, true, true, true, true, true, true, true, true, true, true, true, true, true, false, false, false, false, false, false, false, false, false, false, false, false, false, false, false, false, false, false, false, false, false, false, false, false, false, false, false, false, false, false, false, false, false, false, false, false, false, false, false, false, false, false, false, false, false, false, false, false, false, false, false, false, false, false, false, false, false] rfl rfl (take_ofW HT_.out HW_.out (by kernel_rfl)) (fun _ _ _ h => h) (Or.inl ⟨by rfl, ?_⟩) hHeld ?_ ?_
              rotate_left
              ·rintro w' ⟨s0, s1, s2, s3, s4, s5⟩
               go_simp
               with_reducible rfl
              rotate_left
              ·exact zp3_
              refine take_ (i := 51) (N := some 81) (v := ?_) (a' := ?_) #[true, true, true, true, true, true, true, true, true, true, true, true, true, true, true, true, true, true, true, true, true, true, true, true, true, true, true, true, true, true, true, true, true, true, true, true, true, true, true, true, true, true, true, true, true, true, true, true, true, true, true, true, false, false, false, false, false, false, false, false, false, false, false, false, false, false, false, false, false, false, false, false, false, false, false, false, false, false, false, false, false, false, false, false, false, false, false, false, false, false, false, false, false, false, false, false, false, false, false, false, false, false, false, false, false, false, false, false] rfl rfl (take_ofW HT_.out HW_.out (by kernel_rfl)) (fun _ _ _ h => h) (Or.inl ⟨by rfl, ?_⟩) hHeld ?_ ?_
              rotate_left
              ·rintro w' ⟨s0, s1, s2, s3, s4, s5⟩
               go_simp
               with_reducible rfl
              rotate_left
              ·exact zp3_
              refine take_ (i := 53) (N := some 83) (v := ?_) (a' := ?_) #[true, true, true, true, true, true, true, true, true, true, true, true, true, true, true, true, true, true, true, true, true, true, true, true, true, true, true, true, true, true, true, true, true, true, true, true, true, true, true, true, true, true, true, true, true, true, true, true, true, true, true, true, false, true, false, false, false, false, false, false, false, false, false, false, false, false, false, false, false, false, false, false, false, false, false, false, false, false, false, false, false, false, false, false, false, false, false, false, false, false, false, false, false, false, false, false, false, false, false, false, false, false, false, false, false, false, false, false] rfl rfl (take_ofW HT_.out HW_.out (by kernel_rfl)) (fun _ _ _ h => h) (Or.inl ⟨by rfl, ?_⟩) hHeld ?_ ?_
              rotate_left
              ·rintro w' ⟨s0, s1, s2, s3, s4, s5⟩
               go_simp
               with_reducible rfl
              rotate_left
              ·exact zp3_
              refine take_ (i := 54) (N := some 84) (v := ?_) (a' := ?_) #[true, true, true, true, true, true, true, true, true, true, true, true, true, true, true, true, true, true, true, true, true, true, true, true, true, true, true, true, true, true, true, true, true, true, true, true, true, true, true, true, true, true, true, true, true, true, true, true, true, true, true, true, false, true, true, false, false, false, false, false, false, false, false, false, false, false, false, false, false, false, false, false, false, false, false, false, false, false, false, false, false, false, false, false, false, false, false, false, false, false, false, false, false, false, false, false, false, false, false, false, false, false, false, false, false, false, false, false] rfl rfl (take_ofW HT_.out HW_.out (by kernel_rfl)) (fun _ _ _ h => h) (Or.inl ⟨by rfl, ?_⟩) hHeld ?_ ?_
              rotate_left
              ·rintro w' ⟨s0, s1, s2, s3, s4, s5⟩
               go_simp
               with_reducible rfl
              rotate_left
              ·exact zp3_
              refine one_ (i := 52) (N := some 82) #[true, true, true, true, true, true, true, true, true, true, true, true, true, true, true, true, true, true, true, true, true, true, true, true, true, true, true, true, true, true, true, true, true, true, true, true, true, true, true, true, true, true, true, true, true, true, true, true, true, true, true, true, true, true, true, false, false, false, false, false, false, false, false, false, false, false, false, false, false, false, false, false, false, false, false, false, false, false, false, false, false, false, false, false, false, false, false, false, false, false, false, false, false, false, false, false, false, false, false, false, false, false, false, false, false, false, false, false] rfl rfl (one_of HT_.out (by kernel_rfl)) (by decide) (fun K hK => ?_)
              refine goes_ Tryd.func16 (by kernel_rfl) rfl #[.agg #[.int .i64 t157, .int .u64 t158], .agg #[.int .i64 t159, .int .u64 t160]] (by rfl) rfl rfl zb3_1 ?_
              with_reducible refine (low_Xor.calls t157 t158 t159 t160 t191 t192 _ A35.out).mono ?_
              rintro e w82 ⟨rfl, hb⟩
              refine ⟨_, rfl, ?_⟩
              have n0_ := Aside0.mk (blk_below (g := gb161) (o := .cells #[.int .i64 t157, .int .u64 t158] 25 (0, 0)) (by exact zl3_ BK161.out) hb)
              have n1_ := Aside0.mk (blk_below (g := gb162) (o := .cells #[.int .i64 t159, .int .u64 t160] 25 (0, 0)) (by exact zl3_ BK162.out) hb)
              have n2_ := Aside0.mk (blk_below (g := gb165) (o := .cells #[.int .i64 t163, .int .u64 t164] 25 (0, 0)) (by exact zl3_ BK165.out) hb)
              have n3_ := Aside0.mk (below_step zb3_0 hb)
              clear BK161
              clear BK162
              clear BK165
              clear HB
              have BK161 := n0_
              have BK162 := n1_
              have BK165 := n2_
              have HB := n3_
              clear n0_ n1_ n2_ n3_
              (try clear hb)
              (try clear hb2)
              (try clear hk)
              (try clear hi)
              refine hK.out _ _ ⟨(blk_cell BK161.out 0).trans rfl, (blk_cell BK161.out 1).trans rfl, (blk_cell BK162.out 0).trans rfl, (blk_cell BK162.out 1).trans rfl, (blk_cell BK165.out 0).trans rfl, (blk_cell BK165.out 1).trans rfl⟩ (fun hHeld => ?_)
              clear hK K
              refine norm_ (a' := ?_) ?_ ?_
              rotate_left
              ·show Act.put _ (some 82) _ = _
               simp only [Act.put, List.setIfInBounds_toArray, List.set_cons_zero, List.set_cons_succ, i64_w, i32_w]
               rfl
              refine one_ (i := 55) (N := some 85) #[true, true, true, true, true, true, true, true, true, true, true, true, true, true, true, true, true, true, true, true, true, true, true, true, true, true, true, true, true, true, true, true, true, true, true, true, true, true, true, true, true, true, true, true, true, true, true, true, true, true, true, true, true, true, true, true, false, false, false, false, false, false, false, false, false, false, false, false, false, false, false, false, false, false, false, false, false, false, false, false, false, false, false, false, false, false, false, false, false, false, false, false, false, false, false, false, false, false, false, false, false, false, false, false, false, false, false, false] rfl rfl (one_of HT_.out (by kernel_rfl)) (by decide) (fun K hK => ?_)
              refine goes_ Tryd.func16 (by kernel_rfl) rfl #[.agg #[.int .i64 t163, .int .u64 t164], .agg #[.int .i64 t159, .int .u64 t160]] (by rfl) rfl rfl zb3_1 ?_
              with_reducible refine (low_Xor.calls t163 t164 t159 t160 t193 t194 _ A36.out).mono ?_
              rintro e w83 ⟨rfl, hb⟩
              refine ⟨_, rfl, ?_⟩
              have n0_ := Aside0.mk (blk_below (g := gb161) (o := .cells #[.int .i64 t157, .int .u64 t158] 25 (0, 0)) (by exact zl3_ BK161.out) hb)
              have n1_ := Aside0.mk (blk_below (g := gb162) (o := .cells #[.int .i64 t159, .int .u64 t160] 25 (0, 0)) (by exact zl3_ BK162.out) hb)
              have n2_ := Aside0.mk (blk_below (g := gb165) (o := .cells #[.int .i64 t163, .int .u64 t164] 25 (0, 0)) (by exact zl3_ BK165.out) hb)
              have n3_ := Aside0.mk (below_step zb3_0 hb)
              clear BK161
              clear BK162
              clear BK165
              clear HB
              have BK161 := n0_
              have BK162 := n1_
              have BK165 := n2_
              have HB := n3_
              clear n0_ n1_ n2_ n3_
              (try clear hb)
              (try clear hb2)
              (try clear hk)
              (try clear hi)
              refine hK.out _ _ ⟨(blk_cell BK161.out 0).trans rfl, (blk_cell BK161.out 1).trans rfl, (blk_cell BK162.out 0).trans rfl, (blk_cell BK162.out 1).trans rfl, (blk_cell BK165.out 0).trans rfl, (blk_cell BK165.out 1).trans rfl⟩ (fun hHeld => ?_)
              clear hK K
              refine norm_ (a' := ?_) ?_ ?_
              rotate_left
              ·show Act.put _ (some 85) _ = _
               simp only [Act.put, List.setIfInBounds_toArray, List.set_cons_zero, List.set_cons_succ, i64_w, i32_w]
               rfl
              refine one_ (i := 56) (N := some 86) #[true, true, true, true, true, true, true, true, true, true, true, true, true, true, true, true, true, true, true, true, true, true, true, true, true, true, true, true, true, true, true, true, true, true, true, true, true, true, true, true, true, true, true, true, true, true, true, true, true, true, true, true, true, true, true, true, true, false, false, false, false, false, false, false, false, false, false, false, false, false, false, false, false, false, false, false, false, false, false, false, false, false, false, false, false, false, false, false, false, false, false, false, false, false, false, false, false, false, false, false, false, false, false, false, false, false, false, false] rfl rfl (one_of HT_.out (by kernel_rfl)) (by decide) (fun K hK => ?_)
              refine goes_ Tryd.func10 (by kernel_rfl) rfl #[.agg #[.int .i64 t191, .int .u64 t192], .agg #[.int .i64 t193, .int .u64 t194]] (by rfl) rfl rfl zb3_1 ?_
              with_reducible refine (low_Within.calls t191 t192 t193 t194 true _ A37.out).mono ?_
              rintro e w84 ⟨rfl, hb⟩
              refine ⟨_, rfl, ?_⟩
              have n0_ := Aside0.mk (blk_below (g := gb161) (o := .cells #[.int .i64 t157, .int .u64 t158] 25 (0, 0)) (by exact zl3_ BK161.out) hb)
              have n1_ := Aside0.mk (blk_below (g := gb162) (o := .cells #[.int .i64 t159, .int .u64 t160] 25 (0, 0)) (by exact zl3_ BK162.out) hb)
              have n2_ := Aside0.mk (blk_below (g := gb165) (o := .cells #[.int .i64 t163, .int .u64 t164] 25 (0, 0)) (by exact zl3_ BK165.out) hb)
              have n3_ := Aside0.mk (below_step zb3_0 hb)
              clear BK161
              clear BK162
              clear BK165
              clear HB
              have BK161 := n0_
              have BK162 := n1_
              have BK165 := n2_
              have HB := n3_
              clear n0_ n1_ n2_ n3_
              (try clear hb)
              (try clear hb2)
              (try clear hk)
              (try clear hi)
              refine hK.out _ _ ⟨(blk_cell BK161.out 0).trans rfl, (blk_cell BK161.out 1).trans rfl, (blk_cell BK162.out 0).trans rfl, (blk_cell BK162.out 1).trans rfl, (blk_cell BK165.out 0).trans rfl, (blk_cell BK165.out 1).trans rfl⟩ (fun hHeld => ?_)
              clear hK K
              refine norm_ (a' := ?_) ?_ ?_
              rotate_left
              ·show Act.put _ (some 86) _ = _
               simp only [Act.put, List.setIfInBounds_toArray, List.set_cons_zero, List.set_cons_succ, i64_w, i32_w]
               rfl
              refine pure_ (i := 57) (N := some 87) (v := ?_) (a' := ?_) #[true, true, true, true, true, true, true, true, true, true, true, true, true, true, true, true, true, true, true, true, true, true, true, true, true, true, true, true, true, true, true, true, true, true, true, true, true, true, true, true, true, true, true, true, true, true, true, true, true, true, true, true, true, true, true, true, true, true, false, false, false, false, false, false, false, false, false, false, false, false, false, false, false, false, false, false, false, false, false, false, false, false, false, false, false, false, false, false, false, false, false, false, false, false, false, false, false, false, false, false, false, false, false, false, false, false, false, false] rfl rfl (any_of HT_.out (by kernel_rfl)) (fun _ _ _ h => h) (Or.inl ⟨by rfl, ?_⟩) ?_ ?_
              rotate_left
              ·intro w'
               go_simp
               with_reducible rfl
              rotate_left
              ·exact zp3_
              refine pure_ (i := 58) (N := some 88) (v := ?_) (a' := ?_) #[true, true, true, true, true, true, true, true, true, true, true, true, true, true, true, true, true, true, true, true, true, true, true, true, true, true, true, true, true, true, true, true, true, true, true, true, true, true, true, true, true, true, true, true, true, true, true, true, true, true, true, true, true, true, true, true, true, true, true, false, false, false, false, false, false, false, false, false, false, false, false, false, false, false, false, false, false, false, false, false, false, false, false, false, false, false, false, false, false, false, false, false, false, false, false, false, false, false, false, false, false, false, false, false, false, false, false, false] rfl rfl (any_of HT_.out (by kernel_rfl)) (fun _ _ _ h => h) (Or.inl ⟨by rfl, ?_⟩) ?_ ?_
              rotate_left
              ·intro w'
               go_simp
               with_reducible rfl
              rotate_left
              ·exact zp3_
              refine pure_ (i := 61) (N := some 91) (v := ?_) (a' := ?_) #[true, true, true, true, true, true, true, true, true, true, true, true, true, true, true, true, true, true, true, true, true, true, true, true, true, true, true, true, true, true, true, true, true, true, true, true, true, true, true, true, true, true, true, true, true, true, true, true, true, true, true, true, true, true, true, true, true, true, true, false, false, true, false, false, false, false, false, false, false, false, false, false, false, false, false, false, false, false, false, false, false, false, false, false, false, false, false, false, false, false, false, false, false, false, false, false, false, false, false, false, false, false, false, false, false, false, false, false] rfl rfl (any_of HT_.out (by kernel_rfl)) (fun _ _ _ h => h) (Or.inl ⟨by rfl, ?_⟩) ?_ ?_
              rotate_left
              ·intro w'
               go_simp
               with_reducible rfl
              rotate_left
              ·exact zp3_
              refine pure_ (i := 65) (N := some 95) (v := ?_) (a' := ?_) #[true, true, true, true, true, true, true, true, true, true, true, true, true, true, true, true, true, true, true, true, true, true, true, true, true, true, true, true, true, true, true, true, true, true, true, true, true, true, true, true, true, true, true, true, true, true, true, true, true, true, true, true, true, true, true, true, true, true, true, false, false, true, false, false, false, true, false, false, false, false, false, false, false, false, false, false, false, false, false, false, false, false, false, false, false, false, false, false, false, false, false, false, false, false, false, false, false, false, false, false, false, false, false, false, false, false, false, false] rfl rfl (any_of HT_.out (by kernel_rfl)) (fun _ _ _ h => h) (Or.inl ⟨by rfl, ?_⟩) ?_ ?_
              rotate_left
              ·intro w'
               go_simp
               with_reducible rfl
              rotate_left
              ·exact zp3_
              refine take_ (i := 59) (N := some 89) (v := ?_) (a' := ?_) #[true, true, true, true, true, true, true, true, true, true, true, true, true, true, true, true, true, true, true, true, true, true, true, true, true, true, true, true, true, true, true, true, true, true, true, true, true, true, true, true, true, true, true, true, true, true, true, true, true, true, true, true, true, true, true, true, true, true, true, true, false, true, false, false, false, true, false, false, false, false, false, false, false, false, false, false, false, false, false, false, false, false, false, false, false, false, false, false, false, false, false, false, false, false, false, false, false, false, false, false, false, false, false, false, false, false, false, false] rfl rfl (take_ofW HT_.out HW_.out (by kernel_rfl)) (fun _ _ _ h => h) (Or.inl ⟨by rfl, ?_⟩) hHeld ?_ ?_
              rotate_left
              ·rintro w' ⟨s0, s1, s2, s3, s4, s5⟩
               go_simp
               with_reducible rfl
              rotate_left
              ·exact zp3_
              refine take_ (i := 60) (N := some 90) (v := ?_) (a' := ?_) #[true, true, true, true, true, true, true, true, true, true, true, true, true, true, true, true, true, true, true, true, true, true, true, true, true, true, true, true, true, true, true, true, true, true, true, true, true, true, true, true, true, true, true, true, true, true, true, true, true, true, true, true, true, true, true, true, true, true, true, true, true, true, false, false, false, true, false, false, false, false, false, false, false, false, false, false, false, false, false, false, false, false, false, false, false, false, false, false, false, false, false, false, false, false, false, false, false, false, false, false, false, false, false, false, false, false, false, false] rfl rfl (take_ofW HT_.out HW_.out (by kernel_rfl)) (fun _ _ _ h => h) (Or.inl ⟨by rfl, ?_⟩) hHeld ?_ ?_
              rotate_left
              ·rintro w' ⟨s0, s1, s2, s3, s4, s5⟩
               go_simp
               with_reducible rfl
              rotate_left
              ·exact zp3_
              refine take_ (i := 63) (N := some 93) (v := ?_) (a' := ?_) #[true, true, true, true, true, true, true, true, true, true, true, true, true, true, true, true, true, true, true, true, true, true, true, true, true, true, true, true, true, true, true, true, true, true, true, true, true, true, true, true, true, true, true, true, true, true, true, true, true, true, true, true, true, true, true, true, true, true, true, true, true, true, false, true, false, true, false, false, false, false, false, false, false, false, false, false, false, false, false, false, false, false, false, false, false, false, false, false, false, false, false, false, false, false, false, false, false, false, false, false, false, false, false, false, false, false, false, false] rfl rfl (take_ofW HT_.out HW_.out (by kernel_rfl)) (fun _ _ _ h => h) (Or.inl ⟨by rfl, ?_⟩) hHeld ?_ ?_
              rotate_left
              ·rintro w' ⟨s0, s1, s2, s3, s4, s5⟩
               go_simp
               with_reducible rfl
              rotate_left
              ·exact zp3_
              refine take_ (i := 64) (N := some 94) (v := ?_) (a' := ?_) #[true, true, true, true, true, true, true, true, true, true, true, true, true, true, true, true, true, true, true, true, true, true, true, true, true, true, true, true, true, true, true, true, true, true, true, true, true, true, true, true, true, true, true, true, true, true, true, true, true, true, true, true, true, true, true, true, true, true, true, true, true, true, false, true, true, true, false, false, false, false, false, false, false, false, false, false, false, false, false, false, false, false, false, false, false, false, false, false, false, false, false, false, false, false, false, false, false, false, false, false, false, false, false, false, false, false, false, false] rfl rfl (take_ofW HT_.out HW_.out (by kernel_rfl)) (fun _ _ _ h => h) (Or.inl ⟨by rfl, ?_⟩) hHeld ?_ ?_
              rotate_left
              ·rintro w' ⟨s0, s1, s2, s3, s4, s5⟩
               go_simp
               with_reducible rfl
              rotate_left
              ·exact zp3_
              refine one_ (i := 62) (N := some 92) #[true, true, true, true, true, true, true, true, true, true, true, true, true, true, true, true, true, true, true, true, true, true, true, true, true, true, true, true, true, true, true, true, true, true, true, true, true, true, true, true, true, true, true, true, true, true, true, true, true, true, true, true, true, true, true, true, true, true, true, true, true, true, true, true, true, true, false, false, false, false, false, false, false, false, false, false, false, false, false, false, false, false, false, false, false, false, false, false, false, false, false, false, false, false, false, false, false, false, false, false, false, false, false, false, false, false, false, false] rfl rfl (one_of HT_.out (by kernel_rfl)) (by decide) (fun K hK => ?_)
              refine goes_ Tryd.func11 (by kernel_rfl) rfl #[.agg #[.int .i64 t157, .int .u64 t158], .agg #[.int .i64 t159, .int .u64 t160], .int .i64 x13_8] (by rfl) rfl rfl zb3_1 ?_
              with_reducible refine (low_Add.calls kj8 t157 t158 t159 t160 x13_8 t196 t197 _ A39.out).mono ?_
              rintro e w85 ⟨rfl, hb⟩
              refine ⟨_, rfl, ?_⟩
              have n0_ := Aside0.mk (blk_below (g := gb161) (o := .cells #[.int .i64 t157, .int .u64 t158] 25 (0, 0)) (by exact zl3_ BK161.out) hb)
              have n1_ := Aside0.mk (blk_below (g := gb162) (o := .cells #[.int .i64 t159, .int .u64 t160] 25 (0, 0)) (by exact zl3_ BK162.out) hb)
              have n2_ := Aside0.mk (blk_below (g := gb165) (o := .cells #[.int .i64 t163, .int .u64 t164] 25 (0, 0)) (by exact zl3_ BK165.out) hb)
              have n3_ := Aside0.mk (below_step zb3_0 hb)
              clear BK161
              clear BK162
              clear BK165
              clear HB
              have BK161 := n0_
              have BK162 := n1_
              have BK165 := n2_
              have HB := n3_
              clear n0_ n1_ n2_ n3_
              (try clear hb)
              (try clear hb2)
              (try clear hk)
              (try clear hi)
              refine hK.out _ _ ⟨(blk_cell BK161.out 0).trans rfl, (blk_cell BK161.out 1).trans rfl, (blk_cell BK162.out 0).trans rfl, (blk_cell BK162.out 1).trans rfl, (blk_cell BK165.out 0).trans rfl, (blk_cell BK165.out 1).trans rfl⟩ (fun hHeld => ?_)
              clear hK K
              refine norm_ (a' := ?_) ?_ ?_
              rotate_left
              ·show Act.put _ (some 92) _ = _
               simp only [Act.put, List.setIfInBounds_toArray, List.set_cons_zero, List.set_cons_succ, i64_w, i32_w]
               rfl
              refine one_ (i := 66) (N := some 96) #[true, true, true, true, true, true, true, true, true, true, true, true, true, true, true, true, true, true, true, true, true, true, true, true, true, true, true, true, true, true, true, true, true, true, true, true, true, true, true, true, true, true, true, true, true, true, true, true, true, true, true, true, true, true, true, true, true, true, true, true, true, true, true, true, true, true, true, false, false, false, false, false, false, false, false, false, false, false, false, false, false, false, false, false, false, false, false, false, false, false, false, false, false, false, false, false, false, false, false, false, false, false, false, false, false, false, false, false] rfl rfl (one_of HT_.out (by kernel_rfl)) (by decide) (fun K hK => ?_)
              refine goes_ Tryd.func11 (by kernel_rfl) rfl #[.agg #[.int .i64 t159, .int .u64 t160], .agg #[.int .i64 t157, .int .u64 t158], .int .i64 x13_8] (by rfl) rfl rfl zb3_1 ?_
              with_reducible refine (low_Add.calls kj8 t159 t160 t157 t158 x13_8 t198 t199 _ A40.out).mono ?_
              rintro e w86 ⟨rfl, hb⟩
              refine ⟨_, rfl, ?_⟩
              have n0_ := Aside0.mk (blk_below (g := gb161) (o := .cells #[.int .i64 t157, .int .u64 t158] 25 (0, 0)) (by exact zl3_ BK161.out) hb)
              have n1_ := Aside0.mk (blk_below (g := gb162) (o := .cells #[.int .i64 t159, .int .u64 t160] 25 (0, 0)) (by exact zl3_ BK162.out) hb)
              have n2_ := Aside0.mk (blk_below (g := gb165) (o := .cells #[.int .i64 t163, .int .u64 t164] 25 (0, 0)) (by exact zl3_ BK165.out) hb)
              have n3_ := Aside0.mk (below_step zb3_0 hb)
              clear BK161
              clear BK162
              clear BK165
              clear HB
              have BK161 := n0_
              have BK162 := n1_
              have BK165 := n2_
              have HB := n3_
              clear n0_ n1_ n2_ n3_
              (try clear hb)
              (try clear hb2)
              (try clear hk)
              (try clear hi)
              refine hK.out _ _ ⟨(blk_cell BK161.out 0).trans rfl, (blk_cell BK161.out 1).trans rfl, (blk_cell BK162.out 0).trans rfl, (blk_cell BK162.out 1).trans rfl, (blk_cell BK165.out 0).trans rfl, (blk_cell BK165.out 1).trans rfl⟩ (fun hHeld => ?_)
              clear hK K
              refine norm_ (a' := ?_) ?_ ?_
              rotate_left
              ·show Act.put _ (some 96) _ = _
               simp only [Act.put, List.setIfInBounds_toArray, List.set_cons_zero, List.set_cons_succ, i64_w, i32_w]
               rfl
              refine pure_ (i := 67) (N := some 97) (v := ?_) (a' := ?_) #[true, true, true, true, true, true, true, true, true, true, true, true, true, true, true, true, true, true, true, true, true, true, true, true, true, true, true, true, true, true, true, true, true, true, true, true, true, true, true, true, true, true, true, true, true, true, true, true, true, true, true, true, true, true, true, true, true, true, true, true, true, true, true, true, true, true, true, true, false, false, false, false, false, false, false, false, false, false, false, false, false, false, false, false, false, false, false, false, false, false, false, false, false, false, false, false, false, false, false, false, false, false, false, false, false, false, false, false] rfl rfl (any_of HT_.out (by kernel_rfl)) (fun _ _ _ h => h) (Or.inl ⟨by rfl, ?_⟩) ?_ ?_
              rotate_left
              ·intro w'
               go_simp
               with_reducible rfl
              rotate_left
              ·exact zp3_
              refine pure_ (i := 68) (N := some 98) (v := ?_) (a' := ?_) #[true, true, true, true, true, true, true, true, true, true, true, true, true, true, true, true, true, true, true, true, true, true, true, true, true, true, true, true, true, true, true, true, true, true, true, true, true, true, true, true, true, true, true, true, true, true, true, true, true, true, true, true, true, true, true, true, true, true, true, true, true, true, true, true, true, true, true, true, true, false, false, false, false, false, false, false, false, false, false, false, false, false, false, false, false, false, false, false, false, false, false, false, false, false, false, false, false, false, false, false, false, false, false, false, false, false, false, false] rfl rfl (any_of HT_.out (by kernel_rfl)) (fun _ _ _ h => h) (Or.inl ⟨by rfl, ?_⟩) ?_ ?_
              rotate_left
              ·intro w'
               go_simp
               with_reducible rfl
              rotate_left
              ·exact zp3_
              refine pure_ (i := 69) (N := some 99) (v := ?_) (a' := ?_) #[true, true, true, true, true, true, true, true, true, true, true, true, true, true, true, true, true, true, true, true, true, true, true, true, true, true, true, true, true, true, true, true, true, true, true, true, true, true, true, true, true, true, true, true, true, true, true, true, true, true, true, true, true, true, true, true, true, true, true, true, true, true, true, true, true, true, true, true, true, true, false, false, false, false, false, false, false, false, false, false, false, false, false, false, false, false, false, false, false, false, false, false, false, false, false, false, false, false, false, false, false, false, false, false, false, false, false, false] rfl rfl (any_of HT_.out (by kernel_rfl)) (fun _ _ _ h => h) (Or.inl ⟨by rfl, ?_⟩) ?_ ?_
              rotate_left
              ·intro w'
               go_simp
               with_reducible rfl
              rotate_left
              ·exact zp3_
              refine pure_ (i := 72) (N := some 102) (v := ?_) (a' := ?_) #[true, true, true, true, true, true, true, true, true, true, true, true, true, true, true, true, true, true, true, true, true, true, true, true, true, true, true, true, true, true, true, true, true, true, true, true, true, true, true, true, true, true, true, true, true, true, true, true, true, true, true, true, true, true, true, true, true, true, true, true, true, true, true, true, true, true, true, true, true, true, false, false, true, false, false, false, false, false, false, false, false, false, false, false, false, false, false, false, false, false, false, false, false, false, false, false, false, false, false, false, false, false, false, false, false, false, false, false] rfl rfl (any_of HT_.out (by kernel_rfl)) (fun _ _ _ h => h) (Or.inl ⟨by rfl, ?_⟩) ?_ ?_
              rotate_left
              ·intro w'
               go_simp
               with_reducible rfl
              rotate_left
              ·exact zp3_
              refine pure_ (i := 76) (N := some 106) (v := ?_) (a' := ?_) #[true, true, true, true, true, true, true, true, true, true, true, true, true, true, true, true, true, true, true, true, true, true, true, true, true, true, true, true, true, true, true, true, true, true, true, true, true, true, true, true, true, true, true, true, true, true, true, true, true, true, true, true, true, true, true, true, true, true, true, true, true, true, true, true, true, true, true, true, true, true, false, false, true, false, false, false, true, false, false, false, false, false, false, false, false, false, false, false, false, false, false, false, false, false, false, false, false, false, false, false, false, false, false, false, false, false, false, false] rfl rfl (any_of HT_.out (by kernel_rfl)) (fun _ _ _ h => h) (Or.inl ⟨by rfl, ?_⟩) ?_ ?_
              rotate_left
              ·intro w'
               go_simp
               with_reducible rfl
              rotate_left
              ·exact zp3_
              refine take_ (i := 70) (N := some 100) (v := ?_) (a' := ?_) #[true, true, true, true, true, true, true, true, true, true, true, true, true, true, true, true, true, true, true, true, true, true, true, true, true, true, true, true, true, true, true, true, true, true, true, true, true, true, true, true, true, true, true, true, true, true, true, true, true, true, true, true, true, true, true, true, true, true, true, true, true, true, true, true, true, true, true, true, true, true, true, false, true, false, false, false, true, false, false, false, false, false, false, false, false, false, false, false, false, false, false, false, false, false, false, false, false, false, false, false, false, false, false, false, false, false, false, false] rfl rfl (take_ofW HT_.out HW_.out (by kernel_rfl)) (fun _ _ _ h => h) (Or.inl ⟨by rfl, ?_⟩) hHeld ?_ ?_
              rotate_left
              ·rintro w' ⟨s0, s1, s2, s3, s4, s5⟩
               go_simp
               with_reducible rfl
              rotate_left
              ·exact zp3_
              refine take_ (i := 71) (N := some 101) (v := ?_) (a' := ?_) #[true, true, true, true, true, true, true, true, true, true, true, true, true, true, true, true, true, true, true, true, true, true, true, true, true, true, true, true, true, true, true, true, true, true, true, true, true, true, true, true, true, true, true, true, true, true, true, true, true, true, true, true, true, true, true, true, true, true, true, true, true, true, true, true, true, true, true, true, true, true, true, true, true, false, false, false, true, false, false, false, false, false, false, false, false, false, false, false, false, false, false, false, false, false, false, false, false, false, false, false, false, false, false, false, false, false, false, false] rfl rfl (take_ofW HT_.out HW_.out (by kernel_rfl)) (fun _ _ _ h => h) (Or.inl ⟨by rfl, ?_⟩) hHeld ?_ ?_
              rotate_left
              ·rintro w' ⟨s0, s1, s2, s3, s4, s5⟩
               go_simp
               with_reducible rfl
              rotate_left
              ·exact zp3_
              refine take_ (i := 74) (N := some 104) (v := ?_) (a' := ?_) #[true, true, true, true, true, true, true, true, true, true, true, true, true, true, true, true, true, true, true, true, true, true, true, true, true, true, true, true, true, true, true, true, true, true, true, true, true, true, true, true, true, true, true, true, true, true, true, true, true, true, true, true, true, true, true, true, true, true, true, true, true, true, true, true, true, true, true, true, true, true, true, true, true, false, true, false, true, false, false, false, false, false, false, false, false, false, false, false, false, false, false, false, false, false, false, false, false, false, false, false, false, false, false, false, false, false, false, false] rfl rfl (take_ofW HT_.out HW_.out (by kernel_rfl)) (fun _ _ _ h => h) (Or.inl ⟨by rfl, ?_⟩) hHeld ?_ ?_
              rotate_left
              ·rintro w' ⟨s0, s1, s2, s3, s4, s5⟩
               go_simp
               with_reducible rfl
              rotate_left
              ·exact zp3_
              refine take_ (i := 75) (N := some 105) (v := ?_) (a' := ?_) #[true, true, true, true, true, true, true, true, true, true, true, true, true, true, true, true, true, true, true, true, true, true, true, true, true, true, true, true, true, true, true, true, true, true, true, true, true, true, true, true, true, true, true, true, true, true, true, true, true, true, true, true, true, true, true, true, true, true, true, true, true, true, true, true, true, true, true, true, true, true, true, true, true, false, true, true, true, false, false, false, false, false, false, false, false, false, false, false, false, false, false, false, false, false, false, false, false, false, false, false, false, false, false, false, false, false, false, false] rfl rfl (take_ofW HT_.out HW_.out (by kernel_rfl)) (fun _ _ _ h => h) (Or.inl ⟨by rfl, ?_⟩) hHeld ?_ ?_
              rotate_left
              ·rintro w' ⟨s0, s1, s2, s3, s4, s5⟩
               go_simp
               with_reducible rfl
              rotate_left
              ·exact zp3_
              refine one_ (i := 73) (N := some 103) #[true, true, true, true, true, true, true, true, true, true, true, true, true, true, true, true, true, true, true, true, true, true, true, true, true, true, true, true, true, true, true, true, true, true, true, true, true, true, true, true, true, true, true, true, true, true, true, true, true, true, true, true, true, true, true, true, true, true, true, true, true, true, true, true, true, true, true, true, true, true, true, true, true, true, true, true, true, false, false, false, false, false, false, false, false, false, false, false, false, false, false, false, false, false, false, false, false, false, false, false, false, false, false, false, false, false, false, false] rfl rfl (one_of HT_.out (by kernel_rfl)) (by decide) (fun K hK => ?_)
              refine goes_ Tryd.func13 (by kernel_rfl) rfl #[.agg #[.int .i64 t157, .int .u64 t158], .agg #[.int .i64 t159, .int .u64 t160], .int .i64 x13_8] (by rfl) rfl rfl zb3_1 ?_
              with_reducible refine (low_Mul.calls kj8 t157 t158 t159 t160 x13_8 t200 t201 _ A42.out).mono ?_
              rintro e w87 ⟨rfl, hb⟩
              refine ⟨_, rfl, ?_⟩
              have n0_ := Aside0.mk (blk_below (g := gb161) (o := .cells #[.int .i64 t157, .int .u64 t158] 25 (0, 0)) (by exact zl3_ BK161.out) hb)
              have n1_ := Aside0.mk (blk_below (g := gb162) (o := .cells #[.int .i64 t159, .int .u64 t160] 25 (0, 0)) (by exact zl3_ BK162.out) hb)
              have n2_ := Aside0.mk (blk_below (g := gb165) (o := .cells #[.int .i64 t163, .int .u64 t164] 25 (0, 0)) (by exact zl3_ BK165.out) hb)
              have n3_ := Aside0.mk (below_step zb3_0 hb)
              clear BK161
              clear BK162
              clear BK165
              clear HB
              have BK161 := n0_
              have BK162 := n1_
              have BK165 := n2_
              have HB := n3_
              clear n0_ n1_ n2_ n3_
              (try clear hb)
              (try clear hb2)
              (try clear hk)
              (try clear hi)
              refine hK.out _ _ ⟨(blk_cell BK161.out 0).trans rfl, (blk_cell BK161.out 1).trans rfl, (blk_cell BK162.out 0).trans rfl, (blk_cell BK162.out 1).trans rfl, (blk_cell BK165.out 0).trans rfl, (blk_cell BK165.out 1).trans rfl⟩ (fun hHeld => ?_)
              clear hK K
              refine norm_ (a' := ?_) ?_ ?_
              rotate_left
              ·show Act.put _ (some 103) _ = _
               simp only [Act.put, List.setIfInBounds_toArray, List.set_cons_zero, List.set_cons_succ, i64_w, i32_w]
               rfl
              refine one_ (i := 77) (N := some 107) #[true, true, true, true, true, true, true, true, true, true, true, true, true, true, true, true, true, true, true, true, true, true, true, true, true, true, true, true, true, true, true, true, true, true, true, true, true, true, true, true, true, true, true, true, true, true, true, true, true, true, true, true, true, true, true, true, true, true, true, true, true, true, true, true, true, true, true, true, true, true, true, true, true, true, true, true, true, true, false, false, false, false, false, false, false, false, false, false, false, false, false, false, false, false, false, false, false, false, false, false, false, false, false, false, false, false, false, false] rfl rfl (one_of HT_.out (by kernel_rfl)) (by decide) (fun K hK => ?_)
              refine goes_ Tryd.func13 (by kernel_rfl) rfl #[.agg #[.int .i64 t159, .int .u64 t160], .agg #[.int .i64 t157, .int .u64 t158], .int .i64 x13_8] (by rfl) rfl rfl zb3_1 ?_
              with_reducible refine (low_Mul.calls kj8 t159 t160 t157 t158 x13_8 t202 t203 _ A43.out).mono ?_
              rintro e w88 ⟨rfl, hb⟩
              refine ⟨_, rfl, ?_⟩
              have n0_ := Aside0.mk (blk_below (g := gb161) (o := .cells #[.int .i64 t157, .int .u64 t158] 25 (0, 0)) (by exact zl3_ BK161.out) hb)
              have n1_ := Aside0.mk (blk_below (g := gb162) (o := .cells #[.int .i64 t159, .int .u64 t160] 25 (0, 0)) (by exact zl3_ BK162.out) hb)
              have n2_ := Aside0.mk (blk_below (g := gb165) (o := .cells #[.int .i64 t163, .int .u64 t164] 25 (0, 0)) (by exact zl3_ BK165.out) hb)
              have n3_ := Aside0.mk (below_step zb3_0 hb)
              clear BK161
              clear BK162
              clear BK165
              clear HB
              have BK161 := n0_
              have BK162 := n1_
              have BK165 := n2_
              have HB := n3_
              clear n0_ n1_ n2_ n3_
              (try clear hb)
              (try clear hb2)
              (try clear hk)
              (try clear hi)
              refine hK.out _ _ ⟨(blk_cell BK161.out 0).trans rfl, (blk_cell BK161.out 1).trans rfl, (blk_cell BK162.out 0).trans rfl, (blk_cell BK162.out 1).trans rfl, (blk_cell BK165.out 0).trans rfl, (blk_cell BK165.out 1).trans rfl⟩ (fun hHeld => ?_)
              clear hK K
              refine norm_ (a' := ?_) ?_ ?_
              rotate_left
              ·show Act.put _ (some 107) _ = _
               simp only [Act.put, List.setIfInBounds_toArray, List.set_cons_zero, List.set_cons_succ, i64_w, i32_w]
               rfl
              refine pure_ (i := 78) (N := some 108) (v := ?_) (a' := ?_) #[true, true, true, true, true, true, true, true, true, true, true, true, true, true, true, true, true, true, true, true, true, true, true, true, true, true, true, true, true, true, true, true, true, true, true, true, true, true, true, true, true, true, true, true, true, true, true, true, true, true, true, true, true, true, true, true, true, true, true, true, true, true, true, true, true, true, true, true, true, true, true, true, true, true, true, true, true, true, true, false, false, false, false, false, false, false, false, false, false, false, false, false, false, false, false, false, false, false, false, false, false, false, false, false, false, false, false, false] rfl rfl (any_of HT_.out (by kernel_rfl)) (fun _ _ _ h => h) (Or.inl ⟨by rfl, ?_⟩) ?_ ?_
              rotate_left
              ·intro w'
               go_simp
               with_reducible rfl
              rotate_left
              ·exact zp3_
              refine pure_ (i := 79) (N := some 109) (v := ?_) (a' := ?_) #[true, true, true, true, true, true, true, true, true, true, true, true, true, true, true, true, true, true, true, true, true, true, true, true, true, true, true, true, true, true, true, true, true, true, true, true, true, true, true, true, true, true, true, true, true, true, true, true, true, true, true, true, true, true, true, true, true, true, true, true, true, true, true, true, true, true, true, true, true, true, true, true, true, true, true, true, true, true, true, true, false, false, false, false, false, false, false, false, false, false, false, false, false, false, false, false, false, false, false, false, false, false, false, false, false, false, false, false] rfl rfl (any_of HT_.out (by kernel_rfl)) (fun _ _ _ h => h) (Or.inl ⟨by rfl, ?_⟩) ?_ ?_
              rotate_left
              ·intro w'
               go_simp
               with_reducible rfl
              rotate_left
              ·exact zp3_
              refine pure_ (i := 80) (N := some 110) (v := ?_) (a' := ?_) #[true, true, true, true, true, true, true, true, true, true, true, true, true, true, true, true, true, true, true, true, true, true, true, true, true, true, true, true, true, true, true, true, true, true, true, true, true, true, true, true, true, true, true, true, true, true, true, true, true, true, true, true, true, true, true, true, true, true, true, true, true, true, true, true, true, true, true, true, true, true, true, true, true, true, true, true, true, true, true, true, true, false, false, false, false, false, false, false, false, false, false, false, false, false, false, false, false, false, false, false, false, false, false, false, false, false, false, false] rfl rfl (any_of HT_.out (by kernel_rfl)) (fun _ _ _ h => h) (Or.inl ⟨by rfl, ?_⟩) ?_ ?_
              rotate_left
              ·intro w'
               go_simp
               with_reducible rfl
              rotate_left
              ·exact zp3_
              refine take_ (i := 81) (N := some 111) (v := ?_) (a' := ?_) #[true, true, true, true, true, true, true, true, true, true, true, true, true, true, true, true, true, true, true, true, true, true, true, true, true, true, true, true, true, true, true, true, true, true, true, true, true, true, true, true, true, true, true, true, true, true, true, true, true, true, true, true, true, true, true, true, true, true, true, true, true, true, true, true, true, true, true, true, true, true, true, true, true, true, true, true, true, true, true, true, true, true, false, false, false, false, false, false, false, false, false, false, false, false, false, false, false, false, false, false, false, false, false, false, false, false, false, false] rfl rfl (take_ofW HT_.out HW_.out (by kernel_rfl)) (fun _ _ _ h => h) (Or.inl ⟨by rfl, ?_⟩) hHeld ?_ ?_
              rotate_left
              ·rintro w' ⟨s0, s1, s2, s3, s4, s5⟩
               go_simp
               with_reducible rfl
              rotate_left
              ·exact zp3_
              refine take_ (i := 82) (N := some 112) (v := ?_) (a' := ?_) #[true, true, true, true, true, true, true, true, true, true, true, true, true, true, true, true, true, true, true, true, true, true, true, true, true, true, true, true, true, true, true, true, true, true, true, true, true, true, true, true, true, true, true, true, true, true, true, true, true, true, true, true, true, true, true, true, true, true, true, true, true, true, true, true, true, true, true, true, true, true, true, true, true, true, true, true, true, true, true, true, true, true, true, false, false, false, false, false, false, false, false, false, false, false, false, false, false, false, false, false, false, false, false, false, false, false, false, false] rfl rfl (take_ofW HT_.out HW_.out (by kernel_rfl)) (fun _ _ _ h => h) (Or.inl ⟨by rfl, ?_⟩) hHeld ?_ ?_
              rotate_left
              ·rintro w' ⟨s0, s1, s2, s3, s4, s5⟩
               go_simp
               with_reducible rfl
              rotate_left
              ·exact zp3_
              refine take_ (i := 84) (N := some 114) (v := ?_) (a' := ?_) #[true, true, true, true, true, true, true, true, true, true, true, true, true, true, true, true, true, true, true, true, true, true, true, true, true, true, true, true, true, true, true, true, true, true, true, true, true, true, true, true, true, true, true, true, true, true, true, true, true, true, true, true, true, true, true, true, true, true, true, true, true, true, true, true, true, true, true, true, true, true, true, true, true, true, true, true, true, true, true, true, true, true, true, false, true, false, false, false, false, false, false, false, false, false, false, false, false, false, false, false, false, false, false, false, false, false, false, false] rfl rfl (take_ofW HT_.out HW_.out (by kernel_rfl)) (fun _ _ _ h => h) (Or.inl ⟨by rfl, ?_⟩) hHeld ?_ ?_
              rotate_left
              ·rintro w' ⟨s0, s1, s2, s3, s4, s5⟩
               go_simp
               with_reducible rfl
              rotate_left
              ·exact zp3_
              refine take_ (i := 85) (N := some 115) (v := ?_) (a' := ?_) #[true, true, true, true, true, true, true, true, true, true, true, true, true, true, true, true, true, true, true, true, true, true, true, true, true, true, true, true, true, true, true, true, true, true, true, true, true, true, true, true, true, true, true, true, true, true, true, true, true, true, true, true, true, true, true, true, true, true, true, true, true, true, true, true, true, true, true, true, true, true, true, true, true, true, true, true, true, true, true, true, true, true, true, false, true, true, false, false, false, false, false, false, false, false, false, false, false, false, false, false, false, false, false, false, false, false, false, false] rfl rfl (take_ofW HT_.out HW_.out (by kernel_rfl)) (fun _ _ _ h => h) (Or.inl ⟨by rfl, ?_⟩) hHeld ?_ ?_
              rotate_left
              ·rintro w' ⟨s0, s1, s2, s3, s4, s5⟩
               go_simp
               with_reducible rfl
              rotate_left
              ·exact zp3_
              refine one_ (i := 83) (N := some 113) #[true, true, true, true, true, true, true, true, true, true, true, true, true, true, true, true, true, true, true, true, true, true, true, true, true, true, true, true, true, true, true, true, true, true, true, true, true, true, true, true, true, true, true, true, true, true, true, true, true, true, true, true, true, true, true, true, true, true, true, true, true, true, true, true, true, true, true, true, true, true, true, true, true, true, true, true, true, true, true, true, true, true, true, true, true, true, false, false, false, false, false, false, false, false, false, false, false, false, false, false, false, false, false, false, false, false, false, false] rfl rfl (one_of HT_.out (by kernel_rfl)) (by decide) (fun K hK => ?_)
              refine goes_ Tryd.func14 (by kernel_rfl) rfl #[.agg #[.int .i64 t157, .int .u64 t158], .agg #[.int .i64 t159, .int .u64 t160]] (by rfl) rfl rfl zb3_1 ?_
              with_reducible refine (low_And.calls t157 t158 t159 t160 t204 t205 _ ?side1 A45.out).mono ?_
              (case side1 => exact tabs_below HT.out zb3_0)
              rintro e w89 ⟨rfl, hb⟩
              refine ⟨_, rfl, ?_⟩
              have n0_ := Aside0.mk (blk_below (g := gb161) (o := .cells #[.int .i64 t157, .int .u64 t158] 25 (0, 0)) (by exact zl3_ BK161.out) hb)
              have n1_ := Aside0.mk (blk_below (g := gb162) (o := .cells #[.int .i64 t159, .int .u64 t160] 25 (0, 0)) (by exact zl3_ BK162.out) hb)
              have n2_ := Aside0.mk (blk_below (g := gb165) (o := .cells #[.int .i64 t163, .int .u64 t164] 25 (0, 0)) (by exact zl3_ BK165.out) hb)
              have n3_ := Aside0.mk (below_step zb3_0 hb)
              clear BK161
              clear BK162
              clear BK165
              clear HB
              have BK161 := n0_
              have BK162 := n1_
              have BK165 := n2_
              have HB := n3_
              clear n0_ n1_ n2_ n3_
              (try clear hb)
              (try clear hb2)
              (try clear hk)
              (try clear hi)
              refine hK.out _ _ ⟨(blk_cell BK161.out 0).trans rfl, (blk_cell BK161.out 1).trans rfl, (blk_cell BK162.out 0).trans rfl, (blk_cell BK162.out 1).trans rfl, (blk_cell BK165.out 0).trans rfl, (blk_cell BK165.out 1).trans rfl⟩ (fun hHeld => ?_)
              clear hK K
              refine norm_ (a' := ?_) ?_ ?_
              rotate_left
              ·show Act.put _ (some 113) _ = _
               simp only [Act.put, List.setIfInBounds_toArray, List.set_cons_zero, List.set_cons_succ, i64_w, i32_w]
               rfl
              refine one_ (i := 86) (N := some 116) #[true, true, true, true, true, true, true, true, true, true, true, true, true, true, true, true, true, true, true, true, true, true, true, true, true, true, true, true, true, true, true, true, true, true, true, true, true, true, true, true, true, true, true, true, true, true, true, true, true, true, true, true, true, true, true, true, true, true, true, true, true, true, true, true, true, true, true, true, true, true, true, true, true, true, true, true, true, true, true, true, true, true, true, true, true, true, true, false, false, false, false, false, false, false, false, false, false, false, false, false, false, false, false, false, false, false, false, false] rfl rfl (one_of HT_.out (by kernel_rfl)) (by decide) (fun K hK => ?_)
              refine goes_ Tryd.func14 (by kernel_rfl) rfl #[.agg #[.int .i64 t159, .int .u64 t160], .agg #[.int .i64 t157, .int .u64 t158]] (by rfl) rfl rfl zb3_1 ?_
              with_reducible refine (low_And.calls t159 t160 t157 t158 t206 t207 _ ?side1 A46.out).mono ?_
              (case side1 => exact tabs_below HT.out zb3_0)
              rintro e w90 ⟨rfl, hb⟩
              refine ⟨_, rfl, ?_⟩
              have n0_ := Aside0.mk (blk_below (g := gb161) (o := .cells #[.int .i64 t157, .int .u64 t158] 25 (0, 0)) (by exact zl3_ BK161.out) hb)
              have n1_ := Aside0.mk (blk_below (g := gb162) (o := .cells #[.int .i64 t159, .int .u64 t160] 25 (0, 0)) (by exact zl3_ BK162.out) hb)
              have n2_ := Aside0.mk (blk_below (g := gb165) (o := .cells #[.int .i64 t163, .int .u64 t164] 25 (0, 0)) (by exact zl3_ BK165.out) hb)
              have n3_ := Aside0.mk (below_step zb3_0 hb)
              clear BK161
              clear BK162
              clear BK165
              clear HB
              have BK161 := n0_
              have BK162 := n1_
              have BK165 := n2_
              have HB := n3_
              clear n0_ n1_ n2_ n3_
              (try clear hb)
              (try clear hb2)
              (try clear hk)
              (try clear hi)
              refine hK.out _ _ ⟨(blk_cell BK161.out 0).trans rfl, (blk_cell BK161.out 1).trans rfl, (blk_cell BK162.out 0).trans rfl, (blk_cell BK162.out 1).trans rfl, (blk_cell BK165.out 0).trans rfl, (blk_cell BK165.out 1).trans rfl⟩ (fun hHeld => ?_)
              clear hK K
              refine norm_ (a' := ?_) ?_ ?_
              rotate_left
              ·show Act.put _ (some 116) _ = _
               simp only [Act.put, List.setIfInBounds_toArray, List.set_cons_zero, List.set_cons_succ, i64_w, i32_w]
               rfl
              refine pure_ (i := 87) (N := some 117) (v := ?_) (a' := ?_) #[true, true, true, true, true, true, true, true, true, true, true, true, true, true, true, true, true, true, true, true, true, true, true, true, true, true, true, true, true, true, true, true, true, true, true, true, true, true, true, true, true, true, true, true, true, true, true, true, true, true, true, true, true, true, true, true, true, true, true, true, true, true, true, true, true, true, true, true, true, true, true, true, true, true, true, true, true, true, true, true, true, true, true, true, true, true, true, true, false, false, false, false, false, false, false, false, false, false, false, false, false, false, false, false, false, false, false, false] rfl rfl (any_of HT_.out (by kernel_rfl)) (fun _ _ _ h => h) (Or.inl ⟨by rfl, ?_⟩) ?_ ?_
              rotate_left
              ·intro w'
               go_simp
               with_reducible rfl
              rotate_left
              ·exact zp3_
              refine pure_ (i := 88) (N := some 118) (v := ?_) (a' := ?_) #[true, true, true, true, true, true, true, true, true, true, true, true, true, true, true, true, true, true, true, true, true, true, true, true, true, true, true, true, true, true, true, true, true, true, true, true, true, true, true, true, true, true, true, true, true, true, true, true, true, true, true, true, true, true, true, true, true, true, true, true, true, true, true, true, true, true, true, true, true, true, true, true, true, true, true, true, true, true, true, true, true, true, true, true, true, true, true, true, true, false, false, false, false, false, false, false, false, false, false, false, false, false, false, false, false, false, false, false] rfl rfl (any_of HT_.out (by kernel_rfl)) (fun _ _ _ h => h) (Or.inl ⟨by rfl, ?_⟩) ?_ ?_
              rotate_left
              ·intro w'
               go_simp
               with_reducible rfl
              rotate_left
              ·exact zp3_
              refine pure_ (i := 89) (N := some 119) (v := ?_) (a' := ?_) #[true, true, true, true, true, true, true, true, true, true, true, true, true, true, true, true, true, true, true, true, true, true, true, true, true, true, true, true, true, true, true, true, true, true, true, true, true, true, true, true, true, true, true, true, true, true, true, true, true, true, true, true, true, true, true, true, true, true, true, true, true, true, true, true, true, true, true, true, true, true, true, true, true, true, true, true, true, true, true, true, true, true, true, true, true, true, true, true, true, true, false, false, false, false, false, false, false, false, false, false, false, false, false, false, false, false, false, false] rfl rfl (any_of HT_.out (by kernel_rfl)) (fun _ _ _ h => h) (Or.inl ⟨by rfl, ?_⟩) ?_ ?_
              rotate_left
              ·intro w'
               go_simp
               with_reducible rfl
              rotate_left
              ·exact zp3_
              refine take_ (i := 90) (N := some 120) (v := ?_) (a' := ?_) #[true, true, true, true, true, true, true, true, true, true, true, true, true, true, true, true, true, true, true, true, true, true, true, true, true, true, true, true, true, true, true, true, true, true, true, true, true, true, true, true, true, true, true, true, true, true, true, true, true, true, true, true, true, true, true, true, true, true, true, true, true, true, true, true, true, true, true, true, true, true, true, true, true, true, true, true, true, true, true, true, true, true, true, true, true, true, true, true, true, true, true, false, false, false, false, false, false, false, false, false, false, false, false, false, false, false, false, false] rfl rfl (take_ofW HT_.out HW_.out (by kernel_rfl)) (fun _ _ _ h => h) (Or.inl ⟨by rfl, ?_⟩) hHeld ?_ ?_
              rotate_left
              ·rintro w' ⟨s0, s1, s2, s3, s4, s5⟩
               go_simp
               with_reducible rfl
              rotate_left
              ·exact zp3_
              refine take_ (i := 91) (N := some 121) (v := ?_) (a' := ?_) #[true, true, true, true, true, true, true, true, true, true, true, true, true, true, true, true, true, true, true, true, true, true, true, true, true, true, true, true, true, true, true, true, true, true, true, true, true, true, true, true, true, true, true, true, true, true, true, true, true, true, true, true, true, true, true, true, true, true, true, true, true, true, true, true, true, true, true, true, true, true, true, true, true, true, true, true, true, true, true, true, true, true, true, true, true, true, true, true, true, true, true, true, false, false, false, false, false, false, false, false, false, false, false, false, false, false, false, false] rfl rfl (take_ofW HT_.out HW_.out (by kernel_rfl)) (fun _ _ _ h => h) (Or.inl ⟨by rfl, ?_⟩) hHeld ?_ ?_
              rotate_left
              ·rintro w' ⟨s0, s1, s2, s3, s4, s5⟩
               go_simp
               with_reducible rfl
              rotate_left
              ·exact zp3_
              refine take_ (i := 93) (N := some 123) (v := ?_) (a' := ?_) #[true, true, true, true, true, true, true, true, true, true, true, true, true, true, true, true, true, true, true, true, true, true, true, true, true, true, true, true, true, true, true, true, true, true, true, true, true, true, true, true, true, true, true, true, true, true, true, true, true, true, true, true, true, true, true, true, true, true, true, true, true, true, true, true, true, true, true, true, true, true, true, true, true, true, true, true, true, true, true, true, true, true, true, true, true, true, true, true, true, true, true, true, false, true, false, false, false, false, false, false, false, false, false, false, false, false, false, false] rfl rfl (take_ofW HT_.out HW_.out (by kernel_rfl)) (fun _ _ _ h => h) (Or.inl ⟨by rfl, ?_⟩) hHeld ?_ ?_
              rotate_left
              ·rintro w' ⟨s0, s1, s2, s3, s4, s5⟩
               go_simp
               with_reducible rfl
              rotate_left
              ·exact zp3_
              refine take_ (i := 94) (N := some 124) (v := ?_) (a' := ?_) #[true, true, true, true, true, true, true, true, true, true, true, true, true, true, true, true, true, true, true, true, true, true, true, true, true, true, true, true, true, true, true, true, true, true, true, true, true, true, true, true, true, true, true, true, true, true, true, true, true, true, true, true, true, true, true, true, true, true, true, true, true, true, true, true, true, true, true, true, true, true, true, true, true, true, true, true, true, true, true, true, true, true, true, true, true, true, true, true, true, true, true, true, false, true, true, false, false, false, false, false, false, false, false, false, false, false, false, false] rfl rfl (take_ofW HT_.out HW_.out (by kernel_rfl)) (fun _ _ _ h => h) (Or.inl ⟨by rfl, ?_⟩) hHeld ?_ ?_
              rotate_left
              ·rintro w' ⟨s0, s1, s2, s3, s4, s5⟩
               go_simp
               with_reducible rfl
              rotate_left
              ·exact zp3_
              refine one_ (i := 92) (N := some 122) #[true, true, true, true, true, true, true, true, true, true, true, true, true, true, true, true, true, true, true, true, true, true, true, true, true, true, true, true, true, true, true, true, true, true, true, true, true, true, true, true, true, true, true, true, true, true, true, true, true, true, true, true, true, true, true, true, true, true, true, true, true, true, true, true, true, true, true, true, true, true, true, true, true, true, true, true, true, true, true, true, true, true, true, true, true, true, true, true, true, true, true, true, true, true, true, false, false, false, false, false, false, false, false, false, false, false, false, false] rfl rfl (one_of HT_.out (by kernel_rfl)) (by decide) (fun K hK => ?_)
              refine goes_ Tryd.func15 (by kernel_rfl) rfl #[.agg #[.int .i64 t157, .int .u64 t158], .agg #[.int .i64 t159, .int .u64 t160]] (by rfl) rfl rfl zb3_1 ?_
              with_reducible refine (low_Or.calls t157 t158 t159 t160 t208 t209 _ A48.out).mono ?_
              rintro e w91 ⟨rfl, hb⟩
              refine ⟨_, rfl, ?_⟩
              have n0_ := Aside0.mk (blk_below (g := gb161) (o := .cells #[.int .i64 t157, .int .u64 t158] 25 (0, 0)) (by exact zl3_ BK161.out) hb)
              have n1_ := Aside0.mk (blk_below (g := gb162) (o := .cells #[.int .i64 t159, .int .u64 t160] 25 (0, 0)) (by exact zl3_ BK162.out) hb)
              have n2_ := Aside0.mk (blk_below (g := gb165) (o := .cells #[.int .i64 t163, .int .u64 t164] 25 (0, 0)) (by exact zl3_ BK165.out) hb)
              have n3_ := Aside0.mk (below_step zb3_0 hb)
              clear BK161
              clear BK162
              clear BK165
              clear HB
              have BK161 := n0_
              have BK162 := n1_
              have BK165 := n2_
              have HB := n3_
              clear n0_ n1_ n2_ n3_
              (try clear hb)
              (try clear hb2)
              (try clear hk)
              (try clear hi)
              refine hK.out _ _ ⟨(blk_cell BK161.out 0).trans rfl, (blk_cell BK161.out 1).trans rfl, (blk_cell BK162.out 0).trans rfl, (blk_cell BK162.out 1).trans rfl, (blk_cell BK165.out 0).trans rfl, (blk_cell BK165.out 1).trans rfl⟩ (fun hHeld => ?_)
              clear hK K
              refine norm_ (a' := ?_) ?_ ?_
              rotate_left
              ·show Act.put _ (some 122) _ = _
               simp only [Act.put, List.setIfInBounds_toArray, List.set_cons_zero, List.set_cons_succ, i64_w, i32_w]
               rfl
              refine one_ (i := 95) (N := some 125) #[true, true, true, true, true, true, true, true, true, true, true, true, true, true, true, true, true, true, true, true, true, true, true, true, true, true, true, true, true, true, true, true, true, true, true, true, true, true, true, true, true, true, true, true, true, true, true, true, true, true, true, true, true, true, true, true, true, true, true, true, true, true, true, true, true, true, true, true, true, true, true, true, true, true, true, true, true, true, true, true, true, true, true, true, true, true, true, true, true, true, true, true, true, true, true, true, false, false, false, false, false, false, false, false, false, false, false, false] rfl rfl (one_of HT_.out (by kernel_rfl)) (by decide) (fun K hK => ?_)
              refine goes_ Tryd.func15 (by kernel_rfl) rfl #[.agg #[.int .i64 t159, .int .u64 t160], .agg #[.int .i64 t157, .int .u64 t158]] (by rfl) rfl rfl zb3_1 ?_
              with_reducible refine (low_Or.calls t159 t160 t157 t158 t210 t211 _ A49.out).mono ?_
              rintro e w92 ⟨rfl, hb⟩
              refine ⟨_, rfl, ?_⟩
              have n0_ := Aside0.mk (blk_below (g := gb161) (o := .cells #[.int .i64 t157, .int .u64 t158] 25 (0, 0)) (by exact zl3_ BK161.out) hb)
              have n1_ := Aside0.mk (blk_below (g := gb162) (o := .cells #[.int .i64 t159, .int .u64 t160] 25 (0, 0)) (by exact zl3_ BK162.out) hb)
              have n2_ := Aside0.mk (blk_below (g := gb165) (o := .cells #[.int .i64 t163, .int .u64 t164] 25 (0, 0)) (by exact zl3_ BK165.out) hb)
              have n3_ := Aside0.mk (below_step zb3_0 hb)
              clear BK161
              clear BK162
              clear BK165
              clear HB
              have BK161 := n0_
              have BK162 := n1_
              have BK165 := n2_
              have HB := n3_
              clear n0_ n1_ n2_ n3_
              (try clear hb)
              (try clear hb2)
              (try clear hk)
              (try clear hi)
              refine hK.out _ _ ⟨(blk_cell BK161.out 0).trans rfl, (blk_cell BK161.out 1).trans rfl, (blk_cell BK162.out 0).trans rfl, (blk_cell BK162.out 1).trans rfl, (blk_cell BK165.out 0).trans rfl, (blk_cell BK165.out 1).trans rfl⟩ (fun hHeld => ?_)
              clear hK K
              refine norm_ (a' := ?_) ?_ ?_
              rotate_left
              ·show Act.put _ (some 125) _ = _
               simp only [Act.put, List.setIfInBounds_toArray, List.set_cons_zero, List.set_cons_succ, i64_w, i32_w]
               rfl
              refine pure_ (i := 96) (N := some 126) (v := ?_) (a' := ?_) #[true, true, true, true, true, true, true, true, true, true, true, true, true, true, true, true, true, true, true, true, true, true, true, true, true, true, true, true, true, true, true, true, true, true, true, true, true, true, true, true, true, true, true, true, true, true, true, true, true, true, true, true, true, true, true, true, true, true, true, true, true, true, true, true, true, true, true, true, true, true, true, true, true, true, true, true, true, true, true, true, true, true, true, true, true, true, true, true, true, true, true, true, true, true, true, true, true, false, false, false, false, false, false, false, false, false, false, false] rfl rfl (any_of HT_.out (by kernel_rfl)) (fun _ _ _ h => h) (Or.inl ⟨by rfl, ?_⟩) ?_ ?_
              rotate_left
              ·intro w'
               go_simp
               with_reducible rfl
              rotate_left
              ·exact zp3_
              refine pure_ (i := 97) (N := some 127) (v := ?_) (a' := ?_) #[true, true, true, true, true, true, true, true, true, true, true, true, true, true, true, true, true, true, true, true, true, true, true, true, true, true, true, true, true, true, true, true, true, true, true, true, true, true, true, true, true, true, true, true, true, true, true, true, true, true, true, true, true, true, true, true, true, true, true, true, true, true, true, true, true, true, true, true, true, true, true, true, true, true, true, true, true, true, true, true, true, true, true, true, true, true, true, true, true, true, true, true, true, true, true, true, true, true, false, false, false, false, false, false, false, false, false, false] rfl rfl (any_of HT_.out (by kernel_rfl)) (fun _ _ _ h => h) (Or.inl ⟨by rfl, ?_⟩) ?_ ?_
              rotate_left
              ·intro w'
               go_simp
               with_reducible rfl
              rotate_left
              ·exact zp3_
              refine pure_ (i := 98) (N := some 128) (v := ?_) (a' := ?_) #[true, true, true, true, true, true, true, true, true, true, true, true, true, true, true, true, true, true, true, true, true, true, true, true, true, true, true, true, true, true, true, true, true, true, true, true, true, true, true, true, true, true, true, true, true, true, true, true, true, true, true, true, true, true, true, true, true, true, true, true, true, true, true, true, true, true, true, true, true, true, true, true, true, true, true, true, true, true, true, true, true, true, true, true, true, true, true, true, true, true, true, true, true, true, true, true, true, true, true, false, false, false, false, false, false, false, false, false] rfl rfl (any_of HT_.out (by kernel_rfl)) (fun _ _ _ h => h) (Or.inl ⟨by rfl, ?_⟩) ?_ ?_
              rotate_left
              ·intro w'
               go_simp
               with_reducible rfl
              rotate_left
              ·exact zp3_
              refine take_ (i := 99) (N := some 129) (v := ?_) (a' := ?_) #[true, true, true, true, true, true, true, true, true, true, true, true, true, true, true, true, true, true, true, true, true, true, true, true, true, true, true, true, true, true, true, true, true, true, true, true, true, true, true, true, true, true, true, true, true, true, true, true, true, true, true, true, true, true, true, true, true, true, true, true, true, true, true, true, true, true, true, true, true, true, true, true, true, true, true, true, true, true, true, true, true, true, true, true, true, true, true, true, true, true, true, true, true, true, true, true, true, true, true, true, false, false, false, false, false, false, false, false] rfl rfl (take_ofW HT_.out HW_.out (by kernel_rfl)) (fun _ _ _ h => h) (Or.inl ⟨by rfl, ?_⟩) hHeld ?_ ?_
              rotate_left
              ·rintro w' ⟨s0, s1, s2, s3, s4, s5⟩
               go_simp
               with_reducible rfl
              rotate_left
              ·exact zp3_
              refine take_ (i := 100) (N := some 130) (v := ?_) (a' := ?_) #[true, true, true, true, true, true, true, true, true, true, true, true, true, true, true, true, true, true, true, true, true, true, true, true, true, true, true, true, true, true, true, true, true, true, true, true, true, true, true, true, true, true, true, true, true, true, true, true, true, true, true, true, true, true, true, true, true, true, true, true, true, true, true, true, true, true, true, true, true, true, true, true, true, true, true, true, true, true, true, true, true, true, true, true, true, true, true, true, true, true, true, true, true, true, true, true, true, true, true, true, true, false, false, false, false, false, false, false] rfl rfl (take_ofW HT_.out HW_.out (by kernel_rfl)) (fun _ _ _ h => h) (Or.inl ⟨by rfl, ?_⟩) hHeld ?_ ?_
              rotate_left
              ·rintro w' ⟨s0, s1, s2, s3, s4, s5⟩
               go_simp
               with_reducible rfl
              rotate_left
              ·exact zp3_
              refine take_ (i := 102) (N := some 132) (v := ?_) (a' := ?_) #[true, true, true, true, true, true, true, true, true, true, true, true, true, true, true, true, true, true, true, true, true, true, true, true, true, true, true, true, true, true, true, true, true, true, true, true, true, true, true, true, true, true, true, true, true, true, true, true, true, true, true, true, true, true, true, true, true, true, true, true, true, true, true, true, true, true, true, true, true, true, true, true, true, true, true, true, true, true, true, true, true, true, true, true, true, true, true, true, true, true, true, true, true, true, true, true, true, true, true, true, true, false, true, false, false, false, false, false] rfl rfl (take_ofW HT_.out HW_.out (by kernel_rfl)) (fun _ _ _ h => h) (Or.inl ⟨by rfl, ?_⟩) hHeld ?_ ?_
              rotate_left
              ·rintro w' ⟨s0, s1, s2, s3, s4, s5⟩
               go_simp
               with_reducible rfl
              rotate_left
              ·exact zp3_
              refine take_ (i := 103) (N := some 133) (v := ?_) (a' := ?_) #[true, true, true, true, true, true, true, true, true, true, true, true, true, true, true, true, true, true, true, true, true, true, true, true, true, true, true, true, true, true, true, true, true, true, true, true, true, true, true, true, true, true, true, true, true, true, true, true, true, true, true, true, true, true, true, true, true, true, true, true, true, true, true, true, true, true, true, true, true, true, true, true, true, true, true, true, true, true, true, true, true, true, true, true, true, true, true, true, true, true, true, true, true, true, true, true, true, true, true, true, true, false, true, true, false, false, false, false] rfl rfl (take_ofW HT_.out HW_.out (by kernel_rfl)) (fun _ _ _ h => h) (Or.inl ⟨by rfl, ?_⟩) hHeld ?_ ?_
              rotate_left
              ·rintro w' ⟨s0, s1, s2, s3, s4, s5⟩
               go_simp
               with_reducible rfl
              rotate_left
              ·exact zp3_
              refine one_ (i := 101) (N := some 131) #[true, true, true, true, true, true, true, true, true, true, true, true, true, true, true, true, true, true, true, true, true, true, true, true, true, true, true, true, true, true, true, true, true, true, true, true, true, true, true, true, true, true, true, true, true, true, true, true, true, true, true, true, true, true, true, true, true, true, true, true, true, true, true, true, true, true, true, true, true, true, true, true, true, true, true, true, true, true, true, true, true, true, true, true, true, true, true, true, true, true, true, true, true, true, true, true, true, true, true, true, true, true, true, true, false, false, false, false] rfl rfl (one_of HT_.out (by kernel_rfl)) (by decide) (fun K hK => ?_)
              refine goes_ Tryd.func16 (by kernel_rfl) rfl #[.agg #[.int .i64 t157, .int .u64 t158], .agg #[.int .i64 t159, .int .u64 t160]] (by rfl) rfl rfl zb3_1 ?_
              with_reducible refine (low_Xor.calls t157 t158 t159 t160 t212 t213 _ A51.out).mono ?_
              rintro e w93 ⟨rfl, hb⟩
              refine ⟨_, rfl, ?_⟩
              have n0_ := Aside0.mk (blk_below (g := gb161) (o := .cells #[.int .i64 t157, .int .u64 t158] 25 (0, 0)) (by exact zl3_ BK161.out) hb)
              have n1_ := Aside0.mk (blk_below (g := gb162) (o := .cells #[.int .i64 t159, .int .u64 t160] 25 (0, 0)) (by exact zl3_ BK162.out) hb)
              have n2_ := Aside0.mk (blk_below (g := gb165) (o := .cells #[.int .i64 t163, .int .u64 t164] 25 (0, 0)) (by exact zl3_ BK165.out) hb)
              have n3_ := Aside0.mk (below_step zb3_0 hb)
              clear BK161
              clear BK162
              clear BK165
              clear HB
              have BK161 := n0_
              have BK162 := n1_
              have BK165 := n2_
              have HB := n3_
              clear n0_ n1_ n2_ n3_
              (try clear hb)
              (try clear hb2)
              (try clear hk)
              (try clear hi)
              refine hK.out _ _ ⟨(blk_cell BK161.out 0).trans rfl, (blk_cell BK161.out 1).trans rfl, (blk_cell BK162.out 0).trans rfl, (blk_cell BK162.out 1).trans rfl, (blk_cell BK165.out 0).trans rfl, (blk_cell BK165.out 1).trans rfl⟩ (fun hHeld => ?_)
              clear hK K
              refine norm_ (a' := ?_) ?_ ?_
              rotate_left
              ·show Act.put _ (some 131) _ = _
               simp only [Act.put, List.setIfInBounds_toArray, List.set_cons_zero, List.set_cons_succ, i64_w, i32_w]
               rfl
              refine one_ (i := 104) (N := some 134) #[true, true, true, true, true, true, true, true, true, true, true, true, true, true, true, true, true, true, true, true, true, true, true, true, true, true, true, true, true, true, true, true, true, true, true, true, true, true, true, true, true, true, true, true, true, true, true, true, true, true, true, true, true, true, true, true, true, true, true, true, true, true, true, true, true, true, true, true, true, true, true, true, true, true, true, true, true, true, true, true, true, true, true, true, true, true, true, true, true, true, true, true, true, true, true, true, true, true, true, true, true, true, true, true, true, false, false, false] rfl rfl (one_of HT_.out (by kernel_rfl)) (by decide) (fun K hK => ?_)
              refine goes_ Tryd.func16 (by kernel_rfl) rfl #[.agg #[.int .i64 t159, .int .u64 t160], .agg #[.int .i64 t157, .int .u64 t158]] (by rfl) rfl rfl zb3_1 ?_
              with_reducible refine (low_Xor.calls t159 t160 t157 t158 t214 t215 _ A52.out).mono ?_
              rintro e w94 ⟨rfl, hb⟩
              refine ⟨_, rfl, ?_⟩
              have n0_ := Aside0.mk (blk_below (g := gb161) (o := .cells #[.int .i64 t157, .int .u64 t158] 25 (0, 0)) (by exact zl3_ BK161.out) hb)
              have n1_ := Aside0.mk (blk_below (g := gb162) (o := .cells #[.int .i64 t159, .int .u64 t160] 25 (0, 0)) (by exact zl3_ BK162.out) hb)
              have n2_ := Aside0.mk (blk_below (g := gb165) (o := .cells #[.int .i64 t163, .int .u64 t164] 25 (0, 0)) (by exact zl3_ BK165.out) hb)
              have n3_ := Aside0.mk (below_step zb3_0 hb)
              clear BK161
              clear BK162
              clear BK165
              clear HB
              have BK161 := n0_
              have BK162 := n1_
              have BK165 := n2_
              have HB := n3_
              clear n0_ n1_ n2_ n3_
              (try clear hb)
              (try clear hb2)
              (try clear hk)
              (try clear hi)
              refine hK.out _ _ ⟨(blk_cell BK161.out 0).trans rfl, (blk_cell BK161.out 1).trans rfl, (blk_cell BK162.out 0).trans rfl, (blk_cell BK162.out 1).trans rfl, (blk_cell BK165.out 0).trans rfl, (blk_cell BK165.out 1).trans rfl⟩ (fun hHeld => ?_)
              clear hK K
              refine norm_ (a' := ?_) ?_ ?_
              rotate_left
              ·show Act.put _ (some 134) _ = _
               simp only [Act.put, List.setIfInBounds_toArray, List.set_cons_zero, List.set_cons_succ, i64_w, i32_w]
               rfl
              refine pure_ (i := 105) (N := some 135) (v := ?_) (a' := ?_) #[true, true, true, true, true, true, true, true, true, true, true, true, true, true, true, true, true, true, true, true, true, true, true, true, true, true, true, true, true, true, true, true, true, true, true, true, true, true, true, true, true, true, true, true, true, true, true, true, true, true, true, true, true, true, true, true, true, true, true, true, true, true, true, true, true, true, true, true, true, true, true, true, true, true, true, true, true, true, true, true, true, true, true, true, true, true, true, true, true, true, true, true, true, true, true, true, true, true, true, true, true, true, true, true, true, true, false, false] rfl rfl (any_of HT_.out (by kernel_rfl)) (fun _ _ _ h => h) (Or.inl ⟨by rfl, ?_⟩) ?_ ?_
              rotate_left
              ·intro w'
               go_simp
               with_reducible rfl
              rotate_left
              ·exact zp3_
              refine pure_ (i := 106) (N := some 136) (v := ?_) (a' := ?_) #[true, true, true, true, true, true, true, true, true, true, true, true, true, true, true, true, true, true, true, true, true, true, true, true, true, true, true, true, true, true, true, true, true, true, true, true, true, true, true, true, true, true, true, true, true, true, true, true, true, true, true, true, true, true, true, true, true, true, true, true, true, true, true, true, true, true, true, true, true, true, true, true, true, true, true, true, true, true, true, true, true, true, true, true, true, true, true, true, true, true, true, true, true, true, true, true, true, true, true, true, true, true, true, true, true, true, true, false] rfl rfl (any_of HT_.out (by kernel_rfl)) (fun _ _ _ h => h) (Or.inl ⟨by rfl, ?_⟩) ?_ ?_
              rotate_left
              ·intro w'
               go_simp
               with_reducible rfl
              rotate_left
              ·exact zp3_
              refine pure_ (i := 107) (N := some 12) (v := ?_) (a' := ?_) #[true, true, true, true, true, true, true, true, true, true, true, true, true, true, true, true, true, true, true, true, true, true, true, true, true, true, true, true, true, true, true, true, true, true, true, true, true, true, true, true, true, true, true, true, true, true, true, true, true, true, true, true, true, true, true, true, true, true, true, true, true, true, true, true, true, true, true, true, true, true, true, true, true, true, true, true, true, true, true, true, true, true, true, true, true, true, true, true, true, true, true, true, true, true, true, true, true, true, true, true, true, true, true, true, true, true, true, true] rfl rfl (any_of HT_.out (by kernel_rfl)) (fun _ _ _ h => h) (Or.inl ⟨by rfl, ?_⟩) ?_ ?_
              rotate_left
              ·intro w'
               go_simp
               with_reducible rfl
              rotate_left
              ·exact zp3_
              refine done_ (done_of HT_.out (by kernel_rfl)) ?_
              try go_wp2
              go_ret
              exact ⟨by first | rfl | (simp [errW_none, errW_some] <;> rfl) | (simp [*, errW_none, errW_some] <;> rfl), by repeat (first | (with_reducible first | exact HB.out | apply below_alloc | apply pw_below_drewN | apply below_drew1 | refine below_set ?_ GE161.out | refine below_set ?_ GE162.out | refine below_set ?_ GE165.out) | exact HB.out)⟩
             ·rw [if_neg c50] at H
              have c50b0 : (t208 == t210 && (t209 == t211)) = false := by simpa using c50
              (try (have c50b1 : decide (t208 = t210 && (t209 == t211)) = false := by simpa using c50))
              (try (have c50b2 : (t208 == t210 && (t209 == t211)) = false := by simpa using c50))
              (try (have c50b3 : ¬ (t208 = t210 && (t209 == t211)) := by simpa using c50))
              clear c50
              exact absurd (Option.some.inj H) (by rw [hr]; decide)
            ·rw [if_neg c47] at H
             have c47b0 : (t204 == t206 && (t205 == t207)) = false := by simpa using c47
             (try (have c47b1 : decide (t204 = t206 && (t205 == t207)) = false := by simpa using c47))
             (try (have c47b2 : (t204 == t206 && (t205 == t207)) = false := by simpa using c47))
             (try (have c47b3 : ¬ (t204 = t206 && (t205 == t207)) := by simpa using c47))
             clear c47
             exact absurd (Option.some.inj H) (by rw [hr]; decide)
           ·rw [if_neg c44] at H
            have c44b0 : (t200 == t202 && (t201 == t203)) = false := by simpa using c44
            (try (have c44b1 : decide (t200 = t202 && (t201 == t203)) = false := by simpa using c44))
            (try (have c44b2 : (t200 == t202 && (t201 == t203)) = false := by simpa using c44))
            (try (have c44b3 : ¬ (t200 = t202 && (t201 == t203)) := by simpa using c44))
            clear c44
            exact absurd (Option.some.inj H) (by rw [hr]; decide)
          ·rw [if_neg c41] at H
           have c41b0 : (t196 == t198 && (t197 == t199)) = false := by simpa using c41
           (try (have c41b1 : decide (t196 = t198 && (t197 == t199)) = false := by simpa using c41))
           (try (have c41b2 : (t196 == t198 && (t197 == t199)) = false := by simpa using c41))
           (try (have c41b3 : ¬ (t196 = t198 && (t197 == t199)) := by simpa using c41))
           clear c41
           exact absurd (Option.some.inj H) (by rw [hr]; decide)
         ·replace c38 := Bool.eq_false_iff.mpr c38
          subst c38
          have H1 : (some false) = some r := by rw [if_neg (show ¬ (false = true) by decide)] at H; exact H
          clear H
          have H := H1
          clear H1
          exact absurd (Option.some.inj H) (by rw [hr]; decide)
        ·replace c34 := Bool.eq_false_iff.mpr c34
         subst c34
         have H1 : (some false) = some r := by rw [if_neg (show ¬ (false = true) by decide)] at H; exact H
         clear H
         have H := H1
         clear H1
         exact absurd (Option.some.inj H) (by rw [hr]; decide)
       ·replace c30 := Bool.eq_false_iff.mpr c30
        subst c30
        have H1 : (some false) = some r := by rw [if_neg (show ¬ (false = true) by decide)] at H; exact H
        clear H
        have H := H1
        clear H1
        exact absurd (Option.some.inj H) (by rw [hr]; decide)
      ·replace c26 := Bool.eq_false_iff.mpr c26
       subst c26
       have H1 : (some false) = some r := by rw [if_neg (show ¬ (false = true) by decide)] at H; exact H
       clear H
       have H := H1
       clear H1
       exact absurd (Option.some.inj H) (by rw [hr]; decide)
     ·replace c22 := Bool.eq_false_iff.mpr c22
      subst c22
      have H1 : (some false) = some r := by rw [if_neg (show ¬ (false = true) by decide)] at H; exact H
      clear H
      have H := H1
      clear H1
      exact absurd (Option.some.inj H) (by rw [hr]; decide)
    ·replace c18 := Bool.eq_false_iff.mpr c18
     subst c18
     have H1 : (some false) = some r := by rw [if_neg (show ¬ (false = true) by decide)] at H; exact H
     clear H
     have H := H1
     clear H1
     exact absurd (Option.some.inj H) (by rw [hr]; decide)
 ·replace c8 := Bool.eq_false_iff.mpr c8
  subst c8
  have H1 : (some false) = some r := by rw [if_neg (show ¬ (false = true) by decide)] at H; exact H
  clear H
  have H := H1
  clear H1
  exact absurd (Option.some.inj H) (by rw [hr]; decide)

end Go.Proofs.YtfhmhoefeokihaaDoor.PLowGrows
