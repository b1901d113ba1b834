/-
  CtxRight: for every input the law returns true, and each argument reads behind the call as it read before. No condition. The code is carried out as its tree of tests tells (Vx, XCtxRight); the plain law is YCtxRight.
-/
import Derived.Test.YtkpbcfkmkgddhaaRows
import Derived.Test.YtkpbcfkmkgddhaaYCtxRight
import Derived.Test.YtkpbcfkmkgddhaaVr
import Derived.WalkKit
import Derived.ProofKit
import Derived.OpenShut
import Derived.ShutString
import Derived.ChangeOld
import Derived.Below
import Derived.SizedLaws
namespace Go.Proofs.Ytkpbcfkmkgddhaa.LCtxRight
open Go.ChangeShapes Go.WideShapes Go.ChangeAt Go.RowKit
open Go.ChangeMaps (open_string shut_string)
open Go.Proofs.Ytkpbcfkmkgddhaa.Vx (bytesD)
set_option linter.unusedVariables false
theorem own : ownKnob Try.prog.godebug = none := by kernel_rfl
theorem laidOut : laidOutB Try.prog = true := by kernel_rfl
set_option maxRecDepth 100000 in
theorem lifted (os : Os) (started : os.Started) (H : Type) (enc : TypeId × Value → H) :
    ReturnsInHanded {} Try.checked os 3 .any (Rows.ctxRightSpec.pre6 enc Try.prog Try.f3 Rows.ctxRightRow.domain false) (Rows.ctxRightSpec.post enc Try.prog Try.f3 false true false false) := by
  refine returnsInHanded_of_change_sized (C := Try.checked) own started (by kernel_rfl) Try.func3
    (ChangeSpec.witness6 (enc := enc) (C := Try.checked) false ⟨#[], #[.agg #[.slice none 0 0, .slice none 0 0, .slice none 0 0, .slice none 0 0, .slice none 0 0, .slice none 0 0, .slice none 0 0, .slice none 0 0, .slice none 0 0, .slice none 0 0, .slice none 0 0, .slice none 0 0]], []⟩ 8 (by kernel_rfl) (by kernel_rfl) (by kernel_rfl) (by kernel_rfl)) ?_
  intro W base args ds gs before hval0 hW hcnd hsz0 _
  have hval : ∀ (j : Nat) t v, Try.f3.params[j]? = some t → args[j]? = some v → Value.okWide Try.prog W .any base t v := hval0
  have hW' := hW
  obtain ⟨p, q, hA0, hV, rfl, hfz, hnd⟩ := hW
  have hA : DataW.TrodAll enc Try.prog W 0 (fun _ => true) true Try.f3.params.toList args.toList ds p := hA0
  rw [Try.params3] at hA hval
  obtain ⟨v0, vs0, d0, ds0, p0, q0, hargs, rfl, rfl, h0, r0⟩ := trodAll_cons hA
  obtain ⟨rfl, rfl, rfl⟩ := trodAll_nil r0
  obtain rfl : args = #[v0] := by cases args; simp_all
  obtain ⟨rfl, rfl⟩ := trodVars_none hV
  obtain ⟨cs0, rfl, _⟩ := okWide_struct Try.underlying33 (hval 0 33 v0 rfl rfl)
  have k0 := h0
  have lt0 : ∀ x ∈ p0, x.block < W.heap.size := by obtain ⟨m, hm⟩ := k0; exact DataW.trod_lt m _ _ _ hm
  obtain ⟨fu0, hf0⟩ := h0
  obtain ⟨ds0_, hc0, hw0⟩ := Vr.reads 9 33 [.sl [(.sl [(.i .i64)]), (.sl [(.i .i64)])], .sl [.s, .s, (.i .i64), (.i .i64), (.i .i64), .b, (.i .i64), .b], .sl [(.i .i64), (.sl [(.i .i64)]), (.sl [(.i .i64), (.i .i64), (.i .i64), (.i .i64), (.sl [(.i .i64)])])], .sl [(.i .i64), .b, (.i .i64)], .sl [(.i .i64), .b, (.i .i64)], .sl [(.i .i64), .b, (.sl [(.i .i64), (.i .i64), (.i .i64), (.i .i64), (.sl [(.i .i64)])])], .sl [.s, (.i .i64), (.i .i64)], .sl [(.i .i64)], .sl [(.i .i64), (.sl [(.i .i64), (.i .i64), (.i .i64), (.i .i64), (.sl [(.i .i64)])]), (.sl [(.i .i64)])], .sl [(.i .i64)], .sl [(.i .i64), (.sl [(.i .i64), (.i .i64), (.i .i64), (.i .i64), (.sl [(.i .i64)])]), (.sl [(.i .u8)])], .sl [.s, (.sl [(.i .u8)])]] (by kernel_rfl) _ _ _ hf0 fun n hn => of_decide_eq_true (List.all_eq_true.1 hsz0 n (DataW.weights_mem_each (j := 0) rfl rfl n hn))
  simp only [Vr.CT.wfL] at hw0
  obtain ⟨u0_0, ul0_0, d0_0, dl0_0, he0_0, hd0_0, hr0_0, hc0⟩ := hc0
  obtain ⟨u0_1, ul0_1, d0_1, dl0_1, he0_1, hd0_1, hr0_1, hc0⟩ := hc0
  obtain ⟨u0_2, ul0_2, d0_2, dl0_2, he0_2, hd0_2, hr0_2, hc0⟩ := hc0
  obtain ⟨u0_3, ul0_3, d0_3, dl0_3, he0_3, hd0_3, hr0_3, hc0⟩ := hc0
  obtain ⟨u0_4, ul0_4, d0_4, dl0_4, he0_4, hd0_4, hr0_4, hc0⟩ := hc0
  obtain ⟨u0_5, ul0_5, d0_5, dl0_5, he0_5, hd0_5, hr0_5, hc0⟩ := hc0
  obtain ⟨u0_6, ul0_6, d0_6, dl0_6, he0_6, hd0_6, hr0_6, hc0⟩ := hc0
  obtain ⟨u0_7, ul0_7, d0_7, dl0_7, he0_7, hd0_7, hr0_7, hc0⟩ := hc0
  obtain ⟨u0_8, ul0_8, d0_8, dl0_8, he0_8, hd0_8, hr0_8, hc0⟩ := hc0
  obtain ⟨u0_9, ul0_9, d0_9, dl0_9, he0_9, hd0_9, hr0_9, hc0⟩ := hc0
  obtain ⟨u0_10, ul0_10, d0_10, dl0_10, he0_10, hd0_10, hr0_10, hc0⟩ := hc0
  obtain ⟨u0_11, ul0_11, d0_11, dl0_11, he0_11, hd0_11, hr0_11, hc0⟩ := hc0
  obtain ⟨he0_12, hd0_12⟩ := hc0
  obtain ⟨f0_0, fl0_0, hg0_0, hw0_0, hw0⟩ := hw0
  obtain ⟨f0_1, fl0_1, hg0_1, hw0_1, hw0⟩ := hw0
  obtain ⟨f0_2, fl0_2, hg0_2, hw0_2, hw0⟩ := hw0
  obtain ⟨f0_3, fl0_3, hg0_3, hw0_3, hw0⟩ := hw0
  obtain ⟨f0_4, fl0_4, hg0_4, hw0_4, hw0⟩ := hw0
  obtain ⟨f0_5, fl0_5, hg0_5, hw0_5, hw0⟩ := hw0
  obtain ⟨f0_6, fl0_6, hg0_6, hw0_6, hw0⟩ := hw0
  obtain ⟨f0_7, fl0_7, hg0_7, hw0_7, hw0⟩ := hw0
  obtain ⟨f0_8, fl0_8, hg0_8, hw0_8, hw0⟩ := hw0
  obtain ⟨f0_9, fl0_9, hg0_9, hw0_9, hw0⟩ := hw0
  obtain ⟨f0_10, fl0_10, hg0_10, hw0_10, hw0⟩ := hw0
  obtain ⟨f0_11, fl0_11, hg0_11, hw0_11, hw0⟩ := hw0
  have hp0_0 := hd0_0.symm.trans hg0_0
  obtain ⟨ha0_0, hq0_0⟩ := List.cons.inj hp0_0
  rw [← ha0_0] at hw0_0
  have hp0_1 := (hd0_1.symm.trans hq0_0).trans hg0_1
  obtain ⟨ha0_1, hq0_1⟩ := List.cons.inj hp0_1
  rw [← ha0_1] at hw0_1
  have hp0_2 := (hd0_2.symm.trans hq0_1).trans hg0_2
  obtain ⟨ha0_2, hq0_2⟩ := List.cons.inj hp0_2
  rw [← ha0_2] at hw0_2
  have hp0_3 := (hd0_3.symm.trans hq0_2).trans hg0_3
  obtain ⟨ha0_3, hq0_3⟩ := List.cons.inj hp0_3
  rw [← ha0_3] at hw0_3
  have hp0_4 := (hd0_4.symm.trans hq0_3).trans hg0_4
  obtain ⟨ha0_4, hq0_4⟩ := List.cons.inj hp0_4
  rw [← ha0_4] at hw0_4
  have hp0_5 := (hd0_5.symm.trans hq0_4).trans hg0_5
  obtain ⟨ha0_5, hq0_5⟩ := List.cons.inj hp0_5
  rw [← ha0_5] at hw0_5
  have hp0_6 := (hd0_6.symm.trans hq0_5).trans hg0_6
  obtain ⟨ha0_6, hq0_6⟩ := List.cons.inj hp0_6
  rw [← ha0_6] at hw0_6
  have hp0_7 := (hd0_7.symm.trans hq0_6).trans hg0_7
  obtain ⟨ha0_7, hq0_7⟩ := List.cons.inj hp0_7
  rw [← ha0_7] at hw0_7
  have hp0_8 := (hd0_8.symm.trans hq0_7).trans hg0_8
  obtain ⟨ha0_8, hq0_8⟩ := List.cons.inj hp0_8
  rw [← ha0_8] at hw0_8
  have hp0_9 := (hd0_9.symm.trans hq0_8).trans hg0_9
  obtain ⟨ha0_9, hq0_9⟩ := List.cons.inj hp0_9
  rw [← ha0_9] at hw0_9
  have hp0_10 := (hd0_10.symm.trans hq0_9).trans hg0_10
  obtain ⟨ha0_10, hq0_10⟩ := List.cons.inj hp0_10
  rw [← ha0_10] at hw0_10
  have hp0_11 := (hd0_11.symm.trans hq0_10).trans hg0_11
  obtain ⟨ha0_11, hq0_11⟩ := List.cons.inj hp0_11
  rw [← ha0_11] at hw0_11
  obtain ⟨A0_0, c0_0, l0_0, rfl, o0_0, w0_0⟩ := Vr.leaf_sl hr0_0 hw0_0
  obtain ⟨A0_1, c0_1, l0_1, rfl, o0_1, w0_1⟩ := Vr.leaf_sl hr0_1 hw0_1
  obtain ⟨A0_2, c0_2, l0_2, rfl, o0_2, w0_2⟩ := Vr.leaf_sl hr0_2 hw0_2
  obtain ⟨A0_3, c0_3, l0_3, rfl, o0_3, w0_3⟩ := Vr.leaf_sl hr0_3 hw0_3
  obtain ⟨A0_4, c0_4, l0_4, rfl, o0_4, w0_4⟩ := Vr.leaf_sl hr0_4 hw0_4
  obtain ⟨A0_5, c0_5, l0_5, rfl, o0_5, w0_5⟩ := Vr.leaf_sl hr0_5 hw0_5
  obtain ⟨A0_6, c0_6, l0_6, rfl, o0_6, w0_6⟩ := Vr.leaf_sl hr0_6 hw0_6
  obtain ⟨A0_7, c0_7, l0_7, rfl, o0_7, w0_7⟩ := Vr.leaf_sl hr0_7 hw0_7
  obtain ⟨A0_8, c0_8, l0_8, rfl, o0_8, w0_8⟩ := Vr.leaf_sl hr0_8 hw0_8
  obtain ⟨A0_9, c0_9, l0_9, rfl, o0_9, w0_9⟩ := Vr.leaf_sl hr0_9 hw0_9
  obtain ⟨A0_10, c0_10, l0_10, rfl, o0_10, w0_10⟩ := Vr.leaf_sl hr0_10 hw0_10
  obtain ⟨A0_11, c0_11, l0_11, rfl, o0_11, w0_11⟩ := Vr.leaf_sl hr0_11 hw0_11
  rw [he0_1] at he0_0
  rw [he0_2] at he0_0
  rw [he0_3] at he0_0
  rw [he0_4] at he0_0
  rw [he0_5] at he0_0
  rw [he0_6] at he0_0
  rw [he0_7] at he0_0
  rw [he0_8] at he0_0
  rw [he0_9] at he0_0
  rw [he0_10] at he0_0
  rw [he0_11] at he0_0
  rw [he0_12] at he0_0
  obtain rfl := Vr.agg_of he0_0
  clear hA0 hval0 hsz0
  have hp := YCtxRight.law l0_0 l0_1 l0_2 l0_3 l0_4 l0_5 l0_6 l0_7 l0_8 l0_9 l0_10 l0_11 w0_0 w0_1 w0_2 w0_3 w0_4 w0_5 w0_6 w0_7 w0_8 w0_9 w0_10 w0_11
  have hc : Calls Try.prog 3 #[.agg #[.slice A0_0 l0_0.length c0_0, .slice A0_1 l0_1.length c0_1, .slice A0_2 l0_2.length c0_2, .slice A0_3 l0_3.length c0_3, .slice A0_4 l0_4.length c0_4, .slice A0_5 l0_5.length c0_5, .slice A0_6 l0_6.length c0_6, .slice A0_7 l0_7.length c0_7, .slice A0_8 l0_8.length c0_8, .slice A0_9 l0_9.length c0_9, .slice A0_10 l0_10.length c0_10, .slice A0_11 l0_11.length c0_11]] W fun e w' => e = .returned (.bool true) ∧ Below W.heap.size W w' := Vr.law_calls XCtxRight.g3 rfl rfl rfl W trivial [] [] [l0_0, l0_1, l0_2, l0_3, l0_4, l0_5, l0_6, l0_7, l0_8, l0_9, l0_10, l0_11] [.slice A0_0 l0_0.length c0_0, .slice A0_1 l0_1.length c0_1, .slice A0_2 l0_2.length c0_2, .slice A0_3 l0_3.length c0_3, .slice A0_4 l0_4.length c0_4, .slice A0_5 l0_5.length c0_5, .slice A0_6 l0_6.length c0_6, .slice A0_7 l0_7.length c0_7, .slice A0_8 l0_8.length c0_8, .slice A0_9 l0_9.length c0_9, .slice A0_10 l0_10.length c0_10, .slice A0_11 l0_11.length c0_11] rfl rfl rfl rfl (Vr.OKs.ok (show Vr.OKs W _ _ _ from ⟨⟨of_decide_eq_true rfl, o0_0⟩, ⟨of_decide_eq_true rfl, o0_1⟩, ⟨of_decide_eq_true rfl, o0_2⟩, ⟨of_decide_eq_true rfl, o0_3⟩, ⟨of_decide_eq_true rfl, o0_4⟩, ⟨of_decide_eq_true rfl, o0_5⟩, ⟨of_decide_eq_true rfl, o0_6⟩, ⟨of_decide_eq_true rfl, o0_7⟩, ⟨of_decide_eq_true rfl, o0_8⟩, ⟨of_decide_eq_true rfl, o0_9⟩, ⟨of_decide_eq_true rfl, o0_10⟩, ⟨of_decide_eq_true rfl, o0_11⟩, trivial⟩)) hp
  refine hc.mono fun e W' ⟨he, bel⟩ => ?_
  subst he
  exact ⟨_, rfl, _, _, _, [], _, [], hW', trodAll_mk1 (shut_bool Try.underlying4 _), (trodAll_cons_mk (Below.trod laidOut (by kernel_rfl) (of_decide_eq_true (by kernel_rfl)) k0 bel lt0) trodAll_mk0), rfl, bel.frame _, fun h => by cases h⟩
theorem over : Rows.ctxRightRow.holds Try.pinned (OpenSpec.ofChange Rows.ctxRightSpec) :=
  OpenClaim.holds_of_wide 3 Try.f3 rfl rfl rfl rfl rfl rfl rfl ⟨rfl, rfl, rfl, rfl, rfl⟩ rfl rfl rfl rfl rfl (by kernel_rfl) Try.func3 (by kernel_rfl)
    (of_decide_eq_true (by kernel_rfl)) (by unfold Func.isWrapper; first | (rw [if_pos (by decide +kernel)]; kernel_rfl) | (rw [if_neg (by decide +kernel)]; exact ⟨rfl, rfl⟩))
    (fun os started H enc _ => lifted os started H enc)
theorem proved : Rows.CtxRightSaid := over
#print axioms proved
end Go.Proofs.Ytkpbcfkmkgddhaa.LCtxRight
namespace Go.Proofs.Ytkpbcfkmkgddhaa
/-- The row, under a short name, for the claim. -/
theorem ctxRight_holds : Rows.CtxRightSaid := LCtxRight.proved
end Go.Proofs.Ytkpbcfkmkgddhaa
