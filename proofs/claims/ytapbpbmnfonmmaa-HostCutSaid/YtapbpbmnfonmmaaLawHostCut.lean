/-
  HostCut: for every input the law returns true, and each argument reads behind the call as it read before. No condition. The code is carried out as its tree of tests tells (Vx, XHostCut); the plain law is YHostCut.
-/
import Derived.Test.YtapbpbmnfonmmaaRows
import Derived.Test.YtapbpbmnfonmmaaYHostCut
import Derived.Test.YtapbpbmnfonmmaaVr
import Derived.WalkKit
import Derived.ProofKit
import Derived.OpenShut
import Derived.ShutString
import Derived.ChangeOld
import Derived.Below
import Derived.SizedLaws
namespace Go.Proofs.Ytapbpbmnfonmmaa.LHostCut
open Go.ChangeShapes Go.WideShapes Go.ChangeAt Go.RowKit
open Go.ChangeMaps (open_string shut_string)
open Go.Proofs.Ytapbpbmnfonmmaa.Vx (bytesD)
set_option linter.unusedVariables false
theorem own : ownKnob Try.prog.godebug = none := by kernel_rfl
theorem laidOut : laidOutB Try.prog = true := by kernel_rfl
set_option maxRecDepth 100000 in
theorem lifted (os : Os) (started : os.Started) (H : Type) (enc : TypeId × Value → H) :
    ReturnsInHanded {} Try.checked os 4 .any (Rows.hostCutSpec.pre6 enc Try.prog Try.f4 Rows.hostCutRow.domain false) (Rows.hostCutSpec.post enc Try.prog Try.f4 false true false false) := by
  refine returnsInHanded_of_change_sized (C := Try.checked) own started (by kernel_rfl) Try.func4
    (ChangeSpec.witness6 (enc := enc) (C := Try.checked) false ⟨#[], #[.agg #[.bool false, .bool false, .slice none 0 0, .int .i64 0, .slice none 0 0], .agg #[.slice none 0 0, .int .i64 0, .slice none 0 0, .slice none 0 0, .slice none 0 0, .slice none 0 0]], []⟩ 8 (by kernel_rfl) (by kernel_rfl) (by kernel_rfl) (by kernel_rfl)) ?_
  intro W base args ds gs before hval0 hW hcnd hsz0 _
  have hval : ∀ (j : Nat) t v, Try.f4.params[j]? = some t → args[j]? = some v → Value.okWide Try.prog W .any base t v := hval0
  have hW' := hW
  obtain ⟨p, q, hA0, hV, rfl, hfz, hnd⟩ := hW
  have hA : DataW.TrodAll enc Try.prog W 0 (fun _ => true) true Try.f4.params.toList args.toList ds p := hA0
  rw [Try.params4] at hA hval
  obtain ⟨v0, vs0, d0, ds0, p0, q0, hargs, rfl, rfl, h0, r0⟩ := trodAll_cons hA
  obtain ⟨v1, vs1, d1, ds1, p1, q1, rfl, rfl, rfl, h1, r1⟩ := trodAll_cons r0
  obtain ⟨rfl, rfl, rfl⟩ := trodAll_nil r1
  obtain rfl : args = #[v0, v1] := by cases args; simp_all
  obtain ⟨rfl, rfl⟩ := trodVars_none hV
  obtain ⟨cs0, rfl, _⟩ := okWide_struct Try.underlying28 (hval 0 28 v0 rfl rfl)
  have k0 := h0
  have lt0 : ∀ x ∈ p0, x.block < W.heap.size := by obtain ⟨m, hm⟩ := k0; exact DataW.trod_lt m _ _ _ hm
  obtain ⟨fu0, hf0⟩ := h0
  obtain ⟨ds0_, hc0, hw0⟩ := Vr.reads 9 28 [.b, .b, .sl [(.i .u64)], .i .i64, .sl [(.i .u8)]] (by kernel_rfl) _ _ _ hf0
  simp only [Vr.CT.wfL] at hw0
  obtain ⟨u0_0, ul0_0, d0_0, dl0_0, he0_0, hd0_0, hr0_0, hc0⟩ := hc0
  obtain ⟨u0_1, ul0_1, d0_1, dl0_1, he0_1, hd0_1, hr0_1, hc0⟩ := hc0
  obtain ⟨u0_2, ul0_2, d0_2, dl0_2, he0_2, hd0_2, hr0_2, hc0⟩ := hc0
  obtain ⟨u0_3, ul0_3, d0_3, dl0_3, he0_3, hd0_3, hr0_3, hc0⟩ := hc0
  obtain ⟨u0_4, ul0_4, d0_4, dl0_4, he0_4, hd0_4, hr0_4, hc0⟩ := hc0
  obtain ⟨he0_5, hd0_5⟩ := hc0
  obtain ⟨f0_0, fl0_0, hg0_0, hw0_0, hw0⟩ := hw0
  obtain ⟨f0_1, fl0_1, hg0_1, hw0_1, hw0⟩ := hw0
  obtain ⟨f0_2, fl0_2, hg0_2, hw0_2, hw0⟩ := hw0
  obtain ⟨f0_3, fl0_3, hg0_3, hw0_3, hw0⟩ := hw0
  obtain ⟨f0_4, fl0_4, hg0_4, hw0_4, hw0⟩ := hw0
  have hp0_0 := hd0_0.symm.trans hg0_0
  obtain ⟨ha0_0, hq0_0⟩ := List.cons.inj hp0_0
  rw [← ha0_0] at hw0_0
  have hp0_1 := (hd0_1.symm.trans hq0_0).trans hg0_1
  obtain ⟨ha0_1, hq0_1⟩ := List.cons.inj hp0_1
  rw [← ha0_1] at hw0_1
  have hp0_2 := (hd0_2.symm.trans hq0_1).trans hg0_2
  obtain ⟨ha0_2, hq0_2⟩ := List.cons.inj hp0_2
  rw [← ha0_2] at hw0_2
  have hp0_3 := (hd0_3.symm.trans hq0_2).trans hg0_3
  obtain ⟨ha0_3, hq0_3⟩ := List.cons.inj hp0_3
  rw [← ha0_3] at hw0_3
  have hp0_4 := (hd0_4.symm.trans hq0_3).trans hg0_4
  obtain ⟨ha0_4, hq0_4⟩ := List.cons.inj hp0_4
  rw [← ha0_4] at hw0_4
  obtain ⟨a0_0, rfl⟩ := Vr.leaf_b hr0_0
  obtain ⟨a0_1, rfl⟩ := Vr.leaf_b hr0_1
  obtain ⟨A0_2, c0_2, l0_2, rfl, o0_2, w0_2⟩ := Vr.leaf_sl hr0_2 hw0_2
  obtain ⟨a0_3, rfl, w0_3⟩ := Vr.leaf_i hr0_3 hw0_3
  obtain ⟨A0_4, c0_4, l0_4, rfl, o0_4, w0_4⟩ := Vr.leaf_sl hr0_4 hw0_4
  rw [he0_1] at he0_0
  rw [he0_2] at he0_0
  rw [he0_3] at he0_0
  rw [he0_4] at he0_0
  rw [he0_5] at he0_0
  obtain rfl := Vr.agg_of he0_0
  obtain ⟨cs1, rfl, _⟩ := okWide_struct Try.underlying31 (hval 1 31 v1 rfl rfl)
  have k1 := h1
  have lt1 : ∀ x ∈ p1, x.block < W.heap.size := by obtain ⟨m, hm⟩ := k1; exact DataW.trod_lt m _ _ _ hm
  obtain ⟨fu1, hf1⟩ := h1
  obtain ⟨ds1_, hc1, hw1⟩ := Vr.reads 9 31 [.sl [(.i .u8)], .i .i64, .sl [(.i .i64)], .sl [(.i .u64)], .sl [.b], .sl [.b]] (by kernel_rfl) _ _ _ hf1
  simp only [Vr.CT.wfL] at hw1
  obtain ⟨u1_0, ul1_0, d1_0, dl1_0, he1_0, hd1_0, hr1_0, hc1⟩ := hc1
  obtain ⟨u1_1, ul1_1, d1_1, dl1_1, he1_1, hd1_1, hr1_1, hc1⟩ := hc1
  obtain ⟨u1_2, ul1_2, d1_2, dl1_2, he1_2, hd1_2, hr1_2, hc1⟩ := hc1
  obtain ⟨u1_3, ul1_3, d1_3, dl1_3, he1_3, hd1_3, hr1_3, hc1⟩ := hc1
  obtain ⟨u1_4, ul1_4, d1_4, dl1_4, he1_4, hd1_4, hr1_4, hc1⟩ := hc1
  obtain ⟨u1_5, ul1_5, d1_5, dl1_5, he1_5, hd1_5, hr1_5, hc1⟩ := hc1
  obtain ⟨he1_6, hd1_6⟩ := hc1
  obtain ⟨f1_0, fl1_0, hg1_0, hw1_0, hw1⟩ := hw1
  obtain ⟨f1_1, fl1_1, hg1_1, hw1_1, hw1⟩ := hw1
  obtain ⟨f1_2, fl1_2, hg1_2, hw1_2, hw1⟩ := hw1
  obtain ⟨f1_3, fl1_3, hg1_3, hw1_3, hw1⟩ := hw1
  obtain ⟨f1_4, fl1_4, hg1_4, hw1_4, hw1⟩ := hw1
  obtain ⟨f1_5, fl1_5, hg1_5, hw1_5, hw1⟩ := hw1
  have hp1_0 := hd1_0.symm.trans hg1_0
  obtain ⟨ha1_0, hq1_0⟩ := List.cons.inj hp1_0
  rw [← ha1_0] at hw1_0
  have hp1_1 := (hd1_1.symm.trans hq1_0).trans hg1_1
  obtain ⟨ha1_1, hq1_1⟩ := List.cons.inj hp1_1
  rw [← ha1_1] at hw1_1
  have hp1_2 := (hd1_2.symm.trans hq1_1).trans hg1_2
  obtain ⟨ha1_2, hq1_2⟩ := List.cons.inj hp1_2
  rw [← ha1_2] at hw1_2
  have hp1_3 := (hd1_3.symm.trans hq1_2).trans hg1_3
  obtain ⟨ha1_3, hq1_3⟩ := List.cons.inj hp1_3
  rw [← ha1_3] at hw1_3
  have hp1_4 := (hd1_4.symm.trans hq1_3).trans hg1_4
  obtain ⟨ha1_4, hq1_4⟩ := List.cons.inj hp1_4
  rw [← ha1_4] at hw1_4
  have hp1_5 := (hd1_5.symm.trans hq1_4).trans hg1_5
  obtain ⟨ha1_5, hq1_5⟩ := List.cons.inj hp1_5
  rw [← ha1_5] at hw1_5
  obtain ⟨A1_0, c1_0, l1_0, rfl, o1_0, w1_0⟩ := Vr.leaf_sl hr1_0 hw1_0
  obtain ⟨a1_1, rfl, w1_1⟩ := Vr.leaf_i hr1_1 hw1_1
  obtain ⟨A1_2, c1_2, l1_2, rfl, o1_2, w1_2⟩ := Vr.leaf_sl hr1_2 hw1_2
  obtain ⟨A1_3, c1_3, l1_3, rfl, o1_3, w1_3⟩ := Vr.leaf_sl hr1_3 hw1_3
  obtain ⟨A1_4, c1_4, l1_4, rfl, o1_4, w1_4⟩ := Vr.leaf_sl hr1_4 hw1_4
  obtain ⟨A1_5, c1_5, l1_5, rfl, o1_5, w1_5⟩ := Vr.leaf_sl hr1_5 hw1_5
  rw [he1_1] at he1_0
  rw [he1_2] at he1_0
  rw [he1_3] at he1_0
  rw [he1_4] at he1_0
  rw [he1_5] at he1_0
  rw [he1_6] at he1_0
  obtain rfl := Vr.agg_of he1_0
  clear hA0 hval0 hsz0
  have hp := YHostCut.law a0_3 a1_1 a0_0 a0_1 l0_2 l0_4 l1_0 l1_2 l1_3 l1_4 l1_5 w0_2 w0_3 w0_4 w1_0 w1_1 w1_2 w1_3 w1_4 w1_5
  have hc : Calls Try.prog 4 #[.agg #[.bool a0_0, .bool a0_1, .slice A0_2 l0_2.length c0_2, .int .i64 a0_3, .slice A0_4 l0_4.length c0_4], .agg #[.slice A1_0 l1_0.length c1_0, .int .i64 a1_1, .slice A1_2 l1_2.length c1_2, .slice A1_3 l1_3.length c1_3, .slice A1_4 l1_4.length c1_4, .slice A1_5 l1_5.length c1_5]] W fun e w' => e = .returned (.bool true) ∧ Below W.heap.size W w' := Vr.law_calls XHostCut.g4 rfl rfl rfl W trivial [a0_3, a1_1] [a0_0, a0_1] [l0_2, l0_4, l1_0, l1_2, l1_3, l1_4, l1_5] [.slice A0_2 l0_2.length c0_2, .slice A0_4 l0_4.length c0_4, .slice A1_0 l1_0.length c1_0, .slice A1_2 l1_2.length c1_2, .slice A1_3 l1_3.length c1_3, .slice A1_4 l1_4.length c1_4, .slice A1_5 l1_5.length c1_5] rfl rfl rfl rfl (Vr.OKs.ok (show Vr.OKs W _ _ _ from ⟨⟨of_decide_eq_true rfl, o0_2⟩, ⟨of_decide_eq_true rfl, o0_4⟩, ⟨of_decide_eq_true rfl, o1_0⟩, ⟨of_decide_eq_true rfl, o1_2⟩, ⟨of_decide_eq_true rfl, o1_3⟩, ⟨of_decide_eq_true rfl, o1_4⟩, ⟨of_decide_eq_true rfl, o1_5⟩, trivial⟩)) hp
  refine hc.mono fun e W' ⟨he, bel⟩ => ?_
  subst he
  exact ⟨_, rfl, _, _, _, [], _, [], hW', trodAll_mk1 (shut_bool Try.underlying4 _), (trodAll_cons_mk (Below.trod laidOut (by kernel_rfl) (of_decide_eq_true (by kernel_rfl)) k0 bel lt0) (trodAll_cons_mk (Below.trod laidOut (by kernel_rfl) (of_decide_eq_true (by kernel_rfl)) k1 bel lt1) trodAll_mk0)), rfl, bel.frame _, fun h => by cases h⟩
theorem over : Rows.hostCutRow.holds Try.pinned (OpenSpec.ofChange Rows.hostCutSpec) :=
  OpenClaim.holds_of_wide 4 Try.f4 rfl rfl rfl rfl rfl rfl rfl ⟨rfl, rfl, rfl, rfl, rfl⟩ rfl rfl rfl rfl rfl (by kernel_rfl) Try.func4 (by kernel_rfl)
    (of_decide_eq_true (by kernel_rfl)) (by unfold Func.isWrapper; first | (rw [if_pos (by decide +kernel)]; kernel_rfl) | (rw [if_neg (by decide +kernel)]; exact ⟨rfl, rfl⟩))
    (fun os started H enc _ => lifted os started H enc)
theorem proved : Rows.HostCutSaid := over
#print axioms proved
end Go.Proofs.Ytapbpbmnfonmmaa.LHostCut
namespace Go.Proofs.Ytapbpbmnfonmmaa
/-- The row, under a short name, for the claim. -/
theorem hostCut_holds : Rows.HostCutSaid := LHostCut.proved
end Go.Proofs.Ytapbpbmnfonmmaa
