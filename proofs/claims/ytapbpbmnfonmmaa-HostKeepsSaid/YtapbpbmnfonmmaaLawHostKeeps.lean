/-
  HostKeeps: for every input the law returns true, and each argument reads behind the call as it read before. No condition. The code is carried out as its tree of tests tells (Vx, XHostKeeps); the plain law is YHostKeeps.
-/
import Derived.Test.YtapbpbmnfonmmaaRows
import Derived.Test.YtapbpbmnfonmmaaYHostKeeps
import Derived.Test.YtapbpbmnfonmmaaVr
import Derived.WalkKit
import Derived.ProofKit
import Derived.OpenShut
import Derived.ShutString
import Derived.ChangeOld
import Derived.Below
import Derived.SizedLaws
namespace Go.Proofs.Ytapbpbmnfonmmaa.LHostKeeps
open Go.ChangeShapes Go.WideShapes Go.ChangeAt Go.RowKit
open Go.ChangeMaps (open_string shut_string)
open Go.Proofs.Ytapbpbmnfonmmaa.Vx (bytesD)
set_option linter.unusedVariables false
theorem own : ownKnob Try.prog.godebug = none := by kernel_rfl
theorem laidOut : laidOutB Try.prog = true := by kernel_rfl
set_option maxRecDepth 100000 in
theorem lifted (os : Os) (started : os.Started) (H : Type) (enc : TypeId × Value → H) :
    ReturnsInHanded {} Try.checked os 3 .any (Rows.hostKeepsSpec.pre6 enc Try.prog Try.f3 Rows.hostKeepsRow.domain false) (Rows.hostKeepsSpec.post enc Try.prog Try.f3 false true false false) := by
  refine returnsInHanded_of_change_sized (C := Try.checked) own started (by kernel_rfl) Try.func3
    (ChangeSpec.witness6 (enc := enc) (C := Try.checked) false ⟨#[], #[.agg #[.slice none 0 0, .slice none 0 0], .agg #[.bool false, .bool false, .slice none 0 0, .int .i64 0, .slice none 0 0], .agg #[.slice none 0 0, .int .i64 0, .slice none 0 0, .slice none 0 0, .slice none 0 0, .slice none 0 0]], []⟩ 8 (by kernel_rfl) (by kernel_rfl) (by kernel_rfl) (by kernel_rfl)) ?_
  intro W base args ds gs before hval0 hW hcnd hsz0 _
  have hval : ∀ (j : Nat) t v, Try.f3.params[j]? = some t → args[j]? = some v → Value.okWide Try.prog W .any base t v := hval0
  have hW' := hW
  obtain ⟨p, q, hA0, hV, rfl, hfz, hnd⟩ := hW
  have hA : DataW.TrodAll enc Try.prog W 0 (fun _ => true) true Try.f3.params.toList args.toList ds p := hA0
  rw [Try.params3] at hA hval
  obtain ⟨v0, vs0, d0, ds0, p0, q0, hargs, rfl, rfl, h0, r0⟩ := trodAll_cons hA
  obtain ⟨v1, vs1, d1, ds1, p1, q1, rfl, rfl, rfl, h1, r1⟩ := trodAll_cons r0
  obtain ⟨v2, vs2, d2, ds2, p2, q2, rfl, rfl, rfl, h2, r2⟩ := trodAll_cons r1
  obtain ⟨rfl, rfl, rfl⟩ := trodAll_nil r2
  obtain rfl : args = #[v0, v1, v2] := by cases args; simp_all
  obtain ⟨rfl, rfl⟩ := trodVars_none hV
  obtain ⟨cs0, rfl, _⟩ := okWide_struct Try.underlying24 (hval 0 24 v0 rfl rfl)
  have k0 := h0
  have lt0 : ∀ x ∈ p0, x.block < W.heap.size := by obtain ⟨m, hm⟩ := k0; exact DataW.trod_lt m _ _ _ hm
  obtain ⟨fu0, hf0⟩ := h0
  obtain ⟨ds0_, hc0, hw0⟩ := Vr.reads 9 24 [.sl [(.i .i64)], .sl [(.i .i64)]] (by kernel_rfl) _ _ _ hf0
  simp only [Vr.CT.wfL] at hw0
  obtain ⟨u0_0, ul0_0, d0_0, dl0_0, he0_0, hd0_0, hr0_0, hc0⟩ := hc0
  obtain ⟨u0_1, ul0_1, d0_1, dl0_1, he0_1, hd0_1, hr0_1, hc0⟩ := hc0
  obtain ⟨he0_2, hd0_2⟩ := hc0
  obtain ⟨f0_0, fl0_0, hg0_0, hw0_0, hw0⟩ := hw0
  obtain ⟨f0_1, fl0_1, hg0_1, hw0_1, hw0⟩ := hw0
  have hp0_0 := hd0_0.symm.trans hg0_0
  obtain ⟨ha0_0, hq0_0⟩ := List.cons.inj hp0_0
  rw [← ha0_0] at hw0_0
  have hp0_1 := (hd0_1.symm.trans hq0_0).trans hg0_1
  obtain ⟨ha0_1, hq0_1⟩ := List.cons.inj hp0_1
  rw [← ha0_1] at hw0_1
  obtain ⟨A0_0, c0_0, l0_0, rfl, o0_0, w0_0⟩ := Vr.leaf_sl hr0_0 hw0_0
  obtain ⟨A0_1, c0_1, l0_1, rfl, o0_1, w0_1⟩ := Vr.leaf_sl hr0_1 hw0_1
  rw [he0_1] at he0_0
  rw [he0_2] at he0_0
  obtain rfl := Vr.agg_of he0_0
  obtain ⟨cs1, rfl, _⟩ := okWide_struct Try.underlying28 (hval 1 28 v1 rfl rfl)
  have k1 := h1
  have lt1 : ∀ x ∈ p1, x.block < W.heap.size := by obtain ⟨m, hm⟩ := k1; exact DataW.trod_lt m _ _ _ hm
  obtain ⟨fu1, hf1⟩ := h1
  obtain ⟨ds1_, hc1, hw1⟩ := Vr.reads 9 28 [.b, .b, .sl [(.i .u64)], .i .i64, .sl [(.i .u8)]] (by kernel_rfl) _ _ _ hf1
  simp only [Vr.CT.wfL] at hw1
  obtain ⟨u1_0, ul1_0, d1_0, dl1_0, he1_0, hd1_0, hr1_0, hc1⟩ := hc1
  obtain ⟨u1_1, ul1_1, d1_1, dl1_1, he1_1, hd1_1, hr1_1, hc1⟩ := hc1
  obtain ⟨u1_2, ul1_2, d1_2, dl1_2, he1_2, hd1_2, hr1_2, hc1⟩ := hc1
  obtain ⟨u1_3, ul1_3, d1_3, dl1_3, he1_3, hd1_3, hr1_3, hc1⟩ := hc1
  obtain ⟨u1_4, ul1_4, d1_4, dl1_4, he1_4, hd1_4, hr1_4, hc1⟩ := hc1
  obtain ⟨he1_5, hd1_5⟩ := hc1
  obtain ⟨f1_0, fl1_0, hg1_0, hw1_0, hw1⟩ := hw1
  obtain ⟨f1_1, fl1_1, hg1_1, hw1_1, hw1⟩ := hw1
  obtain ⟨f1_2, fl1_2, hg1_2, hw1_2, hw1⟩ := hw1
  obtain ⟨f1_3, fl1_3, hg1_3, hw1_3, hw1⟩ := hw1
  obtain ⟨f1_4, fl1_4, hg1_4, hw1_4, hw1⟩ := hw1
  have hp1_0 := hd1_0.symm.trans hg1_0
  obtain ⟨ha1_0, hq1_0⟩ := List.cons.inj hp1_0
  rw [← ha1_0] at hw1_0
  have hp1_1 := (hd1_1.symm.trans hq1_0).trans hg1_1
  obtain ⟨ha1_1, hq1_1⟩ := List.cons.inj hp1_1
  rw [← ha1_1] at hw1_1
  have hp1_2 := (hd1_2.symm.trans hq1_1).trans hg1_2
  obtain ⟨ha1_2, hq1_2⟩ := List.cons.inj hp1_2
  rw [← ha1_2] at hw1_2
  have hp1_3 := (hd1_3.symm.trans hq1_2).trans hg1_3
  obtain ⟨ha1_3, hq1_3⟩ := List.cons.inj hp1_3
  rw [← ha1_3] at hw1_3
  have hp1_4 := (hd1_4.symm.trans hq1_3).trans hg1_4
  obtain ⟨ha1_4, hq1_4⟩ := List.cons.inj hp1_4
  rw [← ha1_4] at hw1_4
  obtain ⟨a1_0, rfl⟩ := Vr.leaf_b hr1_0
  obtain ⟨a1_1, rfl⟩ := Vr.leaf_b hr1_1
  obtain ⟨A1_2, c1_2, l1_2, rfl, o1_2, w1_2⟩ := Vr.leaf_sl hr1_2 hw1_2
  obtain ⟨a1_3, rfl, w1_3⟩ := Vr.leaf_i hr1_3 hw1_3
  obtain ⟨A1_4, c1_4, l1_4, rfl, o1_4, w1_4⟩ := Vr.leaf_sl hr1_4 hw1_4
  rw [he1_1] at he1_0
  rw [he1_2] at he1_0
  rw [he1_3] at he1_0
  rw [he1_4] at he1_0
  rw [he1_5] at he1_0
  obtain rfl := Vr.agg_of he1_0
  obtain ⟨cs2, rfl, _⟩ := okWide_struct Try.underlying31 (hval 2 31 v2 rfl rfl)
  have k2 := h2
  have lt2 : ∀ x ∈ p2, x.block < W.heap.size := by obtain ⟨m, hm⟩ := k2; exact DataW.trod_lt m _ _ _ hm
  obtain ⟨fu2, hf2⟩ := h2
  obtain ⟨ds2_, hc2, hw2⟩ := Vr.reads 9 31 [.sl [(.i .u8)], .i .i64, .sl [(.i .i64)], .sl [(.i .u64)], .sl [.b], .sl [.b]] (by kernel_rfl) _ _ _ hf2
  simp only [Vr.CT.wfL] at hw2
  obtain ⟨u2_0, ul2_0, d2_0, dl2_0, he2_0, hd2_0, hr2_0, hc2⟩ := hc2
  obtain ⟨u2_1, ul2_1, d2_1, dl2_1, he2_1, hd2_1, hr2_1, hc2⟩ := hc2
  obtain ⟨u2_2, ul2_2, d2_2, dl2_2, he2_2, hd2_2, hr2_2, hc2⟩ := hc2
  obtain ⟨u2_3, ul2_3, d2_3, dl2_3, he2_3, hd2_3, hr2_3, hc2⟩ := hc2
  obtain ⟨u2_4, ul2_4, d2_4, dl2_4, he2_4, hd2_4, hr2_4, hc2⟩ := hc2
  obtain ⟨u2_5, ul2_5, d2_5, dl2_5, he2_5, hd2_5, hr2_5, hc2⟩ := hc2
  obtain ⟨he2_6, hd2_6⟩ := hc2
  obtain ⟨f2_0, fl2_0, hg2_0, hw2_0, hw2⟩ := hw2
  obtain ⟨f2_1, fl2_1, hg2_1, hw2_1, hw2⟩ := hw2
  obtain ⟨f2_2, fl2_2, hg2_2, hw2_2, hw2⟩ := hw2
  obtain ⟨f2_3, fl2_3, hg2_3, hw2_3, hw2⟩ := hw2
  obtain ⟨f2_4, fl2_4, hg2_4, hw2_4, hw2⟩ := hw2
  obtain ⟨f2_5, fl2_5, hg2_5, hw2_5, hw2⟩ := hw2
  have hp2_0 := hd2_0.symm.trans hg2_0
  obtain ⟨ha2_0, hq2_0⟩ := List.cons.inj hp2_0
  rw [← ha2_0] at hw2_0
  have hp2_1 := (hd2_1.symm.trans hq2_0).trans hg2_1
  obtain ⟨ha2_1, hq2_1⟩ := List.cons.inj hp2_1
  rw [← ha2_1] at hw2_1
  have hp2_2 := (hd2_2.symm.trans hq2_1).trans hg2_2
  obtain ⟨ha2_2, hq2_2⟩ := List.cons.inj hp2_2
  rw [← ha2_2] at hw2_2
  have hp2_3 := (hd2_3.symm.trans hq2_2).trans hg2_3
  obtain ⟨ha2_3, hq2_3⟩ := List.cons.inj hp2_3
  rw [← ha2_3] at hw2_3
  have hp2_4 := (hd2_4.symm.trans hq2_3).trans hg2_4
  obtain ⟨ha2_4, hq2_4⟩ := List.cons.inj hp2_4
  rw [← ha2_4] at hw2_4
  have hp2_5 := (hd2_5.symm.trans hq2_4).trans hg2_5
  obtain ⟨ha2_5, hq2_5⟩ := List.cons.inj hp2_5
  rw [← ha2_5] at hw2_5
  obtain ⟨A2_0, c2_0, l2_0, rfl, o2_0, w2_0⟩ := Vr.leaf_sl hr2_0 hw2_0
  obtain ⟨a2_1, rfl, w2_1⟩ := Vr.leaf_i hr2_1 hw2_1
  obtain ⟨A2_2, c2_2, l2_2, rfl, o2_2, w2_2⟩ := Vr.leaf_sl hr2_2 hw2_2
  obtain ⟨A2_3, c2_3, l2_3, rfl, o2_3, w2_3⟩ := Vr.leaf_sl hr2_3 hw2_3
  obtain ⟨A2_4, c2_4, l2_4, rfl, o2_4, w2_4⟩ := Vr.leaf_sl hr2_4 hw2_4
  obtain ⟨A2_5, c2_5, l2_5, rfl, o2_5, w2_5⟩ := Vr.leaf_sl hr2_5 hw2_5
  rw [he2_1] at he2_0
  rw [he2_2] at he2_0
  rw [he2_3] at he2_0
  rw [he2_4] at he2_0
  rw [he2_5] at he2_0
  rw [he2_6] at he2_0
  obtain rfl := Vr.agg_of he2_0
  clear hA0 hval0 hsz0
  have hp := YHostKeeps.law a1_3 a2_1 a1_0 a1_1 l0_0 l0_1 l1_2 l1_4 l2_0 l2_2 l2_3 l2_4 l2_5 w0_0 w0_1 w1_2 w1_3 w1_4 w2_0 w2_1 w2_2 w2_3 w2_4 w2_5
  have hc : Calls Try.prog 3 #[.agg #[.slice A0_0 l0_0.length c0_0, .slice A0_1 l0_1.length c0_1], .agg #[.bool a1_0, .bool a1_1, .slice A1_2 l1_2.length c1_2, .int .i64 a1_3, .slice A1_4 l1_4.length c1_4], .agg #[.slice A2_0 l2_0.length c2_0, .int .i64 a2_1, .slice A2_2 l2_2.length c2_2, .slice A2_3 l2_3.length c2_3, .slice A2_4 l2_4.length c2_4, .slice A2_5 l2_5.length c2_5]] W fun e w' => e = .returned (.bool true) ∧ Below W.heap.size W w' := Vr.law_calls XHostKeeps.g3 rfl rfl rfl W trivial [a1_3, a2_1] [a1_0, a1_1] [l0_0, l0_1, l1_2, l1_4, l2_0, l2_2, l2_3, l2_4, l2_5] [.slice A0_0 l0_0.length c0_0, .slice A0_1 l0_1.length c0_1, .slice A1_2 l1_2.length c1_2, .slice A1_4 l1_4.length c1_4, .slice A2_0 l2_0.length c2_0, .slice A2_2 l2_2.length c2_2, .slice A2_3 l2_3.length c2_3, .slice A2_4 l2_4.length c2_4, .slice A2_5 l2_5.length c2_5] rfl rfl rfl rfl (Vr.OKs.ok (show Vr.OKs W _ _ _ from ⟨⟨of_decide_eq_true rfl, o0_0⟩, ⟨of_decide_eq_true rfl, o0_1⟩, ⟨of_decide_eq_true rfl, o1_2⟩, ⟨of_decide_eq_true rfl, o1_4⟩, ⟨of_decide_eq_true rfl, o2_0⟩, ⟨of_decide_eq_true rfl, o2_2⟩, ⟨of_decide_eq_true rfl, o2_3⟩, ⟨of_decide_eq_true rfl, o2_4⟩, ⟨of_decide_eq_true rfl, o2_5⟩, trivial⟩)) hp
  refine hc.mono fun e W' ⟨he, bel⟩ => ?_
  subst he
  exact ⟨_, rfl, _, _, _, [], _, [], hW', trodAll_mk1 (shut_bool Try.underlying4 _), (trodAll_cons_mk (Below.trod laidOut (by kernel_rfl) (of_decide_eq_true (by kernel_rfl)) k0 bel lt0) (trodAll_cons_mk (Below.trod laidOut (by kernel_rfl) (of_decide_eq_true (by kernel_rfl)) k1 bel lt1) (trodAll_cons_mk (Below.trod laidOut (by kernel_rfl) (of_decide_eq_true (by kernel_rfl)) k2 bel lt2) trodAll_mk0))), rfl, bel.frame _, fun h => by cases h⟩
theorem over : Rows.hostKeepsRow.holds Try.pinned (OpenSpec.ofChange Rows.hostKeepsSpec) :=
  OpenClaim.holds_of_wide 3 Try.f3 rfl rfl rfl rfl rfl rfl rfl ⟨rfl, rfl, rfl, rfl, rfl⟩ rfl rfl rfl rfl rfl (by kernel_rfl) Try.func3 (by kernel_rfl)
    (of_decide_eq_true (by kernel_rfl)) (by unfold Func.isWrapper; first | (rw [if_pos (by decide +kernel)]; kernel_rfl) | (rw [if_neg (by decide +kernel)]; exact ⟨rfl, rfl⟩))
    (fun os started H enc _ => lifted os started H enc)
theorem proved : Rows.HostKeepsSaid := over
#print axioms proved
end Go.Proofs.Ytapbpbmnfonmmaa.LHostKeeps
namespace Go.Proofs.Ytapbpbmnfonmmaa
/-- The row, under a short name, for the claim. -/
theorem hostKeeps_holds : Rows.HostKeepsSaid := LHostKeeps.proved
end Go.Proofs.Ytapbpbmnfonmmaa
