/-
  InstLays: for every input the law returns true, and each argument reads behind the call as it read before. No condition. The code is carried out as its tree of tests tells (Vx, XInstLays); the plain law is YInstLays.
-/
import Derived.Test.YtambhhochajgnaaRows
import Derived.Test.YtambhhochajgnaaYInstLays
import Derived.Test.YtambhhochajgnaaVr
import Derived.WalkKit
import Derived.ProofKit
import Derived.OpenShut
import Derived.ShutString
import Derived.ChangeOld
import Derived.Below
import Derived.SizedLaws
namespace Go.Proofs.Ytambhhochajgnaa.LInstLays
open Go.ChangeShapes Go.WideShapes Go.ChangeAt Go.RowKit
open Go.ChangeMaps (open_string shut_string)
open Go.Proofs.Ytambhhochajgnaa.Vx (bytesD)
set_option linter.unusedVariables false
theorem own : ownKnob Try.prog.godebug = none := by kernel_rfl
theorem laidOut : laidOutB Try.prog = true := by kernel_rfl
set_option maxRecDepth 100000 in
theorem lifted (os : Os) (started : os.Started) (H : Type) (enc : TypeId × Value → H) :
    ReturnsInHanded {} Try.checked os 3 .any (Rows.instLaysSpec.pre6 enc Try.prog Try.f3 Rows.instLaysRow.domain false) (Rows.instLaysSpec.post enc Try.prog Try.f3 false true false false) := by
  refine returnsInHanded_of_change_sized (C := Try.checked) own started (by kernel_rfl) Try.func3
    (ChangeSpec.witness6 (enc := enc) (C := Try.checked) false ⟨#[], #[.agg #[.slice none 0 0, .int .i64 0, .slice none 0 0, .slice none 0 0, .slice none 0 0, .slice none 0 0], .slice none 0 0, .slice none 0 0, .int .u64 0, .int .u64 0, .int .u64 0, .bool false], []⟩ 8 (by kernel_rfl) (by kernel_rfl) (by kernel_rfl) (by kernel_rfl)) ?_
  intro W base args ds gs before hval0 hW hcnd hsz0 _
  have hval : ∀ (j : Nat) t v, Try.f3.params[j]? = some t → args[j]? = some v → Value.okWide Try.prog W .any base t v := hval0
  have hW' := hW
  obtain ⟨p, q, hA0, hV, rfl, hfz, hnd⟩ := hW
  have hA : DataW.TrodAll enc Try.prog W 0 (fun _ => true) true Try.f3.params.toList args.toList ds p := hA0
  rw [Try.params3] at hA hval
  obtain ⟨v0, vs0, d0, ds0, p0, q0, hargs, rfl, rfl, h0, r0⟩ := trodAll_cons hA
  obtain ⟨v1, vs1, d1, ds1, p1, q1, rfl, rfl, rfl, h1, r1⟩ := trodAll_cons r0
  obtain ⟨v2, vs2, d2, ds2, p2, q2, rfl, rfl, rfl, h2, r2⟩ := trodAll_cons r1
  obtain ⟨v3, vs3, d3, ds3, p3, q3, rfl, rfl, rfl, h3, r3⟩ := trodAll_cons r2
  obtain ⟨v4, vs4, d4, ds4, p4, q4, rfl, rfl, rfl, h4, r4⟩ := trodAll_cons r3
  obtain ⟨v5, vs5, d5, ds5, p5, q5, rfl, rfl, rfl, h5, r5⟩ := trodAll_cons r4
  obtain ⟨v6, vs6, d6, ds6, p6, q6, rfl, rfl, rfl, h6, r6⟩ := trodAll_cons r5
  obtain ⟨rfl, rfl, rfl⟩ := trodAll_nil r6
  obtain rfl : args = #[v0, v1, v2, v3, v4, v5, v6] := by cases args; simp_all
  obtain ⟨rfl, rfl⟩ := trodVars_none hV
  obtain ⟨cs0, rfl, _⟩ := okWide_struct Try.underlying27 (hval 0 27 v0 rfl rfl)
  have k0 := h0
  have lt0 : ∀ x ∈ p0, x.block < W.heap.size := by obtain ⟨m, hm⟩ := k0; exact DataW.trod_lt m _ _ _ hm
  obtain ⟨fu0, hf0⟩ := h0
  obtain ⟨ds0_, hc0, hw0⟩ := Vr.reads 9 27 [.sl [(.i .u8)], .i .i64, .sl [(.i .i64)], .sl [(.i .u64)], .sl [.b], .sl [.b]] (by kernel_rfl) _ _ _ hf0 fun n hn => of_decide_eq_true (List.all_eq_true.1 hsz0 n (DataW.weights_mem_each (j := 0) rfl rfl n hn))
  simp only [Vr.CT.wfL] at hw0
  obtain ⟨u0_0, ul0_0, d0_0, dl0_0, he0_0, hd0_0, hr0_0, hc0⟩ := hc0
  obtain ⟨u0_1, ul0_1, d0_1, dl0_1, he0_1, hd0_1, hr0_1, hc0⟩ := hc0
  obtain ⟨u0_2, ul0_2, d0_2, dl0_2, he0_2, hd0_2, hr0_2, hc0⟩ := hc0
  obtain ⟨u0_3, ul0_3, d0_3, dl0_3, he0_3, hd0_3, hr0_3, hc0⟩ := hc0
  obtain ⟨u0_4, ul0_4, d0_4, dl0_4, he0_4, hd0_4, hr0_4, hc0⟩ := hc0
  obtain ⟨u0_5, ul0_5, d0_5, dl0_5, he0_5, hd0_5, hr0_5, hc0⟩ := hc0
  obtain ⟨he0_6, hd0_6⟩ := hc0
  obtain ⟨f0_0, fl0_0, hg0_0, hw0_0, hw0⟩ := hw0
  obtain ⟨f0_1, fl0_1, hg0_1, hw0_1, hw0⟩ := hw0
  obtain ⟨f0_2, fl0_2, hg0_2, hw0_2, hw0⟩ := hw0
  obtain ⟨f0_3, fl0_3, hg0_3, hw0_3, hw0⟩ := hw0
  obtain ⟨f0_4, fl0_4, hg0_4, hw0_4, hw0⟩ := hw0
  obtain ⟨f0_5, fl0_5, hg0_5, hw0_5, hw0⟩ := hw0
  have hp0_0 := hd0_0.symm.trans hg0_0
  obtain ⟨ha0_0, hq0_0⟩ := List.cons.inj hp0_0
  rw [← ha0_0] at hw0_0
  have hp0_1 := (hd0_1.symm.trans hq0_0).trans hg0_1
  obtain ⟨ha0_1, hq0_1⟩ := List.cons.inj hp0_1
  rw [← ha0_1] at hw0_1
  have hp0_2 := (hd0_2.symm.trans hq0_1).trans hg0_2
  obtain ⟨ha0_2, hq0_2⟩ := List.cons.inj hp0_2
  rw [← ha0_2] at hw0_2
  have hp0_3 := (hd0_3.symm.trans hq0_2).trans hg0_3
  obtain ⟨ha0_3, hq0_3⟩ := List.cons.inj hp0_3
  rw [← ha0_3] at hw0_3
  have hp0_4 := (hd0_4.symm.trans hq0_3).trans hg0_4
  obtain ⟨ha0_4, hq0_4⟩ := List.cons.inj hp0_4
  rw [← ha0_4] at hw0_4
  have hp0_5 := (hd0_5.symm.trans hq0_4).trans hg0_5
  obtain ⟨ha0_5, hq0_5⟩ := List.cons.inj hp0_5
  rw [← ha0_5] at hw0_5
  obtain ⟨A0_0, c0_0, l0_0, rfl, o0_0, w0_0⟩ := Vr.leaf_sl hr0_0 hw0_0
  obtain ⟨a0_1, rfl, w0_1⟩ := Vr.leaf_i hr0_1 hw0_1
  obtain ⟨A0_2, c0_2, l0_2, rfl, o0_2, w0_2⟩ := Vr.leaf_sl hr0_2 hw0_2
  obtain ⟨A0_3, c0_3, l0_3, rfl, o0_3, w0_3⟩ := Vr.leaf_sl hr0_3 hw0_3
  obtain ⟨A0_4, c0_4, l0_4, rfl, o0_4, w0_4⟩ := Vr.leaf_sl hr0_4 hw0_4
  obtain ⟨A0_5, c0_5, l0_5, rfl, o0_5, w0_5⟩ := Vr.leaf_sl hr0_5 hw0_5
  rw [he0_1] at he0_0
  rw [he0_2] at he0_0
  rw [he0_3] at he0_0
  rw [he0_4] at he0_0
  rw [he0_5] at he0_0
  rw [he0_6] at he0_0
  obtain rfl := Vr.agg_of he0_0
  obtain ⟨A1, n1, c1, rfl⟩ := okWide_slice Try.underlying23 (hval 1 23 v1 rfl rfl)
  have k1 := h1
  have lt1 : ∀ x ∈ p1, x.block < W.heap.size := by obtain ⟨m, hm⟩ := k1; exact DataW.trod_lt m _ _ _ hm
  obtain ⟨fu1, hf1⟩ := h1
  obtain ⟨ds1_, hc1, hw1⟩ := Vr.reads 9 23 [.sl [(.i .i64)]] (by kernel_rfl) _ _ _ hf1 fun n hn => of_decide_eq_true (List.all_eq_true.1 hsz0 n (DataW.weights_mem_each (j := 1) rfl rfl n hn))
  simp only [Vr.CT.wfL] at hw1
  obtain ⟨u1_0, ul1_0, d1_0, dl1_0, he1_0, hd1_0, hr1_0, hc1⟩ := hc1
  obtain ⟨he1_1, hd1_1⟩ := hc1
  obtain ⟨f1_0, fl1_0, hg1_0, hw1_0, hw1⟩ := hw1
  have hp1_0 := hd1_0.symm.trans hg1_0
  obtain ⟨ha1_0, hq1_0⟩ := List.cons.inj hp1_0
  rw [← ha1_0] at hw1_0
  obtain ⟨A1_0, c1_0, l1_0, rfl, o1_0, w1_0⟩ := Vr.leaf_sl hr1_0 hw1_0
  rw [he1_1] at he1_0
  obtain ⟨rfl, rfl, rfl⟩ : A1 = A1_0 ∧ n1 = l1_0.length ∧ c1 = c1_0 := by simpa [Value.cells] using he1_0
  obtain ⟨A2, n2, c2, rfl⟩ := okWide_slice Try.underlying22 (hval 2 22 v2 rfl rfl)
  have k2 := h2
  have lt2 : ∀ x ∈ p2, x.block < W.heap.size := by obtain ⟨m, hm⟩ := k2; exact DataW.trod_lt m _ _ _ hm
  obtain ⟨fu2, hf2⟩ := h2
  obtain ⟨ds2_, hc2, hw2⟩ := Vr.reads 9 22 [.sl [(.i .u8)]] (by kernel_rfl) _ _ _ hf2 fun n hn => of_decide_eq_true (List.all_eq_true.1 hsz0 n (DataW.weights_mem_each (j := 2) rfl rfl n hn))
  simp only [Vr.CT.wfL] at hw2
  obtain ⟨u2_0, ul2_0, d2_0, dl2_0, he2_0, hd2_0, hr2_0, hc2⟩ := hc2
  obtain ⟨he2_1, hd2_1⟩ := hc2
  obtain ⟨f2_0, fl2_0, hg2_0, hw2_0, hw2⟩ := hw2
  have hp2_0 := hd2_0.symm.trans hg2_0
  obtain ⟨ha2_0, hq2_0⟩ := List.cons.inj hp2_0
  rw [← ha2_0] at hw2_0
  obtain ⟨A2_0, c2_0, l2_0, rfl, o2_0, w2_0⟩ := Vr.leaf_sl hr2_0 hw2_0
  rw [he2_1] at he2_0
  obtain ⟨rfl, rfl, rfl⟩ : A2 = A2_0 ∧ n2 = l2_0.length ∧ c2 = c2_0 := by simpa [Value.cells] using he2_0
  obtain ⟨a3_0, rfl, rfl, rfl, w3_0⟩ := open_int Try.underlying28 (hval 3 28 v3 rfl rfl) h3
  obtain ⟨a4_0, rfl, rfl, rfl, w4_0⟩ := open_int Try.underlying28 (hval 4 28 v4 rfl rfl) h4
  obtain ⟨a5_0, rfl, rfl, rfl, w5_0⟩ := open_int Try.underlying28 (hval 5 28 v5 rfl rfl) h5
  obtain ⟨a6_0, rfl, rfl, rfl⟩ := open_bool Try.underlying4 (hval 6 4 v6 rfl rfl) h6
  clear hA0 hval0 hsz0
  have hp := YInstLays.law a0_1 a3_0 a4_0 a5_0 a6_0 l0_0 l0_2 l0_3 l0_4 l0_5 l1_0 l2_0 w0_0 w0_1 w0_2 w0_3 w0_4 w0_5 w1_0 w2_0 w3_0 w4_0 w5_0
  have hc : Calls Try.prog 3 #[.agg #[.slice A0_0 l0_0.length c0_0, .int .i64 a0_1, .slice A0_2 l0_2.length c0_2, .slice A0_3 l0_3.length c0_3, .slice A0_4 l0_4.length c0_4, .slice A0_5 l0_5.length c0_5], .slice A1 l1_0.length c1, .slice A2 l2_0.length c2, .int .u64 a3_0, .int .u64 a4_0, .int .u64 a5_0, .bool a6_0] W fun e w' => e = .returned (.bool true) ∧ Below W.heap.size W w' := Vr.law_calls XInstLays.g3 rfl rfl rfl W trivial [a0_1, a3_0, a4_0, a5_0] [a6_0] [l0_0, l0_2, l0_3, l0_4, l0_5, l1_0, l2_0] [.slice A0_0 l0_0.length c0_0, .slice A0_2 l0_2.length c0_2, .slice A0_3 l0_3.length c0_3, .slice A0_4 l0_4.length c0_4, .slice A0_5 l0_5.length c0_5, .slice A1 l1_0.length c1, .slice A2 l2_0.length c2] rfl rfl rfl rfl (Vr.OKs.ok (show Vr.OKs W _ _ _ from ⟨⟨of_decide_eq_true rfl, o0_0⟩, ⟨of_decide_eq_true rfl, o0_2⟩, ⟨of_decide_eq_true rfl, o0_3⟩, ⟨of_decide_eq_true rfl, o0_4⟩, ⟨of_decide_eq_true rfl, o0_5⟩, ⟨of_decide_eq_true rfl, o1_0⟩, ⟨of_decide_eq_true rfl, o2_0⟩, trivial⟩)) hp
  refine hc.mono fun e W' ⟨he, bel⟩ => ?_
  subst he
  exact ⟨_, rfl, _, _, _, [], _, [], hW', trodAll_mk1 (shut_bool Try.underlying4 _), (trodAll_cons_mk (Below.trod laidOut (by kernel_rfl) (of_decide_eq_true (by kernel_rfl)) k0 bel lt0) (trodAll_cons_mk (Below.trod laidOut (by kernel_rfl) (of_decide_eq_true (by kernel_rfl)) k1 bel lt1) (trodAll_cons_mk (Below.trod laidOut (by kernel_rfl) (of_decide_eq_true (by kernel_rfl)) k2 bel lt2) (trodAll_cons_mk (shut_int Try.underlying28 w3_0) (trodAll_cons_mk (shut_int Try.underlying28 w4_0) (trodAll_cons_mk (shut_int Try.underlying28 w5_0) (trodAll_cons_mk (shut_bool Try.underlying4 _) trodAll_mk0))))))), rfl, bel.frame _, fun h => by cases h⟩
theorem over : Rows.instLaysRow.holds Try.pinned (OpenSpec.ofChange Rows.instLaysSpec) :=
  OpenClaim.holds_of_wide 3 Try.f3 rfl rfl rfl rfl rfl rfl rfl ⟨rfl, rfl, rfl, rfl, rfl⟩ rfl rfl rfl rfl rfl (by kernel_rfl) Try.func3 (by kernel_rfl)
    (of_decide_eq_true (by kernel_rfl)) (by unfold Func.isWrapper; first | (rw [if_pos (by decide +kernel)]; kernel_rfl) | (rw [if_neg (by decide +kernel)]; exact ⟨rfl, rfl⟩))
    (fun os started H enc _ => lifted os started H enc)
theorem proved : Rows.InstLaysSaid := over
#print axioms proved
end Go.Proofs.Ytambhhochajgnaa.LInstLays
namespace Go.Proofs.Ytambhhochajgnaa
/-- The row, under a short name, for the claim. -/
theorem instLays_holds : Rows.InstLaysSaid := LInstLays.proved
end Go.Proofs.Ytambhhochajgnaa
