/-
  TypBack: for every input the law returns true, and each argument reads behind the call as it read before. No condition. The code is carried out as its tree of tests tells (Vx, XTypBack); the plain law is YTypBack.
-/
import Derived.Test.YthmiladfdndciaaRows
import Derived.Test.YthmiladfdndciaaYTypBack
import Derived.Test.YthmiladfdndciaaVr
import Derived.WalkKit
import Derived.ProofKit
import Derived.OpenShut
import Derived.ShutString
import Derived.ChangeOld
import Derived.Below
import Derived.SizedLaws
namespace Go.Proofs.Ythmiladfdndciaa.LTypBack
open Go.ChangeShapes Go.WideShapes Go.ChangeAt Go.RowKit
open Go.ChangeMaps (open_string shut_string)
open Go.Proofs.Ythmiladfdndciaa.Vx (bytesD)
set_option linter.unusedVariables false
theorem own : ownKnob Try.prog.godebug = none := by kernel_rfl
theorem laidOut : laidOutB Try.prog = true := by kernel_rfl
set_option maxRecDepth 100000 in
theorem lifted (os : Os) (started : os.Started) (H : Type) (enc : TypeId × Value → H) :
    ReturnsInHanded {} Try.checked os 6 .any (Rows.typBackSpec.pre6 enc Try.prog Try.f6 Rows.typBackRow.domain false) (Rows.typBackSpec.post enc Try.prog Try.f6 false true false false) := by
  refine returnsInHanded_of_change_sized (C := Try.checked) own started (by kernel_rfl) Try.func6
    (ChangeSpec.witness6 (enc := enc) (C := Try.checked) false ⟨#[], #[.agg #[.slice none 0 0, .slice none 0 0], .agg #[.int .i64 0, .bool false, .int .i64 0], .int .i64 0, .slice none 0 0], []⟩ 8 (by kernel_rfl) (by kernel_rfl) (by kernel_rfl) (by kernel_rfl)) ?_
  intro W base args ds gs before hval0 hW hcnd hsz0 _
  have hval : ∀ (j : Nat) t v, Try.f6.params[j]? = some t → args[j]? = some v → Value.okWide Try.prog W .any base t v := hval0
  have hW' := hW
  obtain ⟨p, q, hA0, hV, rfl, hfz, hnd⟩ := hW
  have hA : DataW.TrodAll enc Try.prog W 0 (fun _ => true) true Try.f6.params.toList args.toList ds p := hA0
  rw [Try.params6] at hA hval
  obtain ⟨v0, vs0, d0, ds0, p0, q0, hargs, rfl, rfl, h0, r0⟩ := trodAll_cons hA
  obtain ⟨v1, vs1, d1, ds1, p1, q1, rfl, rfl, rfl, h1, r1⟩ := trodAll_cons r0
  obtain ⟨v2, vs2, d2, ds2, p2, q2, rfl, rfl, rfl, h2, r2⟩ := trodAll_cons r1
  obtain ⟨v3, vs3, d3, ds3, p3, q3, rfl, rfl, rfl, h3, r3⟩ := trodAll_cons r2
  obtain ⟨rfl, rfl, rfl⟩ := trodAll_nil r3
  obtain rfl : args = #[v0, v1, v2, v3] := by cases args; simp_all
  obtain ⟨rfl, rfl⟩ := trodVars_none hV
  obtain ⟨cs0, rfl, _⟩ := okWide_struct Try.underlying26 (hval 0 26 v0 rfl rfl)
  have k0 := h0
  have lt0 : ∀ x ∈ p0, x.block < W.heap.size := by obtain ⟨m, hm⟩ := k0; exact DataW.trod_lt m _ _ _ hm
  obtain ⟨fu0, hf0⟩ := h0
  obtain ⟨ds0_, hc0, hw0⟩ := Vr.reads 9 26 [.sl [(.i .i64)], .sl [(.i .i64)]] (by kernel_rfl) _ _ _ hf0 fun n hn => of_decide_eq_true (List.all_eq_true.1 hsz0 n (DataW.weights_mem_each (j := 0) rfl rfl n hn))
  simp only [Vr.CT.wfL] at hw0
  obtain ⟨u0_0, ul0_0, d0_0, dl0_0, he0_0, hd0_0, hr0_0, hc0⟩ := hc0
  obtain ⟨u0_1, ul0_1, d0_1, dl0_1, he0_1, hd0_1, hr0_1, hc0⟩ := hc0
  obtain ⟨he0_2, hd0_2⟩ := hc0
  obtain ⟨f0_0, fl0_0, hg0_0, hw0_0, hw0⟩ := hw0
  obtain ⟨f0_1, fl0_1, hg0_1, hw0_1, hw0⟩ := hw0
  have hp0_0 := hd0_0.symm.trans hg0_0
  obtain ⟨ha0_0, hq0_0⟩ := List.cons.inj hp0_0
  rw [← ha0_0] at hw0_0
  have hp0_1 := (hd0_1.symm.trans hq0_0).trans hg0_1
  obtain ⟨ha0_1, hq0_1⟩ := List.cons.inj hp0_1
  rw [← ha0_1] at hw0_1
  obtain ⟨A0_0, c0_0, l0_0, rfl, o0_0, w0_0⟩ := Vr.leaf_sl hr0_0 hw0_0
  obtain ⟨A0_1, c0_1, l0_1, rfl, o0_1, w0_1⟩ := Vr.leaf_sl hr0_1 hw0_1
  rw [he0_1] at he0_0
  rw [he0_2] at he0_0
  obtain rfl := Vr.agg_of he0_0
  obtain ⟨cs1, rfl, _⟩ := okWide_struct Try.underlying36 (hval 1 36 v1 rfl rfl)
  have k1 := h1
  have lt1 : ∀ x ∈ p1, x.block < W.heap.size := by obtain ⟨m, hm⟩ := k1; exact DataW.trod_lt m _ _ _ hm
  obtain ⟨fu1, hf1⟩ := h1
  obtain ⟨ds1_, hc1, hw1⟩ := Vr.reads 9 36 [.i .i64, .b, .i .i64] (by kernel_rfl) _ _ _ hf1 fun n hn => of_decide_eq_true (List.all_eq_true.1 hsz0 n (DataW.weights_mem_each (j := 1) rfl rfl n hn))
  simp only [Vr.CT.wfL] at hw1
  obtain ⟨u1_0, ul1_0, d1_0, dl1_0, he1_0, hd1_0, hr1_0, hc1⟩ := hc1
  obtain ⟨u1_1, ul1_1, d1_1, dl1_1, he1_1, hd1_1, hr1_1, hc1⟩ := hc1
  obtain ⟨u1_2, ul1_2, d1_2, dl1_2, he1_2, hd1_2, hr1_2, hc1⟩ := hc1
  obtain ⟨he1_3, hd1_3⟩ := hc1
  obtain ⟨f1_0, fl1_0, hg1_0, hw1_0, hw1⟩ := hw1
  obtain ⟨f1_1, fl1_1, hg1_1, hw1_1, hw1⟩ := hw1
  obtain ⟨f1_2, fl1_2, hg1_2, hw1_2, hw1⟩ := hw1
  have hp1_0 := hd1_0.symm.trans hg1_0
  obtain ⟨ha1_0, hq1_0⟩ := List.cons.inj hp1_0
  rw [← ha1_0] at hw1_0
  have hp1_1 := (hd1_1.symm.trans hq1_0).trans hg1_1
  obtain ⟨ha1_1, hq1_1⟩ := List.cons.inj hp1_1
  rw [← ha1_1] at hw1_1
  have hp1_2 := (hd1_2.symm.trans hq1_1).trans hg1_2
  obtain ⟨ha1_2, hq1_2⟩ := List.cons.inj hp1_2
  rw [← ha1_2] at hw1_2
  obtain ⟨a1_0, rfl, w1_0⟩ := Vr.leaf_i hr1_0 hw1_0
  obtain ⟨a1_1, rfl⟩ := Vr.leaf_b hr1_1
  obtain ⟨a1_2, rfl, w1_2⟩ := Vr.leaf_i hr1_2 hw1_2
  rw [he1_1] at he1_0
  rw [he1_2] at he1_0
  rw [he1_3] at he1_0
  obtain rfl := Vr.agg_of he1_0
  obtain ⟨a2_0, rfl, rfl, rfl, w2_0⟩ := open_int Try.underlying3 (hval 2 3 v2 rfl rfl) h2
  obtain ⟨A3, n3, c3, rfl⟩ := okWide_slice Try.underlying22 (hval 3 22 v3 rfl rfl)
  have k3 := h3
  have lt3 : ∀ x ∈ p3, x.block < W.heap.size := by obtain ⟨m, hm⟩ := k3; exact DataW.trod_lt m _ _ _ hm
  obtain ⟨fu3, hf3⟩ := h3
  obtain ⟨ds3_, hc3, hw3⟩ := Vr.reads 9 22 [.sl [(.i .u8)]] (by kernel_rfl) _ _ _ hf3 fun n hn => of_decide_eq_true (List.all_eq_true.1 hsz0 n (DataW.weights_mem_each (j := 3) rfl rfl n hn))
  simp only [Vr.CT.wfL] at hw3
  obtain ⟨u3_0, ul3_0, d3_0, dl3_0, he3_0, hd3_0, hr3_0, hc3⟩ := hc3
  obtain ⟨he3_1, hd3_1⟩ := hc3
  obtain ⟨f3_0, fl3_0, hg3_0, hw3_0, hw3⟩ := hw3
  have hp3_0 := hd3_0.symm.trans hg3_0
  obtain ⟨ha3_0, hq3_0⟩ := List.cons.inj hp3_0
  rw [← ha3_0] at hw3_0
  obtain ⟨A3_0, c3_0, l3_0, rfl, o3_0, w3_0⟩ := Vr.leaf_sl hr3_0 hw3_0
  rw [he3_1] at he3_0
  obtain ⟨rfl, rfl, rfl⟩ : A3 = A3_0 ∧ n3 = l3_0.length ∧ c3 = c3_0 := by simpa [Value.cells] using he3_0
  clear hA0 hval0 hsz0
  have hp := YTypBack.law a1_0 a1_2 a2_0 a1_1 l0_0 l0_1 l3_0 w0_0 w0_1 w1_0 w1_2 w2_0 w3_0
  have hc : Calls Try.prog 6 #[.agg #[.slice A0_0 l0_0.length c0_0, .slice A0_1 l0_1.length c0_1], .agg #[.int .i64 a1_0, .bool a1_1, .int .i64 a1_2], .int .i64 a2_0, .slice A3 l3_0.length c3] W fun e w' => e = .returned (.bool true) ∧ Below W.heap.size W w' := Vr.law_calls XTypBack.g6 rfl rfl rfl W trivial [a1_0, a1_2, a2_0] [a1_1] [l0_0, l0_1, l3_0] [.slice A0_0 l0_0.length c0_0, .slice A0_1 l0_1.length c0_1, .slice A3 l3_0.length c3] rfl rfl rfl rfl (Vr.OKs.ok (show Vr.OKs W _ _ _ from ⟨⟨of_decide_eq_true rfl, o0_0⟩, ⟨of_decide_eq_true rfl, o0_1⟩, ⟨of_decide_eq_true rfl, o3_0⟩, trivial⟩)) hp
  refine hc.mono fun e W' ⟨he, bel⟩ => ?_
  subst he
  exact ⟨_, rfl, _, _, _, [], _, [], hW', trodAll_mk1 (shut_bool Try.underlying4 _), (trodAll_cons_mk (Below.trod laidOut (by kernel_rfl) (of_decide_eq_true (by kernel_rfl)) k0 bel lt0) (trodAll_cons_mk (Below.trod laidOut (by kernel_rfl) (of_decide_eq_true (by kernel_rfl)) k1 bel lt1) (trodAll_cons_mk (shut_int Try.underlying3 w2_0) (trodAll_cons_mk (Below.trod laidOut (by kernel_rfl) (of_decide_eq_true (by kernel_rfl)) k3 bel lt3) trodAll_mk0)))), rfl, bel.frame _, fun h => by cases h⟩
theorem over : Rows.typBackRow.holds Try.pinned (OpenSpec.ofChange Rows.typBackSpec) :=
  OpenClaim.holds_of_wide 6 Try.f6 rfl rfl rfl rfl rfl rfl rfl ⟨rfl, rfl, rfl, rfl, rfl⟩ rfl rfl rfl rfl rfl (by kernel_rfl) Try.func6 (by kernel_rfl)
    (of_decide_eq_true (by kernel_rfl)) (by unfold Func.isWrapper; first | (rw [if_pos (by decide +kernel)]; kernel_rfl) | (rw [if_neg (by decide +kernel)]; exact ⟨rfl, rfl⟩))
    (fun os started H enc _ => lifted os started H enc)
theorem proved : Rows.TypBackSaid := over
#print axioms proved
end Go.Proofs.Ythmiladfdndciaa.LTypBack
namespace Go.Proofs.Ythmiladfdndciaa
/-- The row, under a short name, for the claim. -/
theorem typBack_holds : Rows.TypBackSaid := LTypBack.proved
end Go.Proofs.Ythmiladfdndciaa
