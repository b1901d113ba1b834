/-
  InstrPuts: for every input the law returns true, and each argument reads behind the call as it read before. No condition. The code is carried out as its tree of tests tells (Vx, XInstrPuts); the plain law is YInstrPuts.
-/
import Derived.Test.YtmfjapphmmlppaaRows
import Derived.Test.YtmfjapphmmlppaaYInstrPuts
import Derived.Test.YtmfjapphmmlppaaVr
import Derived.WalkKit
import Derived.ProofKit
import Derived.OpenShut
import Derived.ShutString
import Derived.ChangeOld
import Derived.Below
import Derived.SizedLaws
namespace Go.Proofs.Ytmfjapphmmlppaa.LInstrPuts
open Go.ChangeShapes Go.WideShapes Go.ChangeAt Go.RowKit
open Go.ChangeMaps (open_string shut_string)
open Go.Proofs.Ytmfjapphmmlppaa.Vx (bytesD)
set_option linter.unusedVariables false
theorem own : ownKnob Try.prog.godebug = none := by kernel_rfl
theorem laidOut : laidOutB Try.prog = true := by kernel_rfl
set_option maxRecDepth 100000 in
theorem lifted (os : Os) (started : os.Started) (H : Type) (enc : TypeId × Value → H) :
    ReturnsInHanded {} Try.checked os 5 .any (Rows.instrPutsSpec.pre6 enc Try.prog Try.f5 Rows.instrPutsRow.domain false) (Rows.instrPutsSpec.post enc Try.prog Try.f5 false true false false) := by
  refine returnsInHanded_of_change_sized (C := Try.checked) own started (by kernel_rfl) Try.func5
    (ChangeSpec.witness6 (enc := enc) (C := Try.checked) false ⟨#[], #[.slice none 0 0, .agg #[.int .i64 0, .int .i64 0, .int .i64 0, .int .i64 0, .slice none 0 0], .slice none 0 0], []⟩ 8 (by kernel_rfl) (by kernel_rfl) (by kernel_rfl) (by kernel_rfl)) ?_
  intro W base args ds gs before hval0 hW hcnd hsz0 _
  have hval : ∀ (j : Nat) t v, Try.f5.params[j]? = some t → args[j]? = some v → Value.okWide Try.prog W .any base t v := hval0
  have hW' := hW
  obtain ⟨p, q, hA0, hV, rfl, hfz, hnd⟩ := hW
  have hA : DataW.TrodAll enc Try.prog W 0 (fun _ => true) true Try.f5.params.toList args.toList ds p := hA0
  rw [Try.params5] at hA hval
  obtain ⟨v0, vs0, d0, ds0, p0, q0, hargs, rfl, rfl, h0, r0⟩ := trodAll_cons hA
  obtain ⟨v1, vs1, d1, ds1, p1, q1, rfl, rfl, rfl, h1, r1⟩ := trodAll_cons r0
  obtain ⟨v2, vs2, d2, ds2, p2, q2, rfl, rfl, rfl, h2, r2⟩ := trodAll_cons r1
  obtain ⟨rfl, rfl, rfl⟩ := trodAll_nil r2
  obtain rfl : args = #[v0, v1, v2] := by cases args; simp_all
  obtain ⟨rfl, rfl⟩ := trodVars_none hV
  obtain ⟨A0, n0, c0, rfl⟩ := okWide_slice Try.underlying22 (hval 0 22 v0 rfl rfl)
  have k0 := h0
  have lt0 : ∀ x ∈ p0, x.block < W.heap.size := by obtain ⟨m, hm⟩ := k0; exact DataW.trod_lt m _ _ _ hm
  obtain ⟨fu0, hf0⟩ := h0
  obtain ⟨ds0_, hc0, hw0⟩ := Vr.reads 9 22 [.sl [(.i .u8)]] (by kernel_rfl) _ _ _ hf0 fun n hn => of_decide_eq_true (List.all_eq_true.1 hsz0 n (DataW.weights_mem_each (j := 0) rfl rfl n hn))
  simp only [Vr.CT.wfL] at hw0
  obtain ⟨u0_0, ul0_0, d0_0, dl0_0, he0_0, hd0_0, hr0_0, hc0⟩ := hc0
  obtain ⟨he0_1, hd0_1⟩ := hc0
  obtain ⟨f0_0, fl0_0, hg0_0, hw0_0, hw0⟩ := hw0
  have hp0_0 := hd0_0.symm.trans hg0_0
  obtain ⟨ha0_0, hq0_0⟩ := List.cons.inj hp0_0
  rw [← ha0_0] at hw0_0
  obtain ⟨A0_0, c0_0, l0_0, rfl, o0_0, w0_0⟩ := Vr.leaf_sl hr0_0 hw0_0
  rw [he0_1] at he0_0
  obtain ⟨rfl, rfl, rfl⟩ : A0 = A0_0 ∧ n0 = l0_0.length ∧ c0 = c0_0 := by simpa [Value.cells] using he0_0
  obtain ⟨cs1, rfl, _⟩ := okWide_struct Try.underlying34 (hval 1 34 v1 rfl rfl)
  have k1 := h1
  have lt1 : ∀ x ∈ p1, x.block < W.heap.size := by obtain ⟨m, hm⟩ := k1; exact DataW.trod_lt m _ _ _ hm
  obtain ⟨fu1, hf1⟩ := h1
  obtain ⟨ds1_, hc1, hw1⟩ := Vr.reads 9 34 [.i .i64, .i .i64, .i .i64, .i .i64, .sl [(.i .i64)]] (by kernel_rfl) _ _ _ hf1 fun n hn => of_decide_eq_true (List.all_eq_true.1 hsz0 n (DataW.weights_mem_each (j := 1) rfl rfl n hn))
  simp only [Vr.CT.wfL] at hw1
  obtain ⟨u1_0, ul1_0, d1_0, dl1_0, he1_0, hd1_0, hr1_0, hc1⟩ := hc1
  obtain ⟨u1_1, ul1_1, d1_1, dl1_1, he1_1, hd1_1, hr1_1, hc1⟩ := hc1
  obtain ⟨u1_2, ul1_2, d1_2, dl1_2, he1_2, hd1_2, hr1_2, hc1⟩ := hc1
  obtain ⟨u1_3, ul1_3, d1_3, dl1_3, he1_3, hd1_3, hr1_3, hc1⟩ := hc1
  obtain ⟨u1_4, ul1_4, d1_4, dl1_4, he1_4, hd1_4, hr1_4, hc1⟩ := hc1
  obtain ⟨he1_5, hd1_5⟩ := hc1
  obtain ⟨f1_0, fl1_0, hg1_0, hw1_0, hw1⟩ := hw1
  obtain ⟨f1_1, fl1_1, hg1_1, hw1_1, hw1⟩ := hw1
  obtain ⟨f1_2, fl1_2, hg1_2, hw1_2, hw1⟩ := hw1
  obtain ⟨f1_3, fl1_3, hg1_3, hw1_3, hw1⟩ := hw1
  obtain ⟨f1_4, fl1_4, hg1_4, hw1_4, hw1⟩ := hw1
  have hp1_0 := hd1_0.symm.trans hg1_0
  obtain ⟨ha1_0, hq1_0⟩ := List.cons.inj hp1_0
  rw [← ha1_0] at hw1_0
  have hp1_1 := (hd1_1.symm.trans hq1_0).trans hg1_1
  obtain ⟨ha1_1, hq1_1⟩ := List.cons.inj hp1_1
  rw [← ha1_1] at hw1_1
  have hp1_2 := (hd1_2.symm.trans hq1_1).trans hg1_2
  obtain ⟨ha1_2, hq1_2⟩ := List.cons.inj hp1_2
  rw [← ha1_2] at hw1_2
  have hp1_3 := (hd1_3.symm.trans hq1_2).trans hg1_3
  obtain ⟨ha1_3, hq1_3⟩ := List.cons.inj hp1_3
  rw [← ha1_3] at hw1_3
  have hp1_4 := (hd1_4.symm.trans hq1_3).trans hg1_4
  obtain ⟨ha1_4, hq1_4⟩ := List.cons.inj hp1_4
  rw [← ha1_4] at hw1_4
  obtain ⟨a1_0, rfl, w1_0⟩ := Vr.leaf_i hr1_0 hw1_0
  obtain ⟨a1_1, rfl, w1_1⟩ := Vr.leaf_i hr1_1 hw1_1
  obtain ⟨a1_2, rfl, w1_2⟩ := Vr.leaf_i hr1_2 hw1_2
  obtain ⟨a1_3, rfl, w1_3⟩ := Vr.leaf_i hr1_3 hw1_3
  obtain ⟨A1_4, c1_4, l1_4, rfl, o1_4, w1_4⟩ := Vr.leaf_sl hr1_4 hw1_4
  rw [he1_1] at he1_0
  rw [he1_2] at he1_0
  rw [he1_3] at he1_0
  rw [he1_4] at he1_0
  rw [he1_5] at he1_0
  obtain rfl := Vr.agg_of he1_0
  obtain ⟨A2, n2, c2, rfl⟩ := okWide_slice Try.underlying24 (hval 2 24 v2 rfl rfl)
  have k2 := h2
  have lt2 : ∀ x ∈ p2, x.block < W.heap.size := by obtain ⟨m, hm⟩ := k2; exact DataW.trod_lt m _ _ _ hm
  obtain ⟨fu2, hf2⟩ := h2
  obtain ⟨ds2_, hc2, hw2⟩ := Vr.reads 9 24 [.sl [(.i .i64), (.i .i64), (.i .i64), (.i .i64), (.sl [(.i .i64)])]] (by kernel_rfl) _ _ _ hf2 fun n hn => of_decide_eq_true (List.all_eq_true.1 hsz0 n (DataW.weights_mem_each (j := 2) rfl rfl n hn))
  simp only [Vr.CT.wfL] at hw2
  obtain ⟨u2_0, ul2_0, d2_0, dl2_0, he2_0, hd2_0, hr2_0, hc2⟩ := hc2
  obtain ⟨he2_1, hd2_1⟩ := hc2
  obtain ⟨f2_0, fl2_0, hg2_0, hw2_0, hw2⟩ := hw2
  have hp2_0 := hd2_0.symm.trans hg2_0
  obtain ⟨ha2_0, hq2_0⟩ := List.cons.inj hp2_0
  rw [← ha2_0] at hw2_0
  obtain ⟨A2_0, c2_0, l2_0, rfl, o2_0, w2_0⟩ := Vr.leaf_sl hr2_0 hw2_0
  rw [he2_1] at he2_0
  obtain ⟨rfl, rfl, rfl⟩ : A2 = A2_0 ∧ n2 = l2_0.length ∧ c2 = c2_0 := by simpa [Value.cells] using he2_0
  clear hA0 hval0 hsz0
  have hp := YInstrPuts.law a1_0 a1_1 a1_2 a1_3 l0_0 l1_4 l2_0 w0_0 w1_0 w1_1 w1_2 w1_3 w1_4 w2_0
  have hc : Calls Try.prog 5 #[.slice A0 l0_0.length c0, .agg #[.int .i64 a1_0, .int .i64 a1_1, .int .i64 a1_2, .int .i64 a1_3, .slice A1_4 l1_4.length c1_4], .slice A2 l2_0.length c2] W fun e w' => e = .returned (.bool true) ∧ Below W.heap.size W w' := Vr.law_calls XInstrPuts.g5 rfl rfl rfl W trivial [a1_0, a1_1, a1_2, a1_3] [] [l0_0, l1_4, l2_0] [.slice A0 l0_0.length c0, .slice A1_4 l1_4.length c1_4, .slice A2 l2_0.length c2] rfl rfl rfl rfl (Vr.OKs.ok (show Vr.OKs W _ _ _ from ⟨⟨of_decide_eq_true rfl, o0_0⟩, ⟨of_decide_eq_true rfl, o1_4⟩, ⟨of_decide_eq_true rfl, o2_0⟩, trivial⟩)) hp
  refine hc.mono fun e W' ⟨he, bel⟩ => ?_
  subst he
  exact ⟨_, rfl, _, _, _, [], _, [], hW', trodAll_mk1 (shut_bool Try.underlying4 _), (trodAll_cons_mk (Below.trod laidOut (by kernel_rfl) (of_decide_eq_true (by kernel_rfl)) k0 bel lt0) (trodAll_cons_mk (Below.trod laidOut (by kernel_rfl) (of_decide_eq_true (by kernel_rfl)) k1 bel lt1) (trodAll_cons_mk (Below.trod laidOut (by kernel_rfl) (of_decide_eq_true (by kernel_rfl)) k2 bel lt2) trodAll_mk0))), rfl, bel.frame _, fun h => by cases h⟩
theorem over : Rows.instrPutsRow.holds Try.pinned (OpenSpec.ofChange Rows.instrPutsSpec) :=
  OpenClaim.holds_of_wide 5 Try.f5 rfl rfl rfl rfl rfl rfl rfl ⟨rfl, rfl, rfl, rfl, rfl⟩ rfl rfl rfl rfl rfl (by kernel_rfl) Try.func5 (by kernel_rfl)
    (of_decide_eq_true (by kernel_rfl)) (by unfold Func.isWrapper; first | (rw [if_pos (by decide +kernel)]; kernel_rfl) | (rw [if_neg (by decide +kernel)]; exact ⟨rfl, rfl⟩))
    (fun os started H enc _ => lifted os started H enc)
theorem proved : Rows.InstrPutsSaid := over
#print axioms proved
end Go.Proofs.Ytmfjapphmmlppaa.LInstrPuts
namespace Go.Proofs.Ytmfjapphmmlppaa
/-- The row, under a short name, for the claim. -/
theorem instrPuts_holds : Rows.InstrPutsSaid := LInstrPuts.proved
end Go.Proofs.Ytmfjapphmmlppaa
