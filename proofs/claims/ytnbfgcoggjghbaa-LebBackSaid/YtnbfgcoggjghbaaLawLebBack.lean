/-
  LebBack: for every input the law returns true, and each argument reads behind the call as it read before. No condition. The code is carried out as its tree of tests tells (Vx, XLebBack); the plain law is YLebBack.
-/
import Derived.Test.YtnbfgcoggjghbaaRows
import Derived.Test.YtnbfgcoggjghbaaYLebBack
import Derived.Test.YtnbfgcoggjghbaaVr
import Derived.WalkKit
import Derived.ProofKit
import Derived.OpenShut
import Derived.ShutString
import Derived.ChangeOld
import Derived.Below
import Derived.SizedLaws
namespace Go.Proofs.Ytnbfgcoggjghbaa.LLebBack
open Go.ChangeShapes Go.WideShapes Go.ChangeAt Go.RowKit
open Go.ChangeMaps (open_string shut_string)
open Go.Proofs.Ytnbfgcoggjghbaa.Vx (bytesD)
set_option linter.unusedVariables false
theorem own : ownKnob Try.prog.godebug = none := by kernel_rfl
theorem laidOut : laidOutB Try.prog = true := by kernel_rfl
set_option maxRecDepth 100000 in
theorem lifted (os : Os) (started : os.Started) (H : Type) (enc : TypeId × Value → H) :
    ReturnsInHanded {} Try.checked os 6 .any (Rows.lebBackSpec.pre6 enc Try.prog Try.f6 Rows.lebBackRow.domain false) (Rows.lebBackSpec.post enc Try.prog Try.f6 false true false false) := by
  refine returnsInHanded_of_change_sized (C := Try.checked) own started (by kernel_rfl) Try.func6
    (ChangeSpec.witness6 (enc := enc) (C := Try.checked) false ⟨#[], #[.int .u64 0, .int .i64 0, .int .i64 0, .slice none 0 0], []⟩ 8 (by kernel_rfl) (by kernel_rfl) (by kernel_rfl) (by kernel_rfl)) ?_
  intro W base args ds gs before hval0 hW hcnd hsz0 _
  have hval : ∀ (j : Nat) t v, Try.f6.params[j]? = some t → args[j]? = some v → Value.okWide Try.prog W .any base t v := hval0
  have hW' := hW
  obtain ⟨p, q, hA0, hV, rfl, hfz, hnd⟩ := hW
  have hA : DataW.TrodAll enc Try.prog W 0 (fun _ => true) true Try.f6.params.toList args.toList ds p := hA0
  rw [Try.params6] at hA hval
  obtain ⟨v0, vs0, d0, ds0, p0, q0, hargs, rfl, rfl, h0, r0⟩ := trodAll_cons hA
  obtain ⟨v1, vs1, d1, ds1, p1, q1, rfl, rfl, rfl, h1, r1⟩ := trodAll_cons r0
  obtain ⟨v2, vs2, d2, ds2, p2, q2, rfl, rfl, rfl, h2, r2⟩ := trodAll_cons r1
  obtain ⟨v3, vs3, d3, ds3, p3, q3, rfl, rfl, rfl, h3, r3⟩ := trodAll_cons r2
  obtain ⟨rfl, rfl, rfl⟩ := trodAll_nil r3
  obtain rfl : args = #[v0, v1, v2, v3] := by cases args; simp_all
  obtain ⟨rfl, rfl⟩ := trodVars_none hV
  obtain ⟨a0_0, rfl, rfl, rfl, w0_0⟩ := open_int Try.underlying24 (hval 0 24 v0 rfl rfl) h0
  obtain ⟨a1_0, rfl, rfl, rfl, w1_0⟩ := open_int Try.underlying2 (hval 1 2 v1 rfl rfl) h1
  obtain ⟨a2_0, rfl, rfl, rfl, w2_0⟩ := open_int Try.underlying3 (hval 2 3 v2 rfl rfl) h2
  obtain ⟨A3, n3, c3, rfl⟩ := okWide_slice Try.underlying22 (hval 3 22 v3 rfl rfl)
  have k3 := h3
  have lt3 : ∀ x ∈ p3, x.block < W.heap.size := by obtain ⟨m, hm⟩ := k3; exact DataW.trod_lt m _ _ _ hm
  obtain ⟨fu3, hf3⟩ := h3
  obtain ⟨ds3_, hc3, hw3⟩ := Vr.reads 9 22 [.sl [(.i .u8)]] (by kernel_rfl) _ _ _ hf3
  simp only [Vr.CT.wfL] at hw3
  obtain ⟨u3_0, ul3_0, d3_0, dl3_0, he3_0, hd3_0, hr3_0, hc3⟩ := hc3
  obtain ⟨he3_1, hd3_1⟩ := hc3
  obtain ⟨f3_0, fl3_0, hg3_0, hw3_0, hw3⟩ := hw3
  have hp3_0 := hd3_0.symm.trans hg3_0
  obtain ⟨ha3_0, hq3_0⟩ := List.cons.inj hp3_0
  rw [← ha3_0] at hw3_0
  obtain ⟨A3_0, c3_0, l3_0, rfl, o3_0, w3_0⟩ := Vr.leaf_sl hr3_0 hw3_0
  rw [he3_1] at he3_0
  obtain ⟨rfl, rfl, rfl⟩ : A3 = A3_0 ∧ n3 = l3_0.length ∧ c3 = c3_0 := by simpa [Value.cells] using he3_0
  clear hA0 hval0 hsz0
  have hp := YLebBack.law a0_0 a1_0 a2_0 l3_0 w0_0 w1_0 w2_0 w3_0
  have hc : Calls Try.prog 6 #[.int .u64 a0_0, .int .i64 a1_0, .int .i64 a2_0, .slice A3 l3_0.length c3] W fun e w' => e = .returned (.bool true) ∧ Below W.heap.size W w' := Vr.law_calls XLebBack.g6 rfl rfl rfl W trivial [a0_0, a1_0, a2_0] [] [l3_0] [.slice A3 l3_0.length c3] rfl rfl rfl rfl (Vr.OKs.ok (show Vr.OKs W _ _ _ from ⟨⟨of_decide_eq_true rfl, o3_0⟩, trivial⟩)) hp
  refine hc.mono fun e W' ⟨he, bel⟩ => ?_
  subst he
  exact ⟨_, rfl, _, _, _, [], _, [], hW', trodAll_mk1 (shut_bool Try.underlying4 _), (trodAll_cons_mk (shut_int Try.underlying24 w0_0) (trodAll_cons_mk (shut_int Try.underlying2 w1_0) (trodAll_cons_mk (shut_int Try.underlying3 w2_0) (trodAll_cons_mk (Below.trod laidOut (by kernel_rfl) (of_decide_eq_true (by kernel_rfl)) k3 bel lt3) trodAll_mk0)))), rfl, bel.frame _, fun h => by cases h⟩
theorem over : Rows.lebBackRow.holds Try.pinned (OpenSpec.ofChange Rows.lebBackSpec) :=
  OpenClaim.holds_of_wide 6 Try.f6 rfl rfl rfl rfl rfl rfl rfl ⟨rfl, rfl, rfl, rfl, rfl⟩ rfl rfl rfl rfl rfl (by kernel_rfl) Try.func6 (by kernel_rfl)
    (of_decide_eq_true (by kernel_rfl)) (by unfold Func.isWrapper; first | (rw [if_pos (by decide +kernel)]; kernel_rfl) | (rw [if_neg (by decide +kernel)]; exact ⟨rfl, rfl⟩))
    (fun os started H enc _ => lifted os started H enc)
theorem proved : Rows.LebBackSaid := over
#print axioms proved
end Go.Proofs.Ytnbfgcoggjghbaa.LLebBack
namespace Go.Proofs.Ytnbfgcoggjghbaa
/-- The row, under a short name, for the claim. -/
theorem lebBack_holds : Rows.LebBackSaid := LLebBack.proved
end Go.Proofs.Ytnbfgcoggjghbaa
