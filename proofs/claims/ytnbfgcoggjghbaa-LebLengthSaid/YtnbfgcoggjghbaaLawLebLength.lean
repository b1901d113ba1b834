/-
  LebLength: for every input the law returns true, and each argument reads behind the call as it read before. No condition. The code is carried out as its tree of tests tells (Vx, XLebLength); the plain law is YLebLength.
-/
import Derived.Test.YtnbfgcoggjghbaaRows
import Derived.Test.YtnbfgcoggjghbaaYLebLength
import Derived.Test.YtnbfgcoggjghbaaVr
import Derived.WalkKit
import Derived.ProofKit
import Derived.OpenShut
import Derived.ShutString
import Derived.ChangeOld
import Derived.Below
import Derived.SizedLaws
namespace Go.Proofs.Ytnbfgcoggjghbaa.LLebLength
open Go.ChangeShapes Go.WideShapes Go.ChangeAt Go.RowKit
open Go.ChangeMaps (open_string shut_string)
open Go.Proofs.Ytnbfgcoggjghbaa.Vx (bytesD)
set_option linter.unusedVariables false
theorem own : ownKnob Try.prog.godebug = none := by kernel_rfl
theorem laidOut : laidOutB Try.prog = true := by kernel_rfl
set_option maxRecDepth 100000 in
theorem lifted (os : Os) (started : os.Started) (H : Type) (enc : TypeId × Value → H) :
    ReturnsInHanded {} Try.checked os 8 .any (Rows.lebLengthSpec.pre6 enc Try.prog Try.f8 Rows.lebLengthRow.domain false) (Rows.lebLengthSpec.post enc Try.prog Try.f8 false true false false) := by
  refine returnsInHanded_of_change_sized (C := Try.checked) own started (by kernel_rfl) Try.func8
    (ChangeSpec.witness6 (enc := enc) (C := Try.checked) false ⟨#[], #[.int .u64 0, .int .u64 0, .int .i64 0], []⟩ 8 (by kernel_rfl) (by kernel_rfl) (by kernel_rfl) (by kernel_rfl)) ?_
  intro W base args ds gs before hval0 hW hcnd hsz0 _
  have hval : ∀ (j : Nat) t v, Try.f8.params[j]? = some t → args[j]? = some v → Value.okWide Try.prog W .any base t v := hval0
  have hW' := hW
  obtain ⟨p, q, hA0, hV, rfl, hfz, hnd⟩ := hW
  have hA : DataW.TrodAll enc Try.prog W 0 (fun _ => true) true Try.f8.params.toList args.toList ds p := hA0
  rw [Try.params8] at hA hval
  obtain ⟨v0, vs0, d0, ds0, p0, q0, hargs, rfl, rfl, h0, r0⟩ := trodAll_cons hA
  obtain ⟨v1, vs1, d1, ds1, p1, q1, rfl, rfl, rfl, h1, r1⟩ := trodAll_cons r0
  obtain ⟨v2, vs2, d2, ds2, p2, q2, rfl, rfl, rfl, h2, r2⟩ := trodAll_cons r1
  obtain ⟨rfl, rfl, rfl⟩ := trodAll_nil r2
  obtain rfl : args = #[v0, v1, v2] := by cases args; simp_all
  obtain ⟨rfl, rfl⟩ := trodVars_none hV
  obtain ⟨a0_0, rfl, rfl, rfl, w0_0⟩ := open_int Try.underlying24 (hval 0 24 v0 rfl rfl) h0
  obtain ⟨a1_0, rfl, rfl, rfl, w1_0⟩ := open_int Try.underlying24 (hval 1 24 v1 rfl rfl) h1
  obtain ⟨a2_0, rfl, rfl, rfl, w2_0⟩ := open_int Try.underlying2 (hval 2 2 v2 rfl rfl) h2
  clear hA0 hval0 hsz0
  have hp := YLebLength.law a0_0 a1_0 a2_0 w0_0 w1_0 w2_0
  have hc : Calls Try.prog 8 #[.int .u64 a0_0, .int .u64 a1_0, .int .i64 a2_0] W fun e w' => e = .returned (.bool true) ∧ Below W.heap.size W w' := Vr.law_calls XLebLength.g8 rfl rfl rfl W trivial [a0_0, a1_0, a2_0] [] [] [] rfl rfl rfl rfl (Vr.OKs.ok (show Vr.OKs W _ _ _ from trivial)) hp
  refine hc.mono fun e W' ⟨he, bel⟩ => ?_
  subst he
  exact ⟨_, rfl, _, _, _, [], _, [], hW', trodAll_mk1 (shut_bool Try.underlying4 _), (trodAll_cons_mk (shut_int Try.underlying24 w0_0) (trodAll_cons_mk (shut_int Try.underlying24 w1_0) (trodAll_cons_mk (shut_int Try.underlying2 w2_0) trodAll_mk0))), rfl, bel.frame _, fun h => by cases h⟩
theorem over : Rows.lebLengthRow.holds Try.pinned (OpenSpec.ofChange Rows.lebLengthSpec) :=
  OpenClaim.holds_of_wide 8 Try.f8 rfl rfl rfl rfl rfl rfl rfl ⟨rfl, rfl, rfl, rfl, rfl⟩ rfl rfl rfl rfl rfl (by kernel_rfl) Try.func8 (by kernel_rfl)
    (of_decide_eq_true (by kernel_rfl)) (by unfold Func.isWrapper; first | (rw [if_pos (by decide +kernel)]; kernel_rfl) | (rw [if_neg (by decide +kernel)]; exact ⟨rfl, rfl⟩))
    (fun os started H enc _ => lifted os started H enc)
theorem proved : Rows.LebLengthSaid := over
#print axioms proved
end Go.Proofs.Ytnbfgcoggjghbaa.LLebLength
namespace Go.Proofs.Ytnbfgcoggjghbaa
/-- The row, under a short name, for the claim. -/
theorem lebLength_holds : Rows.LebLengthSaid := LLebLength.proved
end Go.Proofs.Ytnbfgcoggjghbaa
