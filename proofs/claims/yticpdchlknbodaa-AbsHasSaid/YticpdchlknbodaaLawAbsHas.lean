/-
  AbsHas: for every input the law returns true, and each argument reads behind the call as it read before. No condition. The code is carried out as its tree of tests tells (Sx, XAbsHas); the plain law is YAbsHas.
-/
import Derived.Test.YticpdchlknbodaaRows
import Derived.Test.YticpdchlknbodaaYAbsHas
import Derived.Test.YticpdchlknbodaaSo
import Derived.WalkKit
import Derived.ProofKit
import Derived.OpenShut
import Derived.ShutString
import Derived.ChangeOld
import Derived.Below
import Derived.SizedLaws
namespace Go.Proofs.Yticpdchlknbodaa.LAbsHas
open Go.ChangeShapes Go.WideShapes Go.ChangeAt Go.RowKit
open Go.ChangeMaps (open_string shut_string)
set_option linter.unusedVariables false
theorem own : ownKnob Try.prog.godebug = none := by kernel_rfl
theorem laidOut : laidOutB Try.prog = true := by kernel_rfl
theorem opens24 {H : Type} {enc : TypeId × Value → H} {w : World} {spare : Nat → Bool} {held : Bool} : So.Tells enc Try.prog w spare held 24 (fun cs => ∃ (x0 : Int) (x1 : Int), cs = [.int .u64 x0, .int .u64 x1] ∧ (Lit.int .u64 x0).wf = true ∧ (Lit.int .u64 x1).wf = true) := by
  intro fuel cs r h
  have hl := So.struct_len Try.underlying24 2 (by kernel_rfl) h
  obtain ⟨x0, e0, h0_0⟩ := So.field Try.underlying24 h 0 _ rfl 1 (by kernel_rfl) (So.tells_int Try.underlying22)
  obtain ⟨x1, e1, h1_0⟩ := So.field Try.underlying24 h 1 _ rfl 1 (by kernel_rfl) (So.tells_int Try.underlying22)
  have p0 := So.piece cs 0 1 1 rfl
  replace p0 := p0.trans (congrArg (· ++ cs.drop 1) e0)
  have p1 := So.piece cs 1 1 2 rfl
  replace p1 := p1.trans (congrArg (· ++ cs.drop 2) e1)
  have pe : cs.drop 2 = [] := List.drop_eq_nil_of_le (by omega)
  have hcs : cs = [.int .u64 x0, .int .u64 x1] := by
    have h0 : cs = cs.drop 0 := rfl
    rw [h0, p0, p1, pe]
    rfl
  exact ⟨x0, x1, hcs, h0_0, h1_0⟩
theorem opens26 {H : Type} {enc : TypeId × Value → H} {w : World} {spare : Nat → Bool} {held : Bool} : So.Tells enc Try.prog w spare held 26 (fun cs => ∃ (x0 : Int) (x1 : Int), cs = [.int .i64 x0, .int .u64 x1] ∧ (Lit.int .i64 x0).wf = true ∧ (Lit.int .u64 x1).wf = true) := by
  intro fuel cs r h
  have hl := So.struct_len Try.underlying26 2 (by kernel_rfl) h
  obtain ⟨x0, e0, h0_0⟩ := So.field Try.underlying26 h 0 _ rfl 1 (by kernel_rfl) (So.tells_int Try.underlying3)
  obtain ⟨x1, e1, h1_0⟩ := So.field Try.underlying26 h 1 _ rfl 1 (by kernel_rfl) (So.tells_int Try.underlying22)
  have p0 := So.piece cs 0 1 1 rfl
  replace p0 := p0.trans (congrArg (· ++ cs.drop 1) e0)
  have p1 := So.piece cs 1 1 2 rfl
  replace p1 := p1.trans (congrArg (· ++ cs.drop 2) e1)
  have pe : cs.drop 2 = [] := List.drop_eq_nil_of_le (by omega)
  have hcs : cs = [.int .i64 x0, .int .u64 x1] := by
    have h0 : cs = cs.drop 0 := rfl
    rw [h0, p0, p1, pe]
    rfl
  exact ⟨x0, x1, hcs, h0_0, h1_0⟩
theorem opens28 {H : Type} {enc : TypeId × Value → H} {w : World} {spare : Nat → Bool} {held : Bool} : So.Tells enc Try.prog w spare held 28 (fun cs => ∃ (x0 : Int) (x1 : Int) (x2 : Int) (x3 : Int), cs = [.int .u64 x0, .int .u64 x1, .int .i64 x2, .int .u64 x3] ∧ (Lit.int .u64 x0).wf = true ∧ (Lit.int .u64 x1).wf = true ∧ (Lit.int .i64 x2).wf = true ∧ (Lit.int .u64 x3).wf = true) := by
  intro fuel cs r h
  have hl := So.struct_len Try.underlying28 4 (by kernel_rfl) h
  obtain ⟨x0, x1, e0, h0_0, h0_1⟩ := So.field Try.underlying28 h 0 _ rfl 2 (by kernel_rfl) (opens24 (enc := enc) (w := w) (spare := spare) (held := held))
  obtain ⟨x2, x3, e1, h1_0, h1_1⟩ := So.field Try.underlying28 h 1 _ rfl 2 (by kernel_rfl) (opens26 (enc := enc) (w := w) (spare := spare) (held := held))
  have p0 := So.piece cs 0 2 2 rfl
  replace p0 := p0.trans (congrArg (· ++ cs.drop 2) e0)
  have p1 := So.piece cs 2 2 4 rfl
  replace p1 := p1.trans (congrArg (· ++ cs.drop 4) e1)
  have pe : cs.drop 4 = [] := List.drop_eq_nil_of_le (by omega)
  have hcs : cs = [.int .u64 x0, .int .u64 x1, .int .i64 x2, .int .u64 x3] := by
    have h0 : cs = cs.drop 0 := rfl
    rw [h0, p0, p1, pe]
    rfl
  exact ⟨x0, x1, x2, x3, hcs, h0_0, h0_1, h1_0, h1_1⟩
set_option maxRecDepth 100000 in
theorem lifted (os : Os) (started : os.Started) (H : Type) (enc : TypeId × Value → H) :
    ReturnsInHanded {} Try.checked os 4 .any (Rows.absHasSpec.pre6 enc Try.prog Try.f4 Rows.absHasRow.domain false) (Rows.absHasSpec.post enc Try.prog Try.f4 false true false false) := by
  refine returnsInHanded_of_change_sized (C := Try.checked) own started (by kernel_rfl) Try.func4
    (ChangeSpec.witness6 (enc := enc) (C := Try.checked) false ⟨#[], #[.agg #[.int .u64 0, .int .u64 0, .int .i64 0, .int .u64 0], .int .u64 0, .int .i64 0], []⟩ 8 (by kernel_rfl) (by kernel_rfl) (by kernel_rfl) (by kernel_rfl)) ?_
  intro W base args ds gs before hval0 hW hcnd hsz0 _
  have hval : ∀ (j : Nat) t v, Try.f4.params[j]? = some t → args[j]? = some v → Value.okWide Try.prog W .any base t v := hval0
  have hW' := hW
  obtain ⟨p, q, hA0, hV, rfl, hfz, hnd⟩ := hW
  have hA : DataW.TrodAll enc Try.prog W 0 (fun _ => true) true Try.f4.params.toList args.toList ds p := hA0
  rw [Try.params4] at hA hval
  obtain ⟨v0, vs0, d0, ds0, p0, q0, hargs, rfl, rfl, h0, r0⟩ := trodAll_cons hA
  obtain ⟨v1, vs1, d1, ds1, p1, q1, rfl, rfl, rfl, h1, r1⟩ := trodAll_cons r0
  obtain ⟨v2, vs2, d2, ds2, p2, q2, rfl, rfl, rfl, h2, r2⟩ := trodAll_cons r1
  obtain ⟨rfl, rfl, rfl⟩ := trodAll_nil r2
  obtain rfl : args = #[v0, v1, v2] := by cases args; simp_all
  obtain ⟨rfl, rfl⟩ := trodVars_none hV
  obtain ⟨cs0, rfl, _⟩ := okWide_struct Try.underlying28 (hval 0 28 v0 rfl rfl)
  have k0 := h0
  have lt0 : ∀ x ∈ p0, x.block < W.heap.size := by obtain ⟨m, hm⟩ := k0; exact DataW.trod_lt m _ _ _ hm
  obtain ⟨fu0, hf0⟩ := h0
  obtain ⟨a0_0, a0_1, a0_2, a0_3, he0, w0_0, w0_1, w0_2, w0_3⟩ := opens28 _ _ _ hf0
  obtain rfl := So.agg_of he0
  obtain ⟨a1, rfl, rfl, rfl, w1⟩ := open_int Try.underlying22 (hval 1 22 v1 rfl rfl) h1
  obtain ⟨a2, rfl, rfl, rfl, w2⟩ := open_int Try.underlying3 (hval 2 3 v2 rfl rfl) h2
  clear hA0 hval0 hsz0
  have hp := YAbsHas.law a0_0 a0_1 a0_2 a0_3 a1 a2 w0_0 w0_1 w0_2 w0_3 w1 w2
  have hc : Calls Try.prog 4 #[.agg #[.int .u64 a0_0, .int .u64 a0_1, .int .i64 a0_2, .int .u64 a0_3], .int .u64 a1, .int .i64 a2] W fun e w' => e = .returned (.bool true) ∧ Below W.heap.size W w' := Sx.Good.calls XAbsHas.g4 Try.func4 (by kernel_rfl) (by kernel_rfl) hp W trivial
  refine hc.mono fun e W' ⟨he, bel⟩ => ?_
  subst he
  exact ⟨_, rfl, _, _, _, [], _, [], hW', trodAll_mk1 (shut_bool Try.underlying4 _), (trodAll_cons_mk (Below.trod laidOut (by kernel_rfl) (of_decide_eq_true (by kernel_rfl)) k0 bel lt0) (trodAll_cons_mk (shut_int Try.underlying22 w1) (trodAll_cons_mk (shut_int Try.underlying3 w2) trodAll_mk0))), rfl, bel.frame _, fun h => by cases h⟩
theorem over : Rows.absHasRow.holds Try.pinned (OpenSpec.ofChange Rows.absHasSpec) :=
  OpenClaim.holds_of_wide 4 Try.f4 rfl rfl rfl rfl rfl rfl rfl ⟨rfl, rfl, rfl, rfl, rfl⟩ rfl rfl rfl rfl rfl (by kernel_rfl) Try.func4 (by kernel_rfl)
    (of_decide_eq_true (by kernel_rfl)) (by unfold Func.isWrapper; first | (rw [if_pos (by decide +kernel)]; kernel_rfl) | (rw [if_neg (by decide +kernel)]; exact ⟨rfl, rfl⟩))
    (fun os started H enc _ => lifted os started H enc)
theorem proved : Rows.AbsHasSaid := over
#print axioms proved
end Go.Proofs.Yticpdchlknbodaa.LAbsHas
namespace Go.Proofs.Yticpdchlknbodaa
/-- The row, under a short name, for the claim. -/
theorem absHas_holds : Rows.AbsHasSaid := LAbsHas.proved
end Go.Proofs.Yticpdchlknbodaa
