/-
  What the parameters of LowRight tell of their cells, kind by kind; the one plain statement that the row asks for. Written by a program of this session (myrow.py).
-/
import Derived.Test.YtfhmhoefeokihaaPLowRightx
import Derived.Test.YtfhmhoefeokihaaOpens
namespace Go.Proofs.Ytfhmhoefeokihaa.TLowRight
open Go.RowKit Go.Proofs.Ytfhmhoefeokihaa.PLowRight Go.Proofs.YtfhmhoefeokihaaW.PrintWords Go.Proofs.YtfhmhoefeokihaaW.PrintLast Go.Proofs.YtfhmhoefeokihaaW.PrintMore Go.Proofs.Ytfhmhoefeokihaa.Opens
set_option linter.unusedVariables false
theorem opens24 {H : Type} {enc : TypeId × Value → H} {w : World} {spare : Nat → Bool} {held : Bool} : Tells enc Try.prog w spare held 24 (fun cs => ∃ (x0 : Int) (x1 : Int), cs = [.int .i64 x0, .int .u64 x1] ∧ (Lit.int .i64 x0).wf = true ∧ (Lit.int .u64 x1).wf = true) := by
  intro fuel cs r h
  have hl := struct_len Try.underlying24 2 (by kernel_rfl) h
  obtain ⟨x0, e0, h0_0⟩ := field Try.underlying24 h 0 _ rfl 1 (by kernel_rfl) (tells_int Try.underlying3)
  obtain ⟨x1, e1, h1_0⟩ := field Try.underlying24 h 1 _ rfl 1 (by kernel_rfl) (tells_int Try.underlying22)
  have p0 := piece cs 0 1 1 rfl
  replace p0 := p0.trans (congrArg (· ++ cs.drop 1) e0)
  have p1 := piece cs 1 1 2 rfl
  replace p1 := p1.trans (congrArg (· ++ cs.drop 2) e1)
  have pe : cs.drop 2 = [] := List.drop_eq_nil_of_le (by omega)
  have hcs : cs = [.int .i64 x0, .int .u64 x1] := by
    have h0 : cs = cs.drop 0 := rfl
    rw [h0, p0, p1, pe]
    rfl
  exact ⟨x0, x1, hcs, h0_0, h1_0⟩

def Pure : Prop := ∀ (a0_0 : Int) (a0_1 : Int) (a1 : Int), (Lit.int .i64 a0_0).wf = true → (Lit.int .u64 a0_1).wf = true → (Lit.int .i64 a1).wf = true → ∃ k, trammellaw17_LowRight.f k a0_0 a0_1 a1 = some true
end Go.Proofs.Ytfhmhoefeokihaa.TLowRight
