/-
  What the parameters of AbsTight tell of their cells, kind by kind; the one plain statement that the row asks for. Written by a program of this session (myrow.py).
-/
import Derived.Test.YticpdchlknbodaaPAbsTightx
import Derived.Test.YticpdchlknbodaaOpens
namespace Go.Proofs.Yticpdchlknbodaa.TAbsTight
open Go.RowKit Go.Proofs.Yticpdchlknbodaa.PAbsTight Go.Proofs.YticpdchlknbodaaW.PrintWords Go.Proofs.YticpdchlknbodaaW.PrintLast Go.Proofs.YticpdchlknbodaaW.PrintMore Go.Proofs.Yticpdchlknbodaa.Opens
set_option linter.unusedVariables false
theorem opens24 {H : Type} {enc : TypeId × Value → H} {w : World} {spare : Nat → Bool} {held : Bool} : Tells enc Try.prog w spare held 24 (fun cs => ∃ (x0 : Int) (x1 : Int), cs = [.int .u64 x0, .int .u64 x1] ∧ (Lit.int .u64 x0).wf = true ∧ (Lit.int .u64 x1).wf = true) := by
  intro fuel cs r h
  have hl := struct_len Try.underlying24 2 (by kernel_rfl) h
  obtain ⟨x0, e0, h0_0⟩ := field Try.underlying24 h 0 _ rfl 1 (by kernel_rfl) (tells_int Try.underlying22)
  obtain ⟨x1, e1, h1_0⟩ := field Try.underlying24 h 1 _ rfl 1 (by kernel_rfl) (tells_int Try.underlying22)
  have p0 := piece cs 0 1 1 rfl
  replace p0 := p0.trans (congrArg (· ++ cs.drop 1) e0)
  have p1 := piece cs 1 1 2 rfl
  replace p1 := p1.trans (congrArg (· ++ cs.drop 2) e1)
  have pe : cs.drop 2 = [] := List.drop_eq_nil_of_le (by omega)
  have hcs : cs = [.int .u64 x0, .int .u64 x1] := by
    have h0 : cs = cs.drop 0 := rfl
    rw [h0, p0, p1, pe]
    rfl
  exact ⟨x0, x1, hcs, h0_0, h1_0⟩

theorem opens26 {H : Type} {enc : TypeId × Value → H} {w : World} {spare : Nat → Bool} {held : Bool} : Tells enc Try.prog w spare held 26 (fun cs => ∃ (x0 : Int) (x1 : Int), cs = [.int .i64 x0, .int .u64 x1] ∧ (Lit.int .i64 x0).wf = true ∧ (Lit.int .u64 x1).wf = true) := by
  intro fuel cs r h
  have hl := struct_len Try.underlying26 2 (by kernel_rfl) h
  obtain ⟨x0, e0, h0_0⟩ := field Try.underlying26 h 0 _ rfl 1 (by kernel_rfl) (tells_int Try.underlying3)
  obtain ⟨x1, e1, h1_0⟩ := field Try.underlying26 h 1 _ rfl 1 (by kernel_rfl) (tells_int Try.underlying22)
  have p0 := piece cs 0 1 1 rfl
  replace p0 := p0.trans (congrArg (· ++ cs.drop 1) e0)
  have p1 := piece cs 1 1 2 rfl
  replace p1 := p1.trans (congrArg (· ++ cs.drop 2) e1)
  have pe : cs.drop 2 = [] := List.drop_eq_nil_of_le (by omega)
  have hcs : cs = [.int .i64 x0, .int .u64 x1] := by
    have h0 : cs = cs.drop 0 := rfl
    rw [h0, p0, p1, pe]
    rfl
  exact ⟨x0, x1, hcs, h0_0, h1_0⟩

theorem opens28 {H : Type} {enc : TypeId × Value → H} {w : World} {spare : Nat → Bool} {held : Bool} : Tells enc Try.prog w spare held 28 (fun cs => ∃ (x0 : Int) (x1 : Int) (x2 : Int) (x3 : Int), cs = [.int .u64 x0, .int .u64 x1, .int .i64 x2, .int .u64 x3] ∧ (Lit.int .u64 x0).wf = true ∧ (Lit.int .u64 x1).wf = true ∧ (Lit.int .i64 x2).wf = true ∧ (Lit.int .u64 x3).wf = true) := by
  intro fuel cs r h
  have hl := struct_len Try.underlying28 4 (by kernel_rfl) h
  obtain ⟨x0, x1, e0, h0_0, h0_1⟩ := field Try.underlying28 h 0 _ rfl 2 (by kernel_rfl) (opens24 (enc := enc) (w := w) (spare := spare) (held := held))
  obtain ⟨x2, x3, e1, h1_0, h1_1⟩ := field Try.underlying28 h 1 _ rfl 2 (by kernel_rfl) (opens26 (enc := enc) (w := w) (spare := spare) (held := held))
  have p0 := piece cs 0 2 2 rfl
  replace p0 := p0.trans (congrArg (· ++ cs.drop 2) e0)
  have p1 := piece cs 2 2 4 rfl
  replace p1 := p1.trans (congrArg (· ++ cs.drop 4) e1)
  have pe : cs.drop 4 = [] := List.drop_eq_nil_of_le (by omega)
  have hcs : cs = [.int .u64 x0, .int .u64 x1, .int .i64 x2, .int .u64 x3] := by
    have h0 : cs = cs.drop 0 := rfl
    rw [h0, p0, p1, pe]
    rfl
  exact ⟨x0, x1, x2, x3, hcs, h0_0, h0_1, h1_0, h1_1⟩

def Pure : Prop := ∀ (a0_0 : Int) (a0_1 : Int) (a0_2 : Int) (a0_3 : Int) (a1 : Int), (Lit.int .u64 a0_0).wf = true → (Lit.int .u64 a0_1).wf = true → (Lit.int .i64 a0_2).wf = true → (Lit.int .u64 a0_3).wf = true → (Lit.int .u64 a1).wf = true → ∃ k, trammellaw18_AbsTight.f k a0_0 a0_1 a0_2 a0_3 a1 = some true
end Go.Proofs.Yticpdchlknbodaa.TAbsTight
