/-
  What the parameters of AbsWidens tell of their cells, kind by kind; the one plain statement that the row asks for. Written by a program of this session (myrow.py).
-/
import Derived.Test.YticpdchlknbodaaDoorPAbsWidensx
import Derived.Test.YticpdchlknbodaaDoorOpens
namespace Go.Proofs.YticpdchlknbodaaDoor.TAbsWidens
open Go.RowKit Go.Proofs.YticpdchlknbodaaDoor.PAbsWidens Go.Proofs.YticpdchlknbodaaDoorW.PrintWords Go.Proofs.YticpdchlknbodaaDoorW.PrintLast Go.Proofs.YticpdchlknbodaaDoorW.PrintMore Go.Proofs.YticpdchlknbodaaDoor.Opens
set_option linter.unusedVariables false
theorem opens24 {H : Type} {enc : TypeId × Value → H} {w : World} {spare : Nat → Bool} {held : Bool} : Tells enc Tryd.prog w spare held 24 (fun cs => ∃ (x0 : Int) (x1 : Int), cs = [.int .u64 x0, .int .u64 x1] ∧ (Lit.int .u64 x0).wf = true ∧ (Lit.int .u64 x1).wf = true) := by
  intro fuel cs r h
  have hl := struct_len Tryd.underlying24 2 (by kernel_rfl) h
  obtain ⟨x0, e0, h0_0⟩ := field Tryd.underlying24 h 0 _ rfl 1 (by kernel_rfl) (tells_int Tryd.underlying22)
  obtain ⟨x1, e1, h1_0⟩ := field Tryd.underlying24 h 1 _ rfl 1 (by kernel_rfl) (tells_int Tryd.underlying22)
  have p0 := piece cs 0 1 1 rfl
  replace p0 := p0.trans (congrArg (· ++ cs.drop 1) e0)
  have p1 := piece cs 1 1 2 rfl
  replace p1 := p1.trans (congrArg (· ++ cs.drop 2) e1)
  have pe : cs.drop 2 = [] := List.drop_eq_nil_of_le (by omega)
  have hcs : cs = [.int .u64 x0, .int .u64 x1] := by
    have h0 : cs = cs.drop 0 := rfl
    rw [h0, p0, p1, pe]
    rfl
  exact ⟨x0, x1, hcs, h0_0, h1_0⟩

theorem opens26 {H : Type} {enc : TypeId × Value → H} {w : World} {spare : Nat → Bool} {held : Bool} : Tells enc Tryd.prog w spare held 26 (fun cs => ∃ (x0 : Int) (x1 : Int), cs = [.int .i64 x0, .int .u64 x1] ∧ (Lit.int .i64 x0).wf = true ∧ (Lit.int .u64 x1).wf = true) := by
  intro fuel cs r h
  have hl := struct_len Tryd.underlying26 2 (by kernel_rfl) h
  obtain ⟨x0, e0, h0_0⟩ := field Tryd.underlying26 h 0 _ rfl 1 (by kernel_rfl) (tells_int Tryd.underlying3)
  obtain ⟨x1, e1, h1_0⟩ := field Tryd.underlying26 h 1 _ rfl 1 (by kernel_rfl) (tells_int Tryd.underlying22)
  have p0 := piece cs 0 1 1 rfl
  replace p0 := p0.trans (congrArg (· ++ cs.drop 1) e0)
  have p1 := piece cs 1 1 2 rfl
  replace p1 := p1.trans (congrArg (· ++ cs.drop 2) e1)
  have pe : cs.drop 2 = [] := List.drop_eq_nil_of_le (by omega)
  have hcs : cs = [.int .i64 x0, .int .u64 x1] := by
    have h0 : cs = cs.drop 0 := rfl
    rw [h0, p0, p1, pe]
    rfl
  exact ⟨x0, x1, hcs, h0_0, h1_0⟩

theorem opens28 {H : Type} {enc : TypeId × Value → H} {w : World} {spare : Nat → Bool} {held : Bool} : Tells enc Tryd.prog w spare held 28 (fun cs => ∃ (x0 : Int) (x1 : Int) (x2 : Int) (x3 : Int), cs = [.int .u64 x0, .int .u64 x1, .int .i64 x2, .int .u64 x3] ∧ (Lit.int .u64 x0).wf = true ∧ (Lit.int .u64 x1).wf = true ∧ (Lit.int .i64 x2).wf = true ∧ (Lit.int .u64 x3).wf = true) := by
  intro fuel cs r h
  have hl := struct_len Tryd.underlying28 4 (by kernel_rfl) h
  obtain ⟨x0, x1, e0, h0_0, h0_1⟩ := field Tryd.underlying28 h 0 _ rfl 2 (by kernel_rfl) (opens24 (enc := enc) (w := w) (spare := spare) (held := held))
  obtain ⟨x2, x3, e1, h1_0, h1_1⟩ := field Tryd.underlying28 h 1 _ rfl 2 (by kernel_rfl) (opens26 (enc := enc) (w := w) (spare := spare) (held := held))
  have p0 := piece cs 0 2 2 rfl
  replace p0 := p0.trans (congrArg (· ++ cs.drop 2) e0)
  have p1 := piece cs 2 2 4 rfl
  replace p1 := p1.trans (congrArg (· ++ cs.drop 4) e1)
  have pe : cs.drop 4 = [] := List.drop_eq_nil_of_le (by omega)
  have hcs : cs = [.int .u64 x0, .int .u64 x1, .int .i64 x2, .int .u64 x3] := by
    have h0 : cs = cs.drop 0 := rfl
    rw [h0, p0, p1, pe]
    rfl
  exact ⟨x0, x1, x2, x3, hcs, h0_0, h0_1, h1_0, h1_1⟩

def G24 (x : S24) : Prop := ((Lit.int .u64 x.f0).wf = true) ∧ ((Lit.int .u64 x.f1).wf = true)
def G26 (x : S26) : Prop := ((Lit.int .i64 x.f0).wf = true) ∧ ((Lit.int .u64 x.f1).wf = true)
def G28 (x : S28) : Prop := (G24 x.f0) ∧ (G26 x.f1)
theorem tellsK28 {H : Type} {enc : TypeId × Value → H} {w : World} {spare : Nat → Bool} {held : Bool} : Tells enc Tryd.prog w spare held 28 (fun cs => ∃ x : S28, k28.K w x cs ∧ G28 x) := by
  intro fuel cs r h
  obtain ⟨x0, x1, x2, x3, rfl, f0, f1, f2, f3⟩ := opens28 _ _ _ h
  exact ⟨(⟨(⟨x0, x1⟩ : S24), (⟨x2, x3⟩ : S26)⟩ : S28), k28_mk w (⟨(⟨x0, x1⟩ : S24), (⟨x2, x3⟩ : S26)⟩ : S28) , ⟨⟨f0, f1⟩, ⟨f2, f3⟩⟩⟩

def Pure : Prop := ∀ (a0_0 : Int) (a0_1 : Int) (a0_2 : Int) (a0_3 : Int) (l1 : List S28) (a2 : Int), (Lit.int .u64 a0_0).wf = true → (Lit.int .u64 a0_1).wf = true → (Lit.int .i64 a0_2).wf = true → (Lit.int .u64 a0_3).wf = true → l1.length ≤ maxLen → (∀ y ∈ l1, G28 y) → (Lit.int .i64 a2).wf = true → ∃ k, trammellaw18_AbsWidens.f k a0_0 a0_1 a0_2 a0_3 l1 a2 = some true
end Go.Proofs.YticpdchlknbodaaDoor.TAbsWidens
