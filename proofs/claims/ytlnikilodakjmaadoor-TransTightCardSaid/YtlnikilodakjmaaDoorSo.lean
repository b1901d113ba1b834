/-
  What an argument that reads as a struct of whole numbers and bools tells of its cells.
-/
import Derived.ProofKit
import Derived.Deep.Slices
import Derived.Lib.SmallJoins
namespace Go.Proofs.YtlnikilodakjmaaDoor.So
open Go.RowKit
section
variable {H : Type} {enc : TypeId × Value → H} {P : Program} {w : World} {spare : Nat → Bool} {held : Bool} {t : TypeId}
/-- Whatever cells read as data of this type: they are so. -/
def Tells (enc : TypeId × Value → H) (P : Program) (w : World) (spare : Nat → Bool) (held : Bool) (t : TypeId) (S : List Value → Prop) : Prop :=
  ∀ fuel cs r, DataW.trod enc P w 0 spare held fuel t cs = some r → S cs

theorem tells_int {k : IntKind} (hu : P.underlying t = some (.int k)) : Tells enc P w spare held t (fun cs => ∃ n, cs = [.int k n] ∧ (Lit.int k n).wf = true) := by
  intro fuel cs r h
  obtain ⟨n, rfl, _, hw⟩ := DataW.trod_int hu h
  exact ⟨n, rfl, hw⟩
theorem tells_bool (hu : P.underlying t = some .bool) : Tells enc P w spare held t (fun cs => ∃ b, cs = [.bool b]) := by
  intro fuel cs r h
  obtain ⟨b, rfl, _⟩ := DataW.trod_bool hu h
  exact ⟨b, rfl⟩
theorem piece (cs : List Value) (o n m : Nat) (h : o + n = m) : cs.drop o = (cs.drop o).take n ++ cs.drop m := by
  rw [← h, ← List.drop_drop, List.take_append_drop]
/-- A struct's field. -/
theorem field {fs : Array Field} {S : List Value → Prop} {fuel : Nat} {cs : List Value} {r : DataW H × List MemPlace} (hu : P.underlying t = some (.struct fs))
    (h : DataW.trod enc P w 0 spare held fuel t cs = some r) (i : Nat) (f : Field) (hf : fs[i]? = some f) (n : Nat) (hn : P.cellsOf f.type = n) (hS : Tells enc P w spare held f.type S) : S ((cs.drop f.offset).take n) := by
  obtain ⟨xs, m, _, _, _, hl, hx⟩ := DataW.trod_struct hu h
  have hi : i < fs.size := (Array.getElem?_eq_some_iff.1 hf).1
  have h1 := hx i f hf
  rw [List.getElem?_eq_getElem (by omega), hn] at h1
  exact hS _ _ _ h1
theorem struct_len {fs : Array Field} {fuel : Nat} {cs : List Value} {r : DataW H × List MemPlace} (hu : P.underlying t = some (.struct fs)) (n : Nat) (hn : P.cellsOf t = n)
    (h : DataW.trod enc P w 0 spare held fuel t cs = some r) : cs.length = n := by
  obtain ⟨_, _, _, _, hl, _⟩ := DataW.trod_struct hu h
  exact hl.trans hn
end
theorem agg_of {cs : Array Value} {l : List Value} (h : (Value.agg cs).cells.toList = l) : cs = l.toArray := by
  have h1 : cs.toList = l := h
  rw [← h1]
end Go.Proofs.YtlnikilodakjmaaDoor.So
