/-
  What an argument that reads as data tells of its cells, kind by kind: whole numbers, bools, strings, slices, structs.
-/
import Derived.Test.YticpdchlknbodaaDoorWMore
import Derived.ProofKit
import Derived.Deep.Slices
import Derived.Lib.SmallJoins
namespace Go.Proofs.YticpdchlknbodaaDoor.Opens
open Go.RowKit Go.Proofs.YticpdchlknbodaaDoorW.PrintWords Go.Proofs.YticpdchlknbodaaDoorW.PrintMore
section
variable {H : Type} {enc : TypeId × Value → H} {P : Program} {w : World} {spare : Nat → Bool} {held : Bool} {t e : TypeId}

/-- Whatever cells read as data of this type: they are so. -/
def Tells (enc : TypeId × Value → H) (P : Program) (w : World) (spare : Nat → Bool) (held : Bool) (t : TypeId) (S : List Value → Prop) : Prop :=
  ∀ fuel cs r, DataW.trod enc P w 0 spare held fuel t cs = some r → S cs

theorem Tells.imp {S S' : List Value → Prop} (h : Tells enc P w spare held t S) (hs : ∀ cs, S cs → S' cs) : Tells enc P w spare held t S' := fun f cs r hr => hs cs (h f cs r hr)

theorem tells_int {k : IntKind} (hu : P.underlying t = some (.int k)) : Tells enc P w spare held t (fun cs => ∃ n, cs = [.int k n] ∧ (Lit.int k n).wf = true) := by
  intro fuel cs r h
  obtain ⟨n, rfl, _, hw⟩ := DataW.trod_int hu h
  exact ⟨n, rfl, hw⟩
theorem tells_bool (hu : P.underlying t = some .bool) : Tells enc P w spare held t (fun cs => ∃ b, cs = [.bool b]) := by
  intro fuel cs r h
  obtain ⟨b, rfl, _⟩ := DataW.trod_bool hu h
  exact ⟨b, rfl⟩
theorem tells_string (hu : P.underlying t = some .string) : Tells enc P w spare held t (fun cs => ∃ s, cs = [.string s] ∧ s.size ≤ maxLen) := by
  intro fuel cs r h
  obtain ⟨s, rfl, _, hw⟩ := DataW.trod_string hu h
  exact ⟨s, rfl, hw⟩

theorem cells_some {a : Addr} {n : Nat} {cs : List Value} (h : w.cells? 0 a n = some cs) : cs.length = n ∧ ∀ i u, cs[i]? = some u → w.cell? (a.add i) = some u := by
  unfold World.cells? at h
  rw [if_pos (Nat.zero_le _)] at h
  have hl : cs.length = n := by have := mapM_some_length h; simpa using this
  refine ⟨hl, fun i u hu => ?_⟩
  have hi : i < n := by
    obtain ⟨h1, _⟩ := List.getElem?_eq_some_iff.1 hu
    omega
  have h2 := mapM_some_get h i i (by simp [hi])
  rw [h2]
  exact hu
theorem add_add (a : Addr) (i j : Nat) : (a.add i).add j = a.add (i + j) := by
  by_cases hi : i = 0 <;> by_cases hj : j = 0 <;> simp [Addr.add, hi, hj, Nat.add_assoc]

/-- A list out of what holds at each place. -/
theorem list_of {α : Type} {R : Nat → α → Prop} : ∀ (n : Nat), (∀ i, i < n → ∃ x, R i x) → ∃ xs : List α, xs.length = n ∧ ∀ i x, xs[i]? = some x → R i x
  | 0, _ => ⟨[], rfl, fun i x h => by simp at h⟩
  | n + 1, h => by
    obtain ⟨xs, hl, hx⟩ := list_of n (fun i hi => h i (by omega))
    obtain ⟨x, hn⟩ := h n (by omega)
    refine ⟨xs ++ [x], by simp [hl], fun i y hy => ?_⟩
    by_cases hi : i < n
    · rw [List.getElem?_append_left (by omega)] at hy
      exact hx i y hy
    · by_cases hi2 : i = n
      · subst hi2
        rw [List.getElem?_append_right (by omega), hl] at hy
        simp at hy
        exact hy ▸ hn
      · rw [List.getElem?_eq_none (by simp; omega)] at hy
        cases hy

theorem tells_slice {α : Type} {d : Kd α} {G : α → Prop} (hu : P.underlying t = some (.slice e)) (hsz : P.cellsOf e = d.sz)
    (hE : Tells enc P w spare held e (fun cs => ∃ x, d.K w x cs ∧ G x)) :
    Tells enc P w spare held t (fun cs => ∃ (xs : List α) (A : Option Addr) (c : Nat), cs = [.slice A xs.length c] ∧ xs.length ≤ c ∧ d.C w A xs.length xs ∧ c ≤ maxLen ∧ ∀ x ∈ xs, G x) := by
  intro fuel cs r h
  rcases DataW.trod_slice hu h with ⟨rfl, _⟩ | ⟨a, len, cap, elems, rest, n, _, rfl, _, _, hl, hm, hlen, hel, _, _⟩
  · exact ⟨[], none, 0, rfl, Nat.le_refl _, Kd.C_nil d w, Nat.zero_le _, fun x hx => by cases hx⟩
  · obtain ⟨xs, hxl, hx⟩ := list_of (α := α) (R := fun i x => ∃ c, w.cells? 0 (a.add (i * P.cellsOf e)) (P.cellsOf e) = some c ∧ d.K w x c ∧ G x) len (fun i hi => by
      have h1 := hel i hi
      rw [List.getElem?_eq_getElem (by omega)] at h1
      obtain ⟨c, hc, hr⟩ := Option.bind_eq_some_iff.1 h1
      obtain ⟨x, hk, hg⟩ := hE _ _ _ hr
      exact ⟨x, c, hc, hk, hg⟩)
    refine ⟨xs, some a, cap, by rw [hxl], by omega, ⟨rfl, ?_, fun _ => ⟨a, rfl, fun j p hp => ?_⟩⟩, hm, fun x hx' => ?_⟩
    · unfold maxLen at hm; omega
    · obtain ⟨c, hc, hk, _⟩ := hx j p hp
      obtain ⟨hcl, hcc⟩ := cells_some hc
      refine ⟨c, d.K_len hk, hk, fun i u hi => ?_⟩
      have := hcc i u hi
      rw [add_add, hsz] at this
      exact this
    · obtain ⟨i, hi, rfl⟩ := List.getElem_of_mem hx'
      obtain ⟨c, _, _, hg⟩ := hx i _ (List.getElem?_eq_getElem hi)
      exact hg

/-- The same, as an element or a field. -/
theorem tells_slice_K {α : Type} {d : Kd α} {G : α → Prop} (hu : P.underlying t = some (.slice e)) (hsz : P.cellsOf e = d.sz)
    (hE : Tells enc P w spare held e (fun cs => ∃ x, d.K w x cs ∧ G x)) :
    Tells enc P w spare held t (fun cs => ∃ xs : List α, (Kd.slice e d).K w xs cs ∧ xs.length ≤ maxLen ∧ ∀ x ∈ xs, G x) :=
  (tells_slice hu hsz hE).imp fun _ ⟨xs, A, c, h1, h2, h3, h4, h5⟩ => ⟨xs, ⟨A, c, h1, h2, h3⟩, Nat.le_trans h2 h4, h5⟩

theorem tells_int_K {k : IntKind} (hu : P.underlying t = some (.int k)) : Tells enc P w spare held t (fun cs => ∃ n, (Kd.int k).K w n cs ∧ (Lit.int k n).wf = true) :=
  (tells_int hu).imp fun _ ⟨n, h, hw⟩ => ⟨n, h, hw⟩
theorem tells_bool_K (hu : P.underlying t = some .bool) : Tells enc P w spare held t (fun cs => ∃ b, Kd.bool.K w b cs ∧ True) :=
  (tells_bool hu).imp fun _ ⟨b, h⟩ => ⟨b, h, trivial⟩
theorem tells_string_K (hu : P.underlying t = some .string) : Tells enc P w spare held t (fun cs => ∃ s, Kd.string.K w s cs ∧ s.size ≤ maxLen) :=
  (tells_string hu).imp fun _ ⟨s, h, hs⟩ => ⟨s, h, hs⟩

theorem piece (cs : List Value) (o n m : Nat) (h : o + n = m) : cs.drop o = (cs.drop o).take n ++ cs.drop m := by
  rw [← h, ← List.drop_drop, List.take_append_drop]
/-- A struct's field. -/
theorem field {fs : Array Field} {S : List Value → Prop} {fuel : Nat} {cs : List Value} {r : DataW H × List MemPlace} (hu : P.underlying t = some (.struct fs))
    (h : DataW.trod enc P w 0 spare held fuel t cs = some r) (i : Nat) (f : Field) (hf : fs[i]? = some f) (n : Nat) (hn : P.cellsOf f.type = n) (hS : Tells enc P w spare held f.type S) : S ((cs.drop f.offset).take n) := by
  obtain ⟨xs, m, _, _, _, hl, hx⟩ := DataW.trod_struct hu h
  have hi : i < fs.size := (Array.getElem?_eq_some_iff.1 hf).1
  have h1 := hx i f hf
  rw [List.getElem?_eq_getElem (by omega), hn] at h1
  exact hS _ _ _ h1
theorem struct_len {fs : Array Field} {fuel : Nat} {cs : List Value} {r : DataW H × List MemPlace} (hu : P.underlying t = some (.struct fs)) (n : Nat) (hn : P.cellsOf t = n)
    (h : DataW.trod enc P w 0 spare held fuel t cs = some r) : cs.length = n := by
  obtain ⟨_, _, _, _, hl, _⟩ := DataW.trod_struct hu h
  exact hl.trans hn
end
end Go.Proofs.YticpdchlknbodaaDoor.Opens
