/-
  Readers of bytes, in plain Lean: what was read stays read whatever comes behind it, and what is cut short is found short.
-/
import Derived.Test.YtghekmcdokgkkaaDoorVl
namespace Go.Proofs.YtghekmcdokgkkaaDoor.Vp
set_option linter.all false
open Go.Proofs.YtghekmcdokgkkaaDoor.Vl
inductive Res (α : Type) where
  | err (e : Int)
  | ok (a : α) (n : Nat)
abbrev Rd (α : Type) := List Int → Res α
def Rd.bind {α β : Type} (R : Rd α) (f : α → Rd β) : Rd β := fun l => match R l with
  | .err e => .err e
  | .ok a n => match f a (l.drop n) with
    | .err e => .err e
    | .ok b k => .ok b (n + k)
structure Stbl {α : Type} (R : Rd α) : Prop where
  le : ∀ l a n, R l = .ok a n → n ≤ l.length
  on : ∀ l a n, R l = .ok a n → ∀ m, R (l.take n ++ m) = .ok a n
  cut : ∀ l a n, R l = .ok a n → ∀ c, c < n → R (l.take c) = .err 1
  nz : ∀ l e, R l = .err e → e ≠ 0
theorem Stbl.pure {α : Type} (a : α) : Stbl (fun _ => Res.ok a 0) := ⟨fun l b n h => (by cases h; omega), fun l b n h m => (by cases h; rfl), fun l b n h c hc => (by cases h; omega), fun l e h => (by cases h)⟩
theorem Stbl.fail {α : Type} (e : Int) (he : e ≠ 0) : Stbl (fun _ => (Res.err e : Res α)) := ⟨fun l b n h => (by cases h), fun l b n h m => (by cases h), fun l b n h c hc => (by cases h), fun l e' h => (by cases h; exact he)⟩
theorem Stbl.bind {α β : Type} {R : Rd α} {f : α → Rd β} (h : Stbl R) (hf : ∀ a, Stbl (f a)) : Stbl (R.bind f) := by
  have inv : ∀ l b t, R.bind f l = .ok b t → ∃ a n k, R l = .ok a n ∧ f a (l.drop n) = .ok b k ∧ t = n + k := fun l b t hr => by
    unfold Rd.bind at hr
    split at hr
    · cases hr
    · rename_i a n h1
      split at hr
      · cases hr
      · rename_i b' k h2
        cases hr
        exact ⟨a, n, k, h1, h2, rfl⟩
  have mk : ∀ l a n, R l = .ok a n → R.bind f l = match f a (l.drop n) with | .err e => .err e | .ok b k => .ok b (n + k) := fun l a n hr => by
    unfold Rd.bind; rw [hr]
  refine ⟨fun l b t hr => ?_, fun l b t hr m => ?_, fun l b t hr c hc => ?_, fun l e hr => ?_⟩
  · obtain ⟨a, n, k, h1, h2, rfl⟩ := inv l b t hr
    have := h.le _ _ _ h1
    have h3 := (hf a).le _ _ _ h2
    rw [List.length_drop] at h3
    omega
  · obtain ⟨a, n, k, h1, h2, rfl⟩ := inv l b t hr
    have hn := h.le _ _ _ h1
    have e : l.take (n + k) ++ m = l.take n ++ ((l.drop n).take k ++ m) := by rw [List.take_add, List.append_assoc]
    have e2 : (l.take n ++ ((l.drop n).take k ++ m)).drop n = (l.drop n).take k ++ m := by
      rw [List.drop_append_of_le_length (by rw [List.length_take]; omega), List.drop_eq_nil_of_le (by rw [List.length_take]; omega), List.nil_append]
    rw [e, mk _ _ _ (h.on _ _ _ h1 _), e2, (hf a).on _ _ _ h2 m]
  · obtain ⟨a, n, k, h1, h2, rfl⟩ := inv l b t hr
    have hn := h.le _ _ _ h1
    by_cases hcn : c < n
    · unfold Rd.bind
      rw [h.cut _ _ _ h1 c hcn]
    · have e : l.take c = l.take n ++ (l.drop n).take (c - n) := by rw [← List.take_add]; congr 1; omega
      have e2 : (l.take n ++ (l.drop n).take (c - n)).drop n = (l.drop n).take (c - n) := by
        rw [List.drop_append_of_le_length (by rw [List.length_take]; omega), List.drop_eq_nil_of_le (by rw [List.length_take]; omega), List.nil_append]
      rw [e, mk _ _ _ (h.on _ _ _ h1 _), e2, (hf a).cut _ _ _ h2 (c - n) (by omega)]
  · unfold Rd.bind at hr
    split at hr
    · rename_i e' h1
      cases hr
      exact h.nz _ _ h1
    · rename_i a n h1
      split at hr
      · rename_i e' h2
        cases hr
        exact (hf a).nz _ _ h2
      · cases hr
def byteP : Rd Int := fun l => match l with
  | [] => .err 1
  | x :: _ => .ok x 1
theorem byteP_stbl : Stbl byteP := by
  refine ⟨fun l a n h => ?_, fun l a n h m => ?_, fun l a n h c hc => ?_, fun l e h => ?_⟩
  · cases l <;> cases h; simp
  · cases l <;> cases h; rfl
  · cases l <;> cases h
    obtain rfl : c = 0 := by omega
    rfl
  · cases l <;> cases h; decide
/-- P1.1: an unsigned number. -/
def uP (bits : Nat) : Rd Nat := fun l => if ends l < l.length ∧ ends l < mst bits then (if vl l (ends l + 1) < 2 ^ bits then .ok (vl l (ends l + 1)) (ends l + 1) else .err 2) else if mst bits ≤ ends l then .err 2 else .err 1
theorem ends_take_on {l m : List Int} (h : ends l < l.length) : ends (l.take (ends l + 1) ++ m) = ends l := by
  refine ends_eq (by rw [List.length_append, List.length_take]; omega) (fun j hj => ?_) ?_
  · rw [List.getD_eq_getElem?_getD, List.getElem?_append_left (by rw [List.length_take]; omega), List.getElem?_take, if_pos (by omega), ← List.getD_eq_getElem?_getD]
    exact ends_before l j hj
  · rw [List.getD_eq_getElem?_getD, List.getElem?_append_left (by rw [List.length_take]; omega), List.getElem?_take, if_pos (by omega), ← List.getD_eq_getElem?_getD]
    exact ends_at l h
theorem vl_take_on {l m : List Int} (h : ends l < l.length) : vl (l.take (ends l + 1) ++ m) (ends l + 1) = vl l (ends l + 1) := by
  refine vl_congr _ fun j hj => ?_
  rw [List.getD_eq_getElem?_getD, List.getElem?_append_left (by rw [List.length_take]; omega), List.getElem?_take, if_pos (by omega), ← List.getD_eq_getElem?_getD]
theorem uP_stbl (bits : Nat) : Stbl (uP bits) := by
  have inv : ∀ l a n, uP bits l = .ok a n → ends l < l.length ∧ ends l < mst bits ∧ vl l (ends l + 1) < 2 ^ bits ∧ a = vl l (ends l + 1) ∧ n = ends l + 1 := fun l a n h => by
    unfold uP at h
    split at h
    · rename_i hc
      split at h
      · rename_i hv
        cases h
        exact ⟨hc.1, hc.2, hv, rfl, rfl⟩
      · cases h
    · split at h <;> cases h
  refine ⟨fun l a n h => ?_, fun l a n h m => ?_, fun l a n h c hc => ?_, fun l e h => ?_⟩
  · obtain ⟨h1, _, _, _, rfl⟩ := inv l a n h
    omega
  · obtain ⟨h1, h2, h3, rfl, rfl⟩ := inv l a n h
    unfold uP
    rw [ends_take_on h1, vl_take_on h1, if_pos ⟨by rw [List.length_append, List.length_take]; omega, h2⟩, if_pos h3]
  · obtain ⟨h1, h2, h3, rfl, rfl⟩ := inv l a n h
    have hl : (l.take c).length = c := by rw [List.length_take]; omega
    have he : ends (l.take c) = c := by
      have a1 := ends_le (l.take c)
      have a2 := ends_ge (l := l.take c) (i := c) (by omega) fun j hj => by
        rw [List.getD_eq_getElem?_getD, List.getElem?_take, if_pos hj, ← List.getD_eq_getElem?_getD]
        exact ends_before l j (by omega)
      omega
    unfold uP
    rw [he, hl, if_neg (by omega), if_neg (by omega)]
  · unfold uP at h
    split at h
    · split at h <;> cases h
      decide
    · split at h <;> cases h <;> decide
end Go.Proofs.YtghekmcdokgkkaaDoor.Vp
