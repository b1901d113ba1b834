/-
  What a store laid, a load of as many bytes brings back, cut to them (of numbers alone).
-/
import Derived.Test.YtelbmologkepeaaPPackBackx
import Derived.Test.YtelbmologkepeaaSPackBack
namespace Go.Proofs.Ytelbmologkepeaa.Pure
open Go.RowKit Go.Proofs.Ytelbmologkepeaa.PPackBack Go.Proofs.YtelbmologkepeaaW.PrintWords Go.Proofs.YtelbmologkepeaaW.PrintLast Go.Proofs.YtelbmologkepeaaW.PrintMore Go.Proofs.Ytelbmologkepeaa.Nums Go.Proofs.Ytelbmologkepeaa.SPackBack

theorem is_awake : Ev (fun k => trammellaw04_awake.f k) true := Ev.of (fun k => trammellaw04_awake.mono k) (k := 12) (by decide +kernel)
theorem mask_pos (s : Int) (hs : s = 1 ∨ s = 2 ∨ s = 4 ∨ s = 8) : 0 ≤ IntKind.u64.wrap (wrap64 (64 - (wrap64 (8 * s)))) := by
  rcases hs with rfl | rfl | rfl | rfl <;> decide +kernel
theorem mask_is (s : Int) (hs : s = 1 ∨ s = 2 ∨ s = 4 ∨ s = 8) : shr .u64 18446744073709551615 (IntKind.u64.wrap (wrap64 (64 - (wrap64 (8 * s))))) = ((2 ^ (8 * s.toNat) - 1 : Nat) : Int) := by
  rcases hs with rfl | rfl | rfl | rfl <;> decide +kernel
theorem acc_wide {a : Int} (h : One a) : (acc a).1 = 127 → (acc a).2.1 ≠ 8 := by
  rcases h with rfl | rfl | rfl | rfl | rfl | rfl | rfl | rfl | rfl | rfl | rfl | rfl | rfl | rfl | rfl | rfl | rfl | rfl | rfl <;> decide
theorem sx_lt (s v : Nat) (hs : s = 1 ∨ s = 2 ∨ s = 4) (hv : v < 2 ^ (8 * s)) : sx s v < 2 ^ 64 ∧ sx s v % 2 ^ (8 * s) = v := by
  rcases hs with rfl | rfl | rfl <;> (unfold sx; split <;> omega)
theorem fin_mod (b : Int) (s : Nat) (sg : Bool) (v : Nat) (hs : s = 1 ∨ s = 2 ∨ s = 4 ∨ s = 8) (hg : sg = true → s ≠ 8) (hb : b = 127 → s ≠ 8) (hv : v < 2 ^ (8 * s)) :
    fin b s sg v < 2 ^ 64 ∧ fin b s sg v % 2 ^ (8 * s) = v ∧ (b = 127 → fin b s sg v < 4294967296) := by
  have h0 : (if sg then sx s v else v) < 2 ^ 64 ∧ (if sg then sx s v else v) % 2 ^ (8 * s) = v := by
    cases sg with
    | true =>
      have := hg rfl
      exact sx_lt s v (by omega) hv
    | false =>
      refine ⟨?_, Nat.mod_eq_of_lt hv⟩
      refine Nat.lt_of_lt_of_le hv (pow_le ?_)
      omega
  unfold fin
  generalize (if sg then sx s v else v) = z at *
  by_cases h : b = 127
  · rw [if_pos h]
    have := hb h
    have hs' : s = 1 ∨ s = 2 ∨ s = 4 := by omega
    rcases hs' with rfl | rfl | rfl <;> (refine ⟨by omega, by omega, fun _ => by omega⟩)
  · rw [if_neg h]
    exact ⟨h0.1, h0.2, fun e => absurd e h⟩
theorem PackBack : trammellaw04_PackBack.Pure := by
  intro a0 a1 a2 w0 w1 w2
  obtain ⟨v, rfl, hv⟩ := wf_u64 w2
  refine Ev.rounds (g := fun k => trammellaw04_PackBack.f k a0 a1 v) ?_
  unfold trammellaw04_PackBack.f
  refine Ev.bind is_awake ?_
  simp only [if_true]
  have hby : Bytes (sto a0 v).1 := by
    unfold sto
    split
    · exact le_bytes _ _
    · intro x hx; simp at hx
  refine Ev.bind (store_ev a0 v) (Ev.bind (load_ev a1 _ hby) (Ev.bind (Access_ev a0) (Ev.bind (Access_ev a1) ?_)))
  have h0 : (acc a0).2.2.2.1 = true → One a0 := fun h => by
    by_cases h' : One a0
    · exact h'
    · rw [acc_none h'] at h; simp at h
  by_cases hst : (acc a0).2.2.2.1 = true
  · have ho := h0 hst
    have h1 := acc_one ho
    have es : sto a0 v = (le (acc a0).2.1.toNat v, true) := by unfold sto; rw [if_pos hst]
    rw [es]
    simp only [if_true]
    generalize hq0 : acc a0 = q0 at *
    obtain ⟨b0, s0, sg0, st0, ok0⟩ := q0
    simp only at h1 hst ⊢
    obtain ⟨rfl, _, hs0, _⟩ := h1
    obtain ⟨n, rfl, hn⟩ : ∃ n : Nat, s0 = (n : Int) ∧ (n = 1 ∨ n = 2 ∨ n = 4 ∨ n = 8) := ⟨s0.toNat, by omega, by omega⟩
    rw [nat_int_toNat]
    have hval := val_le n v
    have hlen := le_len n v
    have hvl : v % 2 ^ (8 * n) < 2 ^ (8 * n) := mod_lt_pow _ _
    have hvm : v % 2 ^ (8 * n) < 2 ^ 64 := Nat.lt_of_le_of_lt (Nat.mod_le _ _) hv
    by_cases h' : One a1
    · have hw := acc_wide h'
      have h2 := acc_one h'
      have el : lod a1 (le n v) = if (acc a1).2.2.2.2 = true ∧ (acc a1).2.2.2.1 = false ∧ ((le n v).length : Int) = (acc a1).2.1 then (((fin (acc a1).1 (acc a1).2.1.toNat (acc a1).2.2.1 (val (le n v)) : Nat) : Int), true) else (0, false) := rfl
      rw [el, hlen, hval]
      generalize acc a1 = q1 at *
      obtain ⟨b1, s1, sg1, st1, ok1⟩ := q1
      simp only at h2 hw ⊢
      obtain ⟨rfl, hb1, hs1, hg1⟩ := h2
      cases st1 with
      | true =>
        simp only [Bool.true_eq_false, false_and, and_false, if_false, Bool.false_eq_true]
        simp only [if_true]
        exact Ev.now true
      | false =>
        by_cases e : (n : Int) = s1
        · subst e
          rw [nat_int_toNat]
          simp only [and_self, if_true]
          have hf := fin_mod b1 n sg1 (v % 2 ^ (8 * n)) hn (fun h => by have := hg1 h; omega) (fun h => by have := hw h; omega) hvl
          have hm := mask_is (n : Int) hs0
          rw [nat_int_toNat] at hm
          have hlt : 2 ^ (8 * n) - 1 < 2 ^ 64 := by
            have : 2 ^ (8 * n) ≤ 2 ^ 64 := pow_le (by omega)
            have := pow_pos (8 * n)
            omega
          refine Ev.congr (fun k => if_pos (mask_pos (n : Int) hs0)) ?_
          rw [hm, band hf.1 hlt, band hv hlt, and_mask, and_mask, hf.2.1]
          simp only [if_true]
          by_cases hb : b1 = 126
          · simp only [if_pos hb]
            exact Ev.now true
          · simp only [if_neg hb]
            have := hf.2.2 (by omega)
            rw [decide_eq_true (by omega)]
            exact Ev.now true
        · simp only [true_and, if_neg e, if_true, Bool.false_eq_true, if_false]
          rw [bne_iff_ne.2 (fun h => e h.symm)]
          exact Ev.now true
    · have e1 := acc_none h'
      have el : lod a1 (le n v) = (0, false) := by unfold lod; rw [e1, if_neg (by simp)]
      rw [el, e1]
      simp only [if_true, Bool.false_eq_true, if_false]
      exact Ev.now true
  · have es : sto a0 v = ([], false) := by unfold sto; rw [if_neg hst]
    rw [es]
    simp only [Bool.false_eq_true, if_false]
    exact Ev.now true
end Go.Proofs.Ytelbmologkepeaa.Pure
