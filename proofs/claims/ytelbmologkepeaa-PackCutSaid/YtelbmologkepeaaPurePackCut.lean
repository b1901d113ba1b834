/-
  A store looks at the lowest bytes of a number alone; a load of bytes that are all 0 is 0 (of numbers alone).
-/
import Derived.Test.YtelbmologkepeaaPPackCutx
import Derived.Test.YtelbmologkepeaaSPackCut
namespace Go.Proofs.Ytelbmologkepeaa.Pure
open Go.RowKit Go.Proofs.Ytelbmologkepeaa.PPackCut Go.Proofs.YtelbmologkepeaaW.PrintWords Go.Proofs.YtelbmologkepeaaW.PrintLast Go.Proofs.YtelbmologkepeaaW.PrintMore Go.Proofs.Ytelbmologkepeaa.Nums Go.Proofs.Ytelbmologkepeaa.SPackCut

theorem is_awake : Ev (fun k => trammellaw04_awake.f k) true := Ev.of (fun k => trammellaw04_awake.mono k) (k := 12) (by decide +kernel)
theorem mask_pos (s : Int) (hs : s = 1 ∨ s = 2 ∨ s = 4 ∨ s = 8) : 0 ≤ IntKind.u64.wrap (wrap64 (64 - (wrap64 (8 * s)))) := by
  rcases hs with rfl | rfl | rfl | rfl <;> decide +kernel
theorem mask_is (s : Int) (hs : s = 1 ∨ s = 2 ∨ s = 4 ∨ s = 8) : shr .u64 18446744073709551615 (IntKind.u64.wrap (wrap64 (64 - (wrap64 (8 * s))))) = ((2 ^ (8 * s.toNat) - 1 : Nat) : Int) := by
  rcases hs with rfl | rfl | rfl | rfl <;> decide +kernel
theorem le_mod (n v : Nat) : le n (v % 2 ^ (8 * n)) = le n v := by
  have h := le_val (le_bytes n v)
  rw [le_len, val_le] at h
  exact h
theorem mix (v w i : Nat) (hi : i ≤ 64) : ((v &&& (2 ^ i - 1)) ||| (w &&& (2 ^ 64 - (2 ^ i - 1 + 1)))) % 2 ^ i = v % 2 ^ i := by
  refine Nat.eq_of_testBit_eq (fun j => ?_)
  rw [Nat.testBit_mod_two_pow, Nat.testBit_mod_two_pow, Nat.testBit_or, Nat.testBit_and, Nat.testBit_and, Nat.testBit_two_pow_sub_one, Nat.testBit_two_pow_sub_succ (by have := pow_le hi; have := pow_pos i; omega), Nat.testBit_two_pow_sub_one]
  by_cases h : j < i <;> simp [h]
theorem val_zero (n : Nat) : val (List.replicate n (0 : Int)) = 0 := by
  induction n with
  | zero => rfl
  | succ n ih => rw [List.replicate_succ, val, ih]; rfl
theorem fin_zero (b : Int) (s : Nat) (sg : Bool) : fin b s sg 0 = 0 := by
  have h : sx s 0 = 0 := by unfold sx; rw [if_pos (pow_pos _)]
  unfold fin
  rw [h]
  simp
theorem PackCut : trammellaw04_PackCut.Pure := by
  intro a0 a1 a2 w0 w1 w2
  obtain ⟨v, rfl, hv⟩ := wf_u64 w1
  obtain ⟨w, rfl, hw⟩ := wf_u64 w2
  refine Ev.rounds (g := fun k => trammellaw04_PackCut.f k a0 v w) ?_
  unfold trammellaw04_PackCut.f
  refine Ev.bind is_awake ?_
  simp only [if_true]
  refine Ev.bind (Access_ev a0) ?_
  by_cases ho : One a0
  · have h1 := acc_one ho
    have hl := load_ev a0 (List.replicate (acc a0).2.1.toNat 0) (fun x hx => by rw [(List.mem_replicate.1 hx).2]; decide)
    have hs1 : ∀ u : Nat, sto a0 u = if (acc a0).2.2.2.1 = true then (le (acc a0).2.1.toNat u, true) else ([], false) := fun _ => rfl
    have hl1 : lod a0 (List.replicate (acc a0).2.1.toNat 0) = if (acc a0).2.2.2.2 = true ∧ (acc a0).2.2.2.1 = false ∧ ((List.replicate (acc a0).2.1.toNat (0 : Int)).length : Int) = (acc a0).2.1 then (((fin (acc a0).1 (acc a0).2.1.toNat (acc a0).2.2.1 (val (List.replicate (acc a0).2.1.toNat 0)) : Nat) : Int), true) else (0, false) := rfl
    generalize acc a0 = q at *
    obtain ⟨b, s, sg, st, ok⟩ := q
    simp only at h1 hl hs1 hl1 ⊢
    obtain ⟨rfl, hb, hs, hg⟩ := h1
    obtain ⟨n, rfl, hn⟩ : ∃ n : Nat, s = (n : Int) ∧ (n = 1 ∨ n = 2 ∨ n = 4 ∨ n = 8) := ⟨s.toNat, by omega, by omega⟩
    have hm := mask_is (n : Int) hs
    rw [nat_int_toNat] at hm hl hl1
    have hlt : 2 ^ (8 * n) - 1 < 2 ^ 64 := by
      have : 2 ^ (8 * n) ≤ 2 ^ 64 := pow_le (by omega)
      have := pow_pos (8 * n)
      omega
    simp only [if_true]
    cases st with
    | true =>
      simp only [if_true]
      refine Ev.congr (fun k => if_pos (mask_pos (n : Int) hs)) ?_
      have ea : v &&& (2 ^ (8 * n) - 1) < 2 ^ 64 := Nat.and_lt_two_pow _ hlt
      have eb : w &&& (2 ^ 64 - (2 ^ (8 * n) - 1 + 1)) < 2 ^ 64 := Nat.lt_of_le_of_lt Nat.and_le_left hw
      rw [hm, band hv hlt, bandNot hw hlt, bor ea eb]
      refine Ev.bind (store_ev a0 v) (Ev.bind (store_ev a0 _) ?_)
      rw [hs1, hs1, nat_int_toNat]
      simp only [if_true]
      refine Ev.bind (same_ev _ _ (by rw [le_len]; omega)) ?_
      have e : le n ((v &&& (2 ^ (8 * n) - 1)) ||| (w &&& (2 ^ 64 - (2 ^ (8 * n) - 1 + 1)))) = le n v := by
        rw [← le_mod, mix v w (8 * n) (by omega), le_mod]
      rw [e, decide_eq_true rfl, le_len]
      simp only [if_true]
      rw [beq_self_eq_true]
      exact Ev.now true
    | false =>
      simp only [Bool.false_eq_true, if_false]
      refine Ev.congr (fun k => (if_pos (by omega)).trans (if_pos (by rw [nat_int_toNat]; omega))) ?_
      rw [nat_int_toNat]
      refine Ev.bind hl ?_
      rw [hl1, List.length_replicate, val_zero, fin_zero]
      simp only [and_self, if_true]
      exact Ev.now true
  · rw [acc_none ho]
    simp only [Bool.false_eq_true, if_false]
    exact Ev.now true
end Go.Proofs.Ytelbmologkepeaa.Pure
