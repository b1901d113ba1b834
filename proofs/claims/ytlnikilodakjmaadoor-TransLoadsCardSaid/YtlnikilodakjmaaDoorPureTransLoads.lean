/-
  What any bytes are loaded as is as is told: of numbers alone.
-/
import Derived.Test.YtlnikilodakjmaaDoorTypesTransLoads
import Derived.Test.YtlnikilodakjmaaDoorSTransLoads
namespace Go.Proofs.YtlnikilodakjmaaDoor.Pure
open Go.RowKit Go.Proofs.YtlnikilodakjmaaDoor.PTransLoads Go.Proofs.YtlnikilodakjmaaDoorW.PrintWords Go.Proofs.YtlnikilodakjmaaDoorW.PrintLast Go.Proofs.YtlnikilodakjmaaDoorW.PrintMore Go.Proofs.YtlnikilodakjmaaDoor.Nums Go.Proofs.YtlnikilodakjmaaDoor.STransLoads
theorem low0 (n : Nat) (hn : n < 2 ^ 64) : low_Has.f 0 0 (n : Int) = some true := by
  unfold low_Has.f
  rw [show low_mask.f 0 = some ((0 : Nat) : Int) from by decide +kernel, Option.bind_some]
  show some (Go.bits .and .u64 (Go.bits .xor .u64 (n : Int) ((0 : Nat) : Int)) ((0 : Nat) : Int) == 0) = _
  rw [bxor hn (by decide), band (by rw [Nat.xor_zero]; exact hn) (by decide), Nat.and_zero]
  rfl
theorem has0 (n hi : Nat) (hn : n < 2 ^ 64) (h : n ≤ hi) : abs_Has.f 0 (hi : Int) 0 0 (n : Int) = some true := by
  unfold abs_Has.f ivl_Has.f
  rw [if_pos (by omega), Option.bind_some, decide_eq_true (by omega), if_pos rfl, low0 n hn]
  rfl
theorem tl (a : Int) (r : Int × Int × Int × Int × Bool) (h : trans_Load.f 12 a = some r) : Ev (fun k => trans_Load.f k a) r := Ev.of (fun k => trans_Load.mono a k) (k := 12) h
theorem fin_le {b : Int} {s : Nat} {sg : Bool} {v : Nat} (hv : v < 2 ^ (8 * s)) (hs : s = 1 ∨ s = 2 ∨ s = 4 ∨ s = 8) : fin b s sg v < 2 ^ 64 ∧ (b = 127 → fin b s sg v ≤ 4294967295) ∧ (sg = false → fin b s sg v ≤ 2 ^ (8 * s) - 1) := by
  have h64 : v < 2 ^ 64 := Nat.lt_of_lt_of_le hv (pow_le (by omega))
  have hx : sx s v < 2 ^ 64 := by
    unfold sx
    have := pow_pos (8 * s)
    split <;> omega
  unfold fin
  refine ⟨?_, fun h => ?_, fun h => ?_⟩
  · split
    · omega
    · split <;> omega
  · rw [if_pos h]; omega
  · subst h
    simp only [Bool.false_eq_true, if_false]
    split <;> omega
theorem told (a : Int) (h1 : (acc a).2.2.2.2 = true) (h2 : (acc a).2.2.2.1 = false) : ∃ hi : Nat, trans_Load.f 12 a = some (0, (hi : Int), 0, 0, true) ∧ ((acc a).1 = 127 ∧ hi = 4294967295 ∨ hi = 18446744073709551615 ∨ (acc a).2.2.1 = false ∧ hi = 2 ^ (8 * (acc a).2.1.toNat) - 1) := by
  by_cases h : One a
  · rcases h with rfl | rfl | rfl | rfl | rfl | rfl | rfl | rfl | rfl | rfl | rfl | rfl | rfl | rfl | rfl | rfl | rfl | rfl | rfl
    · exact ⟨4294967295, by decide +kernel, .inl ⟨rfl, rfl⟩⟩
    · exact ⟨18446744073709551615, by decide +kernel, .inr (.inl rfl)⟩
    · exact ⟨4294967295, by decide +kernel, .inl ⟨rfl, rfl⟩⟩
    · exact ⟨255, by decide +kernel, .inr (.inr ⟨rfl, rfl⟩)⟩
    · exact ⟨4294967295, by decide +kernel, .inl ⟨rfl, rfl⟩⟩
    · exact ⟨65535, by decide +kernel, .inr (.inr ⟨rfl, rfl⟩)⟩
    · exact ⟨18446744073709551615, by decide +kernel, .inr (.inl rfl)⟩
    · exact ⟨255, by decide +kernel, .inr (.inr ⟨rfl, rfl⟩)⟩
    · exact ⟨18446744073709551615, by decide +kernel, .inr (.inl rfl)⟩
    · exact ⟨65535, by decide +kernel, .inr (.inr ⟨rfl, rfl⟩)⟩
    · exact ⟨18446744073709551615, by decide +kernel, .inr (.inl rfl)⟩
    · exact ⟨4294967295, by decide +kernel, .inr (.inr ⟨rfl, rfl⟩)⟩
    all_goals cases h2
  · rw [acc_none h] at h1; cases h1
theorem lens (l : List Int) : 0 ≤ mn (l.length : Int) 8 ∧ mn (l.length : Int) 8 ≤ (l.length : Int) ∧ (l.take (mn (l.length : Int) 8).toNat).length ≤ 8 := by
  unfold mn
  split <;> (rw [List.length_take]; omega)
theorem TransLoads : TTransLoads.Pure := by
  intro a0 l1 w0 hlen hb
  refine Ev.rounds (g := fun k => trammellaw19_TransLoads.f k a0 l1) ?_
  obtain ⟨h1, h2, h3⟩ := lens l1
  have hB := Bytes.take (bytes_wf hb) (mn (l1.length : Int) 8).toNat
  generalize hl : l1.take (mn (l1.length : Int) 8).toNat = l at h3 hB
  unfold trammellaw19_TransLoads.f trammellaw19_awake.f
  refine Ev.congr (fun k => by rw [Option.bind_some, if_pos rfl, if_pos h1, if_pos h2, hl]) ?_
  refine Ev.bind (load_ev a0 l hB) ?_
  unfold lod
  by_cases hc : (acc a0).2.2.2.2 = true ∧ (acc a0).2.2.2.1 = false ∧ (l.length : Int) = (acc a0).2.1
  · rw [if_pos hc]
    obtain ⟨c1, c2, c3⟩ := hc
    obtain ⟨hi, ht, hh⟩ := told a0 c1 c2
    refine Ev.bind (tl a0 _ ht) ?_
    have hone : One a0 := by
      by_cases h : One a0
      · exact h
      · rw [acc_none h] at c1; cases c1
    have h4 := (acc_one hone).2.2.1
    have hv := val_lt hB
    have hs : (acc a0).2.1.toNat = l.length := by omega
    rw [hs] at hh ⊢
    obtain ⟨f1, f2, f3⟩ := fin_le (b := (acc a0).1) (sg := (acc a0).2.2.1) hv (by omega)
    have hle : fin (acc a0).1 l.length (acc a0).2.2.1 (val l) ≤ hi := by
      rcases hh with ⟨e1, e2⟩ | e | ⟨e1, e2⟩
      · have := f2 e1; omega
      · omega
      · have := f3 e1; omega
    have e := has0 _ hi f1 hle
    show Ev (fun _ => (abs_Has.f 0 (hi : Int) 0 0 ((fin (acc a0).1 l.length (acc a0).2.2.1 (val l) : Nat) : Int)).bind fun t => some t) true
    rw [e]
    exact Ev.now true
  · rw [if_neg hc]
    exact Ev.now true
end Go.Proofs.YtlnikilodakjmaaDoor.Pure
