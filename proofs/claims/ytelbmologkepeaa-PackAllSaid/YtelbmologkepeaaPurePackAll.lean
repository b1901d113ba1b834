/-
  Each access, of any bytes and numbers, is the document's (of numbers alone).
-/
import Derived.Test.YtelbmologkepeaaPPackAllx
import Derived.Test.YtelbmologkepeaaSPackAll
namespace Go.Proofs.Ytelbmologkepeaa.Pure
open Go.RowKit Go.Proofs.Ytelbmologkepeaa.PPackAll Go.Proofs.YtelbmologkepeaaW.PrintWords Go.Proofs.YtelbmologkepeaaW.PrintLast Go.Proofs.YtelbmologkepeaaW.PrintMore Go.Proofs.Ytelbmologkepeaa.Nums Go.Proofs.Ytelbmologkepeaa.SPackAll

theorem is_awake : Ev (fun k => trammellaw04_awake.f k) true := Ev.of (fun k => trammellaw04_awake.mono k) (k := 12) (by decide +kernel)
theorem sto_len (a : Int) (v : Nat) : (sto a v).1.length ≤ 8 := by
  unfold sto
  split
  · rw [le_len]
    by_cases h : One a
    · have := (acc_one h).2.2.1; omega
    · rw [acc_none h]; decide
  · decide
theorem j1_ok (a : Int) (v : Nat) (hv : v < 2 ^ 64) : Ev (fun k => trammellaw04_PackAll.j1 k a v false) true := by
  refine Ev.step (fun k => by simp only [trammellaw04_PackAll.j1]; rw [if_neg (by decide)]) (Ev.bind (store_ev a v) (Ev.bind (rstore_ev a v hv) ?_))
  rw [beq_self_eq_true]
  simp only [if_true]
  refine Ev.bind (same_ev _ _ (by have := sto_len a v; omega)) ?_
  rw [decide_eq_true rfl]
  exact Ev.now true
theorem j0_ok (a : Int) (l : List Int) (hl : Bytes l) (v : Nat) (hv : v < 2 ^ 64) : Ev (fun k => trammellaw04_PackAll.j0 k a l v false) true := by
  refine Ev.step (fun k => by simp only [trammellaw04_PackAll.j0]; rw [if_neg (by decide)]) (Ev.bind (load_ev a l hl) (Ev.bind (rload_ev a l hl) ?_))
  simp only [if_true, bne_self_eq_false]
  exact j1_ok a v hv
theorem PackAll : trammellaw04_PackAll.Pure := by
  intro a0 l1 a2 w0 hm hm1 w1 w2
  obtain ⟨v, rfl, hv⟩ := wf_u64 w2
  refine Ev.rounds (g := fun k => trammellaw04_PackAll.f k a0 l1 v) ?_
  have hl := (bytes_wf w1).take ((mn (l1.length : Int) 100) : Int).toNat
  have hmn : 0 ≤ mn (l1.length : Int) 100 ∧ mn (l1.length : Int) 100 ≤ (l1.length : Int) := by unfold mn; split <;> omega
  unfold trammellaw04_PackAll.f
  refine Ev.bind is_awake ?_
  simp only [if_true, if_pos hmn.1, if_pos hmn.2]
  have hj := j0_ok a0 _ hl v hv
  refine Ev.bind (of_ev a0) (Ev.bind (Access_ev a0) ?_)
  unfold ofs
  by_cases h : One a0
  · have h1 := acc_one h
    generalize acc a0 = q at *
    obtain ⟨b, s, sg, st, ok⟩ := q
    simp only at h1 ⊢
    obtain ⟨rfl, hb, hs, _⟩ := h1
    simp only [if_true, bne_self_eq_false, Bool.false_eq_true, if_false]
    rcases hb with rfl | rfl
    · exact hj
    · exact hj
  · rw [acc_none h]
    exact hj
end Go.Proofs.Ytelbmologkepeaa.Pure
