/-
  Any numbers are put as the document says, behind what stands there; that stays as it is (of numbers and lists alone).
-/
import Derived.Test.YtnbfgcoggjghbaaPLebPutsx
import Derived.Test.YtnbfgcoggjghbaaSLebPuts
namespace Go.Proofs.Ytnbfgcoggjghbaa.Pure
open Go.RowKit Go.Proofs.Ytnbfgcoggjghbaa.PLebPuts Go.Proofs.YtnbfgcoggjghbaaW.PrintWords Go.Proofs.YtnbfgcoggjghbaaW.PrintLast Go.Proofs.YtnbfgcoggjghbaaW.PrintMore Go.Proofs.Ytnbfgcoggjghbaa.Nums Go.Proofs.Ytnbfgcoggjghbaa.SLebPuts

theorem is_awake : Ev (fun k => trammellaw01_awake.f k) true := Ev.of (fun k => trammellaw01_awake.mono k) (k := 9) (by decide +kernel)

theorem LebPuts : trammellaw01_LebPuts.Pure := by
  intro l0 a1 a2 _ hl hw w1 w2
  obtain ⟨n, rfl, hn⟩ := wf_u64 w1
  have h2 := wf_i64 w2
  have hm : 0 ≤ mn (l0.length : Int) 1000 ∧ mn (l0.length : Int) 1000 ≤ (l0.length : Int) := by unfold mn; split <;> omega
  refine Ev.rounds (g := fun k => trammellaw01_LebPuts.f k l0 n a2) ?_
  unfold trammellaw01_LebPuts.f
  refine Ev.bind is_awake ?_
  simp only [if_true, if_pos hm.1, if_pos hm.2]
  have hb : (l0.take (mn (l0.length : Int) 1000).toNat).length ≤ 1000 := by
    rw [List.length_take]
    unfold mn
    split <;> omega
  generalize l0.take (mn (l0.length : Int) 1000).toNat = b at hb ⊢
  rw [copy_eq (l := b) (by omega)]
  have hlen : (b ++ [(77 : Int)]).length = b.length + 1 := by simp
  have ht : (b ++ [(77 : Int)]).take ((b.length : Int)).toNat = b := by simp
  simp only [Option.bind_some, if_pos (show b.length < 140737488355328 by omega), if_pos (show (0 : Int) ≤ (b.length : Int) by omega), hlen, ht, if_pos (show (b.length : Int) ≤ ((b.length + 1 : Nat) : Int) by omega)]
  have hu := uBytes_ten hn
  have hs : (sBytes a2).length ≤ 10 := (sBytes_len h2.1 h2.2 9).2 (by omega)
  refine Ev.bind (PutU_eq hn (out := b) (by omega)) (Ev.bind (PutS_eq h2.1 h2.2 (out := b) (by omega)) (Ev.bind (rPutU_eq hn) ?_))
  simp only [if_pos (show b.length + (uBytes n).length < 140737488355328 by omega)]
  refine Ev.bind (same_ev _ _ (by rw [List.length_append]; omega)) ?_
  rw [decide_eq_true rfl]
  simp only [if_true]
  refine Ev.bind (rPutS_eq h2.1 h2.2) ?_
  simp only [if_pos (show b.length + (sBytes a2).length < 140737488355328 by omega)]
  refine Ev.bind (same_ev _ _ (by rw [List.length_append]; omega)) ?_
  rw [decide_eq_true rfl]
  simp only [if_true]
  refine Ev.bind (same_ev _ _ (by omega)) ?_
  rw [decide_eq_true rfl]
  simp only [if_true, if_pos (show (b.length : Int) < ((b.length + 1 : Nat) : Int) by omega)]
  have hr : rd (b ++ [(77 : Int)]) (b.length : Int) = 77 := by simp [rd]
  rw [hr]
  exact Ev.now true
end Go.Proofs.Ytnbfgcoggjghbaa.Pure
