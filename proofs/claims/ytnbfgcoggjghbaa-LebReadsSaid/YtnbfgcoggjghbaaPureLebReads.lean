/-
  Any bytes are read as the document says, by any number of bits, unsigned and signed (of numbers and lists alone).
-/
import Derived.Test.YtnbfgcoggjghbaaPLebReadsx
import Derived.Test.YtnbfgcoggjghbaaSLebReads
namespace Go.Proofs.Ytnbfgcoggjghbaa.Pure
open Go.RowKit Go.Proofs.Ytnbfgcoggjghbaa.PLebReads Go.Proofs.YtnbfgcoggjghbaaW.PrintWords Go.Proofs.YtnbfgcoggjghbaaW.PrintLast Go.Proofs.YtnbfgcoggjghbaaW.PrintMore Go.Proofs.Ytnbfgcoggjghbaa.Nums Go.Proofs.Ytnbfgcoggjghbaa.SLebReads

theorem is_awake : Ev (fun k => trammellaw01_awake.f k) true := Ev.of (fun k => trammellaw01_awake.mono k) (k := 9) (by decide +kernel)

theorem LebReads : trammellaw01_LebReads.Pure := by
  intro l0 a1 _ hl hw ha
  have hb := (bytes_wf hw).take (mn (l0.length : Int) 1000).toNat
  have hlen : (l0.take (mn (l0.length : Int) 1000).toNat).length ≤ 140737488351232 := by rw [List.length_take]; omega
  have hm : 0 ≤ mn (l0.length : Int) 1000 ∧ mn (l0.length : Int) 1000 ≤ (l0.length : Int) := by unfold mn; split <;> omega
  generalize hL : l0.take (mn (l0.length : Int) 1000).toNat = L at hb hlen
  have fin : ∀ u v : Int × Int × Int, Ev (fun k => leb_U.f k L a1) u → Ev (fun k => trammelref01_U.f k L a1) u → Ev (fun k => leb_S.f k L a1) v → Ev (fun k => trammelref01_S.f k L a1) v → ∃ k, trammellaw01_LebReads.f k l0 a1 = some true := fun u v h1 h2 h3 h4 => by
    refine Ev.rounds (Ev.bind is_awake ?_)
    refine Ev.congr (f := fun k => (leb_U.f k L a1).bind fun bt146 => (trammelref01_U.f k L a1).bind fun bt149 => (if bt146.1 = bt149.1 then (if bt146.2.1 = bt149.2.1 then (trammellaw01_LebReads.j0 k L a1 (bt146.2.2 != bt149.2.2)) else (trammellaw01_LebReads.j0 k L a1 true)) else (trammellaw01_LebReads.j0 k L a1 true))) (fun k => ?_) ?_
    · rw [if_pos rfl, if_pos hm.1, if_pos hm.2, hL]
    · refine Ev.bind h1 (Ev.bind h2 ?_)
      refine Ev.congr (f := fun k => trammellaw01_LebReads.j0 k L a1 false) (fun k => by rw [if_pos rfl, if_pos rfl, bne_self_eq_false]) ?_
      refine Ev.step (f := fun k => (leb_S.f k L a1).bind fun bt152 => (trammelref01_S.f k L a1).bind fun bt155 => (if bt152.1 = bt155.1 then (if bt152.2.1 = bt155.2.1 then (some (bt152.2.2 == bt155.2.2)) else (some false)) else (some false))) (fun k => by simp only [trammellaw01_LebReads.j0]; rw [if_neg (by decide)]) ?_
      refine Ev.bind h3 (Ev.bind h4 ?_)
      exact Ev.congr (f := fun _ => some true) (fun k => by rw [if_pos rfl, if_pos rfl, beq_self_eq_true]) (Ev.now _)
  by_cases hbits : a1 < 1 ∨ 64 < a1
  · exact fin _ _ (U_arg hbits) (RU_arg hbits) (S_arg hbits) (RS_arg hbits)
  · obtain ⟨bits, rfl⟩ : ∃ n : Nat, a1 = n := ⟨a1.toNat, by omega⟩
    exact fin _ _ (U_eq hb hlen (by omega) (by omega)) (RU_eq hb hlen (by omega) (by omega)) (S_eq hb hlen (by omega) (by omega)) (RS_eq hb hlen (by omega) (by omega))
end Go.Proofs.Ytnbfgcoggjghbaa.Pure
