/-
  No form of fewer bytes is read as the number that was put (of numbers and lists alone).
-/
import Derived.Test.YtnbfgcoggjghbaaPLebLeastx
import Derived.Test.YtnbfgcoggjghbaaSLebLeast
namespace Go.Proofs.Ytnbfgcoggjghbaa.Pure
open Go.RowKit Go.Proofs.Ytnbfgcoggjghbaa.PLebLeast Go.Proofs.YtnbfgcoggjghbaaW.PrintWords Go.Proofs.YtnbfgcoggjghbaaW.PrintLast Go.Proofs.YtnbfgcoggjghbaaW.PrintMore Go.Proofs.Ytnbfgcoggjghbaa.Nums Go.Proofs.Ytnbfgcoggjghbaa.SLebLeast

theorem is_awake : Ev (fun k => trammellaw01_awake.f k) true := Ev.of (fun k => trammellaw01_awake.mono k) (k := 9) (by decide +kernel)

theorem LebLeast : trammellaw01_LebLeast.Pure := by
  intro l0 _ hl hw
  have hb := (bytes_wf hw).take (mn (l0.length : Int) 20).toNat
  have hlen : (l0.take (mn (l0.length : Int) 20).toNat).length ≤ 140737488351232 := by rw [List.length_take]; omega
  have hm : 0 ≤ mn (l0.length : Int) 20 ∧ mn (l0.length : Int) 20 ≤ (l0.length : Int) := by unfold mn; split <;> omega
  generalize hL : l0.take (mn (l0.length : Int) 20).toNat = L at hb hlen
  have u := U_eq hb hlen (bits := 64) (by decide) (by decide)
  have s := S_eq hb hlen (bits := 64) (by decide) (by decide)
  have second : Ev (fun k => trammellaw01_LebLeast.j0 k L false) true := by
    refine Ev.step (f := fun k => (leb_S.f k L ((64 : Nat) : Int)).bind fun bt152 => (if bt152.2.2 = 0 then ((leb_PutS.f k ([] : List Int) bt152.1).bind fun t155 => (some (decide ((t155.length : Int) ≤ bt152.2.1)))) else (some true))) (fun k => by simp only [trammellaw01_LebLeast.j0]; rw [if_neg (by decide)]; rfl) ?_
    refine Ev.bind s ?_
    unfold SSpec
    by_cases hc : ends L < L.length ∧ ends L < mst 64
    · rw [if_pos hc]
      split
      · rename_i hr
        have hp : (2 : Nat) ^ (64 - 1) = 9223372036854775808 := by decide
        rw [hp] at hr
        refine Ev.congr (f := fun k => (leb_PutS.f k ([] : List Int) (sv L (ends L))).bind fun t155 => some (decide ((t155.length : Int) ≤ ((ends L + 1 : Nat) : Int)))) (fun k => by rw [if_pos rfl]) ?_
        refine Ev.bind (PutS_eq (by omega) (by omega) (by simp)) (Ev.congr (f := fun _ => some true) (fun k => ?_) (Ev.now _))
        have hV := vl_lt L (ends L + 1)
        rw [show 7 * (ends L + 1) = 7 * ends L + 7 by omega] at hV
        have hpp : 2 ^ (7 * ends L + 7) = 2 * 2 ^ (7 * ends L + 6) := by rw [show 7 * ends L + 7 = (7 * ends L + 6) + 1 by omega, Nat.pow_succ]; omega
        have h2 := (sBytes_len (n := sv L (ends L)) (by omega) (by omega) (ends L)).2 (by unfold sv; split <;> omega)
        rw [List.nil_append]
        exact congrArg some (decide_eq_true (by omega))
      · exact Ev.congr (f := fun _ => some true) (fun k => by rw [if_neg (by decide)]) (Ev.now _)
    · rw [if_neg hc]
      split <;> exact Ev.congr (f := fun _ => some true) (fun k => by rw [if_neg (by decide)]) (Ev.now _)
  refine Ev.rounds (Ev.bind is_awake ?_)
  refine Ev.congr (f := fun k => (leb_U.f k L ((64 : Nat) : Int)).bind fun bt => if bt.2.2 = 0 then (leb_PutU.f k ([] : List Int) bt.1).bind fun t => trammellaw01_LebLeast.j0 k L (decide ((t.length : Int) > bt.2.1)) else trammellaw01_LebLeast.j0 k L false) (fun k => ?_) ?_
  · rw [if_pos rfl, if_pos hm.1, if_pos hm.2, hL]
    rfl
  · refine Ev.bind u ?_
    unfold USpec
    by_cases hc : ends L < L.length ∧ ends L < mst 64
    · rw [if_pos hc]
      split
      · rename_i hr
        refine Ev.congr (f := fun k => (leb_PutU.f k ([] : List Int) ((vl L (ends L + 1) : Nat) : Int)).bind fun t => trammellaw01_LebLeast.j0 k L (decide ((t.length : Int) > ((ends L + 1 : Nat) : Int)))) (fun k => by rw [if_pos rfl]) ?_
        refine Ev.bind (PutU_eq hr (by simp)) ?_
        have h2 := (uBytes_len hr (s := ends L + 1) (by omega)).2 (vl_lt L _)
        rw [List.nil_append]
        exact Ev.congr (fun k => by rw [decide_eq_false (by omega)]) second
      · exact Ev.congr (fun k => by rw [if_neg (by decide)]) second
    · rw [if_neg hc]
      split <;> exact Ev.congr (fun k => by rw [if_neg (by decide)]) second
end Go.Proofs.Ytnbfgcoggjghbaa.Pure
