/-
  What is read as a number of some bits is read as the same by more bits, if it is not at its most bytes; and never as another one (of numbers and lists alone).
-/
import Derived.Test.YtnbfgcoggjghbaaPLebWiderx
import Derived.Test.YtnbfgcoggjghbaaSLebWider
namespace Go.Proofs.Ytnbfgcoggjghbaa.Pure
open Go.RowKit Go.Proofs.Ytnbfgcoggjghbaa.PLebWider Go.Proofs.YtnbfgcoggjghbaaW.PrintWords Go.Proofs.YtnbfgcoggjghbaaW.PrintLast Go.Proofs.YtnbfgcoggjghbaaW.PrintMore Go.Proofs.Ytnbfgcoggjghbaa.Nums Go.Proofs.Ytnbfgcoggjghbaa.SLebWider

theorem is_awake : Ev (fun k => trammellaw01_awake.f k) true := Ev.of (fun k => trammellaw01_awake.mono k) (k := 9) (by decide +kernel)
theorem mst_mono {a b : Nat} (h : a ≤ b) : mst a ≤ mst b := by unfold mst; omega
theorem U_more {L : List Int} {a b : Nat} (h : a ≤ b) : (USpec L a).2.2 = 0 → USpec L b = USpec L a := by
  have hm := mst_mono h
  have hp : 2 ^ a ≤ 2 ^ b := pow_le h
  unfold USpec
  intro he
  by_cases hc : ends L < L.length ∧ ends L < mst a
  · rw [if_pos hc] at he
    by_cases hv : vl L (ends L + 1) < 2 ^ a
    · rw [if_pos hc, if_pos hv, if_pos ⟨hc.1, by omega⟩, if_pos (by omega)]
    · rw [if_neg hv] at he; exact absurd he (by decide)
  · rw [if_neg hc] at he
    split at he <;> exact absurd he (by decide)
theorem S_most {L : List Int} {a : Nat} (he : (SSpec L a).2.2 = 0) : (SSpec L a).2.1 ≤ ((mst a : Nat) : Int) ∧ (SSpec L a).1 = sv L (ends L) ∧ (SSpec L a).2.1 = ((ends L + 1 : Nat) : Int) ∧ ends L < L.length ∧ ends L < mst a := by
  unfold SSpec at he ⊢
  by_cases hc : ends L < L.length ∧ ends L < mst a
  · rw [if_pos hc] at he ⊢
    split at he
    · rename_i hr
      rw [if_pos hr]
      refine ⟨?_, rfl, rfl, hc.1, hc.2⟩
      show ((ends L + 1 : Nat) : Int) ≤ _
      omega
    · exact absurd he (by decide)
  · rw [if_neg hc] at he
    split at he <;> exact absurd he (by decide)
theorem S_more {L : List Int} {a b : Nat} (h : a ≤ b) (he : (SSpec L a).2.2 = 0) (hk : (SSpec L a).2.1 < ((mst a : Nat) : Int)) : SSpec L b = SSpec L a := by
  have hm := mst_mono h
  have hp : 2 ^ (a - 1) ≤ 2 ^ (b - 1) := pow_le (by omega)
  obtain ⟨_, _, h2, h3, h4⟩ := S_most he
  rw [h2] at hk
  unfold SSpec at he ⊢
  rw [if_pos ⟨h3, h4⟩] at he
  split at he
  · rename_i hr
    rw [if_pos (show ends L < L.length ∧ ends L < mst b from ⟨h3, by omega⟩), if_pos (by omega), if_pos ⟨h3, h4⟩, if_pos hr]
  · exact absurd he (by decide)
theorem S_same {L : List Int} {a b : Nat} (he : (SSpec L a).2.2 = 0) (hf : (SSpec L b).2.2 = 0) : (SSpec L a).1 = (SSpec L b).1 := by
  rw [(S_most he).2.1, (S_most hf).2.1]
theorem most_tdiv {n : Nat} (h : n ≤ 64) : wrap64 (Int.tdiv (wrap64 ((n : Int) + 6)) 7) = ((mst n : Nat) : Int) := by
  have := most_eq h
  unfold leb_most.f at this
  exact Option.some.inj this

theorem LebWider : trammellaw01_LebWider.Pure := by
  intro l0 a1 a2 _ hl hw ha hc
  have hb := (bytes_wf hw).take (mn (l0.length : Int) 1000).toNat
  have hlen : (l0.take (mn (l0.length : Int) 1000).toNat).length ≤ 140737488351232 := by rw [List.length_take]; omega
  have hm : 0 ≤ mn (l0.length : Int) 1000 ∧ mn (l0.length : Int) 1000 ≤ (l0.length : Int) := by unfold mn; split <;> omega
  generalize hL : l0.take (mn (l0.length : Int) 1000).toNat = L at hb hlen
  refine Ev.rounds (Ev.bind is_awake ?_)
  have out : Ev (fun k => trammellaw01_LebWider.j0 k L a1 a2 true) true := Ev.step (f := fun _ => some true) (fun k => by simp only [trammellaw01_LebWider.j0]; rw [if_pos trivial]) (Ev.now _)
  by_cases h1 : a1 < 1
  · exact Ev.congr (fun k => by rw [if_pos rfl, if_pos hm.1, if_pos hm.2, hL, if_pos h1]) out
  by_cases h2 : a2 < a1
  · exact Ev.congr (fun k => by rw [if_pos rfl, if_pos hm.1, if_pos hm.2, hL, if_neg h1, if_pos h2]) out
  by_cases h3 : a2 > 64
  · exact Ev.congr (fun k => by rw [if_pos rfl, if_pos hm.1, if_pos hm.2, hL, if_neg h1, if_neg h2, decide_eq_true h3]) out
  obtain ⟨a, rfl⟩ : ∃ n : Nat, a1 = n := ⟨a1.toNat, by omega⟩
  obtain ⟨b, rfl⟩ : ∃ n : Nat, a2 = n := ⟨a2.toNat, by omega⟩
  have hab : a ≤ b := by omega
  have hm64 : a ≤ 64 := by omega
  have u1 := U_eq hb hlen (bits := a) (by omega) (by omega)
  have u2 := U_eq hb hlen (bits := b) (by omega) (by omega)
  have s1 := S_eq hb hlen (bits := a) (by omega) (by omega)
  have s2 := S_eq hb hlen (bits := b) (by omega) (by omega)
  refine Ev.congr (f := fun k => trammellaw01_LebWider.j0 k L (a : Int) (b : Int) false) (fun k => by rw [if_pos rfl, if_pos hm.1, if_pos hm.2, hL, if_neg h1, if_neg h2, decide_eq_false h3]) ?_
  refine Ev.step (f := fun k => (leb_U.f k L (a : Int)).bind fun bt125 => (leb_U.f k L (b : Int)).bind fun bt128 => (if bt125.2.2 = 0 then (if bt128.2.2 = 0 then (if bt125.1 = bt128.1 then (trammellaw01_LebWider.j1 k L (a : Int) (b : Int) (bt125.2.1 != bt128.2.1)) else (trammellaw01_LebWider.j1 k L (a : Int) (b : Int) true)) else (trammellaw01_LebWider.j1 k L (a : Int) (b : Int) true)) else (trammellaw01_LebWider.j1 k L (a : Int) (b : Int) false))) (fun k => by simp only [trammellaw01_LebWider.j0]; rw [if_neg (by decide)]) ?_
  refine Ev.bind u1 (Ev.bind u2 ?_)
  have second : Ev (fun k => trammellaw01_LebWider.j1 k L (a : Int) (b : Int) false) true := by
    refine Ev.step (f := fun k => (leb_S.f k L (a : Int)).bind fun bt131 => (leb_S.f k L (b : Int)).bind fun bt134 => _) (fun k => by simp only [trammellaw01_LebWider.j1]; rw [if_neg (by decide)]) ?_
    refine Ev.bind s1 (Ev.bind s2 ?_)
    refine Ev.congr (f := fun _ => some true) (fun k => ?_) (Ev.now _)
    rw [most_tdiv hm64]
    by_cases he : (SSpec L a).2.2 = 0
    · have hle := (S_most he).1
      rw [if_pos he]
      by_cases hk : (SSpec L a).2.1 < ((mst a : Nat) : Int)
      · have e := S_more hab he hk
        rw [if_pos hk, e, if_pos he, if_pos rfl, if_pos rfl]
      · have hk2 : (SSpec L a).2.1 = ((mst a : Nat) : Int) := by omega
        rw [if_neg hk, if_pos hk2]
        by_cases hf : (SSpec L b).2.2 = 0
        · rw [if_pos hf, S_same he hf, beq_self_eq_true]
        · rw [if_neg hf]
    · rw [if_neg he]
  by_cases he : (USpec L a).2.2 = 0
  · have e := U_more hab he
    refine Ev.congr (fun k => ?_) second
    rw [if_pos he, e, if_pos he, if_pos rfl, bne_self_eq_false]
  · exact Ev.congr (fun k => by rw [if_neg he]) second
end Go.Proofs.Ytnbfgcoggjghbaa.Pure
