/-
  LebLength, of numbers alone: the law answers true.
-/
import Derived.Test.YtnbfgcoggjghbaaXLebLength
import Derived.Test.YtnbfgcoggjghbaaSLebLength
namespace Go.Proofs.Ytnbfgcoggjghbaa.YLebLength
open Go.Proofs.Ytnbfgcoggjghbaa.Vx Go.Proofs.Ytnbfgcoggjghbaa.XLebLength Go.Proofs.Ytnbfgcoggjghbaa.Vd Go.Proofs.Ytnbfgcoggjghbaa.Vn Go.Proofs.Ytnbfgcoggjghbaa.Vl Go.Proofs.Ytnbfgcoggjghbaa.SLebLength
theorem xor_all {n : Int} (h0 : -9223372036854775808 ≤ n) (h1 : n ≤ 9223372036854775807) : arI .xor .i64 (-1) n = -1 - n := by
  show IntKind.i64.wrap ((BitVec.ofInt 64 (-1) ^^^ BitVec.ofInt 64 n).toNat : Int) = _
  have hm : ((BitVec.ofInt 64 n).toNat : Int) = n % 18446744073709551616 := by rw [BitVec.toNat_ofInt]; omega
  rw [show BitVec.ofInt 64 (-1) = BitVec.allOnes 64 by decide, BitVec.allOnes_xor, BitVec.toNat_not]
  generalize (BitVec.ofInt 64 n).toNat = m at hm
  simp only [IntKind.wrap, IntKind.bits, IntKind.signed, Nat.reducePow, Nat.reduceSub, Int.reducePow, Bool.true_and, decide_eq_true_eq, ge_iff_le]
  split <;> omega
theorem law (x y : Int) (z : Int) (hx : (Lit.int .u64 x).wf = true) (hy : (Lit.int .u64 y).wf = true) (hz : (Lit.int .i64 z).wf = true) : F8 [x, y, z] [] [] = some ([], [true], []) := by
  obtain ⟨x0, x1⟩ := wf_u64 hx
  obtain ⟨y0, y1⟩ := wf_u64 hy
  obtain ⟨z0, z1⟩ := wf_i64 hz
  obtain ⟨a, rfl⟩ := Int.eq_ofNat_of_zero_le x0
  obtain ⟨b, rfl⟩ := Int.eq_ofNat_of_zero_le y0
  refine of_ret ?_
  unfold t8
  refine d_callx [] [] [] ([], [true], []) e8_9 rfl rfl rfl q9 rfl ?_
  refine d_ite (fun h => by cases h) fun _ => ?_
  have emn : ∀ bs ls, (E.mn (.iv 0) (.iv 1)).I [(a : Int), (b : Int), z] bs ls = ((min a b : Nat) : Int) := fun bs ls => by simp only [E.I, List.getD_cons_zero, List.getD_cons_succ]; split <;> omega
  have emx : ∀ bs ls, (E.mx (.iv 0) (.iv 1)).I [(a : Int), (b : Int), z] bs ls = ((max a b : Nat) : Int) := fun bs ls => by simp only [E.I, List.getD_cons_zero, List.getD_cons_succ]; split <;> omega
  refine d_callx [((min a b : Nat) : Int)] [] [[]] ([], [], [dl (uBytes (min a b))]) e8_15 (by rw [List.map_cons, List.map_nil]; exact congrArg (fun x => [x]) (emn _ _)) rfl rfl (q15 (by omega) [] (by simp)) rfl ?_
  refine d_callx [((max a b : Nat) : Int)] [] [[]] ([], [], [dl (uBytes (max a b))]) e8_15 (by rw [List.map_cons, List.map_nil]; exact congrArg (fun x => [x]) (emx _ _)) rfl rfl (q15 (by omega) [] (by simp)) rfl ?_
  have hmono : (uBytes (min a b)).length ≤ (uBytes (max a b)).length := by
    have hp := uBytes_pos (max a b)
    have h1 := (uBytes_len (n := max a b) (s := (uBytes (max a b)).length) (by omega) hp).1 (Nat.le_refl _)
    exact (uBytes_len (by omega) hp).2 (by omega)
  refine d_ite (fun _ => ?_) fun h => ?_
  · refine d_callx [z] [] [[]] ([], [], [dl (sBytes z)]) e8_16 rfl rfl rfl (q16 z0 z1 [] (by simp)) rfl ?_
    refine d_callx [-1 - z] [] [[]] ([], [], [dl (sBytes (-1 - z))]) e8_16 (by rw [List.map_cons, List.map_nil]; exact congrArg (fun x => [x]) (xor_all z0 z1)) rfl rfl (q16 (by omega) (by omega) [] (by simp)) rfl ?_
    have hs : (sBytes z).length = (sBytes (-1 - z)).length := by
      have p1 := sBytes_pos z
      have p2 := sBytes_pos (-1 - z)
      have l1 := fun s => sBytes_len z0 z1 s
      have l2 := fun s => sBytes_len (n := -1 - z) (by omega) (by omega) s
      have e : ∀ s, (sBytes z).length ≤ s + 1 ↔ (sBytes (-1 - z)).length ≤ s + 1 := fun s => by rw [l1, l2]; omega
      have := (e ((sBytes z).length - 1)).1 (by omega)
      have := (e ((sBytes (-1 - z)).length - 1)).2 (by omega)
      omega
    refine d_ite (fun _ => ?_) fun h => ?_
    · refine d_callx [(a : Int)] [] [[]] ([], [], [dl (uBytes a)]) e8_15 rfl rfl rfl (q15 (by omega) [] (by simp)) rfl ?_
      have := uBytes_ten (n := a) (by omega)
      simp [T.den, E.B, E.I, cmB, vals, dl]
      omega
    · simp [E.B, E.I, cmB, dl, hs] at h
  · simp [E.B, E.I, cmB, dl] at h
    omega
end Go.Proofs.Ytnbfgcoggjghbaa.YLebLength
