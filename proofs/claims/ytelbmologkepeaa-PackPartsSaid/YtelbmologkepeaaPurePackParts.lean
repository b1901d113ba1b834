/-
  A number that is stored whole is loaded in parts that make it up; stored in parts it is loaded whole (of numbers alone).
-/
import Derived.Test.YtelbmologkepeaaPPackPartsx
import Derived.Test.YtelbmologkepeaaSPackParts
namespace Go.Proofs.Ytelbmologkepeaa.Pure
open Go.RowKit Go.Proofs.Ytelbmologkepeaa.PPackParts Go.Proofs.YtelbmologkepeaaW.PrintWords Go.Proofs.YtelbmologkepeaaW.PrintLast Go.Proofs.YtelbmologkepeaaW.PrintMore Go.Proofs.Ytelbmologkepeaa.Nums Go.Proofs.Ytelbmologkepeaa.SPackParts

theorem is_awake : Ev (fun k => trammellaw04_awake.f k) true := Ev.of (fun k => trammellaw04_awake.mono k) (k := 12) (by decide +kernel)
theorem sto55 (v : Nat) : sto 55 v = (le 8 v, true) := rfl
theorem sto60 (v : Nat) : sto 60 v = (le 1 v, true) := rfl
theorem lod41 (v : Nat) : lod 41 (le 8 v) = (((v % 2 ^ 64 : Nat) : Int), true) := by
  unfold lod
  rw [if_pos ⟨rfl, rfl, by rw [le_len]; rfl⟩, val_le]
  rfl
theorem lod53 (v : Nat) : lod 53 (le 4 v) = (((v % 2 ^ 32 : Nat) : Int), true) := by
  unfold lod
  rw [if_pos ⟨rfl, rfl, by rw [le_len]; rfl⟩, val_le]
  rfl
theorem lod40 (v : Nat) : lod 40 (le 4 v) = (((v % 2 ^ 32 : Nat) : Int), true) := by
  unfold lod
  rw [if_pos ⟨rfl, rfl, by rw [le_len]; rfl⟩, val_le]
  show (((v % 2 ^ 32 % 4294967296 : Nat) : Int), true) = _
  rw [Nat.mod_mod]
theorem whole (v : Nat) (hv : v < 2 ^ 64) : Go.bits .or .u64 ((v % 2 ^ 32 : Nat) : Int) (IntKind.u64.wrap (((v / 2 ^ 32 % 2 ^ 32 : Nat) : Int) * 4294967296)) = (v : Int) := by
  have e : ((v / 2 ^ 32 % 2 ^ 32 : Nat) : Int) * 4294967296 = ((v / 2 ^ 32 * 2 ^ 32 : Nat) : Int) := by omega
  rw [e, wraps_u64 _ (by omega) (by omega), bor (by omega) (by omega), or_shl (by omega)]
  omega
theorem loop (v : Nat) (hv : v < 2 ^ 64) : ∀ (d i : Nat), i + d = 8 → Ev (fun k => trammellaw04_PackParts.l0 k v (le 8 v) (le i v) i) true
  | 0, i, hi => by
    obtain rfl : i = 8 := by omega
    refine Ev.step (fun k => by simp only [trammellaw04_PackParts.l0]; rw [if_neg (by omega)]) (Ev.bind (same_ev _ _ (by rw [le_len]; omega)) ?_)
    rw [decide_eq_true rfl]
    simp only [if_true]
    refine Ev.bind (load_ev 41 _ (le_bytes 8 v)) ?_
    rw [lod41]
    refine Ev.congr (fun k => if_pos (by rw [le_len]; decide)) ?_
    rw [le_take 8 4 v (by omega), le_drop 4 4 v]
    refine Ev.bind (load_ev 53 _ (le_bytes 4 v)) (Ev.bind (load_ev 53 _ (le_bytes 4 _)) (Ev.bind (load_ev 40 _ (le_bytes 4 v)) ?_))
    rw [lod53, lod53, lod40]
    refine Ev.congr (fun k => (if_pos (by show ((v % 2 ^ 64 : Nat) : Int) = v; omega)).trans (if_pos (whole v hv))) ?_
    rw [beq_self_eq_true]
    exact Ev.now true
  | d + 1, i, hi => by
    have ih := loop v hv d (i + 1) (by omega)
    have e1 := byte_step i (by omega)
    have e2 := up_one i (by omega)
    refine Ev.step (fun k => by simp only [trammellaw04_PackParts.l0]; rw [e1, e2, if_pos (by omega), if_pos (by omega), shr_nat _ _ (by omega)]) (Ev.bind (store_ev 60 _) ?_)
    rw [sto60]
    refine Ev.congr (fun k => if_pos (by rw [le_len, le_len]; omega)) ?_
    have e : le i v ++ le 1 (v / 2 ^ (8 * i)) = le (i + 1) v := (le_add i 1 v).symm
    show Ev (fun k => trammellaw04_PackParts.l0 k v (le 8 v) (le i v ++ le 1 (v / 2 ^ (8 * i))) ((i + 1 : Nat) : Int)) true
    rw [e]
    exact ih

theorem PackParts : trammellaw04_PackParts.Pure := by
  intro a0 w0
  obtain ⟨v, rfl, hv⟩ := wf_u64 w0
  refine Ev.rounds (g := fun k => trammellaw04_PackParts.f k v) ?_
  unfold trammellaw04_PackParts.f
  refine Ev.bind is_awake ?_
  simp only [if_true]
  refine Ev.bind (store_ev 55 v) ?_
  rw [sto55]
  exact loop v hv 8 0 rfl
end Go.Proofs.Ytelbmologkepeaa.Pure
