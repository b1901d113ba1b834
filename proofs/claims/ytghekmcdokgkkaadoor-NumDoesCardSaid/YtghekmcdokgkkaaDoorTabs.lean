/-
  The tables of math/bits that the code reads (deBruijn32tab, deBruijn64tab), as the row lists them: what the walks need of them, that they stay, and the calls of TrailingZeros32 and TrailingZeros64.
-/
import Derived.Test.YtghekmcdokgkkaaDoorRows
import Derived.Shelf.Spec.TrailingZeros
import Derived.Lib.TrailingZeros
import Derived.WalkKit
import Derived.ProofKit
import Derived.LaidMore
import Derived.OpenShut
import Derived.Below
import Derived.Lib.LaidTab
import Derived.Stop.Joined
import Derived.Stop.LaidErr
namespace Go.Proofs.YtghekmcdokgkkaaDoor.Tabs
open Go.ChangeShapes Go.WideShapes Go.ChangeAt Go.WideMaps Go.WideElems Go.RowKit
def laid : List (String × DataW Unit) := [("math/bits.deBruijn32tab", Rows.laid_math_bits_deBruijn32tab), ("math/bits.deBruijn64tab", Rows.laid_math_bits_deBruijn64tab)]
def zs32 : List Int := Lib.deBruijn32tab.map Int.ofNat
def zs64 : List Int := Lib.deBruijn64tab.map Int.ofNat
theorem laid_is : laid = [("math/bits.deBruijn32tab", Lib.tabData .u8 zs32), ("math/bits.deBruijn64tab", Lib.tabData .u8 zs64)] := by kernel_rfl
def Tabs (w : World) : Prop := TabAt 0 Lib.deBruijn32tab w ∧ TabAt 1 Lib.deBruijn64tab w
theorem tabs_below {w w' : World} (h : Tabs w) (hb : Below w.heap.size w w') : Tabs w' :=
  ⟨fun j hj => (hb.cell (World.block_lt_of_cell? _ _ (h.1 j hj))).trans (h.1 j hj), fun j hj => (hb.cell (World.block_lt_of_cell? _ _ (h.2 j hj))).trans (h.2 j hj)⟩
theorem g32 : Tryd.prog.globalNamed "math/bits.deBruijn32tab" = some 0 := by kernel_rfl
theorem gt32 : (Tryd.prog.globals[0]?).map (·.type) = some 62 := by kernel_rfl
theorem g64 : Tryd.prog.globalNamed "math/bits.deBruijn64tab" = some 1 := by kernel_rfl
theorem gt64 : (Tryd.prog.globals[1]?).map (·.type) = some 63 := by kernel_rfl
theorem door_met (os : Os) (args : Array Value) : laidMetH Tryd.prog laid ((World.doorLaid Tryd.prog 400 os).forCall (fun _ _ => 0) ⟨#[], args, []⟩).memory :=
  laidMetH_of_parts3 (fuel := 8) (laidMet_of_run' 8 (by kernel_rfl) (by kernel_rfl)) (by kernel_rfl) (by kernel_rfl)
theorem tab_of {W : World} {n : String} {g : Nat} {l : List Nat} (ht : Lib.TabIs Tryd.prog W n .u8 (l.map Int.ofNat)) (hg : Tryd.prog.globalNamed n = some g) : TabAt g l W := by
  intro j hj
  have := Lib.TabIs.cell ht hg j (by simpa using hj)
  rw [this]
  simp [List.getD, List.getElem?_map]
  cases l[j]? <;> rfl
theorem of_laid {W : World} (h : laidMetH Tryd.prog laid W) : Tabs W := by
  rw [MakeChecks.laidMetH_plain _ _ _ (by kernel_rfl), laid_is] at h
  exact ⟨tab_of (Lib.tabIs_of_head g32 gt32 Tryd.underlying62 Tryd.underlying5 (by kernel_rfl) (by kernel_rfl) h) g32,
    tab_of (Lib.tabIs_of_head g64 gt64 Tryd.underlying63 Tryd.underlying5 (by kernel_rfl) (by kernel_rfl) (laidMet.tail h)) g64⟩
def tz32f (x : Int) : Option Int := if 0 ≤ x ∧ x < 4294967296 then some (Lib.ctz 32 x.toNat : Nat) else none
theorem tz32_zero (w : World) : Calls Tryd.prog 20 #[.int .u32 0] w fun e w' => e = .returned (.int .i64 32) ∧ w' = w := by
  go_enter Tryd.func20, Tryd.ntmps20
  go_wp2
  go_ret
  exact ⟨rfl, rfl⟩
set_option maxHeartbeats 1000000 in
theorem tz32_core (x k idx : Nat) (w : World) (hx0 : ((x : Int) == 0) = false)
    (key : bits BinOp.and IntKind.u32 (x : Int) (-(x : Int) % 4294967296) * 125613361 % 4294967296 / 134217728 = (idx : Int))
    (hi : idx < 32) (hk : k < 32) (hcell : w.cell? ⟨0, idx, none⟩ = some (.int .u8 k)) :
    Calls Tryd.prog 20 #[.int .u32 x] w fun e w' => e = .returned (.int .i64 k) ∧ w' = w := by
  go_enter Tryd.func20, Tryd.ntmps20
  go_wp2_with (simp only [key])
  go_ret
  exact ⟨rfl, rfl⟩
theorem tz32_calls (x r : Int) (w : World) (hT : Tabs w) (h : tz32f x = some r) :
    Calls Tryd.prog 20 #[.int .u32 x] w fun e w' => e = .returned (.int .i64 r) ∧ Below w.heap.size w w' := by
  unfold tz32f at h
  split at h
  · rename_i hx
    obtain ⟨n, rfl⟩ := Int.eq_ofNat_of_zero_le hx.1
    obtain rfl := Option.some.inj h
    rw [Int.toNat_natCast]
    have hn : n < 4294967296 := by omega
    by_cases h0 : n = 0
    · subst h0
      exact (tz32_zero w).mono fun e w' he => ⟨he.1, he.2 ▸ Below.refl _ _⟩
    · obtain ⟨hlow, hk⟩ := Lib.lowest_bit 32 n h0 hn
      obtain ⟨hi, htab⟩ := Lib.deBruijn32_at _ hk
      have hcell := hT.1 _ hi
      rw [htab] at hcell
      exact (tz32_core n _ _ w (by simp; omega) (tz32_key n _ hn h0 hlow) hi hk hcell).mono fun e w' he => ⟨he.1, he.2 ▸ Below.refl _ _⟩
  · cases h
def tz64f (x : Int) : Option Int := if 0 ≤ x ∧ x < 18446744073709551616 then some (Lib.ctz 64 x.toNat : Nat) else none
theorem tz64_zero (w : World) : Calls Tryd.prog 23 #[.int .u64 0] w fun e w' => e = .returned (.int .i64 64) ∧ w' = w := by
  go_enter Tryd.func23, Tryd.ntmps23
  go_wp2
  go_ret
  exact ⟨rfl, rfl⟩
set_option maxHeartbeats 1000000 in
theorem tz64_core (x k idx : Nat) (w : World) (hx0 : ((x : Int) == 0) = false)
    (key : IntKind.u64.wrap (bits BinOp.and IntKind.u64 (x : Int) (IntKind.u64.wrap (-(x : Int))) * 285870213051353865) / 288230376151711744 = (idx : Int))
    (hi : idx < 64) (hk : k < 64) (hcell : w.cell? ⟨1, idx, none⟩ = some (.int .u8 k)) :
    Calls Tryd.prog 23 #[.int .u64 x] w fun e w' => e = .returned (.int .i64 k) ∧ w' = w := by
  go_enter Tryd.func23, Tryd.ntmps23
  go_wp2_with (simp only [key])
  go_ret
  exact ⟨rfl, rfl⟩
theorem tz64_calls (x r : Int) (w : World) (hT : Tabs w) (h : tz64f x = some r) :
    Calls Tryd.prog 23 #[.int .u64 x] w fun e w' => e = .returned (.int .i64 r) ∧ Below w.heap.size w w' := by
  unfold tz64f at h
  split at h
  · rename_i hx
    obtain ⟨n, rfl⟩ := Int.eq_ofNat_of_zero_le hx.1
    obtain rfl := Option.some.inj h
    rw [Int.toNat_natCast]
    have hn : n < 18446744073709551616 := by omega
    by_cases h0 : n = 0
    · subst h0
      exact (tz64_zero w).mono fun e w' he => ⟨he.1, he.2 ▸ Below.refl _ _⟩
    · obtain ⟨hlow, hk⟩ := Lib.lowest_bit 64 n h0 hn
      obtain ⟨hi, htab⟩ := Lib.deBruijn64_at _ hk
      have hcell := hT.2 _ hi
      rw [htab] at hcell
      exact (tz64_core n _ _ w (by simp; omega) (tz64_key n _ hn h0 hlow) hi hk hcell).mono fun e w' he => ⟨he.1, he.2 ▸ Below.refl _ _⟩
  · cases h
end Go.Proofs.YtghekmcdokgkkaaDoor.Tabs
