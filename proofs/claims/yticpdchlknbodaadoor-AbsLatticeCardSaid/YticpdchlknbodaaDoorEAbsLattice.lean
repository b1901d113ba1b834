/-
  What bits.TrailingZeros64 answers, where its table reads as it is laid.
-/
import Derived.Test.YticpdchlknbodaaDoorSx
import Derived.Test.YticpdchlknbodaaDoorProg
import Derived.Test.YticpdchlknbodaaDoorTabs
namespace Go.Proofs.YticpdchlknbodaaDoor.EAbsLattice
open Go.Proofs.YticpdchlknbodaaDoor.Sx
def s26 : Sig := ⟨[⟨false, [(some .u64)]⟩], [⟨false, [(some .i64)]⟩]⟩
def F26 : Sx.Fn := fun is bs =>
  match is, bs with
  | [x], [] => (Tabs.tz64f x).map fun r => ([r], [])
  | _, _ => none
theorem g26 : Sx.Good Tryd.prog Tabs.Tabs 26 s26 F26 := by
  intro is bs is' bs' h w hw
  unfold F26 at h
  split at h
  · rename_i x
    cases hr : Tabs.tz64f x with
    | none => rw [hr] at h; cases h
    | some r =>
      rw [hr] at h
      cases h
      left
      have hn : (Tryd.f26.name == "runtime.NumGoroutine") = false := by kernel_rfl
      have hn' : ¬ Tryd.f26.name = "runtime.NumGoroutine" := by simpa using hn
      have hb : Tryd.f26.body.isSome = true := by kernel_rfl
      obtain ⟨c, hc⟩ := Option.isSome_iff_exists.1 hb
      exact ⟨by simp [callFunc, Tryd.func26, hn', hc], Tabs.tz64_calls x r w hw hr⟩
  · cases h
end Go.Proofs.YticpdchlknbodaaDoor.EAbsLattice
