/-
  What bits.TrailingZeros64 answers, where its table reads as it is laid.
-/
import Derived.Test.YtfhmhoefeokihaaDoorSx
import Derived.Test.YtfhmhoefeokihaaDoorProg
import Derived.Test.YtfhmhoefeokihaaDoorTabs
namespace Go.Proofs.YtfhmhoefeokihaaDoor.ELowLattice
open Go.Proofs.YtfhmhoefeokihaaDoor.Sx
def s28 : Sig := ⟨[⟨false, [(some .u64)]⟩], [⟨false, [(some .i64)]⟩]⟩
def F28 : Sx.Fn := fun is bs =>
  match is, bs with
  | [x], [] => (Tabs.tz64f x).map fun r => ([r], [])
  | _, _ => none
theorem g28 : Sx.Good Tryd.prog Tabs.Tabs 28 s28 F28 := by
  intro is bs is' bs' h w hw
  unfold F28 at h
  split at h
  · rename_i x
    cases hr : Tabs.tz64f x with
    | none => rw [hr] at h; cases h
    | some r =>
      rw [hr] at h
      cases h
      left
      have hn : (Tryd.f28.name == "runtime.NumGoroutine") = false := by kernel_rfl
      have hn' : ¬ Tryd.f28.name = "runtime.NumGoroutine" := by simpa using hn
      have hb : Tryd.f28.body.isSome = true := by kernel_rfl
      obtain ⟨c, hc⟩ := Option.isSome_iff_exists.1 hb
      exact ⟨by simp [callFunc, Tryd.func28, hn', hc], Tabs.tz64_calls x r w hw hr⟩
  · cases h
end Go.Proofs.YtfhmhoefeokihaaDoor.ELowLattice
