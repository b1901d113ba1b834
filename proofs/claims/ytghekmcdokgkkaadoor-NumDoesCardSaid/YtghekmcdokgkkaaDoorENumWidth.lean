/-
  What bits.TrailingZeros32 and bits.TrailingZeros64 answer, where their tables read as they are laid.
-/
import Derived.Test.YtghekmcdokgkkaaDoorSx
import Derived.Test.YtghekmcdokgkkaaDoorProg
import Derived.Test.YtghekmcdokgkkaaDoorTabs
namespace Go.Proofs.YtghekmcdokgkkaaDoor.ENumWidth
open Go.Proofs.YtghekmcdokgkkaaDoor.Sx
def s20 : Sig := ⟨[⟨false, [(some .u32)]⟩], [⟨false, [(some .i64)]⟩]⟩
def F20 : Sx.Fn := fun is bs =>
  match is, bs with
  | [x], [] => (Tabs.tz32f x).map fun r => ([r], [])
  | _, _ => none
theorem g20 : Sx.Good Tryd.prog Tabs.Tabs 20 s20 F20 := by
  refine good_plain rfl fun is bs is' bs' h w hw => ?_
  unfold F20 at h
  split at h
  · rename_i x
    cases hr : Tabs.tz32f x with
    | none => rw [hr] at h; cases h
    | some r =>
      rw [hr] at h
      cases h
      left
      have hn : (Tryd.f20.name == "runtime.NumGoroutine") = false := by kernel_rfl
      have hn' : ¬ Tryd.f20.name = "runtime.NumGoroutine" := by simpa using hn
      have hb : Tryd.f20.body.isSome = true := by kernel_rfl
      obtain ⟨c, hc⟩ := Option.isSome_iff_exists.1 hb
      exact ⟨by simp [callFunc, Tryd.func20, hn', hc], Tabs.tz32_calls x r w hw hr⟩
  · cases h
def s23 : Sig := ⟨[⟨false, [(some .u64)]⟩], [⟨false, [(some .i64)]⟩]⟩
def F23 : Sx.Fn := fun is bs =>
  match is, bs with
  | [x], [] => (Tabs.tz64f x).map fun r => ([r], [])
  | _, _ => none
theorem g23 : Sx.Good Tryd.prog Tabs.Tabs 23 s23 F23 := by
  refine good_plain rfl fun is bs is' bs' h w hw => ?_
  unfold F23 at h
  split at h
  · rename_i x
    cases hr : Tabs.tz64f x with
    | none => rw [hr] at h; cases h
    | some r =>
      rw [hr] at h
      cases h
      left
      have hn : (Tryd.f23.name == "runtime.NumGoroutine") = false := by kernel_rfl
      have hn' : ¬ Tryd.f23.name = "runtime.NumGoroutine" := by simpa using hn
      have hb : Tryd.f23.body.isSome = true := by kernel_rfl
      obtain ⟨c, hc⟩ := Option.isSome_iff_exists.1 hb
      exact ⟨by simp [callFunc, Tryd.func23, hn', hc], Tabs.tz64_calls x r w hw hr⟩
  · cases h
end Go.Proofs.YtghekmcdokgkkaaDoor.ENumWidth
