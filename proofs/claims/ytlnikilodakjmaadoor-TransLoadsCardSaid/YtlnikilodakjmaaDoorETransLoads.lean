/-
  What bits.TrailingZeros64 answers, where its table reads as it is laid.
-/
import Derived.Test.YtlnikilodakjmaaDoorSx
import Derived.Test.YtlnikilodakjmaaDoorProg
import Derived.Test.YtlnikilodakjmaaDoorTabs
import Derived.Laws.Externs
namespace Go.Proofs.YtlnikilodakjmaaDoor.ETransLoads
open Go.Proofs.YtlnikilodakjmaaDoor.Sx
def s54 : Sig := ⟨[⟨false, [(some .u64)]⟩], [⟨false, [(some .i64)]⟩]⟩
def F54 : Sx.Fn := fun is bs =>
  match is, bs with
  | [x], [] => (Tabs.tz64f x).map fun r => ([r], [])
  | _, _ => none
theorem g54 : Sx.Good Tryd.prog Tabs.Tabs 54 s54 F54 := by
  refine good_plain rfl fun is bs is' bs' h w hw => ?_
  unfold F54 at h
  split at h
  · rename_i x
    cases hr : Tabs.tz64f x with
    | none => rw [hr] at h; cases h
    | some r =>
      rw [hr] at h
      cases h
      left
      have hn : (Tryd.f54.name == "runtime.NumGoroutine") = false := by kernel_rfl
      have hn' : ¬ Tryd.f54.name = "runtime.NumGoroutine" := by simpa using hn
      have hb : Tryd.f54.body.isSome = true := by kernel_rfl
      obtain ⟨c, hc⟩ := Option.isSome_iff_exists.1 hb
      exact ⟨by simp [callFunc, Tryd.func54, hn', hc], Tabs.tz64_calls x r w hw hr⟩
  · cases h
/-! What bits.Add64 answers (the model stands in for it). -/
def s81 : Sig := ⟨[⟨false, [(some .u64)]⟩, ⟨false, [(some .u64)]⟩, ⟨false, [(some .u64)]⟩], [⟨false, [(some .u64)]⟩, ⟨false, [(some .u64)]⟩]⟩
def F81 : Sx.Fn := fun is bs =>
  match is, bs with
  | [a, b, c], [] => if 0 ≤ a ∧ 0 ≤ b ∧ 0 ≤ c ∧ c ≤ 1 then some ([(a + b + c) % 18446744073709551616, (a + b + c) / 18446744073709551616], []) else none
  | _, _ => none
theorem g81 {I : World → Prop} : Sx.Good Tryd.prog I 81 s81 F81 := by
  refine good_plain rfl fun is bs is' bs' h w _ => ?_
  unfold F81 at h
  split at h
  · rename_i a b c
    split at h
    · rename_i hc
      cases h
      right
      show (callFunc 81 #[.int .u64 a, .int .u64 b, .int .u64 c]).run Tryd.prog w = _
      rw [run_callFunc_extern Tryd.func81 (by kernel_rfl) (by kernel_rfl) (by kernel_rfl) (e := add64Entry) (by kernel_rfl), run_add64 a b c hc.1 hc.2.1 hc.2.2.1 hc.2.2.2]
      rfl
    · cases h
  · cases h
end Go.Proofs.YtlnikilodakjmaaDoor.ETransLoads
