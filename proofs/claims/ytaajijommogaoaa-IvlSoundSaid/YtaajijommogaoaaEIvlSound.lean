/-
  What bits.Add64 answers (the model stands in for it).
-/
import Derived.Test.YtaajijommogaoaaSx
import Derived.Test.YtaajijommogaoaaProg
import Derived.Laws.Externs
namespace Go.Proofs.Ytaajijommogaoaa.EIvlSound
open Go.Proofs.Ytaajijommogaoaa.Sx
def s27 : Sig := ⟨[⟨false, [(some .u64)]⟩, ⟨false, [(some .u64)]⟩, ⟨false, [(some .u64)]⟩], [⟨false, [(some .u64)]⟩, ⟨false, [(some .u64)]⟩]⟩
def F27 : Sx.Fn := fun is bs =>
  match is, bs with
  | [a, b, c], [] => if 0 ≤ a ∧ 0 ≤ b ∧ 0 ≤ c ∧ c ≤ 1 then some ([(a + b + c) % 18446744073709551616, (a + b + c) / 18446744073709551616], []) else none
  | _, _ => none
theorem g27 : Good Try.prog 27 s27 F27 := by
  intro is bs is' bs' h w
  unfold F27 at h
  split at h
  · rename_i a b c
    split at h
    · rename_i hc
      cases h
      right
      show (callFunc 27 #[.int .u64 a, .int .u64 b, .int .u64 c]).run Try.prog w = _
      rw [run_callFunc_extern Try.func27 (by kernel_rfl) (by kernel_rfl) (by kernel_rfl) (e := add64Entry) (by kernel_rfl), run_add64 a b c hc.1 hc.2.1 hc.2.2.1 hc.2.2.2]
      rfl
    · cases h
  · cases h
end Go.Proofs.Ytaajijommogaoaa.EIvlSound
