/-
  NumDoes: what the reference's Bin answers code by code; what is no code; the types.
-/
import Derived.Test.YtghekmcdokgkkaaDoorNumDNumDoes
namespace Go.Proofs.YtghekmcdokgkkaaDoor.ENumDoes
set_option linter.all false
set_option maxHeartbeats 2000000
set_option maxRecDepth 100000
open Go.Proofs.YtghekmcdokgkkaaDoor.Vx Go.Proofs.YtghekmcdokgkkaaDoor.XNumDoes Go.Proofs.YtghekmcdokgkkaaDoor.Vd Go.Proofs.YtghekmcdokgkkaaDoor.Vn Go.Proofs.YtghekmcdokgkkaaDoor.Vl Go.Proofs.YtghekmcdokgkkaaDoor.Vp Go.Proofs.YtghekmcdokgkkaaDoor.Vb Go.Proofs.YtghekmcdokgkkaaDoor.Vo Go.Proofs.YtghekmcdokgkkaaDoor.ANumDoes Go.Proofs.YtghekmcdokgkkaaDoor.BNumDoes Go.Proofs.YtghekmcdokgkkaaDoor.CNumDoes Go.Proofs.YtghekmcdokgkkaaDoor.DNumDoes Go.Proofs.YtghekmcdokgkkaaDoor.ENumDoes
theorem b_70 {a b A B : Nat} (ha : a < 2 ^ 64) (hb : b < 2 ^ 64) (hA : a % 2 ^ 32 = A) (hB : b % 2 ^ 32 = B) : F13 [70, (a : Int), (b : Int)] [] [] = some ([(bif ((A : Int) == (B : Int)) then 1 else 0), 0], [true], []) := by
  refine of_ret ?_
  unfold t13
  refine d_lb true rfl (d_jn 0 ([0, 0, 32, 0], [false], []) rfl rfl ?_)
  exact r_0 (w := 32) (.inl rfl) ha hb hA hB
theorem b_81 {a b A B : Nat} (ha : a < 2 ^ 64) (hb : b < 2 ^ 64) (hA : a % 2 ^ 64 = A) (hB : b % 2 ^ 64 = B) : F13 [81, (a : Int), (b : Int)] [] [] = some ([(bif ((A : Int) == (B : Int)) then 1 else 0), 0], [true], []) := by
  refine of_ret ?_
  unfold t13
  refine d_lb false rfl (d_jn 0 ([0, 0, 64, 0], [false], []) rfl rfl ?_)
  exact r_0 (w := 64) (.inr rfl) ha hb hA hB
theorem b_71 {a b A B : Nat} (ha : a < 2 ^ 64) (hb : b < 2 ^ 64) (hA : a % 2 ^ 32 = A) (hB : b % 2 ^ 32 = B) : F13 [71, (a : Int), (b : Int)] [] [] = some ([(bif ((A : Int) != (B : Int)) then 1 else 0), 0], [true], []) := by
  refine of_ret ?_
  unfold t13
  refine d_lb true rfl (d_jn 0 ([0, 0, 32, 1], [false], []) rfl rfl ?_)
  exact r_1 (w := 32) (.inl rfl) ha hb hA hB
theorem b_82 {a b A B : Nat} (ha : a < 2 ^ 64) (hb : b < 2 ^ 64) (hA : a % 2 ^ 64 = A) (hB : b % 2 ^ 64 = B) : F13 [82, (a : Int), (b : Int)] [] [] = some ([(bif ((A : Int) != (B : Int)) then 1 else 0), 0], [true], []) := by
  refine of_ret ?_
  unfold t13
  refine d_lb false rfl (d_jn 0 ([0, 0, 64, 1], [false], []) rfl rfl ?_)
  exact r_1 (w := 64) (.inr rfl) ha hb hA hB
theorem b_72 {a b A B : Nat} (ha : a < 2 ^ 64) (hb : b < 2 ^ 64) (hA : a % 2 ^ 32 = A) (hB : b % 2 ^ 32 = B) : F13 [72, (a : Int), (b : Int)] [] [] = some ([(bif decide (sg 32 A < sg 32 B) then 1 else 0), 0], [true], []) := by
  refine of_ret ?_
  unfold t13
  refine d_lb true rfl (d_jn 0 ([0, 0, 32, 2], [false], []) rfl rfl ?_)
  exact r_2 (w := 32) (.inl rfl) ha hb hA hB
theorem b_83 {a b A B : Nat} (ha : a < 2 ^ 64) (hb : b < 2 ^ 64) (hA : a % 2 ^ 64 = A) (hB : b % 2 ^ 64 = B) : F13 [83, (a : Int), (b : Int)] [] [] = some ([(bif decide (sg 64 A < sg 64 B) then 1 else 0), 0], [true], []) := by
  refine of_ret ?_
  unfold t13
  refine d_lb false rfl (d_jn 0 ([0, 0, 64, 2], [false], []) rfl rfl ?_)
  exact r_2 (w := 64) (.inr rfl) ha hb hA hB
theorem b_73 {a b A B : Nat} (ha : a < 2 ^ 64) (hb : b < 2 ^ 64) (hA : a % 2 ^ 32 = A) (hB : b % 2 ^ 32 = B) : F13 [73, (a : Int), (b : Int)] [] [] = some ([(bif decide ((A : Int) < (B : Int)) then 1 else 0), 0], [true], []) := by
  refine of_ret ?_
  unfold t13
  refine d_lb true rfl (d_jn 0 ([0, 0, 32, 3], [false], []) rfl rfl ?_)
  exact r_3 (w := 32) (.inl rfl) ha hb hA hB
theorem b_84 {a b A B : Nat} (ha : a < 2 ^ 64) (hb : b < 2 ^ 64) (hA : a % 2 ^ 64 = A) (hB : b % 2 ^ 64 = B) : F13 [84, (a : Int), (b : Int)] [] [] = some ([(bif decide ((A : Int) < (B : Int)) then 1 else 0), 0], [true], []) := by
  refine of_ret ?_
  unfold t13
  refine d_lb false rfl (d_jn 0 ([0, 0, 64, 3], [false], []) rfl rfl ?_)
  exact r_3 (w := 64) (.inr rfl) ha hb hA hB
theorem b_74 {a b A B : Nat} (ha : a < 2 ^ 64) (hb : b < 2 ^ 64) (hA : a % 2 ^ 32 = A) (hB : b % 2 ^ 32 = B) : F13 [74, (a : Int), (b : Int)] [] [] = some ([(bif decide (sg 32 B < sg 32 A) then 1 else 0), 0], [true], []) := by
  refine of_ret ?_
  unfold t13
  refine d_lb true rfl (d_jn 0 ([0, 0, 32, 4], [false], []) rfl rfl ?_)
  exact r_4 (w := 32) (.inl rfl) ha hb hA hB
theorem b_85 {a b A B : Nat} (ha : a < 2 ^ 64) (hb : b < 2 ^ 64) (hA : a % 2 ^ 64 = A) (hB : b % 2 ^ 64 = B) : F13 [85, (a : Int), (b : Int)] [] [] = some ([(bif decide (sg 64 B < sg 64 A) then 1 else 0), 0], [true], []) := by
  refine of_ret ?_
  unfold t13
  refine d_lb false rfl (d_jn 0 ([0, 0, 64, 4], [false], []) rfl rfl ?_)
  exact r_4 (w := 64) (.inr rfl) ha hb hA hB
theorem b_75 {a b A B : Nat} (ha : a < 2 ^ 64) (hb : b < 2 ^ 64) (hA : a % 2 ^ 32 = A) (hB : b % 2 ^ 32 = B) : F13 [75, (a : Int), (b : Int)] [] [] = some ([(bif decide ((B : Int) < (A : Int)) then 1 else 0), 0], [true], []) := by
  refine of_ret ?_
  unfold t13
  refine d_lb true rfl (d_jn 0 ([0, 0, 32, 5], [false], []) rfl rfl ?_)
  exact r_5 (w := 32) (.inl rfl) ha hb hA hB
theorem b_86 {a b A B : Nat} (ha : a < 2 ^ 64) (hb : b < 2 ^ 64) (hA : a % 2 ^ 64 = A) (hB : b % 2 ^ 64 = B) : F13 [86, (a : Int), (b : Int)] [] [] = some ([(bif decide ((B : Int) < (A : Int)) then 1 else 0), 0], [true], []) := by
  refine of_ret ?_
  unfold t13
  refine d_lb false rfl (d_jn 0 ([0, 0, 64, 5], [false], []) rfl rfl ?_)
  exact r_5 (w := 64) (.inr rfl) ha hb hA hB
theorem b_76 {a b A B : Nat} (ha : a < 2 ^ 64) (hb : b < 2 ^ 64) (hA : a % 2 ^ 32 = A) (hB : b % 2 ^ 32 = B) : F13 [76, (a : Int), (b : Int)] [] [] = some ([(bif decide (sg 32 A ≤ sg 32 B) then 1 else 0), 0], [true], []) := by
  refine of_ret ?_
  unfold t13
  refine d_lb true rfl (d_jn 0 ([0, 0, 32, 6], [false], []) rfl rfl ?_)
  exact r_6 (w := 32) (.inl rfl) ha hb hA hB
theorem b_87 {a b A B : Nat} (ha : a < 2 ^ 64) (hb : b < 2 ^ 64) (hA : a % 2 ^ 64 = A) (hB : b % 2 ^ 64 = B) : F13 [87, (a : Int), (b : Int)] [] [] = some ([(bif decide (sg 64 A ≤ sg 64 B) then 1 else 0), 0], [true], []) := by
  refine of_ret ?_
  unfold t13
  refine d_lb false rfl (d_jn 0 ([0, 0, 64, 6], [false], []) rfl rfl ?_)
  exact r_6 (w := 64) (.inr rfl) ha hb hA hB
theorem b_77 {a b A B : Nat} (ha : a < 2 ^ 64) (hb : b < 2 ^ 64) (hA : a % 2 ^ 32 = A) (hB : b % 2 ^ 32 = B) : F13 [77, (a : Int), (b : Int)] [] [] = some ([(bif decide ((A : Int) ≤ (B : Int)) then 1 else 0), 0], [true], []) := by
  refine of_ret ?_
  unfold t13
  refine d_lb true rfl (d_jn 0 ([0, 0, 32, 7], [false], []) rfl rfl ?_)
  exact r_7 (w := 32) (.inl rfl) ha hb hA hB
theorem b_88 {a b A B : Nat} (ha : a < 2 ^ 64) (hb : b < 2 ^ 64) (hA : a % 2 ^ 64 = A) (hB : b % 2 ^ 64 = B) : F13 [88, (a : Int), (b : Int)] [] [] = some ([(bif decide ((A : Int) ≤ (B : Int)) then 1 else 0), 0], [true], []) := by
  refine of_ret ?_
  unfold t13
  refine d_lb false rfl (d_jn 0 ([0, 0, 64, 7], [false], []) rfl rfl ?_)
  exact r_7 (w := 64) (.inr rfl) ha hb hA hB
theorem b_78 {a b A B : Nat} (ha : a < 2 ^ 64) (hb : b < 2 ^ 64) (hA : a % 2 ^ 32 = A) (hB : b % 2 ^ 32 = B) : F13 [78, (a : Int), (b : Int)] [] [] = some ([(bif decide (sg 32 B ≤ sg 32 A) then 1 else 0), 0], [true], []) := by
  refine of_ret ?_
  unfold t13
  refine d_lb true rfl (d_jn 0 ([0, 0, 32, 8], [false], []) rfl rfl ?_)
  exact r_8 (w := 32) (.inl rfl) ha hb hA hB
theorem b_89 {a b A B : Nat} (ha : a < 2 ^ 64) (hb : b < 2 ^ 64) (hA : a % 2 ^ 64 = A) (hB : b % 2 ^ 64 = B) : F13 [89, (a : Int), (b : Int)] [] [] = some ([(bif decide (sg 64 B ≤ sg 64 A) then 1 else 0), 0], [true], []) := by
  refine of_ret ?_
  unfold t13
  refine d_lb false rfl (d_jn 0 ([0, 0, 64, 8], [false], []) rfl rfl ?_)
  exact r_8 (w := 64) (.inr rfl) ha hb hA hB
theorem b_79 {a b A B : Nat} (ha : a < 2 ^ 64) (hb : b < 2 ^ 64) (hA : a % 2 ^ 32 = A) (hB : b % 2 ^ 32 = B) : F13 [79, (a : Int), (b : Int)] [] [] = some ([(bif decide ((B : Int) ≤ (A : Int)) then 1 else 0), 0], [true], []) := by
  refine of_ret ?_
  unfold t13
  refine d_lb true rfl (d_jn 0 ([0, 0, 32, 9], [false], []) rfl rfl ?_)
  exact r_9 (w := 32) (.inl rfl) ha hb hA hB
theorem b_90 {a b A B : Nat} (ha : a < 2 ^ 64) (hb : b < 2 ^ 64) (hA : a % 2 ^ 64 = A) (hB : b % 2 ^ 64 = B) : F13 [90, (a : Int), (b : Int)] [] [] = some ([(bif decide ((B : Int) ≤ (A : Int)) then 1 else 0), 0], [true], []) := by
  refine of_ret ?_
  unfold t13
  refine d_lb false rfl (d_jn 0 ([0, 0, 64, 9], [false], []) rfl rfl ?_)
  exact r_9 (w := 64) (.inr rfl) ha hb hA hB
theorem b_106 {a b A B : Nat} (ha : a < 2 ^ 64) (hb : b < 2 ^ 64) (hA : a % 2 ^ 32 = A) (hB : b % 2 ^ 32 = B) : F13 [106, (a : Int), (b : Int)] [] [] = some ([((A : Int) + (B : Int)) % 2 ^ 32, 0], [true], []) := by
  refine of_ret ?_
  unfold t13
  refine d_lb false rfl (d_jn 0 ([0, 0, 32, 10], [false], []) rfl rfl ?_)
  exact r_10 (w := 32) (.inl rfl) ha hb hA hB
theorem b_124 {a b A B : Nat} (ha : a < 2 ^ 64) (hb : b < 2 ^ 64) (hA : a % 2 ^ 64 = A) (hB : b % 2 ^ 64 = B) : F13 [124, (a : Int), (b : Int)] [] [] = some ([((A : Int) + (B : Int)) % 2 ^ 64, 0], [true], []) := by
  refine of_ret ?_
  unfold t13
  refine d_lb false rfl (d_jn 0 ([0, 0, 64, 10], [false], []) rfl rfl ?_)
  exact r_10 (w := 64) (.inr rfl) ha hb hA hB
theorem b_107 {a b A B : Nat} (ha : a < 2 ^ 64) (hb : b < 2 ^ 64) (hA : a % 2 ^ 32 = A) (hB : b % 2 ^ 32 = B) : F13 [107, (a : Int), (b : Int)] [] [] = some ([((A : Int) - (B : Int)) % 2 ^ 32, 0], [true], []) := by
  refine of_ret ?_
  unfold t13
  refine d_lb false rfl (d_jn 0 ([0, 0, 32, 11], [false], []) rfl rfl ?_)
  exact r_11 (w := 32) (.inl rfl) ha hb hA hB
theorem b_125 {a b A B : Nat} (ha : a < 2 ^ 64) (hb : b < 2 ^ 64) (hA : a % 2 ^ 64 = A) (hB : b % 2 ^ 64 = B) : F13 [125, (a : Int), (b : Int)] [] [] = some ([((A : Int) - (B : Int)) % 2 ^ 64, 0], [true], []) := by
  refine of_ret ?_
  unfold t13
  refine d_lb false rfl (d_jn 0 ([0, 0, 64, 11], [false], []) rfl rfl ?_)
  exact r_11 (w := 64) (.inr rfl) ha hb hA hB
theorem b_108 {a b A B : Nat} (ha : a < 2 ^ 64) (hb : b < 2 ^ 64) (hA : a % 2 ^ 32 = A) (hB : b % 2 ^ 32 = B) : F13 [108, (a : Int), (b : Int)] [] [] = some ([((A : Int) * (B : Int)) % 2 ^ 32, 0], [true], []) := by
  refine of_ret ?_
  unfold t13
  refine d_lb false rfl (d_jn 0 ([0, 0, 32, 12], [false], []) rfl rfl ?_)
  exact r_12 (w := 32) (.inl rfl) ha hb hA hB
theorem b_126 {a b A B : Nat} (ha : a < 2 ^ 64) (hb : b < 2 ^ 64) (hA : a % 2 ^ 64 = A) (hB : b % 2 ^ 64 = B) : F13 [126, (a : Int), (b : Int)] [] [] = some ([((A : Int) * (B : Int)) % 2 ^ 64, 0], [true], []) := by
  refine of_ret ?_
  unfold t13
  refine d_lb false rfl (d_jn 0 ([0, 0, 64, 12], [false], []) rfl rfl ?_)
  exact r_12 (w := 64) (.inr rfl) ha hb hA hB
theorem b_109 {a b A B : Nat} (ha : a < 2 ^ 64) (hb : b < 2 ^ 64) (hA : a % 2 ^ 32 = A) (hB : b % 2 ^ 32 = B) : F13 [109, (a : Int), (b : Int)] [] [] = some ([QD true 32 A B, TD true 32 A B], [true], []) := by
  refine of_ret ?_
  unfold t13
  refine d_lb false rfl (d_jn 0 ([0, 0, 32, 13], [false], []) rfl rfl ?_)
  exact r_13 (w := 32) (.inl rfl) ha hb hA hB
theorem b_127 {a b A B : Nat} (ha : a < 2 ^ 64) (hb : b < 2 ^ 64) (hA : a % 2 ^ 64 = A) (hB : b % 2 ^ 64 = B) : F13 [127, (a : Int), (b : Int)] [] [] = some ([QD true 64 A B, TD true 64 A B], [true], []) := by
  refine of_ret ?_
  unfold t13
  refine d_lb false rfl (d_jn 0 ([0, 0, 64, 13], [false], []) rfl rfl ?_)
  exact r_13 (w := 64) (.inr rfl) ha hb hA hB
theorem b_110 {a b A B : Nat} (ha : a < 2 ^ 64) (hb : b < 2 ^ 64) (hA : a % 2 ^ 32 = A) (hB : b % 2 ^ 32 = B) : F13 [110, (a : Int), (b : Int)] [] [] = some ([QD false 32 A B, TD false 32 A B], [true], []) := by
  refine of_ret ?_
  unfold t13
  refine d_lb false rfl (d_jn 0 ([0, 0, 32, 14], [false], []) rfl rfl ?_)
  exact r_14 (w := 32) (.inl rfl) ha hb hA hB
theorem b_128 {a b A B : Nat} (ha : a < 2 ^ 64) (hb : b < 2 ^ 64) (hA : a % 2 ^ 64 = A) (hB : b % 2 ^ 64 = B) : F13 [128, (a : Int), (b : Int)] [] [] = some ([QD false 64 A B, TD false 64 A B], [true], []) := by
  refine of_ret ?_
  unfold t13
  refine d_lb false rfl (d_jn 0 ([0, 0, 64, 14], [false], []) rfl rfl ?_)
  exact r_14 (w := 64) (.inr rfl) ha hb hA hB
theorem b_111 {a b A B : Nat} (ha : a < 2 ^ 64) (hb : b < 2 ^ 64) (hA : a % 2 ^ 32 = A) (hB : b % 2 ^ 32 = B) : F13 [111, (a : Int), (b : Int)] [] [] = some ([QR true 32 A B, TR B], [true], []) := by
  refine of_ret ?_
  unfold t13
  refine d_lb false rfl (d_jn 0 ([0, 0, 32, 15], [false], []) rfl rfl ?_)
  exact r_15 (w := 32) (.inl rfl) ha hb hA hB
theorem b_129 {a b A B : Nat} (ha : a < 2 ^ 64) (hb : b < 2 ^ 64) (hA : a % 2 ^ 64 = A) (hB : b % 2 ^ 64 = B) : F13 [129, (a : Int), (b : Int)] [] [] = some ([QR true 64 A B, TR B], [true], []) := by
  refine of_ret ?_
  unfold t13
  refine d_lb false rfl (d_jn 0 ([0, 0, 64, 15], [false], []) rfl rfl ?_)
  exact r_15 (w := 64) (.inr rfl) ha hb hA hB
theorem b_112 {a b A B : Nat} (ha : a < 2 ^ 64) (hb : b < 2 ^ 64) (hA : a % 2 ^ 32 = A) (hB : b % 2 ^ 32 = B) : F13 [112, (a : Int), (b : Int)] [] [] = some ([QR false 32 A B, TR B], [true], []) := by
  refine of_ret ?_
  unfold t13
  refine d_lb false rfl (d_jn 0 ([0, 0, 32, 16], [false], []) rfl rfl ?_)
  exact r_16 (w := 32) (.inl rfl) ha hb hA hB
theorem b_130 {a b A B : Nat} (ha : a < 2 ^ 64) (hb : b < 2 ^ 64) (hA : a % 2 ^ 64 = A) (hB : b % 2 ^ 64 = B) : F13 [130, (a : Int), (b : Int)] [] [] = some ([QR false 64 A B, TR B], [true], []) := by
  refine of_ret ?_
  unfold t13
  refine d_lb false rfl (d_jn 0 ([0, 0, 64, 16], [false], []) rfl rfl ?_)
  exact r_16 (w := 64) (.inr rfl) ha hb hA hB
theorem b_113 {a b A B : Nat} (ha : a < 2 ^ 64) (hb : b < 2 ^ 64) (hA : a % 2 ^ 32 = A) (hB : b % 2 ^ 32 = B) : F13 [113, (a : Int), (b : Int)] [] [] = some ([((A &&& B : Nat) : Int), 0], [true], []) := by
  refine of_ret ?_
  unfold t13
  refine d_lb false rfl (d_jn 0 ([0, 0, 32, 17], [false], []) rfl rfl ?_)
  exact r_17 (w := 32) (.inl rfl) ha hb hA hB
theorem b_131 {a b A B : Nat} (ha : a < 2 ^ 64) (hb : b < 2 ^ 64) (hA : a % 2 ^ 64 = A) (hB : b % 2 ^ 64 = B) : F13 [131, (a : Int), (b : Int)] [] [] = some ([((A &&& B : Nat) : Int), 0], [true], []) := by
  refine of_ret ?_
  unfold t13
  refine d_lb false rfl (d_jn 0 ([0, 0, 64, 17], [false], []) rfl rfl ?_)
  exact r_17 (w := 64) (.inr rfl) ha hb hA hB
theorem b_114 {a b A B : Nat} (ha : a < 2 ^ 64) (hb : b < 2 ^ 64) (hA : a % 2 ^ 32 = A) (hB : b % 2 ^ 32 = B) : F13 [114, (a : Int), (b : Int)] [] [] = some ([((A ||| B : Nat) : Int), 0], [true], []) := by
  refine of_ret ?_
  unfold t13
  refine d_lb false rfl (d_jn 0 ([0, 0, 32, 18], [false], []) rfl rfl ?_)
  exact r_18 (w := 32) (.inl rfl) ha hb hA hB
theorem b_132 {a b A B : Nat} (ha : a < 2 ^ 64) (hb : b < 2 ^ 64) (hA : a % 2 ^ 64 = A) (hB : b % 2 ^ 64 = B) : F13 [132, (a : Int), (b : Int)] [] [] = some ([((A ||| B : Nat) : Int), 0], [true], []) := by
  refine of_ret ?_
  unfold t13
  refine d_lb false rfl (d_jn 0 ([0, 0, 64, 18], [false], []) rfl rfl ?_)
  exact r_18 (w := 64) (.inr rfl) ha hb hA hB
theorem b_115 {a b A B : Nat} (ha : a < 2 ^ 64) (hb : b < 2 ^ 64) (hA : a % 2 ^ 32 = A) (hB : b % 2 ^ 32 = B) : F13 [115, (a : Int), (b : Int)] [] [] = some ([((A ^^^ B : Nat) : Int), 0], [true], []) := by
  refine of_ret ?_
  unfold t13
  refine d_lb false rfl (d_jn 0 ([0, 0, 32, 19], [false], []) rfl rfl ?_)
  exact r_19 (w := 32) (.inl rfl) ha hb hA hB
theorem b_133 {a b A B : Nat} (ha : a < 2 ^ 64) (hb : b < 2 ^ 64) (hA : a % 2 ^ 64 = A) (hB : b % 2 ^ 64 = B) : F13 [133, (a : Int), (b : Int)] [] [] = some ([((A ^^^ B : Nat) : Int), 0], [true], []) := by
  refine of_ret ?_
  unfold t13
  refine d_lb false rfl (d_jn 0 ([0, 0, 64, 19], [false], []) rfl rfl ?_)
  exact r_19 (w := 64) (.inr rfl) ha hb hA hB
theorem b_116 {a b A B : Nat} (ha : a < 2 ^ 64) (hb : b < 2 ^ 64) (hA : a % 2 ^ 32 = A) (hB : b % 2 ^ 32 = B) : F13 [116, (a : Int), (b : Int)] [] [] = some ([((A * 2 ^ (B % 32) % 2 ^ 32 : Nat) : Int), 0], [true], []) := by
  refine of_ret ?_
  unfold t13
  refine d_lb false rfl (d_jn 0 ([0, 0, 32, 20], [false], []) rfl rfl ?_)
  exact r_20 (w := 32) (.inl rfl) ha hb hA hB
theorem b_134 {a b A B : Nat} (ha : a < 2 ^ 64) (hb : b < 2 ^ 64) (hA : a % 2 ^ 64 = A) (hB : b % 2 ^ 64 = B) : F13 [134, (a : Int), (b : Int)] [] [] = some ([((A * 2 ^ (B % 64) % 2 ^ 64 : Nat) : Int), 0], [true], []) := by
  refine of_ret ?_
  unfold t13
  refine d_lb false rfl (d_jn 0 ([0, 0, 64, 20], [false], []) rfl rfl ?_)
  exact r_20 (w := 64) (.inr rfl) ha hb hA hB
theorem b_117 {a b A B : Nat} (ha : a < 2 ^ 64) (hb : b < 2 ^ 64) (hA : a % 2 ^ 32 = A) (hB : b % 2 ^ 32 = B) : F13 [117, (a : Int), (b : Int)] [] [] = some ([((SR 32 A (B % 32) : Nat) : Int), 0], [true], []) := by
  refine of_ret ?_
  unfold t13
  refine d_lb false rfl (d_jn 0 ([0, 0, 32, 21], [false], []) rfl rfl ?_)
  exact r_21 (w := 32) (.inl rfl) ha hb hA hB
theorem b_135 {a b A B : Nat} (ha : a < 2 ^ 64) (hb : b < 2 ^ 64) (hA : a % 2 ^ 64 = A) (hB : b % 2 ^ 64 = B) : F13 [135, (a : Int), (b : Int)] [] [] = some ([((SR 64 A (B % 64) : Nat) : Int), 0], [true], []) := by
  refine of_ret ?_
  unfold t13
  refine d_lb false rfl (d_jn 0 ([0, 0, 64, 21], [false], []) rfl rfl ?_)
  exact r_21 (w := 64) (.inr rfl) ha hb hA hB
theorem b_118 {a b A B : Nat} (ha : a < 2 ^ 64) (hb : b < 2 ^ 64) (hA : a % 2 ^ 32 = A) (hB : b % 2 ^ 32 = B) : F13 [118, (a : Int), (b : Int)] [] [] = some ([((A / 2 ^ (B % 32) : Nat) : Int), 0], [true], []) := by
  refine of_ret ?_
  unfold t13
  refine d_lb false rfl (d_jn 0 ([0, 0, 32, 22], [false], []) rfl rfl ?_)
  exact r_22 (w := 32) (.inl rfl) ha hb hA hB
theorem b_136 {a b A B : Nat} (ha : a < 2 ^ 64) (hb : b < 2 ^ 64) (hA : a % 2 ^ 64 = A) (hB : b % 2 ^ 64 = B) : F13 [136, (a : Int), (b : Int)] [] [] = some ([((A / 2 ^ (B % 64) : Nat) : Int), 0], [true], []) := by
  refine of_ret ?_
  unfold t13
  refine d_lb false rfl (d_jn 0 ([0, 0, 64, 22], [false], []) rfl rfl ?_)
  exact r_22 (w := 64) (.inr rfl) ha hb hA hB
theorem b_119 {a b A B : Nat} (ha : a < 2 ^ 64) (hb : b < 2 ^ 64) (hA : a % 2 ^ 32 = A) (hB : b % 2 ^ 32 = B) : F13 [119, (a : Int), (b : Int)] [] [] = some ([((RL 32 A (B % 32) : Nat) : Int), 0], [true], []) := by
  refine of_ret ?_
  unfold t13
  refine d_lb false rfl (d_jn 0 ([0, 0, 32, 23], [false], []) rfl rfl ?_)
  exact r_23 (w := 32) (.inl rfl) ha hb hA hB
theorem b_137 {a b A B : Nat} (ha : a < 2 ^ 64) (hb : b < 2 ^ 64) (hA : a % 2 ^ 64 = A) (hB : b % 2 ^ 64 = B) : F13 [137, (a : Int), (b : Int)] [] [] = some ([((RL 64 A (B % 64) : Nat) : Int), 0], [true], []) := by
  refine of_ret ?_
  unfold t13
  refine d_lb false rfl (d_jn 0 ([0, 0, 64, 23], [false], []) rfl rfl ?_)
  exact r_23 (w := 64) (.inr rfl) ha hb hA hB
theorem b_120 {a b A B : Nat} (ha : a < 2 ^ 64) (hb : b < 2 ^ 64) (hA : a % 2 ^ 32 = A) (hB : b % 2 ^ 32 = B) : F13 [120, (a : Int), (b : Int)] [] [] = some ([((RL 32 A (32 - B % 32) : Nat) : Int), 0], [true], []) := by
  refine of_ret ?_
  unfold t13
  refine d_lb false rfl (d_jn 0 ([0, 0, 32, 24], [false], []) rfl rfl ?_)
  exact r_24 (w := 32) (.inl rfl) ha hb hA hB
theorem b_138 {a b A B : Nat} (ha : a < 2 ^ 64) (hb : b < 2 ^ 64) (hA : a % 2 ^ 64 = A) (hB : b % 2 ^ 64 = B) : F13 [138, (a : Int), (b : Int)] [] [] = some ([((RL 64 A (64 - B % 64) : Nat) : Int), 0], [true], []) := by
  refine of_ret ?_
  unfold t13
  refine d_lb false rfl (d_jn 0 ([0, 0, 64, 24], [false], []) rfl rfl ?_)
  exact r_24 (w := 64) (.inr rfl) ha hb hA hB
/-- No code of Bin. -/
def notB (op : Int) : Prop := (op < 70 ∨ 79 < op) ∧ (op < 81 ∨ 90 < op) ∧ (op < 106 ∨ 120 < op) ∧ (op < 124 ∨ 138 < op)
theorem rng {x l h : Int} (hx : x < l ∨ h < x) : (decide (x ≥ l) && decide (x ≤ h)) = false := by
  rw [Bool.and_eq_false_iff, decide_eq_false_iff_not, decide_eq_false_iff_not]; omega
theorem b_out {a b op : Int} (h : notB op) : F13 [op, a, b] [] [] = some ([0, 0], [false], []) := by
  obtain ⟨h1, h2, h3, h4⟩ := h
  refine of_ret ?_
  unfold t13
  refine d_lb false (rng h1) (d_jn_ret (d_itF rfl (d_lb false (rng h2) (d_jn_ret (d_itF rfl (d_lb false (rng h3) (d_jn_ret (d_itF rfl (d_lb false (rng h4) (d_itF rfl ?_)))))))) ))
  rfl
open Go.Proofs.YtghekmcdokgkkaaDoor.Sx (st_itf st_lbc st_ret Fd_of) in
theorem x10_out {a b op : Int} (h : notB op) : XNumWidth.F10 [op, a, b] [] = some ([0, 0], [false]) := by
  obtain ⟨h1, h2, h3, h4⟩ := h
  refine Eq.trans (Fd_of (n := 3) (m := 0) (t := XNumWidth.t10) (C := Sx.Tab.fn XNumWidth.a10) rfl rfl) ?_
  rw [XNumWidth.t10]
  refine st_lbc (rng h1) ?_
  refine st_itf rfl ?_
  refine st_lbc (rng h2) ?_
  refine st_itf rfl ?_
  refine st_lbc (rng h3) ?_
  refine st_itf rfl ?_
  refine st_lbc (rng h4) ?_
  refine st_itf rfl ?_
  exact st_ret rfl
open Go.Proofs.YtghekmcdokgkkaaDoor.Sx (st_itf st_lbc st_ret Fd_of) in
theorem x11_out {a op : Int} (h : notU op) : XNumWidth.F11 [op, a] [] = some ([0], [false]) := by
  obtain ⟨h69, h80, h103, h104, h105, h121, h122, h123, h167, h172, h173, h192, h193, h194, h195, h196⟩ := h
  refine Eq.trans (Fd_of (n := 2) (m := 0) (t := XNumWidth.t11) (C := Sx.Tab.fn XNumWidth.a11) rfl rfl) ?_
  rw [XNumWidth.t11]
  repeat (first | refine st_itf (eq_f h69) ?_ | refine st_itf (eq_f h80) ?_ | refine st_itf (eq_f h103) ?_ | refine st_itf (eq_f h104) ?_ | refine st_itf (eq_f h105) ?_ | refine st_itf (eq_f h121) ?_ | refine st_itf (eq_f h122) ?_ | refine st_itf (eq_f h123) ?_ | refine st_itf (eq_f h167) ?_ | refine st_itf (eq_f h172) ?_ | refine st_itf (eq_f h173) ?_ | refine st_itf (eq_f h192) ?_ | refine st_itf (eq_f h193) ?_ | refine st_itf (eq_f h194) ?_ | refine st_itf (eq_f h195) ?_ | refine st_itf (eq_f h196) ?_)
  exact st_ret rfl
theorem v10 {o a b n t : Int} {ok : Bool} (h : XNumWidth.F10 [o, a, b] [] = some ([n, t], [ok])) : F10 [o, a, b] [] [] = some ([n, t], [ok], []) := by
  simp only [F10, h]
theorem v11 {o a n : Int} {ok : Bool} (h : XNumWidth.F11 [o, a] [] = some ([n], [ok])) : F11 [o, a] [] [] = some ([n], [ok], []) := by
  simp only [F11, h]
/-! The types. -/
theorem t14_69 : F14 [69] [] [] = some ([127], [true], [[D.i 127]]) := by kernel_rfl
theorem t15_69 : F15 [69] [] [] = some ([127], [true], [[D.i 127]]) := by
  refine of_ret ?_
  unfold t15
  refine d_callx [69] [] [] ([127], [], []) e15_35 rfl rfl rfl (by kernel_rfl) rfl ?_
  refine d_callx [69, 0] [] [] _ e15_12 rfl rfl rfl (u_69 (a := 0) (A := 0) (by decide) (by decide)) rfl ?_
  refine d_itT rfl ?_
  rfl
theorem t14_70 : F14 [70] [] [] = some ([127], [true], [[D.i 127, D.i 127]]) := by kernel_rfl
theorem t15_70 : F15 [70] [] [] = some ([127], [true], [[D.i 127, D.i 127]]) := by
  refine of_ret ?_
  unfold t15
  refine d_callx [70] [] [] ([127], [], []) e15_35 rfl rfl rfl (by kernel_rfl) rfl ?_
  refine d_callx [70, 0] [] [] _ e15_12 rfl rfl rfl (u_out (a := 0) (by decide) (by unfold notU; omega)) rfl ?_
  refine d_itF rfl ?_
  refine d_callx [70, 0, 1] [] [] _ e15_13 rfl rfl rfl (b_70 (a := 0) (b := 1) (A := 0) (B := 1) (by decide) (by decide) (by decide) (by decide)) rfl ?_
  refine d_itT rfl ?_
  rfl
theorem t14_71 : F14 [71] [] [] = some ([127], [true], [[D.i 127, D.i 127]]) := by kernel_rfl
theorem t15_71 : F15 [71] [] [] = some ([127], [true], [[D.i 127, D.i 127]]) := by
  refine of_ret ?_
  unfold t15
  refine d_callx [71] [] [] ([127], [], []) e15_35 rfl rfl rfl (by kernel_rfl) rfl ?_
  refine d_callx [71, 0] [] [] _ e15_12 rfl rfl rfl (u_out (a := 0) (by decide) (by unfold notU; omega)) rfl ?_
  refine d_itF rfl ?_
  refine d_callx [71, 0, 1] [] [] _ e15_13 rfl rfl rfl (b_71 (a := 0) (b := 1) (A := 0) (B := 1) (by decide) (by decide) (by decide) (by decide)) rfl ?_
  refine d_itT rfl ?_
  rfl
theorem t14_72 : F14 [72] [] [] = some ([127], [true], [[D.i 127, D.i 127]]) := by kernel_rfl
theorem t15_72 : F15 [72] [] [] = some ([127], [true], [[D.i 127, D.i 127]]) := by
  refine of_ret ?_
  unfold t15
  refine d_callx [72] [] [] ([127], [], []) e15_35 rfl rfl rfl (by kernel_rfl) rfl ?_
  refine d_callx [72, 0] [] [] _ e15_12 rfl rfl rfl (u_out (a := 0) (by decide) (by unfold notU; omega)) rfl ?_
  refine d_itF rfl ?_
  refine d_callx [72, 0, 1] [] [] _ e15_13 rfl rfl rfl (b_72 (a := 0) (b := 1) (A := 0) (B := 1) (by decide) (by decide) (by decide) (by decide)) rfl ?_
  refine d_itT rfl ?_
  rfl
theorem t14_73 : F14 [73] [] [] = some ([127], [true], [[D.i 127, D.i 127]]) := by kernel_rfl
theorem t15_73 : F15 [73] [] [] = some ([127], [true], [[D.i 127, D.i 127]]) := by
  refine of_ret ?_
  unfold t15
  refine d_callx [73] [] [] ([127], [], []) e15_35 rfl rfl rfl (by kernel_rfl) rfl ?_
  refine d_callx [73, 0] [] [] _ e15_12 rfl rfl rfl (u_out (a := 0) (by decide) (by unfold notU; omega)) rfl ?_
  refine d_itF rfl ?_
  refine d_callx [73, 0, 1] [] [] _ e15_13 rfl rfl rfl (b_73 (a := 0) (b := 1) (A := 0) (B := 1) (by decide) (by decide) (by decide) (by decide)) rfl ?_
  refine d_itT rfl ?_
  rfl
theorem t14_74 : F14 [74] [] [] = some ([127], [true], [[D.i 127, D.i 127]]) := by kernel_rfl
theorem t15_74 : F15 [74] [] [] = some ([127], [true], [[D.i 127, D.i 127]]) := by
  refine of_ret ?_
  unfold t15
  refine d_callx [74] [] [] ([127], [], []) e15_35 rfl rfl rfl (by kernel_rfl) rfl ?_
  refine d_callx [74, 0] [] [] _ e15_12 rfl rfl rfl (u_out (a := 0) (by decide) (by unfold notU; omega)) rfl ?_
  refine d_itF rfl ?_
  refine d_callx [74, 0, 1] [] [] _ e15_13 rfl rfl rfl (b_74 (a := 0) (b := 1) (A := 0) (B := 1) (by decide) (by decide) (by decide) (by decide)) rfl ?_
  refine d_itT rfl ?_
  rfl
theorem t14_75 : F14 [75] [] [] = some ([127], [true], [[D.i 127, D.i 127]]) := by kernel_rfl
theorem t15_75 : F15 [75] [] [] = some ([127], [true], [[D.i 127, D.i 127]]) := by
  refine of_ret ?_
  unfold t15
  refine d_callx [75] [] [] ([127], [], []) e15_35 rfl rfl rfl (by kernel_rfl) rfl ?_
  refine d_callx [75, 0] [] [] _ e15_12 rfl rfl rfl (u_out (a := 0) (by decide) (by unfold notU; omega)) rfl ?_
  refine d_itF rfl ?_
  refine d_callx [75, 0, 1] [] [] _ e15_13 rfl rfl rfl (b_75 (a := 0) (b := 1) (A := 0) (B := 1) (by decide) (by decide) (by decide) (by decide)) rfl ?_
  refine d_itT rfl ?_
  rfl
theorem t14_76 : F14 [76] [] [] = some ([127], [true], [[D.i 127, D.i 127]]) := by kernel_rfl
theorem t15_76 : F15 [76] [] [] = some ([127], [true], [[D.i 127, D.i 127]]) := by
  refine of_ret ?_
  unfold t15
  refine d_callx [76] [] [] ([127], [], []) e15_35 rfl rfl rfl (by kernel_rfl) rfl ?_
  refine d_callx [76, 0] [] [] _ e15_12 rfl rfl rfl (u_out (a := 0) (by decide) (by unfold notU; omega)) rfl ?_
  refine d_itF rfl ?_
  refine d_callx [76, 0, 1] [] [] _ e15_13 rfl rfl rfl (b_76 (a := 0) (b := 1) (A := 0) (B := 1) (by decide) (by decide) (by decide) (by decide)) rfl ?_
  refine d_itT rfl ?_
  rfl
theorem t14_77 : F14 [77] [] [] = some ([127], [true], [[D.i 127, D.i 127]]) := by kernel_rfl
theorem t15_77 : F15 [77] [] [] = some ([127], [true], [[D.i 127, D.i 127]]) := by
  refine of_ret ?_
  unfold t15
  refine d_callx [77] [] [] ([127], [], []) e15_35 rfl rfl rfl (by kernel_rfl) rfl ?_
  refine d_callx [77, 0] [] [] _ e15_12 rfl rfl rfl (u_out (a := 0) (by decide) (by unfold notU; omega)) rfl ?_
  refine d_itF rfl ?_
  refine d_callx [77, 0, 1] [] [] _ e15_13 rfl rfl rfl (b_77 (a := 0) (b := 1) (A := 0) (B := 1) (by decide) (by decide) (by decide) (by decide)) rfl ?_
  refine d_itT rfl ?_
  rfl
theorem t14_78 : F14 [78] [] [] = some ([127], [true], [[D.i 127, D.i 127]]) := by kernel_rfl
theorem t15_78 : F15 [78] [] [] = some ([127], [true], [[D.i 127, D.i 127]]) := by
  refine of_ret ?_
  unfold t15
  refine d_callx [78] [] [] ([127], [], []) e15_35 rfl rfl rfl (by kernel_rfl) rfl ?_
  refine d_callx [78, 0] [] [] _ e15_12 rfl rfl rfl (u_out (a := 0) (by decide) (by unfold notU; omega)) rfl ?_
  refine d_itF rfl ?_
  refine d_callx [78, 0, 1] [] [] _ e15_13 rfl rfl rfl (b_78 (a := 0) (b := 1) (A := 0) (B := 1) (by decide) (by decide) (by decide) (by decide)) rfl ?_
  refine d_itT rfl ?_
  rfl
theorem t14_79 : F14 [79] [] [] = some ([127], [true], [[D.i 127, D.i 127]]) := by kernel_rfl
theorem t15_79 : F15 [79] [] [] = some ([127], [true], [[D.i 127, D.i 127]]) := by
  refine of_ret ?_
  unfold t15
  refine d_callx [79] [] [] ([127], [], []) e15_35 rfl rfl rfl (by kernel_rfl) rfl ?_
  refine d_callx [79, 0] [] [] _ e15_12 rfl rfl rfl (u_out (a := 0) (by decide) (by unfold notU; omega)) rfl ?_
  refine d_itF rfl ?_
  refine d_callx [79, 0, 1] [] [] _ e15_13 rfl rfl rfl (b_79 (a := 0) (b := 1) (A := 0) (B := 1) (by decide) (by decide) (by decide) (by decide)) rfl ?_
  refine d_itT rfl ?_
  rfl
theorem t14_80 : F14 [80] [] [] = some ([127], [true], [[D.i 126]]) := by kernel_rfl
theorem t15_80 : F15 [80] [] [] = some ([127], [true], [[D.i 126]]) := by
  refine of_ret ?_
  unfold t15
  refine d_callx [80] [] [] ([126], [], []) e15_35 rfl rfl rfl (by kernel_rfl) rfl ?_
  refine d_callx [80, 0] [] [] _ e15_12 rfl rfl rfl (u_80 (a := 0) (A := 0) (by decide) (by decide)) rfl ?_
  refine d_itT rfl ?_
  rfl
theorem t14_81 : F14 [81] [] [] = some ([127], [true], [[D.i 126, D.i 126]]) := by kernel_rfl
theorem t15_81 : F15 [81] [] [] = some ([127], [true], [[D.i 126, D.i 126]]) := by
  refine of_ret ?_
  unfold t15
  refine d_callx [81] [] [] ([126], [], []) e15_35 rfl rfl rfl (by kernel_rfl) rfl ?_
  refine d_callx [81, 0] [] [] _ e15_12 rfl rfl rfl (u_out (a := 0) (by decide) (by unfold notU; omega)) rfl ?_
  refine d_itF rfl ?_
  refine d_callx [81, 0, 1] [] [] _ e15_13 rfl rfl rfl (b_81 (a := 0) (b := 1) (A := 0) (B := 1) (by decide) (by decide) (by decide) (by decide)) rfl ?_
  refine d_itT rfl ?_
  rfl
theorem t14_82 : F14 [82] [] [] = some ([127], [true], [[D.i 126, D.i 126]]) := by kernel_rfl
theorem t15_82 : F15 [82] [] [] = some ([127], [true], [[D.i 126, D.i 126]]) := by
  refine of_ret ?_
  unfold t15
  refine d_callx [82] [] [] ([126], [], []) e15_35 rfl rfl rfl (by kernel_rfl) rfl ?_
  refine d_callx [82, 0] [] [] _ e15_12 rfl rfl rfl (u_out (a := 0) (by decide) (by unfold notU; omega)) rfl ?_
  refine d_itF rfl ?_
  refine d_callx [82, 0, 1] [] [] _ e15_13 rfl rfl rfl (b_82 (a := 0) (b := 1) (A := 0) (B := 1) (by decide) (by decide) (by decide) (by decide)) rfl ?_
  refine d_itT rfl ?_
  rfl
theorem t14_83 : F14 [83] [] [] = some ([127], [true], [[D.i 126, D.i 126]]) := by kernel_rfl
theorem t15_83 : F15 [83] [] [] = some ([127], [true], [[D.i 126, D.i 126]]) := by
  refine of_ret ?_
  unfold t15
  refine d_callx [83] [] [] ([126], [], []) e15_35 rfl rfl rfl (by kernel_rfl) rfl ?_
  refine d_callx [83, 0] [] [] _ e15_12 rfl rfl rfl (u_out (a := 0) (by decide) (by unfold notU; omega)) rfl ?_
  refine d_itF rfl ?_
  refine d_callx [83, 0, 1] [] [] _ e15_13 rfl rfl rfl (b_83 (a := 0) (b := 1) (A := 0) (B := 1) (by decide) (by decide) (by decide) (by decide)) rfl ?_
  refine d_itT rfl ?_
  rfl
theorem t14_84 : F14 [84] [] [] = some ([127], [true], [[D.i 126, D.i 126]]) := by kernel_rfl
theorem t15_84 : F15 [84] [] [] = some ([127], [true], [[D.i 126, D.i 126]]) := by
  refine of_ret ?_
  unfold t15
  refine d_callx [84] [] [] ([126], [], []) e15_35 rfl rfl rfl (by kernel_rfl) rfl ?_
  refine d_callx [84, 0] [] [] _ e15_12 rfl rfl rfl (u_out (a := 0) (by decide) (by unfold notU; omega)) rfl ?_
  refine d_itF rfl ?_
  refine d_callx [84, 0, 1] [] [] _ e15_13 rfl rfl rfl (b_84 (a := 0) (b := 1) (A := 0) (B := 1) (by decide) (by decide) (by decide) (by decide)) rfl ?_
  refine d_itT rfl ?_
  rfl
theorem t14_85 : F14 [85] [] [] = some ([127], [true], [[D.i 126, D.i 126]]) := by kernel_rfl
theorem t15_85 : F15 [85] [] [] = some ([127], [true], [[D.i 126, D.i 126]]) := by
  refine of_ret ?_
  unfold t15
  refine d_callx [85] [] [] ([126], [], []) e15_35 rfl rfl rfl (by kernel_rfl) rfl ?_
  refine d_callx [85, 0] [] [] _ e15_12 rfl rfl rfl (u_out (a := 0) (by decide) (by unfold notU; omega)) rfl ?_
  refine d_itF rfl ?_
  refine d_callx [85, 0, 1] [] [] _ e15_13 rfl rfl rfl (b_85 (a := 0) (b := 1) (A := 0) (B := 1) (by decide) (by decide) (by decide) (by decide)) rfl ?_
  refine d_itT rfl ?_
  rfl
theorem t14_86 : F14 [86] [] [] = some ([127], [true], [[D.i 126, D.i 126]]) := by kernel_rfl
theorem t15_86 : F15 [86] [] [] = some ([127], [true], [[D.i 126, D.i 126]]) := by
  refine of_ret ?_
  unfold t15
  refine d_callx [86] [] [] ([126], [], []) e15_35 rfl rfl rfl (by kernel_rfl) rfl ?_
  refine d_callx [86, 0] [] [] _ e15_12 rfl rfl rfl (u_out (a := 0) (by decide) (by unfold notU; omega)) rfl ?_
  refine d_itF rfl ?_
  refine d_callx [86, 0, 1] [] [] _ e15_13 rfl rfl rfl (b_86 (a := 0) (b := 1) (A := 0) (B := 1) (by decide) (by decide) (by decide) (by decide)) rfl ?_
  refine d_itT rfl ?_
  rfl
theorem t14_87 : F14 [87] [] [] = some ([127], [true], [[D.i 126, D.i 126]]) := by kernel_rfl
theorem t15_87 : F15 [87] [] [] = some ([127], [true], [[D.i 126, D.i 126]]) := by
  refine of_ret ?_
  unfold t15
  refine d_callx [87] [] [] ([126], [], []) e15_35 rfl rfl rfl (by kernel_rfl) rfl ?_
  refine d_callx [87, 0] [] [] _ e15_12 rfl rfl rfl (u_out (a := 0) (by decide) (by unfold notU; omega)) rfl ?_
  refine d_itF rfl ?_
  refine d_callx [87, 0, 1] [] [] _ e15_13 rfl rfl rfl (b_87 (a := 0) (b := 1) (A := 0) (B := 1) (by decide) (by decide) (by decide) (by decide)) rfl ?_
  refine d_itT rfl ?_
  rfl
theorem t14_88 : F14 [88] [] [] = some ([127], [true], [[D.i 126, D.i 126]]) := by kernel_rfl
theorem t15_88 : F15 [88] [] [] = some ([127], [true], [[D.i 126, D.i 126]]) := by
  refine of_ret ?_
  unfold t15
  refine d_callx [88] [] [] ([126], [], []) e15_35 rfl rfl rfl (by kernel_rfl) rfl ?_
  refine d_callx [88, 0] [] [] _ e15_12 rfl rfl rfl (u_out (a := 0) (by decide) (by unfold notU; omega)) rfl ?_
  refine d_itF rfl ?_
  refine d_callx [88, 0, 1] [] [] _ e15_13 rfl rfl rfl (b_88 (a := 0) (b := 1) (A := 0) (B := 1) (by decide) (by decide) (by decide) (by decide)) rfl ?_
  refine d_itT rfl ?_
  rfl
theorem t14_89 : F14 [89] [] [] = some ([127], [true], [[D.i 126, D.i 126]]) := by kernel_rfl
theorem t15_89 : F15 [89] [] [] = some ([127], [true], [[D.i 126, D.i 126]]) := by
  refine of_ret ?_
  unfold t15
  refine d_callx [89] [] [] ([126], [], []) e15_35 rfl rfl rfl (by kernel_rfl) rfl ?_
  refine d_callx [89, 0] [] [] _ e15_12 rfl rfl rfl (u_out (a := 0) (by decide) (by unfold notU; omega)) rfl ?_
  refine d_itF rfl ?_
  refine d_callx [89, 0, 1] [] [] _ e15_13 rfl rfl rfl (b_89 (a := 0) (b := 1) (A := 0) (B := 1) (by decide) (by decide) (by decide) (by decide)) rfl ?_
  refine d_itT rfl ?_
  rfl
theorem t14_90 : F14 [90] [] [] = some ([127], [true], [[D.i 126, D.i 126]]) := by kernel_rfl
theorem t15_90 : F15 [90] [] [] = some ([127], [true], [[D.i 126, D.i 126]]) := by
  refine of_ret ?_
  unfold t15
  refine d_callx [90] [] [] ([126], [], []) e15_35 rfl rfl rfl (by kernel_rfl) rfl ?_
  refine d_callx [90, 0] [] [] _ e15_12 rfl rfl rfl (u_out (a := 0) (by decide) (by unfold notU; omega)) rfl ?_
  refine d_itF rfl ?_
  refine d_callx [90, 0, 1] [] [] _ e15_13 rfl rfl rfl (b_90 (a := 0) (b := 1) (A := 0) (B := 1) (by decide) (by decide) (by decide) (by decide)) rfl ?_
  refine d_itT rfl ?_
  rfl
theorem t14_103 : F14 [103] [] [] = some ([127], [true], [[D.i 127]]) := by kernel_rfl
theorem t15_103 : F15 [103] [] [] = some ([127], [true], [[D.i 127]]) := by
  refine of_ret ?_
  unfold t15
  refine d_callx [103] [] [] ([127], [], []) e15_35 rfl rfl rfl (by kernel_rfl) rfl ?_
  refine d_callx [103, 0] [] [] _ e15_12 rfl rfl rfl (u_103 (a := 0) (A := 0) (by decide) (by decide)) rfl ?_
  refine d_itT rfl ?_
  rfl
theorem t14_104 : F14 [104] [] [] = some ([127], [true], [[D.i 127]]) := by kernel_rfl
theorem t15_104 : F15 [104] [] [] = some ([127], [true], [[D.i 127]]) := by
  refine of_ret ?_
  unfold t15
  refine d_callx [104] [] [] ([127], [], []) e15_35 rfl rfl rfl (by kernel_rfl) rfl ?_
  refine d_callx [104, 0] [] [] _ e15_12 rfl rfl rfl (u_104 (a := 0) (A := 0) (by decide) (by decide)) rfl ?_
  refine d_itT rfl ?_
  rfl
theorem t14_105 : F14 [105] [] [] = some ([127], [true], [[D.i 127]]) := by kernel_rfl
theorem t15_105 : F15 [105] [] [] = some ([127], [true], [[D.i 127]]) := by
  refine of_ret ?_
  unfold t15
  refine d_callx [105] [] [] ([127], [], []) e15_35 rfl rfl rfl (by kernel_rfl) rfl ?_
  refine d_callx [105, 0] [] [] _ e15_12 rfl rfl rfl (u_105 (a := 0) (A := 0) (by decide) (by decide)) rfl ?_
  refine d_itT rfl ?_
  rfl
theorem t14_106 : F14 [106] [] [] = some ([127], [true], [[D.i 127, D.i 127]]) := by kernel_rfl
theorem t15_106 : F15 [106] [] [] = some ([127], [true], [[D.i 127, D.i 127]]) := by
  refine of_ret ?_
  unfold t15
  refine d_callx [106] [] [] ([127], [], []) e15_35 rfl rfl rfl (by kernel_rfl) rfl ?_
  refine d_callx [106, 0] [] [] _ e15_12 rfl rfl rfl (u_out (a := 0) (by decide) (by unfold notU; omega)) rfl ?_
  refine d_itF rfl ?_
  refine d_callx [106, 0, 1] [] [] _ e15_13 rfl rfl rfl (b_106 (a := 0) (b := 1) (A := 0) (B := 1) (by decide) (by decide) (by decide) (by decide)) rfl ?_
  refine d_itT rfl ?_
  rfl
theorem t14_107 : F14 [107] [] [] = some ([127], [true], [[D.i 127, D.i 127]]) := by kernel_rfl
theorem t15_107 : F15 [107] [] [] = some ([127], [true], [[D.i 127, D.i 127]]) := by
  refine of_ret ?_
  unfold t15
  refine d_callx [107] [] [] ([127], [], []) e15_35 rfl rfl rfl (by kernel_rfl) rfl ?_
  refine d_callx [107, 0] [] [] _ e15_12 rfl rfl rfl (u_out (a := 0) (by decide) (by unfold notU; omega)) rfl ?_
  refine d_itF rfl ?_
  refine d_callx [107, 0, 1] [] [] _ e15_13 rfl rfl rfl (b_107 (a := 0) (b := 1) (A := 0) (B := 1) (by decide) (by decide) (by decide) (by decide)) rfl ?_
  refine d_itT rfl ?_
  rfl
theorem t14_108 : F14 [108] [] [] = some ([127], [true], [[D.i 127, D.i 127]]) := by kernel_rfl
theorem t15_108 : F15 [108] [] [] = some ([127], [true], [[D.i 127, D.i 127]]) := by
  refine of_ret ?_
  unfold t15
  refine d_callx [108] [] [] ([127], [], []) e15_35 rfl rfl rfl (by kernel_rfl) rfl ?_
  refine d_callx [108, 0] [] [] _ e15_12 rfl rfl rfl (u_out (a := 0) (by decide) (by unfold notU; omega)) rfl ?_
  refine d_itF rfl ?_
  refine d_callx [108, 0, 1] [] [] _ e15_13 rfl rfl rfl (b_108 (a := 0) (b := 1) (A := 0) (B := 1) (by decide) (by decide) (by decide) (by decide)) rfl ?_
  refine d_itT rfl ?_
  rfl
theorem t14_109 : F14 [109] [] [] = some ([127], [true], [[D.i 127, D.i 127]]) := by kernel_rfl
theorem t15_109 : F15 [109] [] [] = some ([127], [true], [[D.i 127, D.i 127]]) := by
  refine of_ret ?_
  unfold t15
  refine d_callx [109] [] [] ([127], [], []) e15_35 rfl rfl rfl (by kernel_rfl) rfl ?_
  refine d_callx [109, 0] [] [] _ e15_12 rfl rfl rfl (u_out (a := 0) (by decide) (by unfold notU; omega)) rfl ?_
  refine d_itF rfl ?_
  refine d_callx [109, 0, 1] [] [] _ e15_13 rfl rfl rfl (b_109 (a := 0) (b := 1) (A := 0) (B := 1) (by decide) (by decide) (by decide) (by decide)) rfl ?_
  refine d_itT rfl ?_
  rfl
theorem t14_110 : F14 [110] [] [] = some ([127], [true], [[D.i 127, D.i 127]]) := by kernel_rfl
theorem t15_110 : F15 [110] [] [] = some ([127], [true], [[D.i 127, D.i 127]]) := by
  refine of_ret ?_
  unfold t15
  refine d_callx [110] [] [] ([127], [], []) e15_35 rfl rfl rfl (by kernel_rfl) rfl ?_
  refine d_callx [110, 0] [] [] _ e15_12 rfl rfl rfl (u_out (a := 0) (by decide) (by unfold notU; omega)) rfl ?_
  refine d_itF rfl ?_
  refine d_callx [110, 0, 1] [] [] _ e15_13 rfl rfl rfl (b_110 (a := 0) (b := 1) (A := 0) (B := 1) (by decide) (by decide) (by decide) (by decide)) rfl ?_
  refine d_itT rfl ?_
  rfl
theorem t14_111 : F14 [111] [] [] = some ([127], [true], [[D.i 127, D.i 127]]) := by kernel_rfl
theorem t15_111 : F15 [111] [] [] = some ([127], [true], [[D.i 127, D.i 127]]) := by
  refine of_ret ?_
  unfold t15
  refine d_callx [111] [] [] ([127], [], []) e15_35 rfl rfl rfl (by kernel_rfl) rfl ?_
  refine d_callx [111, 0] [] [] _ e15_12 rfl rfl rfl (u_out (a := 0) (by decide) (by unfold notU; omega)) rfl ?_
  refine d_itF rfl ?_
  refine d_callx [111, 0, 1] [] [] _ e15_13 rfl rfl rfl (b_111 (a := 0) (b := 1) (A := 0) (B := 1) (by decide) (by decide) (by decide) (by decide)) rfl ?_
  refine d_itT rfl ?_
  rfl
theorem t14_112 : F14 [112] [] [] = some ([127], [true], [[D.i 127, D.i 127]]) := by kernel_rfl
theorem t15_112 : F15 [112] [] [] = some ([127], [true], [[D.i 127, D.i 127]]) := by
  refine of_ret ?_
  unfold t15
  refine d_callx [112] [] [] ([127], [], []) e15_35 rfl rfl rfl (by kernel_rfl) rfl ?_
  refine d_callx [112, 0] [] [] _ e15_12 rfl rfl rfl (u_out (a := 0) (by decide) (by unfold notU; omega)) rfl ?_
  refine d_itF rfl ?_
  refine d_callx [112, 0, 1] [] [] _ e15_13 rfl rfl rfl (b_112 (a := 0) (b := 1) (A := 0) (B := 1) (by decide) (by decide) (by decide) (by decide)) rfl ?_
  refine d_itT rfl ?_
  rfl
theorem t14_113 : F14 [113] [] [] = some ([127], [true], [[D.i 127, D.i 127]]) := by kernel_rfl
theorem t15_113 : F15 [113] [] [] = some ([127], [true], [[D.i 127, D.i 127]]) := by
  refine of_ret ?_
  unfold t15
  refine d_callx [113] [] [] ([127], [], []) e15_35 rfl rfl rfl (by kernel_rfl) rfl ?_
  refine d_callx [113, 0] [] [] _ e15_12 rfl rfl rfl (u_out (a := 0) (by decide) (by unfold notU; omega)) rfl ?_
  refine d_itF rfl ?_
  refine d_callx [113, 0, 1] [] [] _ e15_13 rfl rfl rfl (b_113 (a := 0) (b := 1) (A := 0) (B := 1) (by decide) (by decide) (by decide) (by decide)) rfl ?_
  refine d_itT rfl ?_
  rfl
theorem t14_114 : F14 [114] [] [] = some ([127], [true], [[D.i 127, D.i 127]]) := by kernel_rfl
theorem t15_114 : F15 [114] [] [] = some ([127], [true], [[D.i 127, D.i 127]]) := by
  refine of_ret ?_
  unfold t15
  refine d_callx [114] [] [] ([127], [], []) e15_35 rfl rfl rfl (by kernel_rfl) rfl ?_
  refine d_callx [114, 0] [] [] _ e15_12 rfl rfl rfl (u_out (a := 0) (by decide) (by unfold notU; omega)) rfl ?_
  refine d_itF rfl ?_
  refine d_callx [114, 0, 1] [] [] _ e15_13 rfl rfl rfl (b_114 (a := 0) (b := 1) (A := 0) (B := 1) (by decide) (by decide) (by decide) (by decide)) rfl ?_
  refine d_itT rfl ?_
  rfl
theorem t14_115 : F14 [115] [] [] = some ([127], [true], [[D.i 127, D.i 127]]) := by kernel_rfl
theorem t15_115 : F15 [115] [] [] = some ([127], [true], [[D.i 127, D.i 127]]) := by
  refine of_ret ?_
  unfold t15
  refine d_callx [115] [] [] ([127], [], []) e15_35 rfl rfl rfl (by kernel_rfl) rfl ?_
  refine d_callx [115, 0] [] [] _ e15_12 rfl rfl rfl (u_out (a := 0) (by decide) (by unfold notU; omega)) rfl ?_
  refine d_itF rfl ?_
  refine d_callx [115, 0, 1] [] [] _ e15_13 rfl rfl rfl (b_115 (a := 0) (b := 1) (A := 0) (B := 1) (by decide) (by decide) (by decide) (by decide)) rfl ?_
  refine d_itT rfl ?_
  rfl
theorem t14_116 : F14 [116] [] [] = some ([127], [true], [[D.i 127, D.i 127]]) := by kernel_rfl
theorem t15_116 : F15 [116] [] [] = some ([127], [true], [[D.i 127, D.i 127]]) := by
  refine of_ret ?_
  unfold t15
  refine d_callx [116] [] [] ([127], [], []) e15_35 rfl rfl rfl (by kernel_rfl) rfl ?_
  refine d_callx [116, 0] [] [] _ e15_12 rfl rfl rfl (u_out (a := 0) (by decide) (by unfold notU; omega)) rfl ?_
  refine d_itF rfl ?_
  refine d_callx [116, 0, 1] [] [] _ e15_13 rfl rfl rfl (b_116 (a := 0) (b := 1) (A := 0) (B := 1) (by decide) (by decide) (by decide) (by decide)) rfl ?_
  refine d_itT rfl ?_
  rfl
theorem t14_117 : F14 [117] [] [] = some ([127], [true], [[D.i 127, D.i 127]]) := by kernel_rfl
theorem t15_117 : F15 [117] [] [] = some ([127], [true], [[D.i 127, D.i 127]]) := by
  refine of_ret ?_
  unfold t15
  refine d_callx [117] [] [] ([127], [], []) e15_35 rfl rfl rfl (by kernel_rfl) rfl ?_
  refine d_callx [117, 0] [] [] _ e15_12 rfl rfl rfl (u_out (a := 0) (by decide) (by unfold notU; omega)) rfl ?_
  refine d_itF rfl ?_
  refine d_callx [117, 0, 1] [] [] _ e15_13 rfl rfl rfl (b_117 (a := 0) (b := 1) (A := 0) (B := 1) (by decide) (by decide) (by decide) (by decide)) rfl ?_
  refine d_itT rfl ?_
  rfl
theorem t14_118 : F14 [118] [] [] = some ([127], [true], [[D.i 127, D.i 127]]) := by kernel_rfl
theorem t15_118 : F15 [118] [] [] = some ([127], [true], [[D.i 127, D.i 127]]) := by
  refine of_ret ?_
  unfold t15
  refine d_callx [118] [] [] ([127], [], []) e15_35 rfl rfl rfl (by kernel_rfl) rfl ?_
  refine d_callx [118, 0] [] [] _ e15_12 rfl rfl rfl (u_out (a := 0) (by decide) (by unfold notU; omega)) rfl ?_
  refine d_itF rfl ?_
  refine d_callx [118, 0, 1] [] [] _ e15_13 rfl rfl rfl (b_118 (a := 0) (b := 1) (A := 0) (B := 1) (by decide) (by decide) (by decide) (by decide)) rfl ?_
  refine d_itT rfl ?_
  rfl
theorem t14_119 : F14 [119] [] [] = some ([127], [true], [[D.i 127, D.i 127]]) := by kernel_rfl
theorem t15_119 : F15 [119] [] [] = some ([127], [true], [[D.i 127, D.i 127]]) := by
  refine of_ret ?_
  unfold t15
  refine d_callx [119] [] [] ([127], [], []) e15_35 rfl rfl rfl (by kernel_rfl) rfl ?_
  refine d_callx [119, 0] [] [] _ e15_12 rfl rfl rfl (u_out (a := 0) (by decide) (by unfold notU; omega)) rfl ?_
  refine d_itF rfl ?_
  refine d_callx [119, 0, 1] [] [] _ e15_13 rfl rfl rfl (b_119 (a := 0) (b := 1) (A := 0) (B := 1) (by decide) (by decide) (by decide) (by decide)) rfl ?_
  refine d_itT rfl ?_
  rfl
theorem t14_120 : F14 [120] [] [] = some ([127], [true], [[D.i 127, D.i 127]]) := by kernel_rfl
theorem t15_120 : F15 [120] [] [] = some ([127], [true], [[D.i 127, D.i 127]]) := by
  refine of_ret ?_
  unfold t15
  refine d_callx [120] [] [] ([127], [], []) e15_35 rfl rfl rfl (by kernel_rfl) rfl ?_
  refine d_callx [120, 0] [] [] _ e15_12 rfl rfl rfl (u_out (a := 0) (by decide) (by unfold notU; omega)) rfl ?_
  refine d_itF rfl ?_
  refine d_callx [120, 0, 1] [] [] _ e15_13 rfl rfl rfl (b_120 (a := 0) (b := 1) (A := 0) (B := 1) (by decide) (by decide) (by decide) (by decide)) rfl ?_
  refine d_itT rfl ?_
  rfl
theorem t14_121 : F14 [121] [] [] = some ([126], [true], [[D.i 126]]) := by kernel_rfl
theorem t15_121 : F15 [121] [] [] = some ([126], [true], [[D.i 126]]) := by
  refine of_ret ?_
  unfold t15
  refine d_callx [121] [] [] ([126], [], []) e15_35 rfl rfl rfl (by kernel_rfl) rfl ?_
  refine d_callx [121, 0] [] [] _ e15_12 rfl rfl rfl (u_121 (a := 0) (A := 0) (by decide) (by decide)) rfl ?_
  refine d_itT rfl ?_
  rfl
theorem t14_122 : F14 [122] [] [] = some ([126], [true], [[D.i 126]]) := by kernel_rfl
theorem t15_122 : F15 [122] [] [] = some ([126], [true], [[D.i 126]]) := by
  refine of_ret ?_
  unfold t15
  refine d_callx [122] [] [] ([126], [], []) e15_35 rfl rfl rfl (by kernel_rfl) rfl ?_
  refine d_callx [122, 0] [] [] _ e15_12 rfl rfl rfl (u_122 (a := 0) (A := 0) (by decide) (by decide)) rfl ?_
  refine d_itT rfl ?_
  rfl
theorem t14_123 : F14 [123] [] [] = some ([126], [true], [[D.i 126]]) := by kernel_rfl
theorem t15_123 : F15 [123] [] [] = some ([126], [true], [[D.i 126]]) := by
  refine of_ret ?_
  unfold t15
  refine d_callx [123] [] [] ([126], [], []) e15_35 rfl rfl rfl (by kernel_rfl) rfl ?_
  refine d_callx [123, 0] [] [] _ e15_12 rfl rfl rfl (u_123 (a := 0) (A := 0) (by decide) (by decide)) rfl ?_
  refine d_itT rfl ?_
  rfl
theorem t14_124 : F14 [124] [] [] = some ([126], [true], [[D.i 126, D.i 126]]) := by kernel_rfl
theorem t15_124 : F15 [124] [] [] = some ([126], [true], [[D.i 126, D.i 126]]) := by
  refine of_ret ?_
  unfold t15
  refine d_callx [124] [] [] ([126], [], []) e15_35 rfl rfl rfl (by kernel_rfl) rfl ?_
  refine d_callx [124, 0] [] [] _ e15_12 rfl rfl rfl (u_out (a := 0) (by decide) (by unfold notU; omega)) rfl ?_
  refine d_itF rfl ?_
  refine d_callx [124, 0, 1] [] [] _ e15_13 rfl rfl rfl (b_124 (a := 0) (b := 1) (A := 0) (B := 1) (by decide) (by decide) (by decide) (by decide)) rfl ?_
  refine d_itT rfl ?_
  rfl
theorem t14_125 : F14 [125] [] [] = some ([126], [true], [[D.i 126, D.i 126]]) := by kernel_rfl
theorem t15_125 : F15 [125] [] [] = some ([126], [true], [[D.i 126, D.i 126]]) := by
  refine of_ret ?_
  unfold t15
  refine d_callx [125] [] [] ([126], [], []) e15_35 rfl rfl rfl (by kernel_rfl) rfl ?_
  refine d_callx [125, 0] [] [] _ e15_12 rfl rfl rfl (u_out (a := 0) (by decide) (by unfold notU; omega)) rfl ?_
  refine d_itF rfl ?_
  refine d_callx [125, 0, 1] [] [] _ e15_13 rfl rfl rfl (b_125 (a := 0) (b := 1) (A := 0) (B := 1) (by decide) (by decide) (by decide) (by decide)) rfl ?_
  refine d_itT rfl ?_
  rfl
theorem t14_126 : F14 [126] [] [] = some ([126], [true], [[D.i 126, D.i 126]]) := by kernel_rfl
theorem t15_126 : F15 [126] [] [] = some ([126], [true], [[D.i 126, D.i 126]]) := by
  refine of_ret ?_
  unfold t15
  refine d_callx [126] [] [] ([126], [], []) e15_35 rfl rfl rfl (by kernel_rfl) rfl ?_
  refine d_callx [126, 0] [] [] _ e15_12 rfl rfl rfl (u_out (a := 0) (by decide) (by unfold notU; omega)) rfl ?_
  refine d_itF rfl ?_
  refine d_callx [126, 0, 1] [] [] _ e15_13 rfl rfl rfl (b_126 (a := 0) (b := 1) (A := 0) (B := 1) (by decide) (by decide) (by decide) (by decide)) rfl ?_
  refine d_itT rfl ?_
  rfl
theorem t14_127 : F14 [127] [] [] = some ([126], [true], [[D.i 126, D.i 126]]) := by kernel_rfl
theorem t15_127 : F15 [127] [] [] = some ([126], [true], [[D.i 126, D.i 126]]) := by
  refine of_ret ?_
  unfold t15
  refine d_callx [127] [] [] ([126], [], []) e15_35 rfl rfl rfl (by kernel_rfl) rfl ?_
  refine d_callx [127, 0] [] [] _ e15_12 rfl rfl rfl (u_out (a := 0) (by decide) (by unfold notU; omega)) rfl ?_
  refine d_itF rfl ?_
  refine d_callx [127, 0, 1] [] [] _ e15_13 rfl rfl rfl (b_127 (a := 0) (b := 1) (A := 0) (B := 1) (by decide) (by decide) (by decide) (by decide)) rfl ?_
  refine d_itT rfl ?_
  rfl
theorem t14_128 : F14 [128] [] [] = some ([126], [true], [[D.i 126, D.i 126]]) := by kernel_rfl
theorem t15_128 : F15 [128] [] [] = some ([126], [true], [[D.i 126, D.i 126]]) := by
  refine of_ret ?_
  unfold t15
  refine d_callx [128] [] [] ([126], [], []) e15_35 rfl rfl rfl (by kernel_rfl) rfl ?_
  refine d_callx [128, 0] [] [] _ e15_12 rfl rfl rfl (u_out (a := 0) (by decide) (by unfold notU; omega)) rfl ?_
  refine d_itF rfl ?_
  refine d_callx [128, 0, 1] [] [] _ e15_13 rfl rfl rfl (b_128 (a := 0) (b := 1) (A := 0) (B := 1) (by decide) (by decide) (by decide) (by decide)) rfl ?_
  refine d_itT rfl ?_
  rfl
theorem t14_129 : F14 [129] [] [] = some ([126], [true], [[D.i 126, D.i 126]]) := by kernel_rfl
theorem t15_129 : F15 [129] [] [] = some ([126], [true], [[D.i 126, D.i 126]]) := by
  refine of_ret ?_
  unfold t15
  refine d_callx [129] [] [] ([126], [], []) e15_35 rfl rfl rfl (by kernel_rfl) rfl ?_
  refine d_callx [129, 0] [] [] _ e15_12 rfl rfl rfl (u_out (a := 0) (by decide) (by unfold notU; omega)) rfl ?_
  refine d_itF rfl ?_
  refine d_callx [129, 0, 1] [] [] _ e15_13 rfl rfl rfl (b_129 (a := 0) (b := 1) (A := 0) (B := 1) (by decide) (by decide) (by decide) (by decide)) rfl ?_
  refine d_itT rfl ?_
  rfl
theorem t14_130 : F14 [130] [] [] = some ([126], [true], [[D.i 126, D.i 126]]) := by kernel_rfl
theorem t15_130 : F15 [130] [] [] = some ([126], [true], [[D.i 126, D.i 126]]) := by
  refine of_ret ?_
  unfold t15
  refine d_callx [130] [] [] ([126], [], []) e15_35 rfl rfl rfl (by kernel_rfl) rfl ?_
  refine d_callx [130, 0] [] [] _ e15_12 rfl rfl rfl (u_out (a := 0) (by decide) (by unfold notU; omega)) rfl ?_
  refine d_itF rfl ?_
  refine d_callx [130, 0, 1] [] [] _ e15_13 rfl rfl rfl (b_130 (a := 0) (b := 1) (A := 0) (B := 1) (by decide) (by decide) (by decide) (by decide)) rfl ?_
  refine d_itT rfl ?_
  rfl
theorem t14_131 : F14 [131] [] [] = some ([126], [true], [[D.i 126, D.i 126]]) := by kernel_rfl
theorem t15_131 : F15 [131] [] [] = some ([126], [true], [[D.i 126, D.i 126]]) := by
  refine of_ret ?_
  unfold t15
  refine d_callx [131] [] [] ([126], [], []) e15_35 rfl rfl rfl (by kernel_rfl) rfl ?_
  refine d_callx [131, 0] [] [] _ e15_12 rfl rfl rfl (u_out (a := 0) (by decide) (by unfold notU; omega)) rfl ?_
  refine d_itF rfl ?_
  refine d_callx [131, 0, 1] [] [] _ e15_13 rfl rfl rfl (b_131 (a := 0) (b := 1) (A := 0) (B := 1) (by decide) (by decide) (by decide) (by decide)) rfl ?_
  refine d_itT rfl ?_
  rfl
theorem t14_132 : F14 [132] [] [] = some ([126], [true], [[D.i 126, D.i 126]]) := by kernel_rfl
theorem t15_132 : F15 [132] [] [] = some ([126], [true], [[D.i 126, D.i 126]]) := by
  refine of_ret ?_
  unfold t15
  refine d_callx [132] [] [] ([126], [], []) e15_35 rfl rfl rfl (by kernel_rfl) rfl ?_
  refine d_callx [132, 0] [] [] _ e15_12 rfl rfl rfl (u_out (a := 0) (by decide) (by unfold notU; omega)) rfl ?_
  refine d_itF rfl ?_
  refine d_callx [132, 0, 1] [] [] _ e15_13 rfl rfl rfl (b_132 (a := 0) (b := 1) (A := 0) (B := 1) (by decide) (by decide) (by decide) (by decide)) rfl ?_
  refine d_itT rfl ?_
  rfl
theorem t14_133 : F14 [133] [] [] = some ([126], [true], [[D.i 126, D.i 126]]) := by kernel_rfl
theorem t15_133 : F15 [133] [] [] = some ([126], [true], [[D.i 126, D.i 126]]) := by
  refine of_ret ?_
  unfold t15
  refine d_callx [133] [] [] ([126], [], []) e15_35 rfl rfl rfl (by kernel_rfl) rfl ?_
  refine d_callx [133, 0] [] [] _ e15_12 rfl rfl rfl (u_out (a := 0) (by decide) (by unfold notU; omega)) rfl ?_
  refine d_itF rfl ?_
  refine d_callx [133, 0, 1] [] [] _ e15_13 rfl rfl rfl (b_133 (a := 0) (b := 1) (A := 0) (B := 1) (by decide) (by decide) (by decide) (by decide)) rfl ?_
  refine d_itT rfl ?_
  rfl
theorem t14_134 : F14 [134] [] [] = some ([126], [true], [[D.i 126, D.i 126]]) := by kernel_rfl
theorem t15_134 : F15 [134] [] [] = some ([126], [true], [[D.i 126, D.i 126]]) := by
  refine of_ret ?_
  unfold t15
  refine d_callx [134] [] [] ([126], [], []) e15_35 rfl rfl rfl (by kernel_rfl) rfl ?_
  refine d_callx [134, 0] [] [] _ e15_12 rfl rfl rfl (u_out (a := 0) (by decide) (by unfold notU; omega)) rfl ?_
  refine d_itF rfl ?_
  refine d_callx [134, 0, 1] [] [] _ e15_13 rfl rfl rfl (b_134 (a := 0) (b := 1) (A := 0) (B := 1) (by decide) (by decide) (by decide) (by decide)) rfl ?_
  refine d_itT rfl ?_
  rfl
theorem t14_135 : F14 [135] [] [] = some ([126], [true], [[D.i 126, D.i 126]]) := by kernel_rfl
theorem t15_135 : F15 [135] [] [] = some ([126], [true], [[D.i 126, D.i 126]]) := by
  refine of_ret ?_
  unfold t15
  refine d_callx [135] [] [] ([126], [], []) e15_35 rfl rfl rfl (by kernel_rfl) rfl ?_
  refine d_callx [135, 0] [] [] _ e15_12 rfl rfl rfl (u_out (a := 0) (by decide) (by unfold notU; omega)) rfl ?_
  refine d_itF rfl ?_
  refine d_callx [135, 0, 1] [] [] _ e15_13 rfl rfl rfl (b_135 (a := 0) (b := 1) (A := 0) (B := 1) (by decide) (by decide) (by decide) (by decide)) rfl ?_
  refine d_itT rfl ?_
  rfl
theorem t14_136 : F14 [136] [] [] = some ([126], [true], [[D.i 126, D.i 126]]) := by kernel_rfl
theorem t15_136 : F15 [136] [] [] = some ([126], [true], [[D.i 126, D.i 126]]) := by
  refine of_ret ?_
  unfold t15
  refine d_callx [136] [] [] ([126], [], []) e15_35 rfl rfl rfl (by kernel_rfl) rfl ?_
  refine d_callx [136, 0] [] [] _ e15_12 rfl rfl rfl (u_out (a := 0) (by decide) (by unfold notU; omega)) rfl ?_
  refine d_itF rfl ?_
  refine d_callx [136, 0, 1] [] [] _ e15_13 rfl rfl rfl (b_136 (a := 0) (b := 1) (A := 0) (B := 1) (by decide) (by decide) (by decide) (by decide)) rfl ?_
  refine d_itT rfl ?_
  rfl
theorem t14_137 : F14 [137] [] [] = some ([126], [true], [[D.i 126, D.i 126]]) := by kernel_rfl
theorem t15_137 : F15 [137] [] [] = some ([126], [true], [[D.i 126, D.i 126]]) := by
  refine of_ret ?_
  unfold t15
  refine d_callx [137] [] [] ([126], [], []) e15_35 rfl rfl rfl (by kernel_rfl) rfl ?_
  refine d_callx [137, 0] [] [] _ e15_12 rfl rfl rfl (u_out (a := 0) (by decide) (by unfold notU; omega)) rfl ?_
  refine d_itF rfl ?_
  refine d_callx [137, 0, 1] [] [] _ e15_13 rfl rfl rfl (b_137 (a := 0) (b := 1) (A := 0) (B := 1) (by decide) (by decide) (by decide) (by decide)) rfl ?_
  refine d_itT rfl ?_
  rfl
theorem t14_138 : F14 [138] [] [] = some ([126], [true], [[D.i 126, D.i 126]]) := by kernel_rfl
theorem t15_138 : F15 [138] [] [] = some ([126], [true], [[D.i 126, D.i 126]]) := by
  refine of_ret ?_
  unfold t15
  refine d_callx [138] [] [] ([126], [], []) e15_35 rfl rfl rfl (by kernel_rfl) rfl ?_
  refine d_callx [138, 0] [] [] _ e15_12 rfl rfl rfl (u_out (a := 0) (by decide) (by unfold notU; omega)) rfl ?_
  refine d_itF rfl ?_
  refine d_callx [138, 0, 1] [] [] _ e15_13 rfl rfl rfl (b_138 (a := 0) (b := 1) (A := 0) (B := 1) (by decide) (by decide) (by decide) (by decide)) rfl ?_
  refine d_itT rfl ?_
  rfl
theorem t14_167 : F14 [167] [] [] = some ([127], [true], [[D.i 126]]) := by kernel_rfl
theorem t15_167 : F15 [167] [] [] = some ([127], [true], [[D.i 126]]) := by
  refine of_ret ?_
  unfold t15
  refine d_callx [167] [] [] ([126], [], []) e15_35 rfl rfl rfl (by kernel_rfl) rfl ?_
  refine d_callx [167, 0] [] [] _ e15_12 rfl rfl rfl (u_167 (a := 0) (A := 0) (by decide) (by decide)) rfl ?_
  refine d_itT rfl ?_
  rfl
theorem t14_172 : F14 [172] [] [] = some ([126], [true], [[D.i 127]]) := by kernel_rfl
theorem t15_172 : F15 [172] [] [] = some ([126], [true], [[D.i 127]]) := by
  refine of_ret ?_
  unfold t15
  refine d_callx [172] [] [] ([127], [], []) e15_35 rfl rfl rfl (by kernel_rfl) rfl ?_
  refine d_callx [172, 0] [] [] _ e15_12 rfl rfl rfl (u_172 (a := 0) (A := 0) (by decide) (by decide)) rfl ?_
  refine d_itT rfl ?_
  rfl
theorem t14_173 : F14 [173] [] [] = some ([126], [true], [[D.i 127]]) := by kernel_rfl
theorem t15_173 : F15 [173] [] [] = some ([126], [true], [[D.i 127]]) := by
  refine of_ret ?_
  unfold t15
  refine d_callx [173] [] [] ([127], [], []) e15_35 rfl rfl rfl (by kernel_rfl) rfl ?_
  refine d_callx [173, 0] [] [] _ e15_12 rfl rfl rfl (u_173 (a := 0) (A := 0) (by decide) (by decide)) rfl ?_
  refine d_itT rfl ?_
  rfl
theorem t14_192 : F14 [192] [] [] = some ([127], [true], [[D.i 127]]) := by kernel_rfl
theorem t15_192 : F15 [192] [] [] = some ([127], [true], [[D.i 127]]) := by
  refine of_ret ?_
  unfold t15
  refine d_callx [192] [] [] ([127], [], []) e15_35 rfl rfl rfl (by kernel_rfl) rfl ?_
  refine d_callx [192, 0] [] [] _ e15_12 rfl rfl rfl (u_192 (a := 0) (A := 0) (by decide) (by decide)) rfl ?_
  refine d_itT rfl ?_
  rfl
theorem t14_193 : F14 [193] [] [] = some ([127], [true], [[D.i 127]]) := by kernel_rfl
theorem t15_193 : F15 [193] [] [] = some ([127], [true], [[D.i 127]]) := by
  refine of_ret ?_
  unfold t15
  refine d_callx [193] [] [] ([127], [], []) e15_35 rfl rfl rfl (by kernel_rfl) rfl ?_
  refine d_callx [193, 0] [] [] _ e15_12 rfl rfl rfl (u_193 (a := 0) (A := 0) (by decide) (by decide)) rfl ?_
  refine d_itT rfl ?_
  rfl
theorem t14_194 : F14 [194] [] [] = some ([126], [true], [[D.i 126]]) := by kernel_rfl
theorem t15_194 : F15 [194] [] [] = some ([126], [true], [[D.i 126]]) := by
  refine of_ret ?_
  unfold t15
  refine d_callx [194] [] [] ([126], [], []) e15_35 rfl rfl rfl (by kernel_rfl) rfl ?_
  refine d_callx [194, 0] [] [] _ e15_12 rfl rfl rfl (u_194 (a := 0) (A := 0) (by decide) (by decide)) rfl ?_
  refine d_itT rfl ?_
  rfl
theorem t14_195 : F14 [195] [] [] = some ([126], [true], [[D.i 126]]) := by kernel_rfl
theorem t15_195 : F15 [195] [] [] = some ([126], [true], [[D.i 126]]) := by
  refine of_ret ?_
  unfold t15
  refine d_callx [195] [] [] ([126], [], []) e15_35 rfl rfl rfl (by kernel_rfl) rfl ?_
  refine d_callx [195, 0] [] [] _ e15_12 rfl rfl rfl (u_195 (a := 0) (A := 0) (by decide) (by decide)) rfl ?_
  refine d_itT rfl ?_
  rfl
theorem t14_196 : F14 [196] [] [] = some ([126], [true], [[D.i 126]]) := by kernel_rfl
theorem t15_196 : F15 [196] [] [] = some ([126], [true], [[D.i 126]]) := by
  refine of_ret ?_
  unfold t15
  refine d_callx [196] [] [] ([126], [], []) e15_35 rfl rfl rfl (by kernel_rfl) rfl ?_
  refine d_callx [196, 0] [] [] _ e15_12 rfl rfl rfl (u_196 (a := 0) (A := 0) (by decide) (by decide)) rfl ?_
  refine d_itT rfl ?_
  rfl
theorem t15_out {op : Int} (hU : notU op) (hB : notB op) : F15 [op] [] [] = some ([0], [false], [[]]) := by
  refine of_ret ?_
  unfold t15
  have h35 : F35 [op] [] [] = some ([127], [], []) := by
    have h1 : (decide (op ≥ 80) && decide (op ≤ 90)) = false := rng (by unfold notU notB at *; omega)
    have h2 : (decide (op ≥ 121) && decide (op ≤ 138)) = false := rng (by unfold notU notB at *; omega)
    have h3 : (op == 167) = false := eq_f (by unfold notU notB at *; omega)
    have h4 : (decide (op ≥ 194) && decide (op ≤ 196)) = false := rng (by unfold notU notB at *; omega)
    refine of_ret ?_
    unfold t35
    refine d_lb false h1 (d_lb false h2 (d_lb false (show ((false || false) || (op == 167)) = false by rw [h3]; rfl) (d_lb false h4 (d_itF rfl ?_))))
    rfl
  refine d_callx [op] [] [] _ e15_35 rfl rfl rfl h35 rfl ?_
  refine d_callx [op, 0] [] [] _ e15_12 rfl rfl rfl (u_out (a := 0) (by decide) hU) rfl (d_itF rfl ?_)
  refine d_callx [op, 0, 1] [] [] _ e15_13 rfl rfl rfl (b_out hB) rfl (d_itF rfl ?_)
  rfl
theorem t14_out {op : Int} (hU : notU op) (hB : notB op) : F14 [op] [] [] = some ([0], [false], [[]]) := by
  have hU' := hU
  obtain ⟨h69, h80, h103, h104, h105, h121, h122, h123, h167, h172, h173, h192, h193, h194, h195, h196⟩ := hU'
  obtain ⟨k1, k2, k3, k4⟩ := hB
  have e1 : (decide (op ≥ 103) && decide (op ≤ 105)) = false := rng (by unfold notU at hU; omega)
  have e2 : (decide (op ≥ 121) && decide (op ≤ 123)) = false := rng (by unfold notU at hU; omega)
  have e3 : (decide (op ≥ 194) && decide (op ≤ 196)) = false := rng (by unfold notU at hU; omega)
  refine of_ret ?_
  unfold t14
  refine d_itF (eq_f h69) (d_lb false e1 (d_itF rfl (d_itF (eq_f h192) (d_itF (eq_f h193) ?_))))
  unfold b14_9
  refine d_itF (eq_f h80) (d_itF (eq_f h167) ?_)
  unfold b14_8
  refine d_lb false e2 (d_itF rfl (d_lb false e3 (d_itF rfl (d_itF (eq_f h172) (d_itF (eq_f h173) ?_)))))
  unfold b14_7
  refine d_lb false (rng k1) (d_itF rfl (d_lb false (rng k3) (d_itF rfl (d_lb false (rng k2) (d_itF rfl (d_lb false (rng k4) (d_itF rfl ?_)))))))
  rfl
end Go.Proofs.YtghekmcdokgkkaaDoor.ENumDoes
