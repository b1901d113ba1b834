/-
  NumDoes: what num.Un and num.Bin answer, in the reference's words.
-/
import Derived.Test.YtghekmcdokgkkaaDoorNumENumDoes
namespace Go.Proofs.YtghekmcdokgkkaaDoor.FNumDoes
set_option linter.all false
set_option maxHeartbeats 2000000
set_option maxRecDepth 100000
open Go.Proofs.YtghekmcdokgkkaaDoor.Vn Go.Proofs.YtghekmcdokgkkaaDoor.Vb Go.Proofs.YtghekmcdokgkkaaDoor.ANumDoes Go.Proofs.YtghekmcdokgkkaaDoor.BNumDoes Go.Proofs.YtghekmcdokgkkaaDoor.CNumDoes Go.Proofs.YtghekmcdokgkkaaDoor.DNumDoes Go.Proofs.YtghekmcdokgkkaaDoor.ENumDoes
theorem wA {a A : Nat} (hA : a % 2 ^ 32 = A) : IntKind.u64.wrap (IntKind.u32.wrap (a : Int)) = (A : Int) := by rw [YNumWidth.wrap_u32, wrap_u]; omega
theorem wS {A : Nat} (h : A < 2 ^ 32) : IntKind.i64.wrap (IntKind.i32.wrap (A : Int)) = sg 32 A := by
  rw [YNumWidth.wrap_i32, YNumWidth.wrap_i64]; unfold sg; split <;> omega
theorem wS64 {A : Nat} (h : A < 2 ^ 64) : IntKind.i64.wrap (A : Int) = sg 64 A := by
  rw [YNumWidth.wrap_i64]; unfold sg; split <;> omega
theorem w32 (x : Int) : IntKind.u64.wrap (IntKind.u32.wrap x) = x % 2 ^ 32 := by rw [YNumWidth.wrap_u32, wrap_u]; omega
theorem w64 (x : Int) : IntKind.u64.wrap x = x % 2 ^ 64 := by rw [wrap_u]; omega
theorem m6432 (x : Int) : x % 2 ^ 64 % 2 ^ 32 = x % 2 ^ 32 := by omega
theorem m64i (x : Int) : IntKind.u64.wrap (IntKind.i64.wrap x) = x % 2 ^ 64 := by rw [YNumWidth.wrap_i64, wrap_u]; omega
theorem sm32 {x : Nat} (h : x < 2 ^ 32) : ((x : Nat) : Int) % 2 ^ 32 = x := by omega
theorem rem32 (B : Nat) : Sx.arI .rem .u64 (B : Int) 32 = ((B % 32 : Nat) : Int) := YNumWidth.remN B 32
theorem rem64 (B : Nat) : Sx.arI .rem .u64 (B : Int) 64 = ((B % 64 : Nat) : Int) := YNumWidth.remN B 64
theorem sub32 {s : Nat} (h : s ≤ 32) : Sx.arI .sub .u64 32 (s : Int) = ((32 - s : Nat) : Int) := YNumWidth.subN 32 s h (by decide)
theorem sub64 {s : Nat} (h : s ≤ 64) : Sx.arI .sub .u64 64 (s : Int) = ((64 - s : Nat) : Int) := YNumWidth.subN 64 s h (by decide)
theorem div0 (x : Nat) (y : Nat) : (x : Int).tdiv (y : Int) = ((x / y : Nat) : Int) := rfl
/-! Division. -/
section
variable {A B : Nat}
theorem ovf32 (lA : A < 2 ^ 32) (lB : B < 2 ^ 32) : (sg 32 A = -2147483648 ∧ sg 32 B = -1) ↔ ovf 32 A B := by unfold sg ovf; split <;> split <;> omega
theorem ovf64 (lA : A < 2 ^ 64) (lB : B < 2 ^ 64) : (sg 64 A = -9223372036854775808 ∧ sg 64 B = -1) ↔ ovf 64 A B := by unfold sg ovf; split <;> split <;> omega
theorem dq32 (lA : A < 2 ^ 32) (lB : B < 2 ^ 32) : IntKind.u64.wrap (IntKind.u32.wrap (YNumWidth.dq (B : Int) (sg 32 A) (sg 32 B) (-2147483648))) = QD true 32 A B := by
  unfold YNumWidth.dq QD
  by_cases h0 : B = 0
  · rw [if_pos h0, if_pos (by omega)]; decide
  · rw [if_neg h0, if_neg (by omega), if_pos rfl]
    by_cases h : ovf 32 A B
    · rw [if_pos h, if_pos ((ovf32 lA lB).2 h)]; decide
    · rw [if_neg h, if_neg (fun x => h ((ovf32 lA lB).1 x)), w32]
      show IntKind.u64.wrap (IntKind.i64.wrap ((sg 32 A).tdiv (sg 32 B))) % 2 ^ 32 = _
      rw [m64i, m6432]
theorem dq64 (lA : A < 2 ^ 64) (lB : B < 2 ^ 64) : YNumWidth.dq (B : Int) (sg 64 A) (sg 64 B) (-9223372036854775808) = QD true 64 A B := by
  unfold YNumWidth.dq QD
  by_cases h0 : B = 0
  · rw [if_pos h0, if_pos (by omega)]
  · rw [if_neg h0, if_neg (by omega), if_pos rfl]
    by_cases h : ovf 64 A B
    · rw [if_pos h, if_pos ((ovf64 lA lB).2 h)]
    · rw [if_neg h, if_neg (fun x => h ((ovf64 lA lB).1 x))]
      show IntKind.u64.wrap (IntKind.i64.wrap ((sg 64 A).tdiv (sg 64 B))) = _
      rw [m64i]
theorem dt32 (lA : A < 2 ^ 32) (lB : B < 2 ^ 32) : YNumWidth.dt (B : Int) (sg 32 A) (sg 32 B) (-2147483648) = TD true 32 A B := by
  unfold YNumWidth.dt TD
  by_cases h0 : B = 0
  · rw [if_pos h0, if_pos (by omega)]
  · rw [if_neg h0, if_neg (by omega)]
    by_cases h : ovf 32 A B
    · rw [if_pos ((ovf32 lA lB).2 h), if_pos ⟨rfl, h⟩]
    · rw [if_neg (fun x => h ((ovf32 lA lB).1 x)), if_neg (fun x => h x.2)]
theorem dt64 (lA : A < 2 ^ 64) (lB : B < 2 ^ 64) : YNumWidth.dt (B : Int) (sg 64 A) (sg 64 B) (-9223372036854775808) = TD true 64 A B := by
  unfold YNumWidth.dt TD
  by_cases h0 : B = 0
  · rw [if_pos h0, if_pos (by omega)]
  · rw [if_neg h0, if_neg (by omega)]
    by_cases h : ovf 64 A B
    · rw [if_pos ((ovf64 lA lB).2 h), if_pos ⟨rfl, h⟩]
    · rw [if_neg (fun x => h ((ovf64 lA lB).1 x)), if_neg (fun x => h x.2)]
theorem dzTR (B : Nat) : YNumWidth.dz (B : Int) = TR B := by
  unfold YNumWidth.dz TR
  by_cases h0 : B = 0
  · rw [if_pos h0, if_pos (by omega)]
  · rw [if_neg h0, if_neg (by omega)]
theorem dzTD (w A B : Nat) : YNumWidth.dz (B : Int) = TD false w A B := by
  rw [dzTR]
  unfold TR TD
  by_cases h0 : B = 0
  · rw [if_pos h0, if_pos h0]
  · rw [if_neg h0, if_neg h0, if_neg (fun x => by cases x.1)]
theorem uqN (lA : A < 2 ^ 64) (w : Nat) : YNumWidth.uq (A : Int) (B : Int) = QD false w A B := by
  unfold YNumWidth.uq QD
  have := Nat.div_le_self A B
  by_cases h0 : B = 0
  · rw [if_pos h0, if_pos (by omega)]
  · rw [if_neg h0, if_neg (by omega), if_neg (by decide)]
    show IntKind.u64.wrap ((A : Int).tdiv (B : Int)) = _
    rw [div0, wuN (by omega)]
theorem QDf_lt (w : Nat) : ∃ n : Nat, QD false w A B = (n : Int) ∧ n ≤ A := by
  unfold QD
  by_cases h0 : B = 0
  · exact ⟨0, by rw [if_pos h0]; rfl, by omega⟩
  · exact ⟨A / B, by rw [if_neg h0, if_neg (by decide)], Nat.div_le_self A B⟩
theorem QRf_lt (w : Nat) : ∃ n : Nat, QR false w A B = (n : Int) ∧ n ≤ A := by
  unfold QR
  by_cases h0 : B = 0
  · exact ⟨0, by rw [if_pos h0]; rfl, by omega⟩
  · exact ⟨A % B, by rw [if_neg h0, if_neg (by decide)], Nat.mod_le A B⟩
theorem urN (w : Nat) : YNumWidth.ur (A : Int) (B : Int) = QR false w A B := by
  unfold YNumWidth.ur QR
  by_cases h0 : B = 0
  · rw [if_pos h0, if_pos (by omega)]
  · rw [if_neg h0, if_neg (by omega), if_neg (by decide)]
    rfl
theorem uq32 (lA : A < 2 ^ 32) : IntKind.u64.wrap (IntKind.u32.wrap (YNumWidth.uq (A : Int) (B : Int))) = QD false 32 A B := by
  rw [uqN (by omega) 32, w32]
  obtain ⟨n, h, h2⟩ := QDf_lt (A := A) (B := B) 32
  rw [h, sm32 (by omega)]
theorem ur32 (lA : A < 2 ^ 32) : IntKind.u64.wrap (IntKind.u32.wrap (YNumWidth.ur (A : Int) (B : Int))) = QR false 32 A B := by
  rw [urN 32, w32]
  obtain ⟨n, h, h2⟩ := QRf_lt (A := A) (B := B) 32
  rw [h, sm32 (by omega)]
theorem tm1 (x : Int) : x.tmod (-1) = 0 := by rw [Int.tmod_neg, Int.tmod_one]
theorem dr32 (lA : A < 2 ^ 32) (lB : B < 2 ^ 32) : IntKind.u64.wrap (IntKind.u32.wrap (YNumWidth.dr (B : Int) (sg 32 A) (sg 32 B))) = QR true 32 A B := by
  unfold YNumWidth.dr QR
  by_cases h0 : B = 0
  · rw [if_pos h0, if_pos (by omega)]; decide
  · rw [if_neg h0, if_neg (by omega), if_pos rfl]
    by_cases h : sg 32 B = -1
    · rw [if_pos h, h, tm1]; decide
    · rw [if_neg h, w32]
      show IntKind.u64.wrap ((sg 32 A).tmod (sg 32 B)) % 2 ^ 32 = _
      rw [w64, m6432]
theorem dr64 (lA : A < 2 ^ 64) (lB : B < 2 ^ 64) : YNumWidth.dr (B : Int) (sg 64 A) (sg 64 B) = QR true 64 A B := by
  unfold YNumWidth.dr QR
  by_cases h0 : B = 0
  · rw [if_pos h0, if_pos (by omega)]
  · rw [if_neg h0, if_neg (by omega), if_pos rfl]
    by_cases h : sg 64 B = -1
    · rw [if_pos h, h, tm1]; decide
    · rw [if_neg h]
      show IntKind.u64.wrap ((sg 64 A).tmod (sg 64 B)) = _
      rw [w64]
/-! Bits. -/
theorem and32 (lA : A < 2 ^ 32) (lB : B < 2 ^ 32) : IntKind.u64.wrap (IntKind.u32.wrap (Sx.arI .and .u64 (A : Int) (B : Int))) = ((A &&& B : Nat) : Int) := by
  rw [Sn.band A B (by omega) (by omega), w32, sm32 (Nat.and_lt_two_pow A lB)]
theorem or32 (lA : A < 2 ^ 32) (lB : B < 2 ^ 32) : IntKind.u64.wrap (IntKind.u32.wrap (Sx.arI .or .u64 (A : Int) (B : Int))) = ((A ||| B : Nat) : Int) := by
  rw [Sn.bor A B (by omega) (by omega), w32, sm32 (Nat.or_lt_two_pow lA lB)]
theorem xor32 (lA : A < 2 ^ 32) (lB : B < 2 ^ 32) : IntKind.u64.wrap (IntKind.u32.wrap (Sx.arI .xor .u64 (A : Int) (B : Int))) = ((A ^^^ B : Nat) : Int) := by
  rw [Sn.bxor A B (by omega) (by omega), w32, sm32 (Nat.xor_lt_two_pow lA lB)]
theorem add32 : IntKind.u64.wrap (IntKind.u32.wrap (Sx.arI .add .u64 (A : Int) (B : Int))) = ((A : Int) + (B : Int)) % 2 ^ 32 := by
  rw [w32]; show IntKind.u64.wrap _ % 2 ^ 32 = _; rw [w64, m6432]
theorem sub_32 : IntKind.u64.wrap (IntKind.u32.wrap (Sx.arI .sub .u64 (A : Int) (B : Int))) = ((A : Int) - (B : Int)) % 2 ^ 32 := by
  rw [w32]; show IntKind.u64.wrap _ % 2 ^ 32 = _; rw [w64, m6432]
theorem mul32 : IntKind.u64.wrap (IntKind.u32.wrap (Sx.arI .mul .u64 (A : Int) (B : Int))) = ((A : Int) * (B : Int)) % 2 ^ 32 := by
  rw [w32]; show IntKind.u64.wrap _ % 2 ^ 32 = _; rw [w64, m6432]
theorem shl32 (s : Nat) (hs : s ≤ 64) : IntKind.u64.wrap (IntKind.u32.wrap (Sx.arI .shl .u64 (A : Int) (s : Int))) = ((A * 2 ^ s % 2 ^ 32 : Nat) : Int) := by
  rw [YNumWidth.shlN A s hs, w32]; generalize A * 2 ^ s = x; omega
theorem shr32 (lA : A < 2 ^ 32) (s : Nat) (hs : s ≤ 64) : IntKind.u64.wrap (IntKind.u32.wrap (Sx.arI .shr .u64 (A : Int) (s : Int))) = ((A / 2 ^ s : Nat) : Int) := by
  rw [YNumWidth.shrN A s hs, w32, sm32 (Nat.lt_of_le_of_lt (Nat.div_le_self _ _) lA)]
theorem sr_num {w s : Nat} (hw : w = 32 ∨ w = 64) (hs : s < w) (lA : A < 2 ^ w) : (sg w A / 2 ^ s) % 2 ^ w = ((SR w A s : Nat) : Int) := by
  have h1 : A / 2 ^ s ≤ A := Nat.div_le_self _ _
  have hsr := sr_lt (s := s) (by omega) lA
  by_cases h : A < 2 ^ (w - 1)
  · rw [sg_lo h]
    unfold SR; rw [if_pos h]
    rw [show (A : Int) / 2 ^ s = ((A / 2 ^ s : Nat) : Int) by rw [Int.natCast_ediv, Int.natCast_pow]; rfl, small hw (by omega)]
  · have e : sg w A = (A : Int) + (-((2 ^ (w - s) : Nat) : Int)) * 2 ^ s := by
      unfold sg
      rw [if_neg h, Int.neg_mul, Int.natCast_pow, ← Int.sub_eq_add_neg]
      congr 1
      have := pow_split (w := w) (s := s) (by omega)
      have h3 : ((2 ^ w : Nat) : Int) = ((2 ^ s * 2 ^ (w - s) : Nat) : Int) := by rw [this]
      rw [Int.natCast_mul, Int.natCast_pow, Int.natCast_pow, Int.natCast_pow, Int.mul_comm] at h3
      exact h3
    rw [e, Int.add_mul_ediv_right _ _ (Int.pow_ne_zero (by decide)), show (A : Int) / 2 ^ s = ((A / 2 ^ s : Nat) : Int) by rw [Int.natCast_ediv, Int.natCast_pow]; rfl]
    have hp : 2 ^ (w - s) ≤ 2 ^ w := Nat.pow_le_pow_right (by decide) (by omega)
    unfold SR at hsr ⊢
    rw [if_neg h] at hsr ⊢
    generalize A / 2 ^ s = x at *
    generalize 2 ^ (w - s) = y at *
    rcases hw with rfl | rfl <;> omega
theorem fd (x : Int) (s : Nat) (hs : s ≤ 64) : Sx.arI .shr .i64 x (s : Int) = x / 2 ^ s := by
  show x.fdiv (2 ^ (min ((s : Int)).toNat 64)) = _
  rw [Int.toNat_natCast, Nat.min_eq_left hs, Int.fdiv_eq_ediv_of_nonneg _ (Int.le_of_lt (Int.pow_pos (by decide)))]
theorem sar32 (lA : A < 2 ^ 32) (s : Nat) (hs : s < 32) : IntKind.u64.wrap (IntKind.u32.wrap (IntKind.u64.wrap (Sx.arI .shr .i64 (sg 32 A) (s : Int)))) = ((SR 32 A s : Nat) : Int) := by
  rw [fd _ s (by omega), w32, w64, m6432, sr_num (.inl rfl) hs lA]
theorem sar64 (lA : A < 2 ^ 64) (s : Nat) (hs : s < 64) : IntKind.u64.wrap (Sx.arI .shr .i64 (sg 64 A) (s : Int)) = ((SR 64 A s : Nat) : Int) := by
  rw [fd _ s (by omega), w64, sr_num (.inr rfl) hs lA]
theorem rl_of {w s : Nat} (hw : w = 32 ∨ w = 64) (hs : s ≤ w) (lA : A < 2 ^ w) : (A * 2 ^ s % 2 ^ 64 ||| A / 2 ^ (w - s)) % 2 ^ w = RL w A s := by
  have e : 2 ^ w = 2 ^ (w - s) * 2 ^ s := by rw [← Nat.pow_add]; congr 1; omega
  have h : A / 2 ^ (w - s) < 2 ^ s := Nat.div_lt_of_lt_mul (by rw [← e]; exact lA)
  have h2 : A / 2 ^ (w - s) % 2 ^ w = A / 2 ^ (w - s) := Nat.mod_eq_of_lt (Nat.lt_of_le_of_lt (Nat.div_le_self _ _) lA)
  rw [Nat.or_mod_two_pow, h2, Nat.mod_mod_of_dvd _ (by rcases hw with rfl | rfl <;> decide), e, Nat.mul_mod_mul_right, Nat.mul_comm _ (2 ^ s), ← Nat.two_pow_add_eq_or_of_lt h, Nat.mul_comm (2 ^ s)]
  rfl
theorem or_n {x y : Nat} (hx : x < 2 ^ 64) (hy : y < 2 ^ 64) : Sx.arI .or .u64 (x : Int) (y : Int) = ((x ||| y : Nat) : Int) := Sn.bor x y hx hy
theorem rotl32 (lA : A < 2 ^ 32) (s : Nat) (hs : s < 32) : IntKind.u64.wrap (IntKind.u32.wrap (Sx.arI .or .u64 (Sx.arI .shl .u64 (A : Int) (s : Int)) (Sx.arI .shr .u64 (A : Int) (Sx.arI .sub .u64 32 (s : Int))))) = ((RL 32 A s : Nat) : Int) := by
  rw [sub32 (by omega), YNumWidth.shlN A s (by omega), YNumWidth.shrN A (32 - s) (by omega), or_n (YNumWidth.shl_lt A s) (YNumWidth.shr_lt A _ (by omega)), w32, ← rl_of (.inl rfl) (by omega) lA, Int.natCast_emod]; rfl
theorem rotl64 (lA : A < 2 ^ 64) (s : Nat) (hs : s < 64) : Sx.arI .or .u64 (Sx.arI .shl .u64 (A : Int) (s : Int)) (Sx.arI .shr .u64 (A : Int) (Sx.arI .sub .u64 64 (s : Int))) = ((RL 64 A s : Nat) : Int) := by
  rw [sub64 (by omega), YNumWidth.shlN A s (by omega), YNumWidth.shrN A (64 - s) (by omega), or_n (YNumWidth.shl_lt A s) (YNumWidth.shr_lt A _ (by omega)), ← rl_of (.inr rfl) (by omega) lA, Nat.mod_eq_of_lt (Nat.or_lt_two_pow (YNumWidth.shl_lt A s) (YNumWidth.shr_lt A _ (by omega)))]
theorem rotr32 (lA : A < 2 ^ 32) (s : Nat) (hs : s < 32) : IntKind.u64.wrap (IntKind.u32.wrap (Sx.arI .or .u64 (Sx.arI .shr .u64 (A : Int) (s : Int)) (Sx.arI .shl .u64 (A : Int) (Sx.arI .sub .u64 32 (s : Int))))) = ((RL 32 A (32 - s) : Nat) : Int) := by
  rw [sub32 (by omega), YNumWidth.shrN A s (by omega), YNumWidth.shlN A (32 - s) (by omega), or_n (YNumWidth.shr_lt A _ (by omega)) (YNumWidth.shl_lt A _), w32, ← rl_of (s := 32 - s) (.inl rfl) (by omega) lA, Int.natCast_emod, Nat.or_comm, show 32 - (32 - s) = s by omega]; rfl
theorem rotr64 (lA : A < 2 ^ 64) (s : Nat) (hs : s < 64) : Sx.arI .or .u64 (Sx.arI .shr .u64 (A : Int) (s : Int)) (Sx.arI .shl .u64 (A : Int) (Sx.arI .sub .u64 64 (s : Int))) = ((RL 64 A (64 - s) : Nat) : Int) := by
  rw [sub64 (by omega), YNumWidth.shrN A s (by omega), YNumWidth.shlN A (64 - s) (by omega), or_n (YNumWidth.shr_lt A _ (by omega)) (YNumWidth.shl_lt A _), ← rl_of (s := 64 - s) (.inr rfl) (by omega) lA, Nat.or_comm, show 64 - (64 - s) = s by omega, Nat.mod_eq_of_lt (Nat.or_lt_two_pow (YNumWidth.shl_lt A _) (YNumWidth.shr_lt A _ (by omega)))]
end
theorem two {a b a' b' : Int} (h1 : a = a') (h2 : b = b') : (some ([a, b], [true]) : Option (List Int × List Bool)) = some ([a', b'], [true]) := by rw [h1, h2]
theorem one_ {a a' : Int} (h1 : a = a') : (some ([a], [true]) : Option (List Int × List Bool)) = some ([a'], [true]) := by rw [h1]
/-! Bin, code by code. -/
theorem n_70 {a b A B : Nat} (ha : a < 2 ^ 64) (hb : b < 2 ^ 64) (hA : a % 2 ^ 32 = A) (hB : b % 2 ^ 32 = B) : XNumWidth.F10 [70, (a : Int), (b : Int)] [] = some ([(bif ((A : Int) == (B : Int)) then 1 else 0), 0], [true]) := by
  have lA : A < 2 ^ 32 := hA ▸ Nat.mod_lt _ (Nat.two_pow_pos _)
  have lB : B < 2 ^ 32 := hB ▸ Nat.mod_lt _ (Nat.two_pow_pos _)
  refine (YNumWidth.q10_70 (a : Int) (b : Int)).trans ?_
  rw [wA hA, wA hB]
  try rfl
theorem n_81 {a b A B : Nat} (ha : a < 2 ^ 64) (hb : b < 2 ^ 64) (hA : a % 2 ^ 64 = A) (hB : b % 2 ^ 64 = B) : XNumWidth.F10 [81, (a : Int), (b : Int)] [] = some ([(bif ((A : Int) == (B : Int)) then 1 else 0), 0], [true]) := by
  have lA : A < 2 ^ 64 := hA ▸ Nat.mod_lt _ (Nat.two_pow_pos _)
  have lB : B < 2 ^ 64 := hB ▸ Nat.mod_lt _ (Nat.two_pow_pos _)
  rw [Nat.mod_eq_of_lt ha] at hA; rw [Nat.mod_eq_of_lt hb] at hB; subst hA hB
  refine (YNumWidth.q10_81 (a : Int) (b : Int)).trans ?_
  try rfl
theorem n_71 {a b A B : Nat} (ha : a < 2 ^ 64) (hb : b < 2 ^ 64) (hA : a % 2 ^ 32 = A) (hB : b % 2 ^ 32 = B) : XNumWidth.F10 [71, (a : Int), (b : Int)] [] = some ([(bif ((A : Int) != (B : Int)) then 1 else 0), 0], [true]) := by
  have lA : A < 2 ^ 32 := hA ▸ Nat.mod_lt _ (Nat.two_pow_pos _)
  have lB : B < 2 ^ 32 := hB ▸ Nat.mod_lt _ (Nat.two_pow_pos _)
  refine (YNumWidth.q10_71 (a : Int) (b : Int)).trans ?_
  rw [wA hA, wA hB]
  try rfl
theorem n_82 {a b A B : Nat} (ha : a < 2 ^ 64) (hb : b < 2 ^ 64) (hA : a % 2 ^ 64 = A) (hB : b % 2 ^ 64 = B) : XNumWidth.F10 [82, (a : Int), (b : Int)] [] = some ([(bif ((A : Int) != (B : Int)) then 1 else 0), 0], [true]) := by
  have lA : A < 2 ^ 64 := hA ▸ Nat.mod_lt _ (Nat.two_pow_pos _)
  have lB : B < 2 ^ 64 := hB ▸ Nat.mod_lt _ (Nat.two_pow_pos _)
  rw [Nat.mod_eq_of_lt ha] at hA; rw [Nat.mod_eq_of_lt hb] at hB; subst hA hB
  refine (YNumWidth.q10_82 (a : Int) (b : Int)).trans ?_
  try rfl
theorem n_72 {a b A B : Nat} (ha : a < 2 ^ 64) (hb : b < 2 ^ 64) (hA : a % 2 ^ 32 = A) (hB : b % 2 ^ 32 = B) : XNumWidth.F10 [72, (a : Int), (b : Int)] [] = some ([(bif decide (sg 32 A < sg 32 B) then 1 else 0), 0], [true]) := by
  have lA : A < 2 ^ 32 := hA ▸ Nat.mod_lt _ (Nat.two_pow_pos _)
  have lB : B < 2 ^ 32 := hB ▸ Nat.mod_lt _ (Nat.two_pow_pos _)
  refine (YNumWidth.q10_72 (a : Int) (b : Int)).trans ?_
  rw [wA hA, wA hB]
  rw [wS lA, wS lB]
  try rfl
theorem n_83 {a b A B : Nat} (ha : a < 2 ^ 64) (hb : b < 2 ^ 64) (hA : a % 2 ^ 64 = A) (hB : b % 2 ^ 64 = B) : XNumWidth.F10 [83, (a : Int), (b : Int)] [] = some ([(bif decide (sg 64 A < sg 64 B) then 1 else 0), 0], [true]) := by
  have lA : A < 2 ^ 64 := hA ▸ Nat.mod_lt _ (Nat.two_pow_pos _)
  have lB : B < 2 ^ 64 := hB ▸ Nat.mod_lt _ (Nat.two_pow_pos _)
  rw [Nat.mod_eq_of_lt ha] at hA; rw [Nat.mod_eq_of_lt hb] at hB; subst hA hB
  refine (YNumWidth.q10_83 (a : Int) (b : Int)).trans ?_
  rw [wS64 ha, wS64 hb]
  try rfl
theorem n_73 {a b A B : Nat} (ha : a < 2 ^ 64) (hb : b < 2 ^ 64) (hA : a % 2 ^ 32 = A) (hB : b % 2 ^ 32 = B) : XNumWidth.F10 [73, (a : Int), (b : Int)] [] = some ([(bif decide ((A : Int) < (B : Int)) then 1 else 0), 0], [true]) := by
  have lA : A < 2 ^ 32 := hA ▸ Nat.mod_lt _ (Nat.two_pow_pos _)
  have lB : B < 2 ^ 32 := hB ▸ Nat.mod_lt _ (Nat.two_pow_pos _)
  refine (YNumWidth.q10_73 (a : Int) (b : Int)).trans ?_
  rw [wA hA, wA hB]
  try rfl
theorem n_84 {a b A B : Nat} (ha : a < 2 ^ 64) (hb : b < 2 ^ 64) (hA : a % 2 ^ 64 = A) (hB : b % 2 ^ 64 = B) : XNumWidth.F10 [84, (a : Int), (b : Int)] [] = some ([(bif decide ((A : Int) < (B : Int)) then 1 else 0), 0], [true]) := by
  have lA : A < 2 ^ 64 := hA ▸ Nat.mod_lt _ (Nat.two_pow_pos _)
  have lB : B < 2 ^ 64 := hB ▸ Nat.mod_lt _ (Nat.two_pow_pos _)
  rw [Nat.mod_eq_of_lt ha] at hA; rw [Nat.mod_eq_of_lt hb] at hB; subst hA hB
  refine (YNumWidth.q10_84 (a : Int) (b : Int)).trans ?_
  try rfl
theorem n_74 {a b A B : Nat} (ha : a < 2 ^ 64) (hb : b < 2 ^ 64) (hA : a % 2 ^ 32 = A) (hB : b % 2 ^ 32 = B) : XNumWidth.F10 [74, (a : Int), (b : Int)] [] = some ([(bif decide (sg 32 B < sg 32 A) then 1 else 0), 0], [true]) := by
  have lA : A < 2 ^ 32 := hA ▸ Nat.mod_lt _ (Nat.two_pow_pos _)
  have lB : B < 2 ^ 32 := hB ▸ Nat.mod_lt _ (Nat.two_pow_pos _)
  refine (YNumWidth.q10_74 (a : Int) (b : Int)).trans ?_
  rw [wA hA, wA hB]
  rw [wS lA, wS lB]
  try rfl
theorem n_85 {a b A B : Nat} (ha : a < 2 ^ 64) (hb : b < 2 ^ 64) (hA : a % 2 ^ 64 = A) (hB : b % 2 ^ 64 = B) : XNumWidth.F10 [85, (a : Int), (b : Int)] [] = some ([(bif decide (sg 64 B < sg 64 A) then 1 else 0), 0], [true]) := by
  have lA : A < 2 ^ 64 := hA ▸ Nat.mod_lt _ (Nat.two_pow_pos _)
  have lB : B < 2 ^ 64 := hB ▸ Nat.mod_lt _ (Nat.two_pow_pos _)
  rw [Nat.mod_eq_of_lt ha] at hA; rw [Nat.mod_eq_of_lt hb] at hB; subst hA hB
  refine (YNumWidth.q10_85 (a : Int) (b : Int)).trans ?_
  rw [wS64 ha, wS64 hb]
  try rfl
theorem n_75 {a b A B : Nat} (ha : a < 2 ^ 64) (hb : b < 2 ^ 64) (hA : a % 2 ^ 32 = A) (hB : b % 2 ^ 32 = B) : XNumWidth.F10 [75, (a : Int), (b : Int)] [] = some ([(bif decide ((B : Int) < (A : Int)) then 1 else 0), 0], [true]) := by
  have lA : A < 2 ^ 32 := hA ▸ Nat.mod_lt _ (Nat.two_pow_pos _)
  have lB : B < 2 ^ 32 := hB ▸ Nat.mod_lt _ (Nat.two_pow_pos _)
  refine (YNumWidth.q10_75 (a : Int) (b : Int)).trans ?_
  rw [wA hA, wA hB]
  try rfl
theorem n_86 {a b A B : Nat} (ha : a < 2 ^ 64) (hb : b < 2 ^ 64) (hA : a % 2 ^ 64 = A) (hB : b % 2 ^ 64 = B) : XNumWidth.F10 [86, (a : Int), (b : Int)] [] = some ([(bif decide ((B : Int) < (A : Int)) then 1 else 0), 0], [true]) := by
  have lA : A < 2 ^ 64 := hA ▸ Nat.mod_lt _ (Nat.two_pow_pos _)
  have lB : B < 2 ^ 64 := hB ▸ Nat.mod_lt _ (Nat.two_pow_pos _)
  rw [Nat.mod_eq_of_lt ha] at hA; rw [Nat.mod_eq_of_lt hb] at hB; subst hA hB
  refine (YNumWidth.q10_86 (a : Int) (b : Int)).trans ?_
  try rfl
theorem n_76 {a b A B : Nat} (ha : a < 2 ^ 64) (hb : b < 2 ^ 64) (hA : a % 2 ^ 32 = A) (hB : b % 2 ^ 32 = B) : XNumWidth.F10 [76, (a : Int), (b : Int)] [] = some ([(bif decide (sg 32 A ≤ sg 32 B) then 1 else 0), 0], [true]) := by
  have lA : A < 2 ^ 32 := hA ▸ Nat.mod_lt _ (Nat.two_pow_pos _)
  have lB : B < 2 ^ 32 := hB ▸ Nat.mod_lt _ (Nat.two_pow_pos _)
  refine (YNumWidth.q10_76 (a : Int) (b : Int)).trans ?_
  rw [wA hA, wA hB]
  rw [wS lA, wS lB]
  try rfl
theorem n_87 {a b A B : Nat} (ha : a < 2 ^ 64) (hb : b < 2 ^ 64) (hA : a % 2 ^ 64 = A) (hB : b % 2 ^ 64 = B) : XNumWidth.F10 [87, (a : Int), (b : Int)] [] = some ([(bif decide (sg 64 A ≤ sg 64 B) then 1 else 0), 0], [true]) := by
  have lA : A < 2 ^ 64 := hA ▸ Nat.mod_lt _ (Nat.two_pow_pos _)
  have lB : B < 2 ^ 64 := hB ▸ Nat.mod_lt _ (Nat.two_pow_pos _)
  rw [Nat.mod_eq_of_lt ha] at hA; rw [Nat.mod_eq_of_lt hb] at hB; subst hA hB
  refine (YNumWidth.q10_87 (a : Int) (b : Int)).trans ?_
  rw [wS64 ha, wS64 hb]
  try rfl
theorem n_77 {a b A B : Nat} (ha : a < 2 ^ 64) (hb : b < 2 ^ 64) (hA : a % 2 ^ 32 = A) (hB : b % 2 ^ 32 = B) : XNumWidth.F10 [77, (a : Int), (b : Int)] [] = some ([(bif decide ((A : Int) ≤ (B : Int)) then 1 else 0), 0], [true]) := by
  have lA : A < 2 ^ 32 := hA ▸ Nat.mod_lt _ (Nat.two_pow_pos _)
  have lB : B < 2 ^ 32 := hB ▸ Nat.mod_lt _ (Nat.two_pow_pos _)
  refine (YNumWidth.q10_77 (a : Int) (b : Int)).trans ?_
  rw [wA hA, wA hB]
  try rfl
theorem n_88 {a b A B : Nat} (ha : a < 2 ^ 64) (hb : b < 2 ^ 64) (hA : a % 2 ^ 64 = A) (hB : b % 2 ^ 64 = B) : XNumWidth.F10 [88, (a : Int), (b : Int)] [] = some ([(bif decide ((A : Int) ≤ (B : Int)) then 1 else 0), 0], [true]) := by
  have lA : A < 2 ^ 64 := hA ▸ Nat.mod_lt _ (Nat.two_pow_pos _)
  have lB : B < 2 ^ 64 := hB ▸ Nat.mod_lt _ (Nat.two_pow_pos _)
  rw [Nat.mod_eq_of_lt ha] at hA; rw [Nat.mod_eq_of_lt hb] at hB; subst hA hB
  refine (YNumWidth.q10_88 (a : Int) (b : Int)).trans ?_
  try rfl
theorem n_78 {a b A B : Nat} (ha : a < 2 ^ 64) (hb : b < 2 ^ 64) (hA : a % 2 ^ 32 = A) (hB : b % 2 ^ 32 = B) : XNumWidth.F10 [78, (a : Int), (b : Int)] [] = some ([(bif decide (sg 32 B ≤ sg 32 A) then 1 else 0), 0], [true]) := by
  have lA : A < 2 ^ 32 := hA ▸ Nat.mod_lt _ (Nat.two_pow_pos _)
  have lB : B < 2 ^ 32 := hB ▸ Nat.mod_lt _ (Nat.two_pow_pos _)
  refine (YNumWidth.q10_78 (a : Int) (b : Int)).trans ?_
  rw [wA hA, wA hB]
  rw [wS lA, wS lB]
  try rfl
theorem n_89 {a b A B : Nat} (ha : a < 2 ^ 64) (hb : b < 2 ^ 64) (hA : a % 2 ^ 64 = A) (hB : b % 2 ^ 64 = B) : XNumWidth.F10 [89, (a : Int), (b : Int)] [] = some ([(bif decide (sg 64 B ≤ sg 64 A) then 1 else 0), 0], [true]) := by
  have lA : A < 2 ^ 64 := hA ▸ Nat.mod_lt _ (Nat.two_pow_pos _)
  have lB : B < 2 ^ 64 := hB ▸ Nat.mod_lt _ (Nat.two_pow_pos _)
  rw [Nat.mod_eq_of_lt ha] at hA; rw [Nat.mod_eq_of_lt hb] at hB; subst hA hB
  refine (YNumWidth.q10_89 (a : Int) (b : Int)).trans ?_
  rw [wS64 ha, wS64 hb]
  try rfl
theorem n_79 {a b A B : Nat} (ha : a < 2 ^ 64) (hb : b < 2 ^ 64) (hA : a % 2 ^ 32 = A) (hB : b % 2 ^ 32 = B) : XNumWidth.F10 [79, (a : Int), (b : Int)] [] = some ([(bif decide ((B : Int) ≤ (A : Int)) then 1 else 0), 0], [true]) := by
  have lA : A < 2 ^ 32 := hA ▸ Nat.mod_lt _ (Nat.two_pow_pos _)
  have lB : B < 2 ^ 32 := hB ▸ Nat.mod_lt _ (Nat.two_pow_pos _)
  refine (YNumWidth.q10_79 (a : Int) (b : Int)).trans ?_
  rw [wA hA, wA hB]
  try rfl
theorem n_90 {a b A B : Nat} (ha : a < 2 ^ 64) (hb : b < 2 ^ 64) (hA : a % 2 ^ 64 = A) (hB : b % 2 ^ 64 = B) : XNumWidth.F10 [90, (a : Int), (b : Int)] [] = some ([(bif decide ((B : Int) ≤ (A : Int)) then 1 else 0), 0], [true]) := by
  have lA : A < 2 ^ 64 := hA ▸ Nat.mod_lt _ (Nat.two_pow_pos _)
  have lB : B < 2 ^ 64 := hB ▸ Nat.mod_lt _ (Nat.two_pow_pos _)
  rw [Nat.mod_eq_of_lt ha] at hA; rw [Nat.mod_eq_of_lt hb] at hB; subst hA hB
  refine (YNumWidth.q10_90 (a : Int) (b : Int)).trans ?_
  try rfl
theorem n_106 {a b A B : Nat} (ha : a < 2 ^ 64) (hb : b < 2 ^ 64) (hA : a % 2 ^ 32 = A) (hB : b % 2 ^ 32 = B) : XNumWidth.F10 [106, (a : Int), (b : Int)] [] = some ([((A : Int) + (B : Int)) % 2 ^ 32, 0], [true]) := by
  have lA : A < 2 ^ 32 := hA ▸ Nat.mod_lt _ (Nat.two_pow_pos _)
  have lB : B < 2 ^ 32 := hB ▸ Nat.mod_lt _ (Nat.two_pow_pos _)
  refine (YNumWidth.q10_106 (a : Int) (b : Int)).trans ?_
  rw [wA hA, wA hB]
  exact two (add32) rfl
theorem n_124 {a b A B : Nat} (ha : a < 2 ^ 64) (hb : b < 2 ^ 64) (hA : a % 2 ^ 64 = A) (hB : b % 2 ^ 64 = B) : XNumWidth.F10 [124, (a : Int), (b : Int)] [] = some ([((A : Int) + (B : Int)) % 2 ^ 64, 0], [true]) := by
  have lA : A < 2 ^ 64 := hA ▸ Nat.mod_lt _ (Nat.two_pow_pos _)
  have lB : B < 2 ^ 64 := hB ▸ Nat.mod_lt _ (Nat.two_pow_pos _)
  rw [Nat.mod_eq_of_lt ha] at hA; rw [Nat.mod_eq_of_lt hb] at hB; subst hA hB
  refine (YNumWidth.q10_124 (a : Int) (b : Int)).trans ?_
  exact two (w64 _) rfl
theorem n_107 {a b A B : Nat} (ha : a < 2 ^ 64) (hb : b < 2 ^ 64) (hA : a % 2 ^ 32 = A) (hB : b % 2 ^ 32 = B) : XNumWidth.F10 [107, (a : Int), (b : Int)] [] = some ([((A : Int) - (B : Int)) % 2 ^ 32, 0], [true]) := by
  have lA : A < 2 ^ 32 := hA ▸ Nat.mod_lt _ (Nat.two_pow_pos _)
  have lB : B < 2 ^ 32 := hB ▸ Nat.mod_lt _ (Nat.two_pow_pos _)
  refine (YNumWidth.q10_107 (a : Int) (b : Int)).trans ?_
  rw [wA hA, wA hB]
  exact two (sub_32) rfl
theorem n_125 {a b A B : Nat} (ha : a < 2 ^ 64) (hb : b < 2 ^ 64) (hA : a % 2 ^ 64 = A) (hB : b % 2 ^ 64 = B) : XNumWidth.F10 [125, (a : Int), (b : Int)] [] = some ([((A : Int) - (B : Int)) % 2 ^ 64, 0], [true]) := by
  have lA : A < 2 ^ 64 := hA ▸ Nat.mod_lt _ (Nat.two_pow_pos _)
  have lB : B < 2 ^ 64 := hB ▸ Nat.mod_lt _ (Nat.two_pow_pos _)
  rw [Nat.mod_eq_of_lt ha] at hA; rw [Nat.mod_eq_of_lt hb] at hB; subst hA hB
  refine (YNumWidth.q10_125 (a : Int) (b : Int)).trans ?_
  exact two (w64 _) rfl
theorem n_108 {a b A B : Nat} (ha : a < 2 ^ 64) (hb : b < 2 ^ 64) (hA : a % 2 ^ 32 = A) (hB : b % 2 ^ 32 = B) : XNumWidth.F10 [108, (a : Int), (b : Int)] [] = some ([((A : Int) * (B : Int)) % 2 ^ 32, 0], [true]) := by
  have lA : A < 2 ^ 32 := hA ▸ Nat.mod_lt _ (Nat.two_pow_pos _)
  have lB : B < 2 ^ 32 := hB ▸ Nat.mod_lt _ (Nat.two_pow_pos _)
  refine (YNumWidth.q10_108 (a : Int) (b : Int)).trans ?_
  rw [wA hA, wA hB]
  exact two (mul32) rfl
theorem n_126 {a b A B : Nat} (ha : a < 2 ^ 64) (hb : b < 2 ^ 64) (hA : a % 2 ^ 64 = A) (hB : b % 2 ^ 64 = B) : XNumWidth.F10 [126, (a : Int), (b : Int)] [] = some ([((A : Int) * (B : Int)) % 2 ^ 64, 0], [true]) := by
  have lA : A < 2 ^ 64 := hA ▸ Nat.mod_lt _ (Nat.two_pow_pos _)
  have lB : B < 2 ^ 64 := hB ▸ Nat.mod_lt _ (Nat.two_pow_pos _)
  rw [Nat.mod_eq_of_lt ha] at hA; rw [Nat.mod_eq_of_lt hb] at hB; subst hA hB
  refine (YNumWidth.q10_126 (a : Int) (b : Int)).trans ?_
  exact two (w64 _) rfl
theorem n_109 {a b A B : Nat} (ha : a < 2 ^ 64) (hb : b < 2 ^ 64) (hA : a % 2 ^ 32 = A) (hB : b % 2 ^ 32 = B) : XNumWidth.F10 [109, (a : Int), (b : Int)] [] = some ([QD true 32 A B, TD true 32 A B], [true]) := by
  have lA : A < 2 ^ 32 := hA ▸ Nat.mod_lt _ (Nat.two_pow_pos _)
  have lB : B < 2 ^ 32 := hB ▸ Nat.mod_lt _ (Nat.two_pow_pos _)
  refine (YNumWidth.q10_109 (a : Int) (b : Int)).trans ?_
  rw [wA hA, wA hB]
  rw [wS lA, wS lB]
  exact two (dq32 lA lB) (dt32 lA lB)
theorem n_127 {a b A B : Nat} (ha : a < 2 ^ 64) (hb : b < 2 ^ 64) (hA : a % 2 ^ 64 = A) (hB : b % 2 ^ 64 = B) : XNumWidth.F10 [127, (a : Int), (b : Int)] [] = some ([QD true 64 A B, TD true 64 A B], [true]) := by
  have lA : A < 2 ^ 64 := hA ▸ Nat.mod_lt _ (Nat.two_pow_pos _)
  have lB : B < 2 ^ 64 := hB ▸ Nat.mod_lt _ (Nat.two_pow_pos _)
  rw [Nat.mod_eq_of_lt ha] at hA; rw [Nat.mod_eq_of_lt hb] at hB; subst hA hB
  refine (YNumWidth.q10_127 (a : Int) (b : Int) (by omega) (by omega)).trans ?_
  rw [wS64 ha, wS64 hb]
  exact two (dq64 lA lB) (dt64 lA lB)
theorem n_110 {a b A B : Nat} (ha : a < 2 ^ 64) (hb : b < 2 ^ 64) (hA : a % 2 ^ 32 = A) (hB : b % 2 ^ 32 = B) : XNumWidth.F10 [110, (a : Int), (b : Int)] [] = some ([QD false 32 A B, TD false 32 A B], [true]) := by
  have lA : A < 2 ^ 32 := hA ▸ Nat.mod_lt _ (Nat.two_pow_pos _)
  have lB : B < 2 ^ 32 := hB ▸ Nat.mod_lt _ (Nat.two_pow_pos _)
  refine (YNumWidth.q10_110 (a : Int) (b : Int)).trans ?_
  rw [wA hA, wA hB]
  exact two (uq32 lA) (dzTD 32 A B)
theorem n_128 {a b A B : Nat} (ha : a < 2 ^ 64) (hb : b < 2 ^ 64) (hA : a % 2 ^ 64 = A) (hB : b % 2 ^ 64 = B) : XNumWidth.F10 [128, (a : Int), (b : Int)] [] = some ([QD false 64 A B, TD false 64 A B], [true]) := by
  have lA : A < 2 ^ 64 := hA ▸ Nat.mod_lt _ (Nat.two_pow_pos _)
  have lB : B < 2 ^ 64 := hB ▸ Nat.mod_lt _ (Nat.two_pow_pos _)
  rw [Nat.mod_eq_of_lt ha] at hA; rw [Nat.mod_eq_of_lt hb] at hB; subst hA hB
  refine (YNumWidth.q10_128 (a : Int) (b : Int) (by omega) (by omega)).trans ?_
  exact two (uqN ha 64) (dzTD 64 a b)
theorem n_111 {a b A B : Nat} (ha : a < 2 ^ 64) (hb : b < 2 ^ 64) (hA : a % 2 ^ 32 = A) (hB : b % 2 ^ 32 = B) : XNumWidth.F10 [111, (a : Int), (b : Int)] [] = some ([QR true 32 A B, TR B], [true]) := by
  have lA : A < 2 ^ 32 := hA ▸ Nat.mod_lt _ (Nat.two_pow_pos _)
  have lB : B < 2 ^ 32 := hB ▸ Nat.mod_lt _ (Nat.two_pow_pos _)
  refine (YNumWidth.q10_111 (a : Int) (b : Int)).trans ?_
  rw [wA hA, wA hB]
  rw [wS lA, wS lB]
  exact two (dr32 lA lB) (dzTR B)
theorem n_129 {a b A B : Nat} (ha : a < 2 ^ 64) (hb : b < 2 ^ 64) (hA : a % 2 ^ 64 = A) (hB : b % 2 ^ 64 = B) : XNumWidth.F10 [129, (a : Int), (b : Int)] [] = some ([QR true 64 A B, TR B], [true]) := by
  have lA : A < 2 ^ 64 := hA ▸ Nat.mod_lt _ (Nat.two_pow_pos _)
  have lB : B < 2 ^ 64 := hB ▸ Nat.mod_lt _ (Nat.two_pow_pos _)
  rw [Nat.mod_eq_of_lt ha] at hA; rw [Nat.mod_eq_of_lt hb] at hB; subst hA hB
  refine (YNumWidth.q10_129 (a : Int) (b : Int) (by omega) (by omega)).trans ?_
  rw [wS64 ha, wS64 hb]
  exact two (dr64 lA lB) (dzTR b)
theorem n_112 {a b A B : Nat} (ha : a < 2 ^ 64) (hb : b < 2 ^ 64) (hA : a % 2 ^ 32 = A) (hB : b % 2 ^ 32 = B) : XNumWidth.F10 [112, (a : Int), (b : Int)] [] = some ([QR false 32 A B, TR B], [true]) := by
  have lA : A < 2 ^ 32 := hA ▸ Nat.mod_lt _ (Nat.two_pow_pos _)
  have lB : B < 2 ^ 32 := hB ▸ Nat.mod_lt _ (Nat.two_pow_pos _)
  refine (YNumWidth.q10_112 (a : Int) (b : Int)).trans ?_
  rw [wA hA, wA hB]
  exact two (ur32 lA) (dzTR B)
theorem n_130 {a b A B : Nat} (ha : a < 2 ^ 64) (hb : b < 2 ^ 64) (hA : a % 2 ^ 64 = A) (hB : b % 2 ^ 64 = B) : XNumWidth.F10 [130, (a : Int), (b : Int)] [] = some ([QR false 64 A B, TR B], [true]) := by
  have lA : A < 2 ^ 64 := hA ▸ Nat.mod_lt _ (Nat.two_pow_pos _)
  have lB : B < 2 ^ 64 := hB ▸ Nat.mod_lt _ (Nat.two_pow_pos _)
  rw [Nat.mod_eq_of_lt ha] at hA; rw [Nat.mod_eq_of_lt hb] at hB; subst hA hB
  refine (YNumWidth.q10_130 (a : Int) (b : Int) (by omega) (by omega)).trans ?_
  exact two (urN 64) (dzTR b)
theorem n_113 {a b A B : Nat} (ha : a < 2 ^ 64) (hb : b < 2 ^ 64) (hA : a % 2 ^ 32 = A) (hB : b % 2 ^ 32 = B) : XNumWidth.F10 [113, (a : Int), (b : Int)] [] = some ([((A &&& B : Nat) : Int), 0], [true]) := by
  have lA : A < 2 ^ 32 := hA ▸ Nat.mod_lt _ (Nat.two_pow_pos _)
  have lB : B < 2 ^ 32 := hB ▸ Nat.mod_lt _ (Nat.two_pow_pos _)
  refine (YNumWidth.q10_113 (a : Int) (b : Int)).trans ?_
  rw [wA hA, wA hB]
  exact two (and32 lA lB) rfl
theorem n_131 {a b A B : Nat} (ha : a < 2 ^ 64) (hb : b < 2 ^ 64) (hA : a % 2 ^ 64 = A) (hB : b % 2 ^ 64 = B) : XNumWidth.F10 [131, (a : Int), (b : Int)] [] = some ([((A &&& B : Nat) : Int), 0], [true]) := by
  have lA : A < 2 ^ 64 := hA ▸ Nat.mod_lt _ (Nat.two_pow_pos _)
  have lB : B < 2 ^ 64 := hB ▸ Nat.mod_lt _ (Nat.two_pow_pos _)
  rw [Nat.mod_eq_of_lt ha] at hA; rw [Nat.mod_eq_of_lt hb] at hB; subst hA hB
  refine (YNumWidth.q10_131 (a : Int) (b : Int)).trans ?_
  exact two (Sn.band a b ha hb) rfl
theorem n_114 {a b A B : Nat} (ha : a < 2 ^ 64) (hb : b < 2 ^ 64) (hA : a % 2 ^ 32 = A) (hB : b % 2 ^ 32 = B) : XNumWidth.F10 [114, (a : Int), (b : Int)] [] = some ([((A ||| B : Nat) : Int), 0], [true]) := by
  have lA : A < 2 ^ 32 := hA ▸ Nat.mod_lt _ (Nat.two_pow_pos _)
  have lB : B < 2 ^ 32 := hB ▸ Nat.mod_lt _ (Nat.two_pow_pos _)
  refine (YNumWidth.q10_114 (a : Int) (b : Int)).trans ?_
  rw [wA hA, wA hB]
  exact two (or32 lA lB) rfl
theorem n_132 {a b A B : Nat} (ha : a < 2 ^ 64) (hb : b < 2 ^ 64) (hA : a % 2 ^ 64 = A) (hB : b % 2 ^ 64 = B) : XNumWidth.F10 [132, (a : Int), (b : Int)] [] = some ([((A ||| B : Nat) : Int), 0], [true]) := by
  have lA : A < 2 ^ 64 := hA ▸ Nat.mod_lt _ (Nat.two_pow_pos _)
  have lB : B < 2 ^ 64 := hB ▸ Nat.mod_lt _ (Nat.two_pow_pos _)
  rw [Nat.mod_eq_of_lt ha] at hA; rw [Nat.mod_eq_of_lt hb] at hB; subst hA hB
  refine (YNumWidth.q10_132 (a : Int) (b : Int)).trans ?_
  exact two (Sn.bor a b ha hb) rfl
theorem n_115 {a b A B : Nat} (ha : a < 2 ^ 64) (hb : b < 2 ^ 64) (hA : a % 2 ^ 32 = A) (hB : b % 2 ^ 32 = B) : XNumWidth.F10 [115, (a : Int), (b : Int)] [] = some ([((A ^^^ B : Nat) : Int), 0], [true]) := by
  have lA : A < 2 ^ 32 := hA ▸ Nat.mod_lt _ (Nat.two_pow_pos _)
  have lB : B < 2 ^ 32 := hB ▸ Nat.mod_lt _ (Nat.two_pow_pos _)
  refine (YNumWidth.q10_115 (a : Int) (b : Int)).trans ?_
  rw [wA hA, wA hB]
  exact two (xor32 lA lB) rfl
theorem n_133 {a b A B : Nat} (ha : a < 2 ^ 64) (hb : b < 2 ^ 64) (hA : a % 2 ^ 64 = A) (hB : b % 2 ^ 64 = B) : XNumWidth.F10 [133, (a : Int), (b : Int)] [] = some ([((A ^^^ B : Nat) : Int), 0], [true]) := by
  have lA : A < 2 ^ 64 := hA ▸ Nat.mod_lt _ (Nat.two_pow_pos _)
  have lB : B < 2 ^ 64 := hB ▸ Nat.mod_lt _ (Nat.two_pow_pos _)
  rw [Nat.mod_eq_of_lt ha] at hA; rw [Nat.mod_eq_of_lt hb] at hB; subst hA hB
  refine (YNumWidth.q10_133 (a : Int) (b : Int)).trans ?_
  exact two (Sn.bxor a b ha hb) rfl
theorem n_116 {a b A B : Nat} (ha : a < 2 ^ 64) (hb : b < 2 ^ 64) (hA : a % 2 ^ 32 = A) (hB : b % 2 ^ 32 = B) : XNumWidth.F10 [116, (a : Int), (b : Int)] [] = some ([((A * 2 ^ (B % 32) % 2 ^ 32 : Nat) : Int), 0], [true]) := by
  have lA : A < 2 ^ 32 := hA ▸ Nat.mod_lt _ (Nat.two_pow_pos _)
  have lB : B < 2 ^ 32 := hB ▸ Nat.mod_lt _ (Nat.two_pow_pos _)
  refine (YNumWidth.q10_116 (a : Int) (b : Int)).trans ?_
  rw [wA hA, wA hB]
  rw [rem32]
  exact two (shl32 _ (by omega)) rfl
theorem n_134 {a b A B : Nat} (ha : a < 2 ^ 64) (hb : b < 2 ^ 64) (hA : a % 2 ^ 64 = A) (hB : b % 2 ^ 64 = B) : XNumWidth.F10 [134, (a : Int), (b : Int)] [] = some ([((A * 2 ^ (B % 64) % 2 ^ 64 : Nat) : Int), 0], [true]) := by
  have lA : A < 2 ^ 64 := hA ▸ Nat.mod_lt _ (Nat.two_pow_pos _)
  have lB : B < 2 ^ 64 := hB ▸ Nat.mod_lt _ (Nat.two_pow_pos _)
  rw [Nat.mod_eq_of_lt ha] at hA; rw [Nat.mod_eq_of_lt hb] at hB; subst hA hB
  refine (YNumWidth.q10_134 (a : Int) (b : Int) (by omega)).trans ?_
  rw [rem64]
  exact two (YNumWidth.shlN a _ (by omega)) rfl
theorem n_117 {a b A B : Nat} (ha : a < 2 ^ 64) (hb : b < 2 ^ 64) (hA : a % 2 ^ 32 = A) (hB : b % 2 ^ 32 = B) : XNumWidth.F10 [117, (a : Int), (b : Int)] [] = some ([((SR 32 A (B % 32) : Nat) : Int), 0], [true]) := by
  have lA : A < 2 ^ 32 := hA ▸ Nat.mod_lt _ (Nat.two_pow_pos _)
  have lB : B < 2 ^ 32 := hB ▸ Nat.mod_lt _ (Nat.two_pow_pos _)
  refine (YNumWidth.q10_117 (a : Int) (b : Int)).trans ?_
  rw [wA hA, wA hB]
  rw [rem32]
  rw [wS lA]
  exact two (sar32 lA _ (Nat.mod_lt _ (by decide))) rfl
theorem n_135 {a b A B : Nat} (ha : a < 2 ^ 64) (hb : b < 2 ^ 64) (hA : a % 2 ^ 64 = A) (hB : b % 2 ^ 64 = B) : XNumWidth.F10 [135, (a : Int), (b : Int)] [] = some ([((SR 64 A (B % 64) : Nat) : Int), 0], [true]) := by
  have lA : A < 2 ^ 64 := hA ▸ Nat.mod_lt _ (Nat.two_pow_pos _)
  have lB : B < 2 ^ 64 := hB ▸ Nat.mod_lt _ (Nat.two_pow_pos _)
  rw [Nat.mod_eq_of_lt ha] at hA; rw [Nat.mod_eq_of_lt hb] at hB; subst hA hB
  refine (YNumWidth.q10_135 (a : Int) (b : Int) (by omega)).trans ?_
  rw [rem64]
  rw [wS64 ha]
  exact two (sar64 ha _ (Nat.mod_lt _ (by decide))) rfl
theorem n_118 {a b A B : Nat} (ha : a < 2 ^ 64) (hb : b < 2 ^ 64) (hA : a % 2 ^ 32 = A) (hB : b % 2 ^ 32 = B) : XNumWidth.F10 [118, (a : Int), (b : Int)] [] = some ([((A / 2 ^ (B % 32) : Nat) : Int), 0], [true]) := by
  have lA : A < 2 ^ 32 := hA ▸ Nat.mod_lt _ (Nat.two_pow_pos _)
  have lB : B < 2 ^ 32 := hB ▸ Nat.mod_lt _ (Nat.two_pow_pos _)
  refine (YNumWidth.q10_118 (a : Int) (b : Int)).trans ?_
  rw [wA hA, wA hB]
  rw [rem32]
  exact two (shr32 lA _ (by omega)) rfl
theorem n_136 {a b A B : Nat} (ha : a < 2 ^ 64) (hb : b < 2 ^ 64) (hA : a % 2 ^ 64 = A) (hB : b % 2 ^ 64 = B) : XNumWidth.F10 [136, (a : Int), (b : Int)] [] = some ([((A / 2 ^ (B % 64) : Nat) : Int), 0], [true]) := by
  have lA : A < 2 ^ 64 := hA ▸ Nat.mod_lt _ (Nat.two_pow_pos _)
  have lB : B < 2 ^ 64 := hB ▸ Nat.mod_lt _ (Nat.two_pow_pos _)
  rw [Nat.mod_eq_of_lt ha] at hA; rw [Nat.mod_eq_of_lt hb] at hB; subst hA hB
  refine (YNumWidth.q10_136 (a : Int) (b : Int) (by omega)).trans ?_
  rw [rem64]
  exact two (YNumWidth.shrN a _ (by omega)) rfl
theorem n_119 {a b A B : Nat} (ha : a < 2 ^ 64) (hb : b < 2 ^ 64) (hA : a % 2 ^ 32 = A) (hB : b % 2 ^ 32 = B) : XNumWidth.F10 [119, (a : Int), (b : Int)] [] = some ([((RL 32 A (B % 32) : Nat) : Int), 0], [true]) := by
  have lA : A < 2 ^ 32 := hA ▸ Nat.mod_lt _ (Nat.two_pow_pos _)
  have lB : B < 2 ^ 32 := hB ▸ Nat.mod_lt _ (Nat.two_pow_pos _)
  refine (YNumWidth.q10_119 (a : Int) (b : Int)).trans ?_
  rw [wA hA, wA hB]
  rw [rem32]
  exact two (rotl32 lA _ (Nat.mod_lt _ (by decide))) rfl
theorem n_137 {a b A B : Nat} (ha : a < 2 ^ 64) (hb : b < 2 ^ 64) (hA : a % 2 ^ 64 = A) (hB : b % 2 ^ 64 = B) : XNumWidth.F10 [137, (a : Int), (b : Int)] [] = some ([((RL 64 A (B % 64) : Nat) : Int), 0], [true]) := by
  have lA : A < 2 ^ 64 := hA ▸ Nat.mod_lt _ (Nat.two_pow_pos _)
  have lB : B < 2 ^ 64 := hB ▸ Nat.mod_lt _ (Nat.two_pow_pos _)
  rw [Nat.mod_eq_of_lt ha] at hA; rw [Nat.mod_eq_of_lt hb] at hB; subst hA hB
  refine (YNumWidth.q10_137 (a : Int) (b : Int) (by omega)).trans ?_
  rw [rem64]
  exact two (rotl64 ha _ (Nat.mod_lt _ (by decide))) rfl
theorem n_120 {a b A B : Nat} (ha : a < 2 ^ 64) (hb : b < 2 ^ 64) (hA : a % 2 ^ 32 = A) (hB : b % 2 ^ 32 = B) : XNumWidth.F10 [120, (a : Int), (b : Int)] [] = some ([((RL 32 A (32 - B % 32) : Nat) : Int), 0], [true]) := by
  have lA : A < 2 ^ 32 := hA ▸ Nat.mod_lt _ (Nat.two_pow_pos _)
  have lB : B < 2 ^ 32 := hB ▸ Nat.mod_lt _ (Nat.two_pow_pos _)
  refine (YNumWidth.q10_120 (a : Int) (b : Int)).trans ?_
  rw [wA hA, wA hB]
  rw [rem32]
  exact two (rotr32 lA _ (Nat.mod_lt _ (by decide))) rfl
theorem n_138 {a b A B : Nat} (ha : a < 2 ^ 64) (hb : b < 2 ^ 64) (hA : a % 2 ^ 64 = A) (hB : b % 2 ^ 64 = B) : XNumWidth.F10 [138, (a : Int), (b : Int)] [] = some ([((RL 64 A (64 - B % 64) : Nat) : Int), 0], [true]) := by
  have lA : A < 2 ^ 64 := hA ▸ Nat.mod_lt _ (Nat.two_pow_pos _)
  have lB : B < 2 ^ 64 := hB ▸ Nat.mod_lt _ (Nat.two_pow_pos _)
  rw [Nat.mod_eq_of_lt ha] at hA; rw [Nat.mod_eq_of_lt hb] at hB; subst hA hB
  refine (YNumWidth.q10_138 (a : Int) (b : Int) (by omega)).trans ?_
  rw [rem64]
  exact two (rotr64 ha _ (Nat.mod_lt _ (by decide))) rfl
/-! Un, code by code. -/
theorem sp_n {w kk a : Nat} : SP w kk a = if a / 2 ^ (kk - 1) % 2 = 1 then a % 2 ^ kk + (2 ^ w - 2 ^ kk) else a % 2 ^ kk := by
  unfold SP
  rw [Nat.testBit_eq_decide_div_mod_eq]
  by_cases h : a / 2 ^ (kk - 1) % 2 = 1
  · rw [if_pos h, if_pos (decide_eq_true h)]
  · rw [if_neg h, decide_eq_false h, if_neg (by decide)]
theorem bl32 {A : Nat} : IntKind.u64.wrap ((32 - Go.Lib.bitLen A : Nat) : Int) = ((32 - Go.Lib.bitLen A : Nat) : Int) := wuN (by omega)
theorem bl64 {A : Nat} : IntKind.u64.wrap ((64 - Go.Lib.bitLen A : Nat) : Int) = ((64 - Go.Lib.bitLen A : Nat) : Int) := wuN (by omega)
theorem pp {A : Nat} : IntKind.u64.wrap ((YNumWidth.pop A : Nat) : Int) = ((YNumWidth.pop A : Nat) : Int) := wuN (by have := YNumWidth.pop_le A; omega)
theorem cz {w A : Nat} (hw : w ≤ 64) (h : A < 2 ^ w) : IntKind.u64.wrap ((Go.Lib.ctz w A : Nat) : Int) = ((Go.Lib.ctz w A : Nat) : Int) := wuN (by have := YNumWidth.ctz_le w A h; omega)
theorem wa {a A : Nat} (hA : a % 2 ^ 32 = A) : IntKind.u32.wrap (a : Int) = (A : Int) := by rw [YNumWidth.wrap_u32]; omega
theorem m_69 {a A : Nat} (ha : a < 2 ^ 64) (hA : a % 2 ^ 32 = A) : XNumWidth.F11 [69, (a : Int)] [] = some ([(bif ((A : Int) == 0) then 1 else 0)], [true]) := by
  have lA : A < 2 ^ 32 := hA ▸ Nat.mod_lt _ (Nat.two_pow_pos _)
  refine (YNumWidth.q11_69 (a : Int)).trans ?_
  rw [wa hA]
theorem m_80 {a A : Nat} (ha : a < 2 ^ 64) (hA : a % 2 ^ 64 = A) : XNumWidth.F11 [80, (a : Int)] [] = some ([(bif ((A : Int) == 0) then 1 else 0)], [true]) := by
  have lA : A < 2 ^ 64 := hA ▸ Nat.mod_lt _ (Nat.two_pow_pos _)
  rw [Nat.mod_eq_of_lt ha] at hA; subst hA
  exact YNumWidth.q11_80 (a : Int)
theorem m_103 {a A : Nat} (ha : a < 2 ^ 64) (hA : a % 2 ^ 32 = A) : XNumWidth.F11 [103, (a : Int)] [] = some ([((32 - Go.Lib.bitLen A : Nat) : Int)], [true]) := by
  have lA : A < 2 ^ 32 := hA ▸ Nat.mod_lt _ (Nat.two_pow_pos _)
  exact (YNumWidth.q11_103 (a : Int) A (wa hA) lA).trans (one_ (bl32))
theorem m_104 {a A : Nat} (ha : a < 2 ^ 64) (hA : a % 2 ^ 32 = A) : XNumWidth.F11 [104, (a : Int)] [] = some ([((Go.Lib.ctz 32 A : Nat) : Int)], [true]) := by
  have lA : A < 2 ^ 32 := hA ▸ Nat.mod_lt _ (Nat.two_pow_pos _)
  exact (YNumWidth.q11_104 (a : Int) A (wa hA) lA).trans (one_ (cz (by decide) lA))
theorem m_105 {a A : Nat} (ha : a < 2 ^ 64) (hA : a % 2 ^ 32 = A) : XNumWidth.F11 [105, (a : Int)] [] = some ([((YNumWidth.pop A : Nat) : Int)], [true]) := by
  have lA : A < 2 ^ 32 := hA ▸ Nat.mod_lt _ (Nat.two_pow_pos _)
  exact (YNumWidth.q11_105 (a : Int) A (wa hA) lA).trans (one_ (pp))
theorem m_121 {a A : Nat} (ha : a < 2 ^ 64) (hA : a % 2 ^ 64 = A) : XNumWidth.F11 [121, (a : Int)] [] = some ([((64 - Go.Lib.bitLen A : Nat) : Int)], [true]) := by
  have lA : A < 2 ^ 64 := hA ▸ Nat.mod_lt _ (Nat.two_pow_pos _)
  rw [Nat.mod_eq_of_lt ha] at hA; subst hA
  exact (YNumWidth.q11_121 (a : Int) a rfl ha).trans (one_ (bl64))
theorem m_122 {a A : Nat} (ha : a < 2 ^ 64) (hA : a % 2 ^ 64 = A) : XNumWidth.F11 [122, (a : Int)] [] = some ([((Go.Lib.ctz 64 A : Nat) : Int)], [true]) := by
  have lA : A < 2 ^ 64 := hA ▸ Nat.mod_lt _ (Nat.two_pow_pos _)
  rw [Nat.mod_eq_of_lt ha] at hA; subst hA
  exact (YNumWidth.q11_122 (a : Int) a rfl ha).trans (one_ (cz (by decide) lA))
theorem m_123 {a A : Nat} (ha : a < 2 ^ 64) (hA : a % 2 ^ 64 = A) : XNumWidth.F11 [123, (a : Int)] [] = some ([((YNumWidth.pop A : Nat) : Int)], [true]) := by
  have lA : A < 2 ^ 64 := hA ▸ Nat.mod_lt _ (Nat.two_pow_pos _)
  rw [Nat.mod_eq_of_lt ha] at hA; subst hA
  exact (YNumWidth.q11_123 (a : Int) a rfl ha).trans (one_ (pp))
theorem m_167 {a A : Nat} (ha : a < 2 ^ 64) (hA : a % 2 ^ 32 = A) : XNumWidth.F11 [167, (a : Int)] [] = some ([((a % 2 ^ 32 : Nat) : Int)], [true]) := by
  have lA : A < 2 ^ 32 := hA ▸ Nat.mod_lt _ (Nat.two_pow_pos _)
  refine (YNumWidth.q11_167 (a : Int)).trans (one_ ?_)
  clear hA lA
  rw [YNumWidth.wrap_u32, wrap_u]; omega
theorem m_172 {a A : Nat} (ha : a < 2 ^ 64) (hA : a % 2 ^ 32 = A) : XNumWidth.F11 [172, (a : Int)] [] = some ([((SP 64 32 a : Nat) : Int)], [true]) := by
  have lA : A < 2 ^ 32 := hA ▸ Nat.mod_lt _ (Nat.two_pow_pos _)
  refine (YNumWidth.q11_172 (a : Int)).trans (one_ ?_)
  clear hA lA
  rw [sp_n]; simp only [YNumWidth.wrap_u32, YNumWidth.wrap_i32, YNumWidth.wrap_i64, YNumWidth.wrap_i16, YNumWidth.wrap_i8, wrap_u]; split <;> omega
theorem m_173 {a A : Nat} (ha : a < 2 ^ 64) (hA : a % 2 ^ 32 = A) : XNumWidth.F11 [173, (a : Int)] [] = some ([((a % 2 ^ 32 : Nat) : Int)], [true]) := by
  have lA : A < 2 ^ 32 := hA ▸ Nat.mod_lt _ (Nat.two_pow_pos _)
  refine (YNumWidth.q11_173 (a : Int)).trans (one_ ?_)
  clear hA lA
  rw [YNumWidth.wrap_u32, wrap_u]; omega
theorem m_192 {a A : Nat} (ha : a < 2 ^ 64) (hA : a % 2 ^ 32 = A) : XNumWidth.F11 [192, (a : Int)] [] = some ([((SP 32 8 a : Nat) : Int)], [true]) := by
  have lA : A < 2 ^ 32 := hA ▸ Nat.mod_lt _ (Nat.two_pow_pos _)
  refine (YNumWidth.q11_192 (a : Int)).trans (one_ ?_)
  clear hA lA
  rw [sp_n]; simp only [YNumWidth.wrap_u32, YNumWidth.wrap_i32, YNumWidth.wrap_i64, YNumWidth.wrap_i16, YNumWidth.wrap_i8, wrap_u]; split <;> omega
theorem m_193 {a A : Nat} (ha : a < 2 ^ 64) (hA : a % 2 ^ 32 = A) : XNumWidth.F11 [193, (a : Int)] [] = some ([((SP 32 16 a : Nat) : Int)], [true]) := by
  have lA : A < 2 ^ 32 := hA ▸ Nat.mod_lt _ (Nat.two_pow_pos _)
  refine (YNumWidth.q11_193 (a : Int)).trans (one_ ?_)
  clear hA lA
  rw [sp_n]; simp only [YNumWidth.wrap_u32, YNumWidth.wrap_i32, YNumWidth.wrap_i64, YNumWidth.wrap_i16, YNumWidth.wrap_i8, wrap_u]; split <;> omega
theorem m_194 {a A : Nat} (ha : a < 2 ^ 64) (hA : a % 2 ^ 32 = A) : XNumWidth.F11 [194, (a : Int)] [] = some ([((SP 64 8 a : Nat) : Int)], [true]) := by
  have lA : A < 2 ^ 32 := hA ▸ Nat.mod_lt _ (Nat.two_pow_pos _)
  refine (YNumWidth.q11_194 (a : Int)).trans (one_ ?_)
  clear hA lA
  rw [sp_n]; simp only [YNumWidth.wrap_u32, YNumWidth.wrap_i32, YNumWidth.wrap_i64, YNumWidth.wrap_i16, YNumWidth.wrap_i8, wrap_u]; split <;> omega
theorem m_195 {a A : Nat} (ha : a < 2 ^ 64) (hA : a % 2 ^ 32 = A) : XNumWidth.F11 [195, (a : Int)] [] = some ([((SP 64 16 a : Nat) : Int)], [true]) := by
  have lA : A < 2 ^ 32 := hA ▸ Nat.mod_lt _ (Nat.two_pow_pos _)
  refine (YNumWidth.q11_195 (a : Int)).trans (one_ ?_)
  clear hA lA
  rw [sp_n]; simp only [YNumWidth.wrap_u32, YNumWidth.wrap_i32, YNumWidth.wrap_i64, YNumWidth.wrap_i16, YNumWidth.wrap_i8, wrap_u]; split <;> omega
theorem m_196 {a A : Nat} (ha : a < 2 ^ 64) (hA : a % 2 ^ 32 = A) : XNumWidth.F11 [196, (a : Int)] [] = some ([((SP 64 32 a : Nat) : Int)], [true]) := by
  have lA : A < 2 ^ 32 := hA ▸ Nat.mod_lt _ (Nat.two_pow_pos _)
  refine (YNumWidth.q11_196 (a : Int)).trans (one_ ?_)
  clear hA lA
  rw [sp_n]; simp only [YNumWidth.wrap_u32, YNumWidth.wrap_i32, YNumWidth.wrap_i64, YNumWidth.wrap_i16, YNumWidth.wrap_i8, wrap_u]; split <;> omega
end Go.Proofs.YtghekmcdokgkkaaDoor.FNumDoes
