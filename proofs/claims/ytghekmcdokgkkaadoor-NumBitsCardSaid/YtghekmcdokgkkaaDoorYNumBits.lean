/-
  Bits that are 1, noughts above and below, and what is turned: the plain law of NumBits.
-/
import Derived.Test.YtghekmcdokgkkaaDoorXNumBits
import Derived.Test.YtghekmcdokgkkaaDoorSn
import Derived.Lib.BitFns
import Derived.Lib.TrailingZeros
namespace Go.Proofs.YtghekmcdokgkkaaDoor.YNumBits
open Go.Proofs.YtghekmcdokgkkaaDoor.Sx Go.Proofs.YtghekmcdokgkkaaDoor.Sn Go.Proofs.YtghekmcdokgkkaaDoor.XNumBits Go.Proofs.YtghekmcdokgkkaaDoor.ENumBits
set_option linter.unusedSimpArgs false
set_option linter.unusedVariables false
theorem st_0_1 {C : Nat → Sx.Fn} {is : List Int} {bs : List Bool} {r : Option (List Int × List Bool)} {G : E} {f : Nat} {ii bb : List E} {k : Sx.T} {c0 : Bool} {F : Sx.Fn} {g : Bool} {l : List Int} {m : List Bool} (hC : C f = F) (hG : G.B is bs = g) (hl : ii.map (E.I is bs) = l) (hm : bb.map (E.B is bs) = m)
    (h : (bif g then F l m else some (List.replicate 0 0, List.replicate 1 false)) = some ([], [c0]))
    (hk : ∀ (y0 : Bool), y0 = c0 → k.den C (is ++ []) (bs ++ [y0]) = r) : (Sx.T.call G f ii bb 0 1 k).den C is bs = r := st_call _ _ (by rw [hC, hG, hl, hm]; exact h) rfl rfl (hk _ rfl)

theorem st_1_0 {C : Nat → Sx.Fn} {is : List Int} {bs : List Bool} {r : Option (List Int × List Bool)} {G : E} {f : Nat} {ii bb : List E} {k : Sx.T} {a0 : Int} {F : Sx.Fn} {g : Bool} {l : List Int} {m : List Bool} (hC : C f = F) (hG : G.B is bs = g) (hl : ii.map (E.I is bs) = l) (hm : bb.map (E.B is bs) = m)
    (h : (bif g then F l m else some (List.replicate 1 0, List.replicate 0 false)) = some ([a0], []))
    (hk : ∀ (x0 : Int), x0 = a0 → k.den C (is ++ [x0]) (bs ++ []) = r) : (Sx.T.call G f ii bb 1 0 k).den C is bs = r := st_call _ _ (by rw [hC, hG, hl, hm]; exact h) rfl rfl (hk _ rfl)

theorem st_1_1 {C : Nat → Sx.Fn} {is : List Int} {bs : List Bool} {r : Option (List Int × List Bool)} {G : E} {f : Nat} {ii bb : List E} {k : Sx.T} {a0 : Int} {c0 : Bool} {F : Sx.Fn} {g : Bool} {l : List Int} {m : List Bool} (hC : C f = F) (hG : G.B is bs = g) (hl : ii.map (E.I is bs) = l) (hm : bb.map (E.B is bs) = m)
    (h : (bif g then F l m else some (List.replicate 1 0, List.replicate 1 false)) = some ([a0], [c0]))
    (hk : ∀ (x0 : Int) (y0 : Bool), x0 = a0 → y0 = c0 → k.den C (is ++ [x0]) (bs ++ [y0]) = r) : (Sx.T.call G f ii bb 1 1 k).den C is bs = r := st_call _ _ (by rw [hC, hG, hl, hm]; exact h) rfl rfl (hk _ _ rfl rfl)

theorem st_2_0 {C : Nat → Sx.Fn} {is : List Int} {bs : List Bool} {r : Option (List Int × List Bool)} {G : E} {f : Nat} {ii bb : List E} {k : Sx.T} {a0 a1 : Int} {F : Sx.Fn} {g : Bool} {l : List Int} {m : List Bool} (hC : C f = F) (hG : G.B is bs = g) (hl : ii.map (E.I is bs) = l) (hm : bb.map (E.B is bs) = m)
    (h : (bif g then F l m else some (List.replicate 2 0, List.replicate 0 false)) = some ([a0, a1], []))
    (hk : ∀ (x0 x1 : Int), x0 = a0 → x1 = a1 → k.den C (is ++ [x0, x1]) (bs ++ []) = r) : (Sx.T.call G f ii bb 2 0 k).den C is bs = r := st_call _ _ (by rw [hC, hG, hl, hm]; exact h) rfl rfl (hk _ _ rfl rfl)

theorem st_2_1 {C : Nat → Sx.Fn} {is : List Int} {bs : List Bool} {r : Option (List Int × List Bool)} {G : E} {f : Nat} {ii bb : List E} {k : Sx.T} {a0 a1 : Int} {c0 : Bool} {F : Sx.Fn} {g : Bool} {l : List Int} {m : List Bool} (hC : C f = F) (hG : G.B is bs = g) (hl : ii.map (E.I is bs) = l) (hm : bb.map (E.B is bs) = m)
    (h : (bif g then F l m else some (List.replicate 2 0, List.replicate 1 false)) = some ([a0, a1], [c0]))
    (hk : ∀ (x0 x1 : Int) (y0 : Bool), x0 = a0 → x1 = a1 → y0 = c0 → k.den C (is ++ [x0, x1]) (bs ++ [y0]) = r) : (Sx.T.call G f ii bb 2 1 k).den C is bs = r := st_call _ _ (by rw [hC, hG, hl, hm]; exact h) rfl rfl (hk _ _ _ rfl rfl rfl)
def LEN8 : List Nat := [0, 1, 2, 2, 3, 3, 3, 3, 4, 4, 4, 4, 4, 4, 4, 4, 5, 5, 5, 5, 5, 5, 5, 5, 5, 5, 5, 5, 5, 5, 5, 5, 6, 6, 6, 6, 6, 6, 6, 6, 6, 6, 6, 6, 6, 6, 6, 6, 6, 6, 6, 6, 6, 6, 6, 6, 6, 6, 6, 6, 6, 6, 6, 6, 7, 7, 7, 7, 7, 7, 7, 7, 7, 7, 7, 7, 7, 7, 7, 7, 7, 7, 7, 7, 7, 7, 7, 7, 7, 7, 7, 7, 7, 7, 7, 7, 7, 7, 7, 7, 7, 7, 7, 7, 7, 7, 7, 7, 7, 7, 7, 7, 7, 7, 7, 7, 7, 7, 7, 7, 7, 7, 7, 7, 7, 7, 7, 7, 8, 8, 8, 8, 8, 8, 8, 8, 8, 8, 8, 8, 8, 8, 8, 8, 8, 8, 8, 8, 8, 8, 8, 8, 8, 8, 8, 8, 8, 8, 8, 8, 8, 8, 8, 8, 8, 8, 8, 8, 8, 8, 8, 8, 8, 8, 8, 8, 8, 8, 8, 8, 8, 8, 8, 8, 8, 8, 8, 8, 8, 8, 8, 8, 8, 8, 8, 8, 8, 8, 8, 8, 8, 8, 8, 8, 8, 8, 8, 8, 8, 8, 8, 8, 8, 8, 8, 8, 8, 8, 8, 8, 8, 8, 8, 8, 8, 8, 8, 8, 8, 8, 8, 8, 8, 8, 8, 8, 8, 8, 8, 8, 8, 8, 8, 8, 8, 8, 8, 8, 8, 8, 8, 8, 8, 8, 8, 8]

def POP8 : List Nat := [0, 1, 1, 2, 1, 2, 2, 3, 1, 2, 2, 3, 2, 3, 3, 4, 1, 2, 2, 3, 2, 3, 3, 4, 2, 3, 3, 4, 3, 4, 4, 5, 1, 2, 2, 3, 2, 3, 3, 4, 2, 3, 3, 4, 3, 4, 4, 5, 2, 3, 3, 4, 3, 4, 4, 5, 3, 4, 4, 5, 4, 5, 5, 6, 1, 2, 2, 3, 2, 3, 3, 4, 2, 3, 3, 4, 3, 4, 4, 5, 2, 3, 3, 4, 3, 4, 4, 5, 3, 4, 4, 5, 4, 5, 5, 6, 2, 3, 3, 4, 3, 4, 4, 5, 3, 4, 4, 5, 4, 5, 5, 6, 3, 4, 4, 5, 4, 5, 5, 6, 4, 5, 5, 6, 5, 6, 6, 7, 1, 2, 2, 3, 2, 3, 3, 4, 2, 3, 3, 4, 3, 4, 4, 5, 2, 3, 3, 4, 3, 4, 4, 5, 3, 4, 4, 5, 4, 5, 5, 6, 2, 3, 3, 4, 3, 4, 4, 5, 3, 4, 4, 5, 4, 5, 5, 6, 3, 4, 4, 5, 4, 5, 5, 6, 4, 5, 5, 6, 5, 6, 6, 7, 2, 3, 3, 4, 3, 4, 4, 5, 3, 4, 4, 5, 4, 5, 5, 6, 3, 4, 4, 5, 4, 5, 5, 6, 4, 5, 5, 6, 5, 6, 6, 7, 3, 4, 4, 5, 4, 5, 5, 6, 4, 5, 5, 6, 5, 6, 6, 7, 4, 5, 5, 6, 5, 6, 6, 7, 5, 6, 6, 7, 6, 7, 7, 8]

theorem e10_17 : Tab.fn a10 17 = F17 := Tab.fn_hd
theorem e10_16 : Tab.fn a10 16 = F16 := ((Tab.fn_tl rfl).trans Tab.fn_hd)
theorem e10_18 : Tab.fn a10 18 = F18 := ((Tab.fn_tl rfl).trans ((Tab.fn_tl rfl).trans Tab.fn_hd))
theorem e18_36 : Tab.fn a18 36 = F36 := Tab.fn_hd

theorem rem_ge (b : Int) (w : Int) (h : 0 ≤ b) : (decide (arI .rem .u64 b w ≥ 0)) = true := by
  rw [arRem _ _ h, decide_eq_true_eq]
  by_cases hw : w = 0
  · subst hw; rw [Int.emod_zero]; exact h
  · exact Int.emod_nonneg _ hw

theorem sub_ge (x y : Int) : (decide (arI .sub .u64 x y ≥ 0)) = true := by rw [arSub, decide_eq_true_eq]; omega

theorem q16 (b : Bool) : F16 [] [b] = some ([bif b then 1 else 0], []) := by cases b <;> rfl

theorem u32_ge (x : Int) : 0 ≤ IntKind.wrap .u64 (IntKind.wrap .u32 x) := by rw [wrap_u64]; omega
theorem shlN (a s : Nat) (hs : s ≤ 64) : arI .shl .u64 (a : Int) (s : Int) = ((a * 2 ^ s % 2 ^ 64 : Nat) : Int) := by
  rw [arShl _ _ (by omega) (by omega), Int.toNat_natCast, Int.natCast_emod, Int.natCast_mul, Int.natCast_pow]; rfl
theorem shrN (a s : Nat) (hs : s ≤ 64) : arI .shr .u64 (a : Int) (s : Int) = ((a / 2 ^ s : Nat) : Int) := by
  rw [arShr _ _ (by omega) (by omega), Int.toNat_natCast, Int.natCast_ediv, Int.natCast_pow]; rfl
theorem remN (a w : Nat) : arI .rem .u64 (a : Int) (w : Int) = ((a % w : Nat) : Int) := by
  rw [arRem _ _ (by omega), Int.natCast_emod]
theorem subN (a b : Nat) (h : b ≤ a) (ha : a < 2 ^ 64) : arI .sub .u64 (a : Int) (b : Int) = ((a - b : Nat) : Int) := by
  rw [arSub]; omega
theorem shl_lt (a s : Nat) : a * 2 ^ s % 2 ^ 64 < 2 ^ 64 := Nat.mod_lt _ (by decide)
theorem shr_lt (a s : Nat) (h : a < 2 ^ 64) : a / 2 ^ s < 2 ^ 64 := Nat.lt_of_le_of_lt (Nat.div_le_self _ _) h
/-! Turned left by s, of 64 bits. -/
def rl (a s : Nat) : Nat := (a % 2 ^ (64 - s)) * 2 ^ s + a / 2 ^ (64 - s)
theorem rl_or (a s : Nat) (ha : a < 2 ^ 64) (hs : s ≤ 64) : (a * 2 ^ s % 2 ^ 64) ||| (a / 2 ^ (64 - s)) = rl a s := by
  have e : 2 ^ 64 = 2 ^ (64 - s) * 2 ^ s := by rw [← Nat.pow_add, Nat.sub_add_cancel hs]
  have h : a / 2 ^ (64 - s) < 2 ^ s := Nat.div_lt_of_lt_mul (by rw [← e]; exact ha)
  rw [e, Nat.mul_mod_mul_right, Nat.mul_comm _ (2 ^ s), ← Nat.two_pow_add_eq_or_of_lt h, Nat.mul_comm (2 ^ s)]
  rfl
theorem rl_lt (a s : Nat) (ha : a < 2 ^ 64) (hs : s ≤ 64) : rl a s < 2 ^ 64 := by
  rw [← rl_or a s ha hs]
  exact Nat.or_lt_two_pow (shl_lt a s) (shr_lt a _ ha)
theorem rl_back (a s : Nat) (ha : a < 2 ^ 64) (hs : s ≤ 64) : rl (rl a s) (64 - s) = a := by
  have e : 2 ^ 64 = 2 ^ (64 - s) * 2 ^ s := by rw [← Nat.pow_add, Nat.sub_add_cancel hs]
  have h : a / 2 ^ (64 - s) < 2 ^ s := Nat.div_lt_of_lt_mul (by rw [← e]; exact ha)
  unfold rl
  rw [show 64 - (64 - s) = s from by omega, Nat.mul_comm _ (2 ^ s), Nat.mul_add_mod, Nat.mod_eq_of_lt h, Nat.mul_add_div (Nat.two_pow_pos s), Nat.div_eq_of_lt h, Nat.add_zero, Nat.mul_comm, Nat.add_comm, Nat.mod_add_div]
theorem nats {a : Int} (h : 0 ≤ a) : ∃ n : Nat, a = n := Int.eq_ofNat_of_zero_le h


theorem wrap_u32 (n : Int) : IntKind.u32.wrap n = n % 4294967296 := by simp [IntKind.wrap, IntKind.bits, IntKind.signed]
theorem wrap_u8 (n : Int) : IntKind.u8.wrap n = n % 256 := by simp [IntKind.wrap, IntKind.bits, IntKind.signed]
theorem wrap_i64 (n : Int) : IntKind.i64.wrap n = (n + 9223372036854775808) % 18446744073709551616 - 9223372036854775808 := by simp [IntKind.wrap, IntKind.bits, IntKind.signed]; split <;> omega
theorem wrap_i32 (n : Int) : IntKind.i32.wrap n = (n + 2147483648) % 4294967296 - 2147483648 := by simp [IntKind.wrap, IntKind.bits, IntKind.signed]; split <;> omega
theorem wrap_i16 (n : Int) : IntKind.i16.wrap n = (n + 32768) % 65536 - 32768 := by simp [IntKind.wrap, IntKind.bits, IntKind.signed]; split <;> omega
theorem wrap_i8 (n : Int) : IntKind.i8.wrap n = (n + 128) % 256 - 128 := by simp [IntKind.wrap, IntKind.bits, IntKind.signed]; split <;> omega

def val : List Nat → Nat
  | [] => 0
  | a :: l => a + 256 * val l
def msk (b : Nat) : Nat → Nat
  | 0 => 0
  | n + 1 => b + 256 * msk b n
theorem and_byte (p q r s : Nat) (hp : p < 256) (hr : r < 256) : (p + 256 * q) &&& (r + 256 * s) = (p &&& r) + 256 * (q &&& s) := by
  have hpr : p &&& r < 2 ^ 8 := Nat.and_lt_two_pow p (by omega)
  refine Nat.eq_of_testBit_eq fun j => ?_
  rw [Nat.testBit_and, show p + 256 * q = 2 ^ 8 * q + p from by omega, show r + 256 * s = 2 ^ 8 * s + r from by omega, show (p &&& r) + 256 * (q &&& s) = 2 ^ 8 * (q &&& s) + (p &&& r) from by omega,
    Nat.testBit_two_pow_mul_add _ (by omega), Nat.testBit_two_pow_mul_add _ (by omega), Nat.testBit_two_pow_mul_add _ hpr]
  split <;> rw [Nat.testBit_and]
def s1 (m x : Nat) : Nat := (x / 2 &&& m) + (x &&& m)
def s2 (m x : Nat) : Nat := (x / 4 &&& m) + (x &&& m)
def s4 (m x : Nat) : Nat := (x / 16 + x) &&& m
theorem t1_ : ∀ a : Fin 256, ∀ b : Fin 2, (a.val / 2 + 128 * b.val) &&& 85 = a.val / 2 &&& 85 := by decide +kernel
theorem t2_ : ∀ a : Fin 256, ∀ b : Fin 4, (a.val / 4 + 64 * b.val) &&& 51 = a.val / 4 &&& 51 := by decide +kernel
theorem t1 (a b : Nat) (ha : a < 256) : (a / 2 + 128 * (b % 2)) &&& 85 = a / 2 &&& 85 := t1_ ⟨a, ha⟩ ⟨b % 2, by omega⟩
theorem t2 (a b : Nat) (ha : a < 256) : (a / 4 + 64 * (b % 4)) &&& 51 = a / 4 &&& 51 := t2_ ⟨a, ha⟩ ⟨b % 4, by omega⟩
theorem s1_val : ∀ l : List Nat, (∀ a ∈ l, a < 256) → s1 (msk 85 l.length) (val l) = val (l.map (s1 85))
  | [], _ => rfl
  | a :: l, h => by
    have ha : a < 256 := h a (List.mem_cons_self ..)
    have ih := s1_val l (fun x hx => h x (List.mem_cons_of_mem _ hx))
    simp only [List.map_cons, List.length_cons, val, msk]
    rw [← ih]
    unfold s1
    rw [show (a + 256 * val l) / 2 = (a / 2 + 128 * (val l % 2)) + 256 * (val l / 2) from by omega, and_byte _ _ _ _ (by omega) (by omega), and_byte _ _ _ _ ha (by omega), t1 a _ ha]
    omega
theorem s2_val : ∀ l : List Nat, (∀ a ∈ l, a < 256) → s2 (msk 51 l.length) (val l) = val (l.map (s2 51))
  | [], _ => rfl
  | a :: l, h => by
    have ha : a < 256 := h a (List.mem_cons_self ..)
    have ih := s2_val l (fun x hx => h x (List.mem_cons_of_mem _ hx))
    simp only [List.map_cons, List.length_cons, val, msk]
    rw [← ih]
    unfold s2
    rw [show (a + 256 * val l) / 4 = (a / 4 + 64 * (val l % 4)) + 256 * (val l / 4) from by omega, and_byte _ _ _ _ (by omega) (by omega), and_byte _ _ _ _ ha (by omega), t2 a _ ha]
    omega
theorem and15 (x : Nat) : x &&& 15 = x % 16 := Nat.and_two_pow_sub_one_eq_mod x 4
theorem s4_val : ∀ l : List Nat, (∀ a ∈ l, a ≤ 68 ∧ a % 16 ≤ 4) → s4 (msk 15 l.length) (val l) = val (l.map (s4 15)) ∧ val l % 16 ≤ 4
  | [], _ => ⟨rfl, by decide⟩
  | a :: l, h => by
    have ha := h a (List.mem_cons_self ..)
    obtain ⟨ih, ih2⟩ := s4_val l (fun x hx => h x (List.mem_cons_of_mem _ hx))
    refine ⟨?_, by simp only [val]; omega⟩
    simp only [List.map_cons, List.length_cons, val, msk]
    rw [← ih]
    unfold s4
    rw [show (a + 256 * val l) / 16 + (a + 256 * val l) = (a / 16 + a + 16 * (val l % 16)) + 256 * (val l / 16 + val l) from by omega, and_byte _ _ _ _ (by omega) (by omega), and15, and15]
    omega
def pop8 (a : Nat) : Nat := s4 15 (s2 51 (s1 85 a))
theorem p1_ : ∀ a : Fin 256, s1 85 a.val < 256 ∧ s2 51 (s1 85 a.val) ≤ 68 ∧ s2 51 (s1 85 a.val) % 16 ≤ 4 ∧ pop8 a.val ≤ 8 ∧ pop8 a.val + pop8 (255 - a.val) = 8 := by decide +kernel
theorem p1 (a : Nat) (h : a < 256) : s1 85 a < 256 ∧ s2 51 (s1 85 a) ≤ 68 ∧ s2 51 (s1 85 a) % 16 ≤ 4 ∧ pop8 a ≤ 8 ∧ pop8 a + pop8 (255 - a) = 8 := p1_ ⟨a, h⟩
theorem pop_val (l : List Nat) (h : ∀ a ∈ l, a < 256) : s4 (msk 15 l.length) (s2 (msk 51 l.length) (s1 (msk 85 l.length) (val l))) = val (l.map pop8) := by
  rw [s1_val l h]
  have h2 := s2_val (l.map (s1 85)) (fun x hx => by obtain ⟨a, ha, rfl⟩ := List.mem_map.1 hx; exact (p1 a (h a ha)).1)
  rw [List.length_map] at h2
  rw [h2, List.map_map]
  have h4 := (s4_val (l.map (s2 51 ∘ s1 85)) (fun x hx => by obtain ⟨a, ha, rfl⟩ := List.mem_map.1 hx; exact ⟨(p1 a (h a ha)).2.1, (p1 a (h a ha)).2.2.1⟩)).1
  rw [List.length_map] at h4
  rw [h4, List.map_map]
  rfl
def bytes (x : Nat) : List Nat := [x % 256, x / 256 % 256, x / 65536 % 256, x / 16777216 % 256, x / 4294967296 % 256, x / 1099511627776 % 256, x / 281474976710656 % 256, x / 72057594037927936 % 256]
theorem val_bytes (x : Nat) (h : x < 18446744073709551616) : val (bytes x) = x := by simp only [bytes, val]; omega
theorem bytes_lt (x : Nat) : ∀ a ∈ bytes x, a < 256 := by
  intro a ha
  simp only [bytes, List.mem_cons, List.not_mem_nil, or_false] at ha
  omega
/-- The number of bits that are 1, byte by byte. -/
def pop (x : Nat) : Nat := ((bytes x).map pop8).sum
theorem pop_le (x : Nat) : pop x ≤ 64 := by
  have h := fun a ha => (p1 a (bytes_lt x a ha)).2.2.2.1
  simp only [bytes, List.mem_cons, List.not_mem_nil, or_false, forall_eq_or_imp, forall_eq] at h
  simp only [pop, bytes, List.map_cons, List.map_nil, List.sum_cons, List.sum_nil]
  omega
theorem pop_not (x : Nat) (h : x < 18446744073709551616) : pop x + pop (18446744073709551615 - x) = 64 := by
  have h0 := fun a ha => (p1 a (bytes_lt x a ha)).2.2.2.2
  simp only [bytes, List.mem_cons, List.not_mem_nil, or_false, forall_eq_or_imp, forall_eq] at h0
  simp only [pop, bytes, List.map_cons, List.map_nil, List.sum_cons, List.sum_nil]
  rw [show (18446744073709551615 - x) % 256 = 255 - x % 256 from by omega, show (18446744073709551615 - x) / 256 % 256 = 255 - x / 256 % 256 from by omega, show (18446744073709551615 - x) / 65536 % 256 = 255 - x / 65536 % 256 from by omega,
    show (18446744073709551615 - x) / 16777216 % 256 = 255 - x / 16777216 % 256 from by omega, show (18446744073709551615 - x) / 4294967296 % 256 = 255 - x / 4294967296 % 256 from by omega, show (18446744073709551615 - x) / 1099511627776 % 256 = 255 - x / 1099511627776 % 256 from by omega,
    show (18446744073709551615 - x) / 281474976710656 % 256 = 255 - x / 281474976710656 % 256 from by omega, show (18446744073709551615 - x) / 72057594037927936 % 256 = 255 - x / 72057594037927936 % 256 from by omega]
  omega
theorem pop_sum (x : Nat) (h : x < 18446744073709551616) :
    let z := s4 1085102592571150095 (s2 3689348814741910323 (s1 6148914691236517205 x))
    let z1 := (z + z / 256) % 18446744073709551616
    let z2 := (z1 + z1 / 65536) % 18446744073709551616
    let z3 := (z2 + z2 / 4294967296) % 18446744073709551616
    z < 18446744073709551616 ∧ z3 % 128 = pop x := by
  have h0 := pop_val (bytes x) (bytes_lt x)
  have hb := fun a ha => (p1 a (bytes_lt x a ha)).2.2.2.1
  rw [val_bytes x h] at h0
  have e1 : msk 15 (bytes x).length = 1085102592571150095 := by simp only [bytes, List.length_cons, List.length_nil]; decide +kernel
  have e2 : msk 51 (bytes x).length = 3689348814741910323 := by simp only [bytes, List.length_cons, List.length_nil]; decide +kernel
  have e3 : msk 85 (bytes x).length = 6148914691236517205 := by simp only [bytes, List.length_cons, List.length_nil]; decide +kernel
  rw [e1, e2, e3] at h0
  intro z z1 z2 z3
  have hz : z = val ((bytes x).map pop8) := h0
  unfold pop
  simp only [bytes, List.mem_cons, List.not_mem_nil, or_false, forall_eq_or_imp, forall_eq] at hb
  simp only [bytes, List.map_cons, List.map_nil, List.sum_cons, List.sum_nil, val] at hz ⊢
  have hz1 : z1 = (z + z / 256) % 18446744073709551616 := rfl
  have hz2 : z2 = (z1 + z1 / 65536) % 18446744073709551616 := rfl
  have hz3 : z3 = (z2 + z2 / 4294967296) % 18446744073709551616 := rfl
  clear_value z z1 z2 z3
  clear h0 e1 e2 e3 h
  generalize pop8 (x % 256) = p0 at *
  generalize pop8 (x / 256 % 256) = p1 at *
  generalize pop8 (x / 65536 % 256) = p2 at *
  generalize pop8 (x / 16777216 % 256) = p3 at *
  generalize pop8 (x / 4294967296 % 256) = p4 at *
  generalize pop8 (x / 1099511627776 % 256) = p5 at *
  generalize pop8 (x / 281474976710656 % 256) = p6 at *
  generalize pop8 (x / 72057594037927936 % 256) = p7 at *
  obtain ⟨b0, b1, b2, b3, b4, b5, b6, b7⟩ := hb
  have k0 : z < 18446744073709551616 := by omega
  refine ⟨k0, ?_⟩
  have f0 : z / 256 = p1 + 256 * p2 + 65536 * p3 + 16777216 * p4 + 4294967296 * p5 + 1099511627776 * p6 + 281474976710656 * p7 := by omega
  have f1 : z1 = (p0 + p1) + 256 * (p1 + p2) + 65536 * (p2 + p3) + 16777216 * (p3 + p4) + 4294967296 * (p4 + p5) + 1099511627776 * (p5 + p6) + 281474976710656 * (p6 + p7) + 72057594037927936 * p7 := by omega
  clear hz1 hz f0
  have f2 : z1 / 65536 = (p2 + p3) + 256 * (p3 + p4) + 65536 * (p4 + p5) + 16777216 * (p5 + p6) + 4294967296 * (p6 + p7) + 1099511627776 * p7 := by omega
  have f3 : z2 = (p0 + p1 + p2 + p3) + 256 * (p1 + p2 + p3 + p4) + 65536 * (p2 + p3 + p4 + p5) + 16777216 * (p3 + p4 + p5 + p6) + 4294967296 * (p4 + p5 + p6 + p7) + 1099511627776 * (p5 + p6 + p7) + 281474976710656 * (p6 + p7) + 72057594037927936 * p7 := by omega
  clear hz2 f1 f2
  have f4 : z2 / 4294967296 = (p4 + p5 + p6 + p7) + 256 * (p5 + p6 + p7) + 65536 * (p6 + p7) + 16777216 * p7 := by omega
  omega
/-! A length in bits; the lowest 1. -/
theorem len_top : ∀ (k n : Nat), n < 2 ^ k → n ≠ 0 → k ≤ 64 → 1 ≤ Go.Lib.bitLen n ∧ n / 2 ^ (Go.Lib.bitLen n - 1) = 1
  | 0, n, h, h0, _ => by omega
  | k + 1, n, h, h0, hk => by
    have hn : n < 2 ^ 64 := Nat.lt_of_lt_of_le h (Nat.pow_le_pow_right (by decide) hk)
    have e := Go.Lib.bitLen_half n h0 hn
    by_cases h1 : n / 2 = 0
    · have : Go.Lib.bitLen 0 = 0 := by decide
      rw [h1, this] at e
      rw [e]
      have : n = 1 := by omega
      subst this
      exact ⟨by decide, by decide⟩
    · obtain ⟨i1, i2⟩ := len_top k (n / 2) (by rw [Nat.pow_succ] at h; omega) h1 (by omega)
      refine ⟨by omega, ?_⟩
      rw [e, show 1 + Go.Lib.bitLen (n / 2) - 1 = (Go.Lib.bitLen (n / 2) - 1) + 1 from by omega, Nat.pow_succ, Nat.mul_comm, ← Nat.div_div_eq_div_mul, i2]


theorem shr1 (x : Int) : arI .shr .u64 x 1 = x / 2 := by
  rw [arShr _ _ (by decide) (by decide)]; simp

theorem shr2 (x : Int) : arI .shr .u64 x 2 = x / 4 := by
  rw [arShr _ _ (by decide) (by decide)]; simp

theorem shr4 (x : Int) : arI .shr .u64 x 4 = x / 16 := by
  rw [arShr _ _ (by decide) (by decide)]; simp

theorem shr8 (x : Int) : arI .shr .u64 x 8 = x / 256 := by
  rw [arShr _ _ (by decide) (by decide)]; simp

theorem shr16 (x : Int) : arI .shr .u64 x 16 = x / 65536 := by
  rw [arShr _ _ (by decide) (by decide)]; simp

theorem shr32 (x : Int) : arI .shr .u64 x 32 = x / 4294967296 := by
  rw [arShr _ _ (by decide) (by decide)]; simp

theorem shrw8 (x : Int) : arI .shr .u32 x 8 = x / 256 := by
  show x.fdiv (2 ^ (min (8 : Int).toNat 32)) = _
  rw [Int.fdiv_eq_ediv_of_nonneg _ (by decide)]; simp

theorem shrw16 (x : Int) : arI .shr .u32 x 16 = x / 65536 := by
  show x.fdiv (2 ^ (min (16 : Int).toNat 32)) = _
  rw [Int.fdiv_eq_ediv_of_nonneg _ (by decide)]; simp

theorem shrw24 (x : Int) : arI .shr .u32 x 24 = x / 16777216 := by
  show x.fdiv (2 ^ (min (24 : Int).toNat 32)) = _
  rw [Int.fdiv_eq_ediv_of_nonneg _ (by decide)]; simp

theorem low8w (b : Int) : arI .and .u32 b 255 = b % 256 := by
  show IntKind.u32.wrap ((BitVec.ofInt 32 b &&& BitVec.ofInt 32 255).toNat : Int) = _
  rw [BitVec.toNat_and, BitVec.toNat_ofInt, show (BitVec.ofInt 32 255).toNat = 2 ^ 8 - 1 from by decide, Nat.and_two_pow_sub_one_eq_mod, wrap_u32]
  omega
theorem r1 {a b : Int} (h : a = b) : (some ([a], []) : Option (List Int × List Bool)) = some ([b], []) := by rw [h]
theorem len8_ : ∀ i : Fin 256, LEN8.getD i.val 0 = Lib.bitLen i.val := by decide +kernel
theorem pop8_ : ∀ i : Fin 256, POP8.getD i.val 0 = pop8 i.val := by decide +kernel
theorem len_at (i : Nat) (h : i < 256) : LEN8.getD (IntKind.wrap .u8 (i : Int)).toNat 0 = Lib.bitLen i := by
  rw [wrap_u8, show ((i : Int) % 256).toNat = i from by omega]; exact len8_ ⟨i, h⟩
theorem pop_at (I : Int) (i : Nat) (hI : I = i) (h : i < 256) : POP8.getD I.toNat 0 = pop8 i := by
  rw [hI, Int.toNat_natCast]; exact pop8_ ⟨i, h⟩
theorem len_fin (x s D : Nat) (S I : Int) (hS : S = s) (hD : D = 2 ^ s) (hI : I = ((x / D : Nat) : Int)) (hlt : x / D < 256) (hge : s = 0 ∨ D ≤ x) (hs : s ≤ 64) (hx : x < 18446744073709551616) :
    arI .add .i64 S (IntKind.wrap .i64 ((LEN8.getD (IntKind.wrap .u8 I).toNat 0 : Nat) : Int)) = ((Lib.bitLen x : Nat) : Int) := by
  subst hS hI hD
  rw [len_at _ hlt]
  have h8 : Lib.bitLen (x / 2 ^ s) ≤ 8 := Lib.bitLen_le _ 8 (by decide) hlt
  have e : Lib.bitLen x = s + Lib.bitLen (x / 2 ^ s) := by
    rcases hge with h | h
    · subst h; rw [Nat.pow_zero, Nat.div_one, Nat.zero_add]
    · exact Lib.bitLen_shift s x h hx
  show IntKind.wrap .i64 (_ + IntKind.wrap .i64 _) = _
  rw [wrap_i64, wrap_i64, e]; omega

theorem e19_37 : Tab.fn a19 37 = F37 := Tab.fn_hd
theorem e22_38 : Tab.fn a22 38 = F38 := Tab.fn_hd

set_option maxHeartbeats 4000000 in
theorem q38 (x : Nat) (hx : x < 18446744073709551616) : F38 [(x : Int)] [] = some ([((Lib.bitLen x : Nat) : Int)], []) := by
  refine Eq.trans (Fd_of (n := 1) (m := 0) (t := t38) (C := Tab.fn a38) rfl rfl) ?_
  rw [t38]
  refine st_ite (fun hc => ?_) (fun hc => ?_)
  · replace hc : (decide ((x : Int) ≥ 4294967296)) = true := hc
    have c1 := hc
    clear hc
    refine st_ite (fun hc => ?_) (fun hc => ?_)
    · replace hc : (decide ((arI .shr .u64 (x : Int) 32) ≥ 65536)) = true := hc
      have c2 := hc
      clear hc
      refine st_lb fun b0 hb0 => ?_
      replace hb0 : b0 = (decide ((arI .shr .u64 (arI .shr .u64 (x : Int) 32) 16) ≥ 256)) := hb0
      show T.den _ _ [(x : Int)] [b0] = _
      refine st_ite (fun hc => ?_) (fun hc => ?_)
      · replace hc : b0 = true := hc
        have c3 := hc
        clear hc
        refine st_li fun i1 hi1 => ?_
        replace hi1 : i1 = (arI .shr .u64 (arI .shr .u64 (arI .shr .u64 (x : Int) 32) 16) 8) := hi1
        show T.den _ _ [(x : Int), i1] [b0] = _
        refine st_rq (show ((decide ((IntKind.wrap .u8 i1) ≥ 0)) && (decide ((IntKind.wrap .u8 i1) < 256))) = true from ?_) ?_
        · rw [wrap_u8, Bool.and_eq_true, decide_eq_true_eq, decide_eq_true_eq]; omega
        refine st_ret ?_
        show some ([(arI .add .i64 56 (IntKind.wrap .i64 ((LEN8.getD ((IntKind.wrap .u8 i1)).toNat 0 : Nat) : Int)))], []) = _
        rw [hb0] at c3
        rw [hi1]
        simp only [shr32, shr16, shr8, decide_eq_true_eq, decide_eq_false_iff_not] at c1 c2 c3
        exact r1 (len_fin x 56 72057594037927936 _ _ rfl (by decide) (by simp only [shr32, shr16, shr8]; omega) (by omega) (by omega) (by decide) (by omega))
      · replace hc : b0 = false := hc
        have c4 := hc
        clear hc
        refine st_rq (show ((decide ((IntKind.wrap .u8 (arI .shr .u64 (arI .shr .u64 (x : Int) 32) 16)) ≥ 0)) && (decide ((IntKind.wrap .u8 (arI .shr .u64 (arI .shr .u64 (x : Int) 32) 16)) < 256))) = true from ?_) ?_
        · rw [wrap_u8, Bool.and_eq_true, decide_eq_true_eq, decide_eq_true_eq]; omega
        refine st_li fun i1 hi1 => ?_
        replace hi1 : i1 = ((LEN8.getD ((IntKind.wrap .u8 (arI .shr .u64 (arI .shr .u64 (x : Int) 32) 16))).toNat 0 : Nat) : Int) := hi1
        show T.den _ _ [(x : Int), i1] [b0] = _
        refine st_ret ?_
        show some ([(arI .add .i64 48 (IntKind.wrap .i64 i1))], []) = _
        rw [hb0] at c4
        rw [hi1]
        simp only [shr32, shr16, shr8, decide_eq_true_eq, decide_eq_false_iff_not] at c1 c2 c4
        exact r1 (len_fin x 48 281474976710656 _ _ rfl (by decide) (by simp only [shr32, shr16, shr8]; omega) (by omega) (by omega) (by decide) (by omega))
    · replace hc : (decide ((arI .shr .u64 (x : Int) 32) ≥ 65536)) = false := hc
      have c5 := hc
      clear hc
      refine st_ite (fun hc => ?_) (fun hc => ?_)
      · replace hc : (decide ((arI .shr .u64 (x : Int) 32) ≥ 256)) = true := hc
        have c6 := hc
        clear hc
        refine st_rq (show ((decide ((IntKind.wrap .u8 (arI .shr .u64 (arI .shr .u64 (x : Int) 32) 8)) ≥ 0)) && (decide ((IntKind.wrap .u8 (arI .shr .u64 (arI .shr .u64 (x : Int) 32) 8)) < 256))) = true from ?_) ?_
        · rw [wrap_u8, Bool.and_eq_true, decide_eq_true_eq, decide_eq_true_eq]; omega
        refine st_li fun i1 hi1 => ?_
        replace hi1 : i1 = ((LEN8.getD ((IntKind.wrap .u8 (arI .shr .u64 (arI .shr .u64 (x : Int) 32) 8))).toNat 0 : Nat) : Int) := hi1
        show T.den _ _ [(x : Int), i1] [] = _
        refine st_ret ?_
        show some ([(arI .add .i64 40 (IntKind.wrap .i64 i1))], []) = _
        rw [hi1]
        simp only [shr32, shr16, shr8, decide_eq_true_eq, decide_eq_false_iff_not] at c1 c5 c6
        exact r1 (len_fin x 40 1099511627776 _ _ rfl (by decide) (by simp only [shr32, shr16, shr8]; omega) (by omega) (by omega) (by decide) (by omega))
      · replace hc : (decide ((arI .shr .u64 (x : Int) 32) ≥ 256)) = false := hc
        have c7 := hc
        clear hc
        refine st_rq (show ((decide ((IntKind.wrap .u8 (arI .shr .u64 (x : Int) 32)) ≥ 0)) && (decide ((IntKind.wrap .u8 (arI .shr .u64 (x : Int) 32)) < 256))) = true from ?_) ?_
        · rw [wrap_u8, Bool.and_eq_true, decide_eq_true_eq, decide_eq_true_eq]; omega
        refine st_li fun i1 hi1 => ?_
        replace hi1 : i1 = (arI .add .i64 32 (IntKind.wrap .i64 ((LEN8.getD ((IntKind.wrap .u8 (arI .shr .u64 (x : Int) 32))).toNat 0 : Nat) : Int))) := hi1
        show T.den _ _ [(x : Int), i1] [] = _
        refine st_ret ?_
        show some ([i1], []) = _
        rw [hi1]
        simp only [shr32, shr16, shr8, decide_eq_true_eq, decide_eq_false_iff_not] at c1 c5 c7
        exact r1 (len_fin x 32 4294967296 _ _ rfl (by decide) (by simp only [shr32, shr16, shr8]; omega) (by omega) (by omega) (by decide) (by omega))
  · replace hc : (decide ((x : Int) ≥ 4294967296)) = false := hc
    have c8 := hc
    clear hc
    refine st_ite (fun hc => ?_) (fun hc => ?_)
    · replace hc : (decide ((x : Int) ≥ 65536)) = true := hc
      have c9 := hc
      clear hc
      refine st_ite (fun hc => ?_) (fun hc => ?_)
      · replace hc : (decide ((arI .shr .u64 (x : Int) 16) ≥ 256)) = true := hc
        have c10 := hc
        clear hc
        refine st_rq (show ((decide ((IntKind.wrap .u8 (arI .shr .u64 (arI .shr .u64 (x : Int) 16) 8)) ≥ 0)) && (decide ((IntKind.wrap .u8 (arI .shr .u64 (arI .shr .u64 (x : Int) 16) 8)) < 256))) = true from ?_) ?_
        · rw [wrap_u8, Bool.and_eq_true, decide_eq_true_eq, decide_eq_true_eq]; omega
        refine st_li fun i1 hi1 => ?_
        replace hi1 : i1 = ((LEN8.getD ((IntKind.wrap .u8 (arI .shr .u64 (arI .shr .u64 (x : Int) 16) 8))).toNat 0 : Nat) : Int) := hi1
        show T.den _ _ [(x : Int), i1] [] = _
        refine st_ret ?_
        show some ([(arI .add .i64 24 (IntKind.wrap .i64 i1))], []) = _
        rw [hi1]
        simp only [shr32, shr16, shr8, decide_eq_true_eq, decide_eq_false_iff_not] at c8 c9 c10
        exact r1 (len_fin x 24 16777216 _ _ rfl (by decide) (by simp only [shr32, shr16, shr8]; omega) (by omega) (by omega) (by decide) (by omega))
      · replace hc : (decide ((arI .shr .u64 (x : Int) 16) ≥ 256)) = false := hc
        have c11 := hc
        clear hc
        refine st_rq (show ((decide ((IntKind.wrap .u8 (arI .shr .u64 (x : Int) 16)) ≥ 0)) && (decide ((IntKind.wrap .u8 (arI .shr .u64 (x : Int) 16)) < 256))) = true from ?_) ?_
        · rw [wrap_u8, Bool.and_eq_true, decide_eq_true_eq, decide_eq_true_eq]; omega
        refine st_li fun i1 hi1 => ?_
        replace hi1 : i1 = (arI .add .i64 16 (IntKind.wrap .i64 ((LEN8.getD ((IntKind.wrap .u8 (arI .shr .u64 (x : Int) 16))).toNat 0 : Nat) : Int))) := hi1
        show T.den _ _ [(x : Int), i1] [] = _
        refine st_ret ?_
        show some ([i1], []) = _
        rw [hi1]
        simp only [shr32, shr16, shr8, decide_eq_true_eq, decide_eq_false_iff_not] at c8 c9 c11
        exact r1 (len_fin x 16 65536 _ _ rfl (by decide) (by simp only [shr32, shr16, shr8]; omega) (by omega) (by omega) (by decide) (by omega))
    · replace hc : (decide ((x : Int) ≥ 65536)) = false := hc
      have c12 := hc
      clear hc
      refine st_ite (fun hc => ?_) (fun hc => ?_)
      · replace hc : (decide ((x : Int) ≥ 256)) = true := hc
        have c13 := hc
        clear hc
        refine st_rq (show ((decide ((IntKind.wrap .u8 (arI .shr .u64 (x : Int) 8)) ≥ 0)) && (decide ((IntKind.wrap .u8 (arI .shr .u64 (x : Int) 8)) < 256))) = true from ?_) ?_
        · rw [wrap_u8, Bool.and_eq_true, decide_eq_true_eq, decide_eq_true_eq]; omega
        refine st_li fun i1 hi1 => ?_
        replace hi1 : i1 = (arI .add .i64 8 (IntKind.wrap .i64 ((LEN8.getD ((IntKind.wrap .u8 (arI .shr .u64 (x : Int) 8))).toNat 0 : Nat) : Int))) := hi1
        show T.den _ _ [(x : Int), i1] [] = _
        refine st_ret ?_
        show some ([i1], []) = _
        rw [hi1]
        simp only [shr32, shr16, shr8, decide_eq_true_eq, decide_eq_false_iff_not] at c8 c12 c13
        exact r1 (len_fin x 8 256 _ _ rfl (by decide) (by simp only [shr32, shr16, shr8]; omega) (by omega) (by omega) (by decide) (by omega))
      · replace hc : (decide ((x : Int) ≥ 256)) = false := hc
        have c14 := hc
        clear hc
        refine st_rq (show ((decide ((IntKind.wrap .u8 (x : Int)) ≥ 0)) && (decide ((IntKind.wrap .u8 (x : Int)) < 256))) = true from ?_) ?_
        · rw [wrap_u8, Bool.and_eq_true, decide_eq_true_eq, decide_eq_true_eq]; omega
        refine st_ret ?_
        show some ([(arI .add .i64 0 (IntKind.wrap .i64 ((LEN8.getD ((IntKind.wrap .u8 (x : Int))).toNat 0 : Nat) : Int)))], []) = _
        simp only [shr32, shr16, shr8, decide_eq_true_eq, decide_eq_false_iff_not] at c8 c12 c14
        exact r1 (len_fin x 0 1 _ _ rfl (by decide) (by omega) (by omega) (by omega) (by decide) (by omega))

set_option maxHeartbeats 4000000 in
theorem q37 (x : Nat) (hx : x < 4294967296) : F37 [(x : Int)] [] = some ([((Lib.bitLen x : Nat) : Int)], []) := by
  refine Eq.trans (Fd_of (n := 1) (m := 0) (t := t37) (C := Tab.fn a37) rfl rfl) ?_
  rw [t37]
  refine st_ite (fun hc => ?_) (fun hc => ?_)
  · replace hc : (decide ((x : Int) ≥ 65536)) = true := hc
    have c1 := hc
    clear hc
    refine st_ite (fun hc => ?_) (fun hc => ?_)
    · replace hc : (decide ((arI .shr .u32 (x : Int) 16) ≥ 256)) = true := hc
      have c2 := hc
      clear hc
      refine st_rq (show ((decide ((IntKind.wrap .u8 (arI .shr .u32 (arI .shr .u32 (x : Int) 16) 8)) ≥ 0)) && (decide ((IntKind.wrap .u8 (arI .shr .u32 (arI .shr .u32 (x : Int) 16) 8)) < 256))) = true from ?_) ?_
      · rw [wrap_u8, Bool.and_eq_true, decide_eq_true_eq, decide_eq_true_eq]; omega
      refine st_li fun i1 hi1 => ?_
      replace hi1 : i1 = ((LEN8.getD ((IntKind.wrap .u8 (arI .shr .u32 (arI .shr .u32 (x : Int) 16) 8))).toNat 0 : Nat) : Int) := hi1
      show T.den _ _ [(x : Int), i1] [] = _
      refine st_ret ?_
      show some ([(arI .add .i64 24 (IntKind.wrap .i64 i1))], []) = _
      rw [hi1]
      simp only [shrw16, shrw8, decide_eq_true_eq, decide_eq_false_iff_not] at c1 c2
      exact r1 (len_fin x 24 16777216 _ _ rfl (by decide) (by simp only [shrw16, shrw8]; omega) (by omega) (by omega) (by decide) (by omega))
    · replace hc : (decide ((arI .shr .u32 (x : Int) 16) ≥ 256)) = false := hc
      have c3 := hc
      clear hc
      refine st_rq (show ((decide ((IntKind.wrap .u8 (arI .shr .u32 (x : Int) 16)) ≥ 0)) && (decide ((IntKind.wrap .u8 (arI .shr .u32 (x : Int) 16)) < 256))) = true from ?_) ?_
      · rw [wrap_u8, Bool.and_eq_true, decide_eq_true_eq, decide_eq_true_eq]; omega
      refine st_li fun i1 hi1 => ?_
      replace hi1 : i1 = (arI .add .i64 16 (IntKind.wrap .i64 ((LEN8.getD ((IntKind.wrap .u8 (arI .shr .u32 (x : Int) 16))).toNat 0 : Nat) : Int))) := hi1
      show T.den _ _ [(x : Int), i1] [] = _
      refine st_ret ?_
      show some ([i1], []) = _
      rw [hi1]
      simp only [shrw16, shrw8, decide_eq_true_eq, decide_eq_false_iff_not] at c1 c3
      exact r1 (len_fin x 16 65536 _ _ rfl (by decide) (by simp only [shrw16, shrw8]; omega) (by omega) (by omega) (by decide) (by omega))
  · replace hc : (decide ((x : Int) ≥ 65536)) = false := hc
    have c4 := hc
    clear hc
    refine st_ite (fun hc => ?_) (fun hc => ?_)
    · replace hc : (decide ((x : Int) ≥ 256)) = true := hc
      have c5 := hc
      clear hc
      refine st_rq (show ((decide ((IntKind.wrap .u8 (arI .shr .u32 (x : Int) 8)) ≥ 0)) && (decide ((IntKind.wrap .u8 (arI .shr .u32 (x : Int) 8)) < 256))) = true from ?_) ?_
      · rw [wrap_u8, Bool.and_eq_true, decide_eq_true_eq, decide_eq_true_eq]; omega
      refine st_li fun i1 hi1 => ?_
      replace hi1 : i1 = (arI .add .i64 8 (IntKind.wrap .i64 ((LEN8.getD ((IntKind.wrap .u8 (arI .shr .u32 (x : Int) 8))).toNat 0 : Nat) : Int))) := hi1
      show T.den _ _ [(x : Int), i1] [] = _
      refine st_ret ?_
      show some ([i1], []) = _
      rw [hi1]
      simp only [shrw16, shrw8, decide_eq_true_eq, decide_eq_false_iff_not] at c4 c5
      exact r1 (len_fin x 8 256 _ _ rfl (by decide) (by simp only [shrw16, shrw8]; omega) (by omega) (by omega) (by decide) (by omega))
    · replace hc : (decide ((x : Int) ≥ 256)) = false := hc
      have c6 := hc
      clear hc
      refine st_rq (show ((decide ((IntKind.wrap .u8 (x : Int)) ≥ 0)) && (decide ((IntKind.wrap .u8 (x : Int)) < 256))) = true from ?_) ?_
      · rw [wrap_u8, Bool.and_eq_true, decide_eq_true_eq, decide_eq_true_eq]; omega
      refine st_ret ?_
      show some ([(arI .add .i64 0 (IntKind.wrap .i64 ((LEN8.getD ((IntKind.wrap .u8 (x : Int))).toNat 0 : Nat) : Int)))], []) = _
      simp only [shrw16, shrw8, decide_eq_true_eq, decide_eq_false_iff_not] at c4 c6
      exact r1 (len_fin x 0 1 _ _ rfl (by decide) (by omega) (by omega) (by omega) (by decide) (by omega))

set_option maxHeartbeats 4000000 in
theorem q21 (x : Nat) (hx : x < 4294967296) : F21 [(x : Int)] [] = some ([((pop x : Nat) : Int)], []) := by
  refine Eq.trans (Fd_of (n := 1) (m := 0) (t := t21) (C := Tab.fn a21) rfl rfl) ?_
  rw [t21]
  refine st_rq (show ((decide ((arI .shr .u32 (x : Int) 24) ≥ 0)) && (decide ((arI .shr .u32 (x : Int) 24) < 256))) = true from ?_) ?_
  · simp only [shrw24, shrw16, shrw8, low8w, Bool.and_eq_true, decide_eq_true_eq]; omega
  refine st_rq (show ((decide ((arI .and .u32 (arI .shr .u32 (x : Int) 16) 255) ≥ 0)) && (decide ((arI .and .u32 (arI .shr .u32 (x : Int) 16) 255) < 256))) = true from ?_) ?_
  · simp only [shrw24, shrw16, shrw8, low8w, Bool.and_eq_true, decide_eq_true_eq]; omega
  refine st_li fun i1 hi1 => ?_
  replace hi1 : i1 = (arI .add .u8 ((POP8.getD ((arI .shr .u32 (x : Int) 24)).toNat 0 : Nat) : Int) ((POP8.getD ((arI .and .u32 (arI .shr .u32 (x : Int) 16) 255)).toNat 0 : Nat) : Int)) := hi1
  show T.den _ _ [(x : Int), i1] [] = _
  refine st_rq (show ((decide ((arI .and .u32 (arI .shr .u32 (x : Int) 8) 255) ≥ 0)) && (decide ((arI .and .u32 (arI .shr .u32 (x : Int) 8) 255) < 256))) = true from ?_) ?_
  · simp only [shrw24, shrw16, shrw8, low8w, Bool.and_eq_true, decide_eq_true_eq]; omega
  refine st_li fun i2 hi2 => ?_
  replace hi2 : i2 = (arI .add .u8 i1 ((POP8.getD ((arI .and .u32 (arI .shr .u32 (x : Int) 8) 255)).toNat 0 : Nat) : Int)) := hi2
  show T.den _ _ [(x : Int), i1, i2] [] = _
  refine st_rq (show ((decide ((arI .and .u32 (x : Int) 255) ≥ 0)) && (decide ((arI .and .u32 (x : Int) 255) < 256))) = true from ?_) ?_
  · simp only [shrw24, shrw16, shrw8, low8w, Bool.and_eq_true, decide_eq_true_eq]; omega
  refine st_li fun i3 hi3 => ?_
  replace hi3 : i3 = (IntKind.wrap .i64 (arI .add .u8 i2 ((POP8.getD ((arI .and .u32 (x : Int) 255)).toNat 0 : Nat) : Int))) := hi3
  show T.den _ _ [(x : Int), i1, i2, i3] [] = _
  refine st_ret ?_
  show some ([i3], []) = _
  have k0 := (p1 (x / 16777216) (by omega)).2.2.2.1
  have k1 := (p1 (x / 65536 % 256) (by omega)).2.2.2.1
  have k2 := (p1 (x / 256 % 256) (by omega)).2.2.2.1
  have k3 := (p1 (x % 256) (by omega)).2.2.2.1
  have z : pop8 0 = 0 := by decide
  rw [pop_at (arI .shr .u32 (x : Int) 24) (x / 16777216) (by rw [shrw24]; omega) (by omega), pop_at (arI .and .u32 (arI .shr .u32 (x : Int) 16) 255) (x / 65536 % 256) (by rw [low8w, shrw16]; omega) (by omega)] at hi1
  rw [pop_at (arI .and .u32 (arI .shr .u32 (x : Int) 8) 255) (x / 256 % 256) (by rw [low8w, shrw8]; omega) (by omega)] at hi2
  rw [pop_at (arI .and .u32 (x : Int) 255) (x % 256) (by rw [low8w]; omega) (by omega)] at hi3
  have a8 : ∀ a b : Int, arI .add .u8 a b = (a + b) % 256 := fun a b => wrap_u8 _
  rw [a8] at hi1 hi2 hi3
  rw [wrap_i64] at hi3
  refine r1 ?_
  unfold pop bytes
  simp only [List.map_cons, List.map_nil, List.sum_cons, List.sum_nil]
  rw [show x / 16777216 % 256 = x / 16777216 from by omega, show x / 4294967296 % 256 = 0 from by omega, show x / 1099511627776 % 256 = 0 from by omega, show x / 281474976710656 % 256 = 0 from by omega, show x / 72057594037927936 % 256 = 0 from by omega, z]
  omega

theorem s4_lt (m x : Nat) (h : m < 2 ^ 64) : s4 m x < 2 ^ 64 := Nat.lt_of_le_of_lt Nat.and_le_right h
theorem s2_lt (m x : Nat) (h : m < 2 ^ 63) : s2 m x < 2 ^ 64 := by
  have h1 : x / 4 &&& m ≤ m := Nat.and_le_right
  have h2 : x &&& m ≤ m := Nat.and_le_right
  unfold s2; omega
theorem s1_lt (m x : Nat) (h : m < 2 ^ 63) : s1 m x < 2 ^ 64 := by
  have h1 : x / 2 &&& m ≤ m := Nat.and_le_right
  have h2 : x &&& m ≤ m := Nat.and_le_right
  unfold s1; omega
theorem st1 (x m : Nat) (M : Int) (hM : M = m) (hx : x < 2 ^ 64) (hm : m < 2 ^ 63) : arI .add .u64 (arI .and .u64 (arI .shr .u64 (x : Int) 1) M) (arI .and .u64 (x : Int) M) = ((s1 m x : Nat) : Int) := by
  subst hM
  have h := s1_lt m x hm
  rw [shr1, show (x : Int) / 2 = ((x / 2 : Nat) : Int) from by omega, band _ _ (by omega) (by omega), band _ _ hx (by omega), arAdd]
  unfold s1 at h ⊢; omega
theorem st2 (x m : Nat) (M : Int) (hM : M = m) (hx : x < 2 ^ 64) (hm : m < 2 ^ 63) : arI .add .u64 (arI .and .u64 (arI .shr .u64 (x : Int) 2) M) (arI .and .u64 (x : Int) M) = ((s2 m x : Nat) : Int) := by
  subst hM
  have h := s2_lt m x hm
  rw [shr2, show (x : Int) / 4 = ((x / 4 : Nat) : Int) from by omega, band _ _ (by omega) (by omega), band _ _ hx (by omega), arAdd]
  unfold s2 at h ⊢; omega
theorem s1_le (l : List Nat) (h : ∀ a ∈ l, a < 256) : ∀ a ∈ l.map (s1 85), a < 256 := fun x hx => by obtain ⟨a, ha, rfl⟩ := List.mem_map.1 hx; exact (p1 a (h a ha)).1
theorem s2_le (x : Nat) (h : x < 18446744073709551616) : s2 3689348814741910323 (s1 6148914691236517205 x) ≤ 4919131752989213764 := by
  have e2 : msk 51 (bytes x).length = 3689348814741910323 := by simp only [bytes, List.length_cons, List.length_nil]; decide +kernel
  have e3 : msk 85 (bytes x).length = 6148914691236517205 := by simp only [bytes, List.length_cons, List.length_nil]; decide +kernel
  have h1 := s1_val (bytes x) (bytes_lt x)
  have h2 := s2_val ((bytes x).map (s1 85)) (s1_le _ (bytes_lt x))
  rw [List.length_map] at h2
  rw [val_bytes x h, e3] at h1
  rw [e2, ← h1] at h2
  rw [h2]
  have hb := fun a ha => (p1 a (bytes_lt x a ha)).2.1
  simp only [bytes, List.mem_cons, List.not_mem_nil, or_false, forall_eq_or_imp, forall_eq] at hb
  simp only [bytes, List.map_cons, List.map_nil, val]
  omega
theorem low7 (b : Int) : arI .and .i64 b 127 = b % 128 := by
  show IntKind.i64.wrap ((BitVec.ofInt 64 b &&& BitVec.ofInt 64 127).toNat : Int) = _
  rw [BitVec.toNat_and, BitVec.toNat_ofInt, show (BitVec.ofInt 64 127).toNat = 2 ^ 7 - 1 from by decide, Nat.and_two_pow_sub_one_eq_mod, wrap_i64]
  omega

theorem padd (z K : Nat) (k : Int) (hk : k = ((z / K : Nat) : Int)) : arI .add .u64 (z : Int) k = (((z + z / K) % 18446744073709551616 : Nat) : Int) := by
  rw [arAdd, hk, Int.natCast_emod, Int.natCast_add]; rfl
theorem fin7 (z : Nat) : (((z : Int) + 9223372036854775808) % 18446744073709551616 - 9223372036854775808) % 128 = ((z % 128 : Nat) : Int) := by omega
theorem pop_fin (z : Nat) (i4 i5 i6 : Int) (h4 : i4 = (arI .shr .u64 (arI .add .u64 (z : Int) (arI .shr .u64 (z : Int) 8)) 16)) (h5 : i5 = (arI .add .u64 (arI .add .u64 (z : Int) (arI .shr .u64 (z : Int) 8)) i4))
    (h6 : i6 = (arI .and .i64 (IntKind.wrap .i64 (arI .add .u64 i5 (arI .shr .u64 i5 32))) 127)) :
    i6 = (((((z + z / 256) % 18446744073709551616 + (z + z / 256) % 18446744073709551616 / 65536) % 18446744073709551616 + ((z + z / 256) % 18446744073709551616 + (z + z / 256) % 18446744073709551616 / 65536) % 18446744073709551616 / 4294967296) % 18446744073709551616 % 128 : Nat) : Int) := by
  have f1 := padd z 256 (arI .shr .u64 (z : Int) 8) (by rw [shr8]; omega)
  generalize (z + z / 256) % 18446744073709551616 = z1 at f1 ⊢
  rw [f1] at h4 h5
  have f2 := padd z1 65536 i4 (by rw [h4, shr16]; omega)
  generalize (z1 + z1 / 65536) % 18446744073709551616 = z2 at f2 ⊢
  rw [f2] at h5
  subst h5
  have f3 := padd z2 4294967296 (arI .shr .u64 (z2 : Int) 32) (by rw [shr32]; omega)
  generalize (z2 + z2 / 4294967296) % 18446744073709551616 = z3 at f3 ⊢
  rw [h6, f3, low7, wrap_i64]
  exact fin7 z3

set_option maxHeartbeats 4000000 in
theorem q24 (x : Nat) (hx : x < 18446744073709551616) : F24 [(x : Int)] [] = some ([((pop x : Nat) : Int)], []) := by
  refine Eq.trans (Fd_of (n := 1) (m := 0) (t := t24) (C := Tab.fn a24) rfl rfl) ?_
  rw [t24]
  refine st_li fun i1 hi1 => ?_
  replace hi1 : i1 = (arI .add .u64 (arI .and .u64 (arI .shr .u64 (x : Int) 1) 6148914691236517205) (arI .and .u64 (x : Int) 6148914691236517205)) := hi1
  show T.den _ _ [(x : Int), i1] [] = _
  refine st_li fun i2 hi2 => ?_
  replace hi2 : i2 = (arI .add .u64 (arI .and .u64 (arI .shr .u64 i1 2) 3689348814741910323) (arI .and .u64 i1 3689348814741910323)) := hi2
  show T.den _ _ [(x : Int), i1, i2] [] = _
  refine st_li fun i3 hi3 => ?_
  replace hi3 : i3 = (arI .and .u64 (arI .add .u64 (arI .shr .u64 i2 4) i2) 1085102592571150095) := hi3
  show T.den _ _ [(x : Int), i1, i2, i3] [] = _
  refine st_li fun i4 hi4 => ?_
  replace hi4 : i4 = (arI .shr .u64 (arI .add .u64 i3 (arI .shr .u64 i3 8)) 16) := hi4
  show T.den _ _ [(x : Int), i1, i2, i3, i4] [] = _
  refine st_li fun i5 hi5 => ?_
  replace hi5 : i5 = (arI .add .u64 (arI .add .u64 i3 (arI .shr .u64 i3 8)) i4) := hi5
  show T.den _ _ [(x : Int), i1, i2, i3, i4, i5] [] = _
  refine st_li fun i6 hi6 => ?_
  replace hi6 : i6 = (arI .and .i64 (IntKind.wrap .i64 (arI .add .u64 i5 (arI .shr .u64 i5 32))) 127) := hi6
  show T.den _ _ [(x : Int), i1, i2, i3, i4, i5, i6] [] = _
  refine st_ret ?_
  show some ([i6], []) = _
  rw [st1 x 6148914691236517205 6148914691236517205 rfl hx (by decide)] at hi1
  subst hi1
  rw [st2 _ 3689348814741910323 3689348814741910323 rfl (s1_lt _ _ (by decide)) (by decide)] at hi2
  subst hi2
  obtain ⟨hz, hp⟩ := pop_sum x hx
  have hle := s2_le x hx
  have e3 : i3 = ((s4 1085102592571150095 (s2 3689348814741910323 (s1 6148914691236517205 x)) : Nat) : Int) := by
    rw [hi3, shr4, arAdd]
    generalize s2 3689348814741910323 (s1 6148914691236517205 x) = y at hle
    rw [show ((y : Int) / 16 + y) % 18446744073709551616 = ((y / 16 + y : Nat) : Int) from by omega, show (1085102592571150095 : Int) = ((1085102592571150095 : Nat) : Int) from rfl, band _ _ (by omega) (by decide)]
    rfl
  clear hi3
  subst e3
  exact r1 (hp ▸ pop_fin _ _ _ _ hi4 hi5 hi6)

set_option maxHeartbeats 4000000 in
theorem q19 (x : Nat) (hx : x < 4294967296) : F19 [(x : Int)] [] = some ([((32 - Lib.bitLen x : Nat) : Int)], []) := by
  refine Eq.trans (Fd_of (n := 1) (m := 0) (t := t19) (C := Tab.fn a19) rfl rfl) ?_
  rw [t19]
  refine st_1_0 (e19_37) (g := true) rfl (l := [(x : Int)]) rfl (m := []) rfl (cl_t (q37 x hx)) fun i1 hi1 => ?_
  show T.den _ _ [(x : Int), i1] [] = _
  refine st_ret ?_
  show some ([(arI .sub .i64 32 i1)], []) = _
  have hl := Lib.bitLen_le x 32 (by decide) hx
  refine r1 ?_
  rw [hi1]
  show IntKind.wrap .i64 (32 - _) = _
  rw [wrap_i64]; omega

set_option maxHeartbeats 4000000 in
theorem q22 (x : Nat) (hx : x < 18446744073709551616) : F22 [(x : Int)] [] = some ([((64 - Lib.bitLen x : Nat) : Int)], []) := by
  refine Eq.trans (Fd_of (n := 1) (m := 0) (t := t22) (C := Tab.fn a22) rfl rfl) ?_
  rw [t22]
  refine st_1_0 (e22_38) (g := true) rfl (l := [(x : Int)]) rfl (m := []) rfl (cl_t (q38 x hx)) fun i1 hi1 => ?_
  show T.den _ _ [(x : Int), i1] [] = _
  refine st_ret ?_
  show some ([(arI .sub .i64 64 i1)], []) = _
  have hl := Lib.bitLen_le x 64 (by decide) hx
  refine r1 ?_
  rw [hi1]
  show IntKind.wrap .i64 (64 - _) = _
  rw [wrap_i64]; omega

theorem F20_one (x : Int) : F20 [x] [] = (Tabs.tz32f x).map (fun r => ([r], ([] : List Bool))) := rfl
theorem q20 (x : Nat) (hx : x < 4294967296) : F20 [(x : Int)] [] = some ([((Lib.ctz 32 x : Nat) : Int)], []) := by
  have h1 : Tabs.tz32f (x : Int) = some ((Lib.ctz 32 x : Nat) : Int) := by
    unfold Tabs.tz32f
    rw [if_pos (by omega), Int.toNat_natCast]
  rw [F20_one, h1, Option.map_some]

theorem F23_one (x : Int) : F23 [x] [] = (Tabs.tz64f x).map (fun r => ([r], ([] : List Bool))) := rfl
theorem q23 (x : Nat) (hx : x < 18446744073709551616) : F23 [(x : Int)] [] = some ([((Lib.ctz 64 x : Nat) : Int)], []) := by
  have h1 : Tabs.tz64f (x : Int) = some ((Lib.ctz 64 x : Nat) : Int) := by
    unfold Tabs.tz64f
    rw [if_pos (by omega), Int.toNat_natCast]
  rw [F23_one, h1, Option.map_some]

theorem e11_16 : Tab.fn a11 16 = F16 := Tab.fn_hd
theorem e11_19 : Tab.fn a11 19 = F19 := ((Tab.fn_tl rfl).trans Tab.fn_hd)
theorem e11_20 : Tab.fn a11 20 = F20 := ((Tab.fn_tl rfl).trans ((Tab.fn_tl rfl).trans Tab.fn_hd))
theorem e11_21 : Tab.fn a11 21 = F21 := ((Tab.fn_tl rfl).trans ((Tab.fn_tl rfl).trans ((Tab.fn_tl rfl).trans Tab.fn_hd)))
theorem e11_22 : Tab.fn a11 22 = F22 := ((Tab.fn_tl rfl).trans ((Tab.fn_tl rfl).trans ((Tab.fn_tl rfl).trans ((Tab.fn_tl rfl).trans Tab.fn_hd))))
theorem e11_23 : Tab.fn a11 23 = F23 := ((Tab.fn_tl rfl).trans ((Tab.fn_tl rfl).trans ((Tab.fn_tl rfl).trans ((Tab.fn_tl rfl).trans ((Tab.fn_tl rfl).trans Tab.fn_hd)))))
theorem e11_24 : Tab.fn a11 24 = F24 := ((Tab.fn_tl rfl).trans ((Tab.fn_tl rfl).trans ((Tab.fn_tl rfl).trans ((Tab.fn_tl rfl).trans ((Tab.fn_tl rfl).trans ((Tab.fn_tl rfl).trans Tab.fn_hd))))))

set_option maxHeartbeats 4000000 in
theorem q11_105 (a : Int) (A : Nat) (ha : a = A) (hA : A < 4294967296) : F11 [(105 : Int), a] [] = some ([(IntKind.wrap .u64 ((pop A : Nat) : Int))], [true]) := by
  refine Eq.trans (Fd_of (n := 2) (m := 0) (t := t11) (C := Tab.fn a11) rfl rfl) ?_
  rw [t11]
  refine st_itf (show ((105 : Int) == 69) = false from by kernel_rfl) ?_
  refine st_itf (show ((105 : Int) == 80) = false from by kernel_rfl) ?_
  refine st_itf (show ((105 : Int) == 103) = false from by kernel_rfl) ?_
  refine st_itf (show ((105 : Int) == 104) = false from by kernel_rfl) ?_
  refine st_itt (show ((105 : Int) == 105) = true from by kernel_rfl) ?_
  refine st_1_0 (e11_21) (g := true) rfl (l := [(IntKind.wrap .u32 a)]) rfl (m := []) rfl (cl_t ((congrArg (fun z => F21 [z] []) (show (IntKind.wrap .u32 a) = (A : Int) from by rw [ha, wrap_u32]; omega)).trans (q21 A hA))) fun i2 hi2 => ?_
  show T.den _ _ [(105 : Int), a, i2] [] = _
  refine st_ret ?_
  show some ([(IntKind.wrap .u64 i2)], [true]) = _
  subst hi2
  rfl

set_option maxHeartbeats 4000000 in
theorem q11_103 (a : Int) (A : Nat) (ha : a = A) (hA : A < 4294967296) : F11 [(103 : Int), a] [] = some ([(IntKind.wrap .u64 ((32 - Lib.bitLen A : Nat) : Int))], [true]) := by
  refine Eq.trans (Fd_of (n := 2) (m := 0) (t := t11) (C := Tab.fn a11) rfl rfl) ?_
  rw [t11]
  refine st_itf (show ((103 : Int) == 69) = false from by kernel_rfl) ?_
  refine st_itf (show ((103 : Int) == 80) = false from by kernel_rfl) ?_
  refine st_itt (show ((103 : Int) == 103) = true from by kernel_rfl) ?_
  refine st_1_0 (e11_19) (g := true) rfl (l := [(IntKind.wrap .u32 a)]) rfl (m := []) rfl (cl_t ((congrArg (fun z => F19 [z] []) (show (IntKind.wrap .u32 a) = (A : Int) from by rw [ha, wrap_u32]; omega)).trans (q19 A hA))) fun i2 hi2 => ?_
  show T.den _ _ [(103 : Int), a, i2] [] = _
  refine st_ret ?_
  show some ([(IntKind.wrap .u64 i2)], [true]) = _
  subst hi2
  rfl

set_option maxHeartbeats 4000000 in
theorem q11_104 (a : Int) (A : Nat) (ha : a = A) (hA : A < 4294967296) : F11 [(104 : Int), a] [] = some ([(IntKind.wrap .u64 ((Lib.ctz 32 A : Nat) : Int))], [true]) := by
  refine Eq.trans (Fd_of (n := 2) (m := 0) (t := t11) (C := Tab.fn a11) rfl rfl) ?_
  rw [t11]
  refine st_itf (show ((104 : Int) == 69) = false from by kernel_rfl) ?_
  refine st_itf (show ((104 : Int) == 80) = false from by kernel_rfl) ?_
  refine st_itf (show ((104 : Int) == 103) = false from by kernel_rfl) ?_
  refine st_itt (show ((104 : Int) == 104) = true from by kernel_rfl) ?_
  refine st_1_0 (e11_20) (g := true) rfl (l := [(IntKind.wrap .u32 a)]) rfl (m := []) rfl (cl_t ((congrArg (fun z => F20 [z] []) (show (IntKind.wrap .u32 a) = (A : Int) from by rw [ha, wrap_u32]; omega)).trans (q20 A hA))) fun i2 hi2 => ?_
  show T.den _ _ [(104 : Int), a, i2] [] = _
  refine st_ret ?_
  show some ([(IntKind.wrap .u64 i2)], [true]) = _
  subst hi2
  rfl

set_option maxHeartbeats 4000000 in
theorem q11_123 (a : Int) (A : Nat) (ha : a = A) (hA : A < 18446744073709551616) : F11 [(123 : Int), a] [] = some ([(IntKind.wrap .u64 ((pop A : Nat) : Int))], [true]) := by
  refine Eq.trans (Fd_of (n := 2) (m := 0) (t := t11) (C := Tab.fn a11) rfl rfl) ?_
  rw [t11]
  refine st_itf (show ((123 : Int) == 69) = false from by kernel_rfl) ?_
  refine st_itf (show ((123 : Int) == 80) = false from by kernel_rfl) ?_
  refine st_itf (show ((123 : Int) == 103) = false from by kernel_rfl) ?_
  refine st_itf (show ((123 : Int) == 104) = false from by kernel_rfl) ?_
  refine st_itf (show ((123 : Int) == 105) = false from by kernel_rfl) ?_
  refine st_itf (show ((123 : Int) == 121) = false from by kernel_rfl) ?_
  refine st_itf (show ((123 : Int) == 122) = false from by kernel_rfl) ?_
  refine st_itt (show ((123 : Int) == 123) = true from by kernel_rfl) ?_
  refine st_1_0 (e11_24) (g := true) rfl (l := [a]) rfl (m := []) rfl (cl_t ((congrArg (fun z => F24 [z] []) (show a = (A : Int) from by rw [ha])).trans (q24 A hA))) fun i2 hi2 => ?_
  show T.den _ _ [(123 : Int), a, i2] [] = _
  refine st_ret ?_
  show some ([(IntKind.wrap .u64 i2)], [true]) = _
  subst hi2
  rfl

set_option maxHeartbeats 4000000 in
theorem q11_121 (a : Int) (A : Nat) (ha : a = A) (hA : A < 18446744073709551616) : F11 [(121 : Int), a] [] = some ([(IntKind.wrap .u64 ((64 - Lib.bitLen A : Nat) : Int))], [true]) := by
  refine Eq.trans (Fd_of (n := 2) (m := 0) (t := t11) (C := Tab.fn a11) rfl rfl) ?_
  rw [t11]
  refine st_itf (show ((121 : Int) == 69) = false from by kernel_rfl) ?_
  refine st_itf (show ((121 : Int) == 80) = false from by kernel_rfl) ?_
  refine st_itf (show ((121 : Int) == 103) = false from by kernel_rfl) ?_
  refine st_itf (show ((121 : Int) == 104) = false from by kernel_rfl) ?_
  refine st_itf (show ((121 : Int) == 105) = false from by kernel_rfl) ?_
  refine st_itt (show ((121 : Int) == 121) = true from by kernel_rfl) ?_
  refine st_1_0 (e11_22) (g := true) rfl (l := [a]) rfl (m := []) rfl (cl_t ((congrArg (fun z => F22 [z] []) (show a = (A : Int) from by rw [ha])).trans (q22 A hA))) fun i2 hi2 => ?_
  show T.den _ _ [(121 : Int), a, i2] [] = _
  refine st_ret ?_
  show some ([(IntKind.wrap .u64 i2)], [true]) = _
  subst hi2
  rfl

set_option maxHeartbeats 4000000 in
theorem q11_122 (a : Int) (A : Nat) (ha : a = A) (hA : A < 18446744073709551616) : F11 [(122 : Int), a] [] = some ([(IntKind.wrap .u64 ((Lib.ctz 64 A : Nat) : Int))], [true]) := by
  refine Eq.trans (Fd_of (n := 2) (m := 0) (t := t11) (C := Tab.fn a11) rfl rfl) ?_
  rw [t11]
  refine st_itf (show ((122 : Int) == 69) = false from by kernel_rfl) ?_
  refine st_itf (show ((122 : Int) == 80) = false from by kernel_rfl) ?_
  refine st_itf (show ((122 : Int) == 103) = false from by kernel_rfl) ?_
  refine st_itf (show ((122 : Int) == 104) = false from by kernel_rfl) ?_
  refine st_itf (show ((122 : Int) == 105) = false from by kernel_rfl) ?_
  refine st_itf (show ((122 : Int) == 121) = false from by kernel_rfl) ?_
  refine st_itt (show ((122 : Int) == 122) = true from by kernel_rfl) ?_
  refine st_1_0 (e11_23) (g := true) rfl (l := [a]) rfl (m := []) rfl (cl_t ((congrArg (fun z => F23 [z] []) (show a = (A : Int) from by rw [ha])).trans (q23 A hA))) fun i2 hi2 => ?_
  show T.den _ _ [(122 : Int), a, i2] [] = _
  refine st_ret ?_
  show some ([(IntKind.wrap .u64 i2)], [true]) = _
  subst hi2
  rfl

set_option maxHeartbeats 4000000 in
theorem q18_13_32 (a b : Int) (hb : 0 ≤ b) : F18 [(13 : Int), a, b, (32 : Int)] [] = some ([(arI .or .u64 (arI .shl .u64 a (arI .rem .u64 b (32 : Int))) (arI .shr .u64 a (arI .sub .u64 (32 : Int) (arI .rem .u64 b (32 : Int))))), 0], []) := by
  refine Eq.trans (Fd_of (n := 4) (m := 0) (t := t18) (C := Tab.fn a18) rfl rfl) ?_
  rw [t18]
  refine st_itt (show ((32 : Int) == 32) = true from by kernel_rfl) ?_
  refine st_rq (show ((32 : Int) != 0) = true from by kernel_rfl) ?_
  refine st_itf (show ((13 : Int) == 0) = false from by kernel_rfl) ?_
  refine st_itf (show ((13 : Int) == 1) = false from by kernel_rfl) ?_
  refine st_itf (show ((13 : Int) == 2) = false from by kernel_rfl) ?_
  refine st_itf (show ((13 : Int) == 3) = false from by kernel_rfl) ?_
  refine st_itf (show ((13 : Int) == 4) = false from by kernel_rfl) ?_
  refine st_itf (show ((13 : Int) == 5) = false from by kernel_rfl) ?_
  refine st_itf (show ((13 : Int) == 6) = false from by kernel_rfl) ?_
  refine st_itf (show ((13 : Int) == 7) = false from by kernel_rfl) ?_
  refine st_itf (show ((13 : Int) == 8) = false from by kernel_rfl) ?_
  refine st_itf (show ((13 : Int) == 9) = false from by kernel_rfl) ?_
  refine st_itf (show ((13 : Int) == 10) = false from by kernel_rfl) ?_
  refine st_itf (show ((13 : Int) == 11) = false from by kernel_rfl) ?_
  refine st_itf (show ((13 : Int) == 12) = false from by kernel_rfl) ?_
  refine st_itt (show ((13 : Int) == 13) = true from by kernel_rfl) ?_
  refine st_rq (show (decide ((arI .rem .u64 b (32 : Int)) ≥ 0)) = true from ?_) ?_
  · first | exact rem_ge _ _ (by omega) | exact sub_ge _ _ | (subst_vars; exact sub_ge _ _) | (omega)
  refine st_li fun i4 hi4 => ?_
  replace hi4 : i4 = (arI .sub .u64 (32 : Int) (arI .rem .u64 b (32 : Int))) := hi4
  show T.den _ _ [(13 : Int), a, b, (32 : Int), i4] [] = _
  refine st_rq (show (decide (i4 ≥ 0)) = true from ?_) ?_
  · first | exact rem_ge _ _ (by omega) | exact sub_ge _ _ | (subst_vars; exact sub_ge _ _) | (omega)
  refine st_li fun i5 hi5 => ?_
  replace hi5 : i5 = (arI .or .u64 (arI .shl .u64 a (arI .rem .u64 b (32 : Int))) (arI .shr .u64 a i4)) := hi5
  show T.den _ _ [(13 : Int), a, b, (32 : Int), i4, i5] [] = _
  refine st_ret ?_
  show some ([i5, 0], []) = _
  subst hi4 hi5
  rfl

set_option maxHeartbeats 4000000 in
theorem q10_119 (a b : Int) : F10 [(119 : Int), a, b] [] = some ([(IntKind.wrap .u64 (IntKind.wrap .u32 (arI .or .u64 (arI .shl .u64 (IntKind.wrap .u64 (IntKind.wrap .u32 a)) (arI .rem .u64 (IntKind.wrap .u64 (IntKind.wrap .u32 b)) (32 : Int))) (arI .shr .u64 (IntKind.wrap .u64 (IntKind.wrap .u32 a)) (arI .sub .u64 (32 : Int) (arI .rem .u64 (IntKind.wrap .u64 (IntKind.wrap .u32 b)) (32 : Int))))))), 0], [true]) := by
  refine Eq.trans (Fd_of (n := 3) (m := 0) (t := t10) (C := Tab.fn a10) rfl rfl) ?_
  rw [t10]
  refine st_lbc (show ((decide ((119 : Int) ≥ 70)) && (decide ((119 : Int) ≤ 79))) = false from by kernel_rfl) ?_
  show T.den _ _ [(119 : Int), a, b] [false] = _
  refine st_itf (show false = false from by kernel_rfl) ?_
  refine st_lbc (show ((decide ((119 : Int) ≥ 81)) && (decide ((119 : Int) ≤ 90))) = false from by kernel_rfl) ?_
  show T.den _ _ [(119 : Int), a, b] [false, false] = _
  refine st_itf (show false = false from by kernel_rfl) ?_
  refine st_lbc (show ((decide ((119 : Int) ≥ 106)) && (decide ((119 : Int) ≤ 120))) = true from by kernel_rfl) ?_
  show T.den _ _ [(119 : Int), a, b] [false, false, true] = _
  refine st_itt (show true = true from by kernel_rfl) ?_
  refine st_2_0 (e10_18) (g := true) rfl (l := [13, (IntKind.wrap .u64 (IntKind.wrap .u32 a)), (IntKind.wrap .u64 (IntKind.wrap .u32 b)), 32]) rfl (m := []) rfl (cl_t (q18_13_32 (IntKind.wrap .u64 (IntKind.wrap .u32 a)) (IntKind.wrap .u64 (IntKind.wrap .u32 b)) (u32_ge _))) fun i3 i4 hi3 hi4 => ?_
  show T.den _ _ [(119 : Int), a, b, i3, i4] [false, false, true] = _
  refine st_ret ?_
  show some ([(IntKind.wrap .u64 (IntKind.wrap .u32 i3)), i4], [true]) = _
  subst hi3 hi4
  rfl

set_option maxHeartbeats 4000000 in
theorem q18_14_32 (a b : Int) (hb : 0 ≤ b) : F18 [(14 : Int), a, b, (32 : Int)] [] = some ([(arI .or .u64 (arI .shr .u64 a (arI .rem .u64 b (32 : Int))) (arI .shl .u64 a (arI .sub .u64 (32 : Int) (arI .rem .u64 b (32 : Int))))), 0], []) := by
  refine Eq.trans (Fd_of (n := 4) (m := 0) (t := t18) (C := Tab.fn a18) rfl rfl) ?_
  rw [t18]
  refine st_itt (show ((32 : Int) == 32) = true from by kernel_rfl) ?_
  refine st_rq (show ((32 : Int) != 0) = true from by kernel_rfl) ?_
  refine st_itf (show ((14 : Int) == 0) = false from by kernel_rfl) ?_
  refine st_itf (show ((14 : Int) == 1) = false from by kernel_rfl) ?_
  refine st_itf (show ((14 : Int) == 2) = false from by kernel_rfl) ?_
  refine st_itf (show ((14 : Int) == 3) = false from by kernel_rfl) ?_
  refine st_itf (show ((14 : Int) == 4) = false from by kernel_rfl) ?_
  refine st_itf (show ((14 : Int) == 5) = false from by kernel_rfl) ?_
  refine st_itf (show ((14 : Int) == 6) = false from by kernel_rfl) ?_
  refine st_itf (show ((14 : Int) == 7) = false from by kernel_rfl) ?_
  refine st_itf (show ((14 : Int) == 8) = false from by kernel_rfl) ?_
  refine st_itf (show ((14 : Int) == 9) = false from by kernel_rfl) ?_
  refine st_itf (show ((14 : Int) == 10) = false from by kernel_rfl) ?_
  refine st_itf (show ((14 : Int) == 11) = false from by kernel_rfl) ?_
  refine st_itf (show ((14 : Int) == 12) = false from by kernel_rfl) ?_
  refine st_itf (show ((14 : Int) == 13) = false from by kernel_rfl) ?_
  refine st_rq (show (decide ((arI .rem .u64 b (32 : Int)) ≥ 0)) = true from ?_) ?_
  · first | exact rem_ge _ _ (by omega) | exact sub_ge _ _ | (subst_vars; exact sub_ge _ _) | (omega)
  refine st_li fun i4 hi4 => ?_
  replace hi4 : i4 = (arI .sub .u64 (32 : Int) (arI .rem .u64 b (32 : Int))) := hi4
  show T.den _ _ [(14 : Int), a, b, (32 : Int), i4] [] = _
  refine st_rq (show (decide (i4 ≥ 0)) = true from ?_) ?_
  · first | exact rem_ge _ _ (by omega) | exact sub_ge _ _ | (subst_vars; exact sub_ge _ _) | (omega)
  refine st_li fun i5 hi5 => ?_
  replace hi5 : i5 = (arI .or .u64 (arI .shr .u64 a (arI .rem .u64 b (32 : Int))) (arI .shl .u64 a i4)) := hi5
  show T.den _ _ [(14 : Int), a, b, (32 : Int), i4, i5] [] = _
  refine st_ret ?_
  show some ([i5, 0], []) = _
  subst hi4 hi5
  rfl

set_option maxHeartbeats 4000000 in
theorem q10_120 (a b : Int) : F10 [(120 : Int), a, b] [] = some ([(IntKind.wrap .u64 (IntKind.wrap .u32 (arI .or .u64 (arI .shr .u64 (IntKind.wrap .u64 (IntKind.wrap .u32 a)) (arI .rem .u64 (IntKind.wrap .u64 (IntKind.wrap .u32 b)) (32 : Int))) (arI .shl .u64 (IntKind.wrap .u64 (IntKind.wrap .u32 a)) (arI .sub .u64 (32 : Int) (arI .rem .u64 (IntKind.wrap .u64 (IntKind.wrap .u32 b)) (32 : Int))))))), 0], [true]) := by
  refine Eq.trans (Fd_of (n := 3) (m := 0) (t := t10) (C := Tab.fn a10) rfl rfl) ?_
  rw [t10]
  refine st_lbc (show ((decide ((120 : Int) ≥ 70)) && (decide ((120 : Int) ≤ 79))) = false from by kernel_rfl) ?_
  show T.den _ _ [(120 : Int), a, b] [false] = _
  refine st_itf (show false = false from by kernel_rfl) ?_
  refine st_lbc (show ((decide ((120 : Int) ≥ 81)) && (decide ((120 : Int) ≤ 90))) = false from by kernel_rfl) ?_
  show T.den _ _ [(120 : Int), a, b] [false, false] = _
  refine st_itf (show false = false from by kernel_rfl) ?_
  refine st_lbc (show ((decide ((120 : Int) ≥ 106)) && (decide ((120 : Int) ≤ 120))) = true from by kernel_rfl) ?_
  show T.den _ _ [(120 : Int), a, b] [false, false, true] = _
  refine st_itt (show true = true from by kernel_rfl) ?_
  refine st_2_0 (e10_18) (g := true) rfl (l := [14, (IntKind.wrap .u64 (IntKind.wrap .u32 a)), (IntKind.wrap .u64 (IntKind.wrap .u32 b)), 32]) rfl (m := []) rfl (cl_t (q18_14_32 (IntKind.wrap .u64 (IntKind.wrap .u32 a)) (IntKind.wrap .u64 (IntKind.wrap .u32 b)) (u32_ge _))) fun i3 i4 hi3 hi4 => ?_
  show T.den _ _ [(120 : Int), a, b, i3, i4] [false, false, true] = _
  refine st_ret ?_
  show some ([(IntKind.wrap .u64 (IntKind.wrap .u32 i3)), i4], [true]) = _
  subst hi3 hi4
  rfl

set_option maxHeartbeats 4000000 in
theorem q18_13_64 (a b : Int) (hb : 0 ≤ b) : F18 [(13 : Int), a, b, (64 : Int)] [] = some ([(arI .or .u64 (arI .shl .u64 a (arI .rem .u64 b (64 : Int))) (arI .shr .u64 a (arI .sub .u64 (64 : Int) (arI .rem .u64 b (64 : Int))))), 0], []) := by
  refine Eq.trans (Fd_of (n := 4) (m := 0) (t := t18) (C := Tab.fn a18) rfl rfl) ?_
  rw [t18]
  refine st_itf (show ((64 : Int) == 32) = false from by kernel_rfl) ?_
  refine st_rq (show ((64 : Int) != 0) = true from by kernel_rfl) ?_
  refine st_itf (show ((13 : Int) == 0) = false from by kernel_rfl) ?_
  refine st_itf (show ((13 : Int) == 1) = false from by kernel_rfl) ?_
  refine st_itf (show ((13 : Int) == 2) = false from by kernel_rfl) ?_
  refine st_itf (show ((13 : Int) == 3) = false from by kernel_rfl) ?_
  refine st_itf (show ((13 : Int) == 4) = false from by kernel_rfl) ?_
  refine st_itf (show ((13 : Int) == 5) = false from by kernel_rfl) ?_
  refine st_itf (show ((13 : Int) == 6) = false from by kernel_rfl) ?_
  refine st_itf (show ((13 : Int) == 7) = false from by kernel_rfl) ?_
  refine st_itf (show ((13 : Int) == 8) = false from by kernel_rfl) ?_
  refine st_itf (show ((13 : Int) == 9) = false from by kernel_rfl) ?_
  refine st_itf (show ((13 : Int) == 10) = false from by kernel_rfl) ?_
  refine st_itf (show ((13 : Int) == 11) = false from by kernel_rfl) ?_
  refine st_itf (show ((13 : Int) == 12) = false from by kernel_rfl) ?_
  refine st_itt (show ((13 : Int) == 13) = true from by kernel_rfl) ?_
  refine st_rq (show (decide ((arI .rem .u64 b (64 : Int)) ≥ 0)) = true from ?_) ?_
  · first | exact rem_ge _ _ (by omega) | exact sub_ge _ _ | (subst_vars; exact sub_ge _ _) | (omega)
  refine st_li fun i4 hi4 => ?_
  replace hi4 : i4 = (arI .sub .u64 (64 : Int) (arI .rem .u64 b (64 : Int))) := hi4
  show T.den _ _ [(13 : Int), a, b, (64 : Int), i4] [] = _
  refine st_rq (show (decide (i4 ≥ 0)) = true from ?_) ?_
  · first | exact rem_ge _ _ (by omega) | exact sub_ge _ _ | (subst_vars; exact sub_ge _ _) | (omega)
  refine st_li fun i5 hi5 => ?_
  replace hi5 : i5 = (arI .or .u64 (arI .shl .u64 a (arI .rem .u64 b (64 : Int))) (arI .shr .u64 a i4)) := hi5
  show T.den _ _ [(13 : Int), a, b, (64 : Int), i4, i5] [] = _
  refine st_ret ?_
  show some ([i5, 0], []) = _
  subst hi4 hi5
  rfl

set_option maxHeartbeats 4000000 in
theorem q10_137 (a b : Int) (hb : 0 ≤ b) : F10 [(137 : Int), a, b] [] = some ([(arI .or .u64 (arI .shl .u64 a (arI .rem .u64 b (64 : Int))) (arI .shr .u64 a (arI .sub .u64 (64 : Int) (arI .rem .u64 b (64 : Int))))), 0], [true]) := by
  refine Eq.trans (Fd_of (n := 3) (m := 0) (t := t10) (C := Tab.fn a10) rfl rfl) ?_
  rw [t10]
  refine st_lbc (show ((decide ((137 : Int) ≥ 70)) && (decide ((137 : Int) ≤ 79))) = false from by kernel_rfl) ?_
  show T.den _ _ [(137 : Int), a, b] [false] = _
  refine st_itf (show false = false from by kernel_rfl) ?_
  refine st_lbc (show ((decide ((137 : Int) ≥ 81)) && (decide ((137 : Int) ≤ 90))) = false from by kernel_rfl) ?_
  show T.den _ _ [(137 : Int), a, b] [false, false] = _
  refine st_itf (show false = false from by kernel_rfl) ?_
  refine st_lbc (show ((decide ((137 : Int) ≥ 106)) && (decide ((137 : Int) ≤ 120))) = false from by kernel_rfl) ?_
  show T.den _ _ [(137 : Int), a, b] [false, false, false] = _
  refine st_itf (show false = false from by kernel_rfl) ?_
  refine st_lbc (show ((decide ((137 : Int) ≥ 124)) && (decide ((137 : Int) ≤ 138))) = true from by kernel_rfl) ?_
  show T.den _ _ [(137 : Int), a, b] [false, false, false, true] = _
  refine st_itt (show true = true from by kernel_rfl) ?_
  refine st_2_0 (e10_18) (g := true) rfl (l := [13, a, b, 64]) rfl (m := []) rfl (cl_t (q18_13_64 a b hb)) fun i3 i4 hi3 hi4 => ?_
  show T.den _ _ [(137 : Int), a, b, i3, i4] [false, false, false, true] = _
  refine st_ret ?_
  show some ([i3, i4], [true]) = _
  subst hi3 hi4
  rfl

set_option maxHeartbeats 4000000 in
theorem q18_14_64 (a b : Int) (hb : 0 ≤ b) : F18 [(14 : Int), a, b, (64 : Int)] [] = some ([(arI .or .u64 (arI .shr .u64 a (arI .rem .u64 b (64 : Int))) (arI .shl .u64 a (arI .sub .u64 (64 : Int) (arI .rem .u64 b (64 : Int))))), 0], []) := by
  refine Eq.trans (Fd_of (n := 4) (m := 0) (t := t18) (C := Tab.fn a18) rfl rfl) ?_
  rw [t18]
  refine st_itf (show ((64 : Int) == 32) = false from by kernel_rfl) ?_
  refine st_rq (show ((64 : Int) != 0) = true from by kernel_rfl) ?_
  refine st_itf (show ((14 : Int) == 0) = false from by kernel_rfl) ?_
  refine st_itf (show ((14 : Int) == 1) = false from by kernel_rfl) ?_
  refine st_itf (show ((14 : Int) == 2) = false from by kernel_rfl) ?_
  refine st_itf (show ((14 : Int) == 3) = false from by kernel_rfl) ?_
  refine st_itf (show ((14 : Int) == 4) = false from by kernel_rfl) ?_
  refine st_itf (show ((14 : Int) == 5) = false from by kernel_rfl) ?_
  refine st_itf (show ((14 : Int) == 6) = false from by kernel_rfl) ?_
  refine st_itf (show ((14 : Int) == 7) = false from by kernel_rfl) ?_
  refine st_itf (show ((14 : Int) == 8) = false from by kernel_rfl) ?_
  refine st_itf (show ((14 : Int) == 9) = false from by kernel_rfl) ?_
  refine st_itf (show ((14 : Int) == 10) = false from by kernel_rfl) ?_
  refine st_itf (show ((14 : Int) == 11) = false from by kernel_rfl) ?_
  refine st_itf (show ((14 : Int) == 12) = false from by kernel_rfl) ?_
  refine st_itf (show ((14 : Int) == 13) = false from by kernel_rfl) ?_
  refine st_rq (show (decide ((arI .rem .u64 b (64 : Int)) ≥ 0)) = true from ?_) ?_
  · first | exact rem_ge _ _ (by omega) | exact sub_ge _ _ | (subst_vars; exact sub_ge _ _) | (omega)
  refine st_li fun i4 hi4 => ?_
  replace hi4 : i4 = (arI .sub .u64 (64 : Int) (arI .rem .u64 b (64 : Int))) := hi4
  show T.den _ _ [(14 : Int), a, b, (64 : Int), i4] [] = _
  refine st_rq (show (decide (i4 ≥ 0)) = true from ?_) ?_
  · first | exact rem_ge _ _ (by omega) | exact sub_ge _ _ | (subst_vars; exact sub_ge _ _) | (omega)
  refine st_li fun i5 hi5 => ?_
  replace hi5 : i5 = (arI .or .u64 (arI .shr .u64 a (arI .rem .u64 b (64 : Int))) (arI .shl .u64 a i4)) := hi5
  show T.den _ _ [(14 : Int), a, b, (64 : Int), i4, i5] [] = _
  refine st_ret ?_
  show some ([i5, 0], []) = _
  subst hi4 hi5
  rfl

set_option maxHeartbeats 4000000 in
theorem q10_138 (a b : Int) (hb : 0 ≤ b) : F10 [(138 : Int), a, b] [] = some ([(arI .or .u64 (arI .shr .u64 a (arI .rem .u64 b (64 : Int))) (arI .shl .u64 a (arI .sub .u64 (64 : Int) (arI .rem .u64 b (64 : Int))))), 0], [true]) := by
  refine Eq.trans (Fd_of (n := 3) (m := 0) (t := t10) (C := Tab.fn a10) rfl rfl) ?_
  rw [t10]
  refine st_lbc (show ((decide ((138 : Int) ≥ 70)) && (decide ((138 : Int) ≤ 79))) = false from by kernel_rfl) ?_
  show T.den _ _ [(138 : Int), a, b] [false] = _
  refine st_itf (show false = false from by kernel_rfl) ?_
  refine st_lbc (show ((decide ((138 : Int) ≥ 81)) && (decide ((138 : Int) ≤ 90))) = false from by kernel_rfl) ?_
  show T.den _ _ [(138 : Int), a, b] [false, false] = _
  refine st_itf (show false = false from by kernel_rfl) ?_
  refine st_lbc (show ((decide ((138 : Int) ≥ 106)) && (decide ((138 : Int) ≤ 120))) = false from by kernel_rfl) ?_
  show T.den _ _ [(138 : Int), a, b] [false, false, false] = _
  refine st_itf (show false = false from by kernel_rfl) ?_
  refine st_lbc (show ((decide ((138 : Int) ≥ 124)) && (decide ((138 : Int) ≤ 138))) = true from by kernel_rfl) ?_
  show T.den _ _ [(138 : Int), a, b] [false, false, false, true] = _
  refine st_itt (show true = true from by kernel_rfl) ?_
  refine st_2_0 (e10_18) (g := true) rfl (l := [14, a, b, 64]) rfl (m := []) rfl (cl_t (q18_14_64 a b hb)) fun i3 i4 hi3 hi4 => ?_
  show T.den _ _ [(138 : Int), a, b, i3, i4] [false, false, false, true] = _
  refine st_ret ?_
  show some ([i3, i4], [true]) = _
  subst hi3 hi4
  rfl

theorem xor_ones (k A : Nat) (h : A < 2 ^ k) : A ^^^ (2 ^ k - 1) = 2 ^ k - 1 - A := by
  have e : (BitVec.ofNat k A ^^^ BitVec.allOnes k).toNat = (~~~ (BitVec.ofNat k A)).toNat := by rw [BitVec.xor_allOnes]
  rw [BitVec.toNat_xor, BitVec.toNat_not, BitVec.toNat_allOnes, BitVec.toNat_ofNat, Nat.mod_eq_of_lt h] at e
  exact e
theorem sum_bits (A w : Nat) (hw : w = 32 ∨ w = 64) (hA : A < 2 ^ w) (i j W : Int) (hW : W = w) (hi : i = IntKind.wrap .u64 ((pop A : Nat) : Int)) (hj : j = IntKind.wrap .u64 ((pop (2 ^ w - 1 - A) : Nat) : Int)) : arI .add .u64 i j = W := by
  have h64 : ∀ x, pop x ≤ 64 := pop_le
  have a1 := h64 A
  have a2 := h64 (2 ^ w - 1 - A)
  have hs : pop A + pop (2 ^ w - 1 - A) = w := by
    rcases hw with rfl | rfl
    · have h := pop_not A (by omega)
      have e : ∀ x, x < 4294967296 → pop (18446744073709551615 - x) = 32 + pop (4294967295 - x) := by
        intro x hx
        unfold pop bytes
        simp only [List.map_cons, List.map_nil, List.sum_cons, List.sum_nil]
        rw [show (18446744073709551615 - x) / 4294967296 % 256 = 255 from by omega, show (18446744073709551615 - x) / 1099511627776 % 256 = 255 from by omega, show (18446744073709551615 - x) / 281474976710656 % 256 = 255 from by omega, show (18446744073709551615 - x) / 72057594037927936 % 256 = 255 from by omega,
          show (4294967295 - x) / 4294967296 % 256 = 0 from by omega, show (4294967295 - x) / 1099511627776 % 256 = 0 from by omega, show (4294967295 - x) / 281474976710656 % 256 = 0 from by omega, show (4294967295 - x) / 72057594037927936 % 256 = 0 from by omega,
          show (18446744073709551615 - x) % 256 = (4294967295 - x) % 256 from by omega, show (18446744073709551615 - x) / 256 % 256 = (4294967295 - x) / 256 % 256 from by omega, show (18446744073709551615 - x) / 65536 % 256 = (4294967295 - x) / 65536 % 256 from by omega, show (18446744073709551615 - x) / 16777216 % 256 = (4294967295 - x) / 16777216 % 256 from by omega,
          show pop8 255 = 8 from by decide, show pop8 0 = 0 from by decide]
        omega
      rw [e A (by omega)] at h
      show pop A + pop (4294967295 - A) = 32
      omega
    · exact pop_not A (by omega)
  subst hW hi hj
  rw [arAdd, wrap_u64, wrap_u64]
  generalize pop A = u at *
  generalize pop (2 ^ w - 1 - A) = v at *
  rcases hw with rfl | rfl <;> omega
theorem low_ends (A w : Nat) (hw : w = 32 ∨ w = 64) (hA : A < 2 ^ w) (N i4 i5 W : Int) (hW : W = w) (hN : N = A) (h4 : i4 = IntKind.wrap .u64 ((w - Lib.bitLen A : Nat) : Int)) (h5 : i5 = IntKind.wrap .u64 ((Lib.ctz w A : Nat) : Int)) : N = 0 → i4 = W ∧ i5 = W := by
  intro h
  have h0 : A = 0 := by omega
  subst h0 hW h4 h5
  rw [wrap_u64, wrap_u64, show Lib.bitLen 0 = 0 from by decide, show Lib.ctz w 0 = w from by unfold Lib.ctz; rw [if_pos rfl]]
  rcases hw with rfl | rfl <;> decide
theorem low1 (n : Nat) (h : n < 2 ^ 64) : arI .and .u64 (n : Int) 1 = ((n % 2 : Nat) : Int) := by
  rw [show (1 : Int) = ((1 : Nat) : Int) from rfl, band n 1 h (by decide), Nat.and_one_is_mod]
theorem tops (A w : Nat) (hw : w = 32 ∨ w = 64) (hA : A < 2 ^ w) (N i4 i5 i10 i11 i12 W1 : Int) (hN : N = A) (hW1 : W1 = (w : Int) - 1) (h4 : i4 = IntKind.wrap .u64 ((w - Lib.bitLen A : Nat) : Int)) (h5 : i5 = IntKind.wrap .u64 ((Lib.ctz w A : Nat) : Int))
    (h10 : i10 = arI .shr .u64 N (arI .sub .u64 W1 i4)) (h11 : i11 = arI .and .u64 (arI .shr .u64 N i5) 1) (h12 : i12 = arI .and .u64 N (arI .sub .u64 (arI .shl .u64 1 i5) 1)) : N ≠ 0 → i10 = 1 ∧ i11 = 1 ∧ i12 = 0 := by
  intro h0
  have hA0 : A ≠ 0 := by omega
  have hw2 : w ≤ 64 := by omega
  have hA64 : A < 2 ^ 64 := Nat.lt_of_lt_of_le hA (Nat.pow_le_pow_right (by decide) hw2)
  obtain ⟨l1, l2⟩ := len_top w A hA hA0 hw2
  have l3 := Lib.bitLen_le A w hw2 hA
  obtain ⟨m, e, hk⟩ := Lib.ctzFrom_spec w A (by omega) hA
  have e5 : i5 = ((Lib.ctzFrom w A : Nat) : Int) := by
    rw [h5, wrap_u64, show Lib.ctz w A = Lib.ctzFrom w A from by unfold Lib.ctz; rw [if_neg hA0]]
    generalize Lib.ctzFrom w A = k at *
    omega
  have e4 : arI .sub .u64 W1 i4 = ((Lib.bitLen A - 1 : Nat) : Int) := by
    rw [arSub, h4, wrap_u64, hW1]
    generalize Lib.bitLen A = l at *
    omega
  clear h4 h5
  generalize Lib.bitLen A = l at *
  generalize Lib.ctzFrom w A = k at *
  subst hN e5
  have hp := Nat.two_pow_pos k
  have hk2 : 2 ^ k < 2 ^ 64 := Nat.pow_lt_pow_right (by decide) (by omega)
  refine ⟨?_, ?_, ?_⟩
  · rw [h10, e4, shrN _ _ (by omega), l2]; rfl
  · rw [h11, shrN _ _ (by omega), show A / 2 ^ k = 2 * m + 1 from by rw [e, Nat.mul_div_cancel_left _ hp], low1 _ (by
      have h1 : A / 2 ^ k = 2 * m + 1 := by rw [e, Nat.mul_div_cancel_left _ hp]
      have h2 : A / 2 ^ k ≤ A := Nat.div_le_self _ _
      omega)]
    omega
  · rw [h12, show (1 : Int) = ((1 : Nat) : Int) from rfl, shlN _ _ (by omega), Nat.one_mul, Nat.mod_eq_of_lt hk2, subN _ _ (by omega) hk2, band _ _ hA64 (by omega), Nat.and_two_pow_sub_one_eq_mod]
    rw [show A % 2 ^ k = 0 from by rw [e]; exact Nat.mul_mod_right _ _]; rfl
theorem w32 (x : Int) (n : Nat) (hx : x = n) (h : n < 4294967296) : IntKind.wrap .u64 (IntKind.wrap .u32 x) = (n : Int) := by rw [wrap_u32, wrap_u64, hx]; omega
theorem cutw (n : Nat) : IntKind.wrap .u64 (IntKind.wrap .u32 (n : Int)) = ((n % 2 ^ 32 : Nat) : Int) := by rw [wrap_u32, wrap_u64]; omega
theorem turn32 (A s : Nat) (hA : A < 2 ^ 32) (hs : s < 32) (N S T i j : Int) (hN : N = A) (hS : S = s) (hT : T = ((32 - s : Nat) : Int)) (hi : i = (IntKind.wrap .u64 (IntKind.wrap .u32 (arI .or .u64 (arI .shl .u64 (IntKind.wrap .u64 (IntKind.wrap .u32 N)) (arI .rem .u64 (IntKind.wrap .u64 (IntKind.wrap .u32 S)) (32 : Int))) (arI .shr .u64 (IntKind.wrap .u64 (IntKind.wrap .u32 N)) (arI .sub .u64 (32 : Int) (arI .rem .u64 (IntKind.wrap .u64 (IntKind.wrap .u32 S)) (32 : Int)))))))) (hj : j = (IntKind.wrap .u64 (IntKind.wrap .u32 (arI .or .u64 (arI .shr .u64 (IntKind.wrap .u64 (IntKind.wrap .u32 N)) (arI .rem .u64 (IntKind.wrap .u64 (IntKind.wrap .u32 T)) (32 : Int))) (arI .shl .u64 (IntKind.wrap .u64 (IntKind.wrap .u32 N)) (arI .sub .u64 (32 : Int) (arI .rem .u64 (IntKind.wrap .u64 (IntKind.wrap .u32 T)) (32 : Int)))))))) : i = j := by
  have hA64 : A < 2 ^ 64 := Nat.lt_of_lt_of_le hA (by decide)
  rw [hi, hj, w32 N A hN (by omega), w32 S s hS (by omega), w32 T (32 - s) hT (by omega)]
  rw [show (32 : Int) = ((32 : Nat) : Int) from rfl, remN, remN, Nat.mod_eq_of_lt hs, subN _ _ (by omega) (by decide), subN _ _ (by omega) (by decide), shlN _ _ (by omega), shrN _ _ (by omega), shrN _ _ (by omega), shlN _ _ (by omega), bor _ _ (shl_lt _ _) (shr_lt _ _ hA64), bor _ _ (shr_lt _ _ hA64) (shl_lt _ _), cutw, cutw]
  by_cases h0 : s = 0
  · subst h0
    have e1 : A / 2 ^ 32 = 0 := Nat.div_eq_of_lt hA
    have e2 : A * 2 ^ 32 % 2 ^ 64 % 2 ^ 32 = 0 := by omega
    rw [Nat.sub_zero, Nat.mod_self, Nat.pow_zero, Nat.mul_one, Nat.div_one, e1, Nat.or_zero, Nat.mod_eq_of_lt hA64, Nat.or_mod_two_pow, e2, Nat.or_zero]
  · rw [Nat.mod_eq_of_lt (show 32 - s < 32 from by omega), show 32 - (32 - s) = s from by omega, Nat.or_comm]
theorem turn64 (A s : Nat) (hA : A < 2 ^ 64) (hs : s < 64) (N S T i j : Int) (hN : N = A) (hS : S = s) (hT : T = ((64 - s : Nat) : Int)) (hi : i = (arI .or .u64 (arI .shl .u64 N (arI .rem .u64 S (64 : Int))) (arI .shr .u64 N (arI .sub .u64 (64 : Int) (arI .rem .u64 S (64 : Int)))))) (hj : j = (arI .or .u64 (arI .shr .u64 N (arI .rem .u64 T (64 : Int))) (arI .shl .u64 N (arI .sub .u64 (64 : Int) (arI .rem .u64 T (64 : Int)))))) : i = j := by
  rw [hi, hj, hN, hS, hT]
  rw [show (64 : Int) = ((64 : Nat) : Int) from rfl, remN, remN, Nat.mod_eq_of_lt hs, subN _ _ (by omega) (by decide), subN _ _ (by omega) (by decide), shlN _ _ (by omega), shrN _ _ (by omega), shrN _ _ (by omega), shlN _ _ (by omega), bor _ _ (shl_lt _ _) (shr_lt _ _ hA), bor _ _ (shr_lt _ _ hA) (shl_lt _ _)]
  by_cases h0 : s = 0
  · subst h0
    have e1 : A / 2 ^ 64 = 0 := Nat.div_eq_of_lt hA
    have e2 : A * 2 ^ 64 % 2 ^ 64 = 0 := Nat.mul_mod_left _ _
    rw [Nat.sub_zero, Nat.mod_self, Nat.pow_zero, Nat.mul_one, Nat.div_one, e1, Nat.or_zero, Nat.mod_eq_of_lt hA, e2, Nat.or_zero]
  · rw [Nat.mod_eq_of_lt (show 64 - s < 64 from by omega), show 64 - (64 - s) = s from by omega, Nat.or_comm]
theorem leafA {N s i6 i8 i4 i5 w : Int} {b7 b8 b9 : Bool} (h7 : b7 = ((s != w) || (i6 != i8))) (h8 : b8 = ((i4 != w) || (i5 != w))) (h9 : b9 = ((N == 0) && b8)) (e1 : s = w) (e2 : i6 = i8) (e3 : N = 0 → i4 = w ∧ i5 = w) (c : (b7 || b9) = true) : False := by
  subst h7 h8 h9 e1 e2
  by_cases h : N = 0
  · obtain ⟨rfl, rfl⟩ := e3 h
    simp at c
  · simp [h] at c
theorem leafB {N i10 i11 i12 : Int} {b10 b11 : Bool} (h10 : b10 = ((i10 != 1) || (i11 != 1))) (h11 : b11 = ((N != 0) && (b10 || (i12 != 0)))) (e : N ≠ 0 → i10 = 1 ∧ i11 = 1 ∧ i12 = 0) (c : b11 = true) : False := by
  subst h10 h11
  by_cases h : N = 0
  · simp [h] at c
  · obtain ⟨rfl, rfl, rfl⟩ := e h
    simp at c

theorem low32 (b : Int) : arI .and .u64 b 4294967295 = b % 4294967296 := by
  show IntKind.u64.wrap ((BitVec.ofInt 64 b &&& BitVec.ofInt 64 4294967295).toNat : Int) = _
  rw [BitVec.toNat_and, BitVec.toNat_ofInt, show (BitVec.ofInt 64 4294967295).toNat = 2 ^ 32 - 1 from by decide, Nat.and_two_pow_sub_one_eq_mod, wrap_u64]
  omega
theorem low64 (b : Int) : arI .and .u64 b 18446744073709551615 = b % 18446744073709551616 := by
  show IntKind.u64.wrap ((BitVec.ofInt 64 b &&& BitVec.ofInt 64 18446744073709551615).toNat : Int) = _
  rw [BitVec.toNat_and, BitVec.toNat_ofInt, show (BitVec.ofInt 64 18446744073709551615).toNat = 2 ^ 64 - 1 from by decide, Nat.and_two_pow_sub_one_eq_mod, wrap_u64]
  omega
theorem not32 (A : Nat) (hA : A < 2 ^ 32) (N : Int) (hN : N = A) : arI .xor .u64 N 4294967295 = ((2 ^ 32 - 1 - A : Nat) : Int) := by
  rw [hN, show (4294967295 : Int) = ((2 ^ 32 - 1 : Nat) : Int) from rfl, bxor _ _ (by omega) (by decide), xor_ones 32 A hA]
theorem not64 (A : Nat) (hA : A < 2 ^ 64) (N : Int) (hN : N = A) : arI .xor .u64 N 18446744073709551615 = ((2 ^ 64 - 1 - A : Nat) : Int) := by
  rw [hN, show (18446744073709551615 : Int) = ((2 ^ 64 - 1 : Nat) : Int) from rfl, bxor _ _ hA (by decide), xor_ones 64 A hA]
theorem remS (x w : Int) (h : 0 ≤ x) (hw : 0 < w) : ∃ s : Nat, arI .rem .u64 x w = s ∧ (s : Int) < w := by
  rw [arRem _ _ h]
  have h1 := Int.emod_nonneg x (show w ≠ 0 by omega)
  have h2 := Int.emod_lt_of_pos x hw
  exact ⟨(x % w).toNat, by omega, by omega⟩
theorem turnT (s : Nat) (w S T : Int) (hS : S = s) (hs : (s : Int) < w) (hw : w ≤ 64) : arI .sub .u64 w S = w - s := by rw [arSub, hS]; omega

theorem e5_9 : Tab.fn a5 9 = F9 := Tab.fn_hd
theorem e5_11 : Tab.fn a5 11 = F11 := ((Tab.fn_tl rfl).trans Tab.fn_hd)
theorem e5_10 : Tab.fn a5 10 = F10 := ((Tab.fn_tl rfl).trans ((Tab.fn_tl rfl).trans Tab.fn_hd))

theorem q9 : F9 [] [] = some ([], [true]) := by decide +kernel

set_option maxHeartbeats 4000000 in
theorem law (a s : Int) (wa : (Lit.int .u64 a).wf = true) (ws : (Lit.int .u64 s).wf = true) : F5 [a, s] [] = some ([], [true]) := by
  have ha := wf_u64 wa
  have hs := wf_u64 ws
  obtain ⟨A32, eN32, hA32⟩ : ∃ A : Nat, (arI .and .u64 a 4294967295) = A ∧ A < 4294967296 := by
    rw [low32]
    exact ⟨(a % 4294967296).toNat, by omega, by omega⟩
  have n32 := not32 A32 hA32 _ eN32
  obtain ⟨S32, eS32, hS32⟩ := remS s 32 hs.1 (by decide)
  have eT32 : arI .sub .u64 32 (arI .rem .u64 s 32) = ((32 - S32 : Nat) : Int) := by
    rw [turnT S32 32 _ 0 eS32 hS32 (by decide)]; omega
  obtain ⟨A64, eN64, hA64⟩ : ∃ A : Nat, (arI .and .u64 a 18446744073709551615) = A ∧ A < 18446744073709551616 := by
    rw [low64]
    exact ⟨(a % 18446744073709551616).toNat, by omega, by omega⟩
  have n64 := not64 A64 hA64 _ eN64
  obtain ⟨S64, eS64, hS64⟩ := remS s 64 hs.1 (by decide)
  have eT64 : arI .sub .u64 64 (arI .rem .u64 s 64) = ((64 - S64 : Nat) : Int) := by
    rw [turnT S64 64 _ 0 eS64 hS64 (by decide)]; omega
  refine Eq.trans (Fd_of (n := 2) (m := 0) (t := t5) (C := Tab.fn a5) rfl rfl) ?_
  rw [t5]
  refine st_0_1 (e5_9) (g := true) rfl (l := []) rfl (m := []) rfl (cl_t q9) fun b0 hb0 => ?_
  show T.den _ _ [a, s] [b0] = _
  refine st_ite (fun hc => ?_) (fun hc => ?_)
  · replace hc : (!b0) = true := hc
    have c1 := hc
    clear hc
    refine st_ret ?_
    show some ([], [false]) = _
    rw [hb0] at c1; cases c1
  · replace hc : (!b0) = false := hc
    have c2 := hc
    clear hc
    refine st_1_1 (e5_11) (g := true) rfl (l := [105, (arI .and .u64 a 4294967295)]) rfl (m := []) rfl (cl_t (q11_105 (arI .and .u64 a 4294967295) A32 eN32 hA32)) fun i2 b1 hi2 hb1 => ?_
    show T.den _ _ [a, s, i2] [b0, b1] = _
    refine st_1_1 (e5_11) (g := true) rfl (l := [105, (arI .xor .u64 (arI .and .u64 a 4294967295) 4294967295)]) rfl (m := []) rfl (cl_t (q11_105 (arI .xor .u64 (arI .and .u64 a 4294967295) 4294967295) _ n32 (by omega))) fun i3 b2 hi3 hb2 => ?_
    show T.den _ _ [a, s, i2, i3] [b0, b1, b2] = _
    refine st_1_1 (e5_11) (g := true) rfl (l := [103, (arI .and .u64 a 4294967295)]) rfl (m := []) rfl (cl_t (q11_103 (arI .and .u64 a 4294967295) A32 eN32 hA32)) fun i4 b3 hi4 hb3 => ?_
    show T.den _ _ [a, s, i2, i3, i4] [b0, b1, b2, b3] = _
    refine st_1_1 (e5_11) (g := true) rfl (l := [104, (arI .and .u64 a 4294967295)]) rfl (m := []) rfl (cl_t (q11_104 (arI .and .u64 a 4294967295) A32 eN32 hA32)) fun i5 b4 hi5 hb4 => ?_
    show T.den _ _ [a, s, i2, i3, i4, i5] [b0, b1, b2, b3, b4] = _
    refine st_2_1 (e5_10) (g := true) rfl (l := [119, (arI .and .u64 a 4294967295), (arI .rem .u64 s 32)]) rfl (m := []) rfl (cl_t (q10_119 (arI .and .u64 a 4294967295) (arI .rem .u64 s 32))) fun i6 i7 b5 hi6 hi7 hb5 => ?_
    show T.den _ _ [a, s, i2, i3, i4, i5, i6, i7] [b0, b1, b2, b3, b4, b5] = _
    refine st_2_1 (e5_10) (g := true) rfl (l := [120, (arI .and .u64 a 4294967295), (arI .sub .u64 32 (arI .rem .u64 s 32))]) rfl (m := []) rfl (cl_t (q10_120 (arI .and .u64 a 4294967295) (arI .sub .u64 32 (arI .rem .u64 s 32)))) fun i8 i9 b6 hi8 hi9 hb6 => ?_
    show T.den _ _ [a, s, i2, i3, i4, i5, i6, i7, i8, i9] [b0, b1, b2, b3, b4, b5, b6] = _
    refine st_lb fun b7 hb7 => ?_
    replace hb7 : b7 = (((arI .add .u64 i2 i3) != 32) || (i6 != i8)) := hb7
    show T.den _ _ [a, s, i2, i3, i4, i5, i6, i7, i8, i9] [b0, b1, b2, b3, b4, b5, b6, b7] = _
    refine st_lb fun b8 hb8 => ?_
    replace hb8 : b8 = ((i4 != 32) || (i5 != 32)) := hb8
    show T.den _ _ [a, s, i2, i3, i4, i5, i6, i7, i8, i9] [b0, b1, b2, b3, b4, b5, b6, b7, b8] = _
    refine st_lb fun b9 hb9 => ?_
    replace hb9 : b9 = (((arI .and .u64 a 4294967295) == 0) && b8) := hb9
    show T.den _ _ [a, s, i2, i3, i4, i5, i6, i7, i8, i9] [b0, b1, b2, b3, b4, b5, b6, b7, b8, b9] = _
    refine st_ite (fun hc => ?_) (fun hc => ?_)
    · replace hc : (b7 || b9) = true := hc
      have c3 := hc
      clear hc
      refine st_ret ?_
      show some ([], [false]) = _
      have e1 := sum_bits A32 32 (by decide) hA32 _ _ 32 rfl hi2 hi3
      have e2 := turn32 A32 S32 hA32 (by omega) _ _ _ _ _ eN32 eS32 eT32 hi6 hi8
      have e3 := low_ends A32 32 (by decide) hA32 _ _ _ 32 rfl eN32 hi4 hi5
      exact absurd c3 (fun c => leafA hb7 hb8 hb9 e1 e2 e3 c)
    · replace hc : (b7 || b9) = false := hc
      have c4 := hc
      clear hc
      refine st_rq (show ((!((arI .and .u64 a 4294967295) != 0)) || (decide ((arI .sub .u64 31 i4) ≥ 0))) = true from ?_) ?_
      · rw [sub_ge, Bool.or_true]
      refine st_li fun i10 hi10 => ?_
      replace hi10 : i10 = (arI .shr .u64 (arI .and .u64 a 4294967295) (arI .sub .u64 31 i4)) := hi10
      show T.den _ _ [a, s, i2, i3, i4, i5, i6, i7, i8, i9, i10] [b0, b1, b2, b3, b4, b5, b6, b7, b8, b9] = _
      refine st_rq (show ((!(((arI .and .u64 a 4294967295) != 0) && (!(i10 != 1)))) || (decide (i5 ≥ 0))) = true from ?_) ?_
      · rw [decide_eq_true (show i5 ≥ 0 from by rw [hi5, wrap_u64]; omega), Bool.or_true]
      refine st_li fun i11 hi11 => ?_
      replace hi11 : i11 = (arI .and .u64 (arI .shr .u64 (arI .and .u64 a 4294967295) i5) 1) := hi11
      show T.den _ _ [a, s, i2, i3, i4, i5, i6, i7, i8, i9, i10, i11] [b0, b1, b2, b3, b4, b5, b6, b7, b8, b9] = _
      refine st_lb fun b10 hb10 => ?_
      replace hb10 : b10 = ((i10 != 1) || (i11 != 1)) := hb10
      show T.den _ _ [a, s, i2, i3, i4, i5, i6, i7, i8, i9, i10, i11] [b0, b1, b2, b3, b4, b5, b6, b7, b8, b9, b10] = _
      refine st_rq (show ((!(((arI .and .u64 a 4294967295) != 0) && (!b10))) || (decide (i5 ≥ 0))) = true from ?_) ?_
      · rw [decide_eq_true (show i5 ≥ 0 from by rw [hi5, wrap_u64]; omega), Bool.or_true]
      refine st_li fun i12 hi12 => ?_
      replace hi12 : i12 = (arI .and .u64 (arI .and .u64 a 4294967295) (arI .sub .u64 (arI .shl .u64 1 i5) 1)) := hi12
      show T.den _ _ [a, s, i2, i3, i4, i5, i6, i7, i8, i9, i10, i11, i12] [b0, b1, b2, b3, b4, b5, b6, b7, b8, b9, b10] = _
      refine st_lb fun b11 hb11 => ?_
      replace hb11 : b11 = (((arI .and .u64 a 4294967295) != 0) && (b10 || (i12 != 0))) := hb11
      show T.den _ _ [a, s, i2, i3, i4, i5, i6, i7, i8, i9, i10, i11, i12] [b0, b1, b2, b3, b4, b5, b6, b7, b8, b9, b10, b11] = _
      refine st_ite (fun hc => ?_) (fun hc => ?_)
      · replace hc : b11 = true := hc
        have c5 := hc
        clear hc
        refine st_ret ?_
        show some ([], [false]) = _
        have e := tops A32 32 (by decide) hA32 _ _ _ _ _ _ 31 eN32 rfl hi4 hi5 hi10 hi11 hi12
        exact absurd c5 (fun c => leafB hb10 hb11 e c)
      · replace hc : b11 = false := hc
        have c6 := hc
        clear hc
        refine st_1_1 (e5_11) (g := true) rfl (l := [123, (arI .and .u64 a 18446744073709551615)]) rfl (m := []) rfl (cl_t (q11_123 (arI .and .u64 a 18446744073709551615) A64 eN64 hA64)) fun i13 b12 hi13 hb12 => ?_
        show T.den _ _ [a, s, i2, i3, i4, i5, i6, i7, i8, i9, i10, i11, i12, i13] [b0, b1, b2, b3, b4, b5, b6, b7, b8, b9, b10, b11, b12] = _
        refine st_1_1 (e5_11) (g := true) rfl (l := [123, (arI .xor .u64 (arI .and .u64 a 18446744073709551615) 18446744073709551615)]) rfl (m := []) rfl (cl_t (q11_123 (arI .xor .u64 (arI .and .u64 a 18446744073709551615) 18446744073709551615) _ n64 (by omega))) fun i14 b13 hi14 hb13 => ?_
        show T.den _ _ [a, s, i2, i3, i4, i5, i6, i7, i8, i9, i10, i11, i12, i13, i14] [b0, b1, b2, b3, b4, b5, b6, b7, b8, b9, b10, b11, b12, b13] = _
        refine st_1_1 (e5_11) (g := true) rfl (l := [121, (arI .and .u64 a 18446744073709551615)]) rfl (m := []) rfl (cl_t (q11_121 (arI .and .u64 a 18446744073709551615) A64 eN64 hA64)) fun i15 b14 hi15 hb14 => ?_
        show T.den _ _ [a, s, i2, i3, i4, i5, i6, i7, i8, i9, i10, i11, i12, i13, i14, i15] [b0, b1, b2, b3, b4, b5, b6, b7, b8, b9, b10, b11, b12, b13, b14] = _
        refine st_1_1 (e5_11) (g := true) rfl (l := [122, (arI .and .u64 a 18446744073709551615)]) rfl (m := []) rfl (cl_t (q11_122 (arI .and .u64 a 18446744073709551615) A64 eN64 hA64)) fun i16 b15 hi16 hb15 => ?_
        show T.den _ _ [a, s, i2, i3, i4, i5, i6, i7, i8, i9, i10, i11, i12, i13, i14, i15, i16] [b0, b1, b2, b3, b4, b5, b6, b7, b8, b9, b10, b11, b12, b13, b14, b15] = _
        refine st_2_1 (e5_10) (g := true) rfl (l := [137, (arI .and .u64 a 18446744073709551615), (arI .rem .u64 s 64)]) rfl (m := []) rfl (cl_t (q10_137 (arI .and .u64 a 18446744073709551615) (arI .rem .u64 s 64) (by rw [eS64]; omega))) fun i17 i18 b16 hi17 hi18 hb16 => ?_
        show T.den _ _ [a, s, i2, i3, i4, i5, i6, i7, i8, i9, i10, i11, i12, i13, i14, i15, i16, i17, i18] [b0, b1, b2, b3, b4, b5, b6, b7, b8, b9, b10, b11, b12, b13, b14, b15, b16] = _
        refine st_2_1 (e5_10) (g := true) rfl (l := [138, (arI .and .u64 a 18446744073709551615), (arI .sub .u64 64 (arI .rem .u64 s 64))]) rfl (m := []) rfl (cl_t (q10_138 (arI .and .u64 a 18446744073709551615) (arI .sub .u64 64 (arI .rem .u64 s 64)) (by rw [eT64]; omega))) fun i19 i20 b17 hi19 hi20 hb17 => ?_
        show T.den _ _ [a, s, i2, i3, i4, i5, i6, i7, i8, i9, i10, i11, i12, i13, i14, i15, i16, i17, i18, i19, i20] [b0, b1, b2, b3, b4, b5, b6, b7, b8, b9, b10, b11, b12, b13, b14, b15, b16, b17] = _
        refine st_lb fun b18 hb18 => ?_
        replace hb18 : b18 = (((arI .add .u64 i13 i14) != 64) || (i17 != i19)) := hb18
        show T.den _ _ [a, s, i2, i3, i4, i5, i6, i7, i8, i9, i10, i11, i12, i13, i14, i15, i16, i17, i18, i19, i20] [b0, b1, b2, b3, b4, b5, b6, b7, b8, b9, b10, b11, b12, b13, b14, b15, b16, b17, b18] = _
        refine st_lb fun b19 hb19 => ?_
        replace hb19 : b19 = ((i15 != 64) || (i16 != 64)) := hb19
        show T.den _ _ [a, s, i2, i3, i4, i5, i6, i7, i8, i9, i10, i11, i12, i13, i14, i15, i16, i17, i18, i19, i20] [b0, b1, b2, b3, b4, b5, b6, b7, b8, b9, b10, b11, b12, b13, b14, b15, b16, b17, b18, b19] = _
        refine st_lb fun b20 hb20 => ?_
        replace hb20 : b20 = (((arI .and .u64 a 18446744073709551615) == 0) && b19) := hb20
        show T.den _ _ [a, s, i2, i3, i4, i5, i6, i7, i8, i9, i10, i11, i12, i13, i14, i15, i16, i17, i18, i19, i20] [b0, b1, b2, b3, b4, b5, b6, b7, b8, b9, b10, b11, b12, b13, b14, b15, b16, b17, b18, b19, b20] = _
        refine st_ite (fun hc => ?_) (fun hc => ?_)
        · replace hc : (b18 || b20) = true := hc
          have c7 := hc
          clear hc
          refine st_ret ?_
          show some ([], [false]) = _
          have e1 := sum_bits A64 64 (by decide) hA64 _ _ 64 rfl hi13 hi14
          have e2 := turn64 A64 S64 hA64 (by omega) _ _ _ _ _ eN64 eS64 eT64 hi17 hi19
          have e3 := low_ends A64 64 (by decide) hA64 _ _ _ 64 rfl eN64 hi15 hi16
          exact absurd c7 (fun c => leafA hb18 hb19 hb20 e1 e2 e3 c)
        · replace hc : (b18 || b20) = false := hc
          have c8 := hc
          clear hc
          refine st_rq (show ((!((arI .and .u64 a 18446744073709551615) != 0)) || (decide ((arI .sub .u64 63 i15) ≥ 0))) = true from ?_) ?_
          · rw [sub_ge, Bool.or_true]
          refine st_li fun i21 hi21 => ?_
          replace hi21 : i21 = (arI .shr .u64 (arI .and .u64 a 18446744073709551615) (arI .sub .u64 63 i15)) := hi21
          show T.den _ _ [a, s, i2, i3, i4, i5, i6, i7, i8, i9, i10, i11, i12, i13, i14, i15, i16, i17, i18, i19, i20, i21] [b0, b1, b2, b3, b4, b5, b6, b7, b8, b9, b10, b11, b12, b13, b14, b15, b16, b17, b18, b19, b20] = _
          refine st_rq (show ((!(((arI .and .u64 a 18446744073709551615) != 0) && (!(i21 != 1)))) || (decide (i16 ≥ 0))) = true from ?_) ?_
          · rw [decide_eq_true (show i16 ≥ 0 from by rw [hi16, wrap_u64]; omega), Bool.or_true]
          refine st_li fun i22 hi22 => ?_
          replace hi22 : i22 = (arI .and .u64 (arI .shr .u64 (arI .and .u64 a 18446744073709551615) i16) 1) := hi22
          show T.den _ _ [a, s, i2, i3, i4, i5, i6, i7, i8, i9, i10, i11, i12, i13, i14, i15, i16, i17, i18, i19, i20, i21, i22] [b0, b1, b2, b3, b4, b5, b6, b7, b8, b9, b10, b11, b12, b13, b14, b15, b16, b17, b18, b19, b20] = _
          refine st_lb fun b21 hb21 => ?_
          replace hb21 : b21 = ((i21 != 1) || (i22 != 1)) := hb21
          show T.den _ _ [a, s, i2, i3, i4, i5, i6, i7, i8, i9, i10, i11, i12, i13, i14, i15, i16, i17, i18, i19, i20, i21, i22] [b0, b1, b2, b3, b4, b5, b6, b7, b8, b9, b10, b11, b12, b13, b14, b15, b16, b17, b18, b19, b20, b21] = _
          refine st_rq (show ((!(((arI .and .u64 a 18446744073709551615) != 0) && (!b21))) || (decide (i16 ≥ 0))) = true from ?_) ?_
          · rw [decide_eq_true (show i16 ≥ 0 from by rw [hi16, wrap_u64]; omega), Bool.or_true]
          refine st_li fun i23 hi23 => ?_
          replace hi23 : i23 = (arI .and .u64 (arI .and .u64 a 18446744073709551615) (arI .sub .u64 (arI .shl .u64 1 i16) 1)) := hi23
          show T.den _ _ [a, s, i2, i3, i4, i5, i6, i7, i8, i9, i10, i11, i12, i13, i14, i15, i16, i17, i18, i19, i20, i21, i22, i23] [b0, b1, b2, b3, b4, b5, b6, b7, b8, b9, b10, b11, b12, b13, b14, b15, b16, b17, b18, b19, b20, b21] = _
          refine st_lb fun b22 hb22 => ?_
          replace hb22 : b22 = (((arI .and .u64 a 18446744073709551615) != 0) && (b21 || (i23 != 0))) := hb22
          show T.den _ _ [a, s, i2, i3, i4, i5, i6, i7, i8, i9, i10, i11, i12, i13, i14, i15, i16, i17, i18, i19, i20, i21, i22, i23] [b0, b1, b2, b3, b4, b5, b6, b7, b8, b9, b10, b11, b12, b13, b14, b15, b16, b17, b18, b19, b20, b21, b22] = _
          refine st_ite (fun hc => ?_) (fun hc => ?_)
          · replace hc : b22 = true := hc
            have c9 := hc
            clear hc
            refine st_ret ?_
            show some ([], [false]) = _
            have e := tops A64 64 (by decide) hA64 _ _ _ _ _ _ 63 eN64 rfl hi15 hi16 hi21 hi22 hi23
            exact absurd c9 (fun c => leafB hb21 hb22 e c)
          · replace hc : b22 = false := hc
            have c10 := hc
            clear hc
            refine st_ret ?_
            show some ([], [true]) = _
            rfl
end Go.Proofs.YtghekmcdokgkkaaDoor.YNumBits
