/-
  An operation on 32 bits looks at these alone: the plain law of NumWidth.
-/
import Derived.Test.YtghekmcdokgkkaaDoorXNumWidth
import Derived.Test.YtghekmcdokgkkaaDoorSn
import Derived.Lib.BitFns
import Derived.Lib.TrailingZeros
namespace Go.Proofs.YtghekmcdokgkkaaDoor.YNumWidth
open Go.Proofs.YtghekmcdokgkkaaDoor.Sx Go.Proofs.YtghekmcdokgkkaaDoor.Sn Go.Proofs.YtghekmcdokgkkaaDoor.XNumWidth Go.Proofs.YtghekmcdokgkkaaDoor.ENumWidth
set_option linter.unusedSimpArgs false
set_option linter.unusedVariables false
theorem st_0_1 {C : Nat → Sx.Fn} {is : List Int} {bs : List Bool} {r : Option (List Int × List Bool)} {G : E} {f : Nat} {ii bb : List E} {k : Sx.T} {c0 : Bool} {F : Sx.Fn} {g : Bool} {l : List Int} {m : List Bool} (hC : C f = F) (hG : G.B is bs = g) (hl : ii.map (E.I is bs) = l) (hm : bb.map (E.B is bs) = m)
    (h : (bif g then F l m else some (List.replicate 0 0, List.replicate 1 false)) = some ([], [c0]))
    (hk : ∀ (y0 : Bool), y0 = c0 → k.den C (is ++ []) (bs ++ [y0]) = r) : (Sx.T.call G f ii bb 0 1 k).den C is bs = r := st_call _ _ (by rw [hC, hG, hl, hm]; exact h) rfl rfl (hk _ rfl)

theorem st_1_0 {C : Nat → Sx.Fn} {is : List Int} {bs : List Bool} {r : Option (List Int × List Bool)} {G : E} {f : Nat} {ii bb : List E} {k : Sx.T} {a0 : Int} {F : Sx.Fn} {g : Bool} {l : List Int} {m : List Bool} (hC : C f = F) (hG : G.B is bs = g) (hl : ii.map (E.I is bs) = l) (hm : bb.map (E.B is bs) = m)
    (h : (bif g then F l m else some (List.replicate 1 0, List.replicate 0 false)) = some ([a0], []))
    (hk : ∀ (x0 : Int), x0 = a0 → k.den C (is ++ [x0]) (bs ++ []) = r) : (Sx.T.call G f ii bb 1 0 k).den C is bs = r := st_call _ _ (by rw [hC, hG, hl, hm]; exact h) rfl rfl (hk _ rfl)

theorem st_1_1 {C : Nat → Sx.Fn} {is : List Int} {bs : List Bool} {r : Option (List Int × List Bool)} {G : E} {f : Nat} {ii bb : List E} {k : Sx.T} {a0 : Int} {c0 : Bool} {F : Sx.Fn} {g : Bool} {l : List Int} {m : List Bool} (hC : C f = F) (hG : G.B is bs = g) (hl : ii.map (E.I is bs) = l) (hm : bb.map (E.B is bs) = m)
    (h : (bif g then F l m else some (List.replicate 1 0, List.replicate 1 false)) = some ([a0], [c0]))
    (hk : ∀ (x0 : Int) (y0 : Bool), x0 = a0 → y0 = c0 → k.den C (is ++ [x0]) (bs ++ [y0]) = r) : (Sx.T.call G f ii bb 1 1 k).den C is bs = r := st_call _ _ (by rw [hC, hG, hl, hm]; exact h) rfl rfl (hk _ _ rfl rfl)

theorem st_2_0 {C : Nat → Sx.Fn} {is : List Int} {bs : List Bool} {r : Option (List Int × List Bool)} {G : E} {f : Nat} {ii bb : List E} {k : Sx.T} {a0 a1 : Int} {F : Sx.Fn} {g : Bool} {l : List Int} {m : List Bool} (hC : C f = F) (hG : G.B is bs = g) (hl : ii.map (E.I is bs) = l) (hm : bb.map (E.B is bs) = m)
    (h : (bif g then F l m else some (List.replicate 2 0, List.replicate 0 false)) = some ([a0, a1], []))
    (hk : ∀ (x0 x1 : Int), x0 = a0 → x1 = a1 → k.den C (is ++ [x0, x1]) (bs ++ []) = r) : (Sx.T.call G f ii bb 2 0 k).den C is bs = r := st_call _ _ (by rw [hC, hG, hl, hm]; exact h) rfl rfl (hk _ _ rfl rfl)

theorem st_2_1 {C : Nat → Sx.Fn} {is : List Int} {bs : List Bool} {r : Option (List Int × List Bool)} {G : E} {f : Nat} {ii bb : List E} {k : Sx.T} {a0 a1 : Int} {c0 : Bool} {F : Sx.Fn} {g : Bool} {l : List Int} {m : List Bool} (hC : C f = F) (hG : G.B is bs = g) (hl : ii.map (E.I is bs) = l) (hm : bb.map (E.B is bs) = m)
    (h : (bif g then F l m else some (List.replicate 2 0, List.replicate 1 false)) = some ([a0, a1], [c0]))
    (hk : ∀ (x0 x1 : Int) (y0 : Bool), x0 = a0 → x1 = a1 → y0 = c0 → k.den C (is ++ [x0, x1]) (bs ++ [y0]) = r) : (Sx.T.call G f ii bb 2 1 k).den C is bs = r := st_call _ _ (by rw [hC, hG, hl, hm]; exact h) rfl rfl (hk _ _ _ rfl rfl rfl)

theorem st_4_1 {C : Nat → Sx.Fn} {is : List Int} {bs : List Bool} {r : Option (List Int × List Bool)} {G : E} {f : Nat} {ii bb : List E} {k : Sx.T} {a0 a1 a2 a3 : Int} {c0 : Bool} {F : Sx.Fn} {g : Bool} {l : List Int} {m : List Bool} (hC : C f = F) (hG : G.B is bs = g) (hl : ii.map (E.I is bs) = l) (hm : bb.map (E.B is bs) = m)
    (h : (bif g then F l m else some (List.replicate 4 0, List.replicate 1 false)) = some ([a0, a1, a2, a3], [c0]))
    (hk : ∀ (x0 x1 x2 x3 : Int) (y0 : Bool), x0 = a0 → x1 = a1 → x2 = a2 → x3 = a3 → y0 = c0 → k.den C (is ++ [x0, x1, x2, x3]) (bs ++ [y0]) = r) : (Sx.T.call G f ii bb 4 1 k).den C is bs = r := st_call _ _ (by rw [hC, hG, hl, hm]; exact h) rfl rfl (hk _ _ _ _ _ rfl rfl rfl rfl rfl)
def LEN8 : List Nat := [0, 1, 2, 2, 3, 3, 3, 3, 4, 4, 4, 4, 4, 4, 4, 4, 5, 5, 5, 5, 5, 5, 5, 5, 5, 5, 5, 5, 5, 5, 5, 5, 6, 6, 6, 6, 6, 6, 6, 6, 6, 6, 6, 6, 6, 6, 6, 6, 6, 6, 6, 6, 6, 6, 6, 6, 6, 6, 6, 6, 6, 6, 6, 6, 7, 7, 7, 7, 7, 7, 7, 7, 7, 7, 7, 7, 7, 7, 7, 7, 7, 7, 7, 7, 7, 7, 7, 7, 7, 7, 7, 7, 7, 7, 7, 7, 7, 7, 7, 7, 7, 7, 7, 7, 7, 7, 7, 7, 7, 7, 7, 7, 7, 7, 7, 7, 7, 7, 7, 7, 7, 7, 7, 7, 7, 7, 7, 7, 8, 8, 8, 8, 8, 8, 8, 8, 8, 8, 8, 8, 8, 8, 8, 8, 8, 8, 8, 8, 8, 8, 8, 8, 8, 8, 8, 8, 8, 8, 8, 8, 8, 8, 8, 8, 8, 8, 8, 8, 8, 8, 8, 8, 8, 8, 8, 8, 8, 8, 8, 8, 8, 8, 8, 8, 8, 8, 8, 8, 8, 8, 8, 8, 8, 8, 8, 8, 8, 8, 8, 8, 8, 8, 8, 8, 8, 8, 8, 8, 8, 8, 8, 8, 8, 8, 8, 8, 8, 8, 8, 8, 8, 8, 8, 8, 8, 8, 8, 8, 8, 8, 8, 8, 8, 8, 8, 8, 8, 8, 8, 8, 8, 8, 8, 8, 8, 8, 8, 8, 8, 8, 8, 8, 8, 8, 8, 8]

def POP8 : List Nat := [0, 1, 1, 2, 1, 2, 2, 3, 1, 2, 2, 3, 2, 3, 3, 4, 1, 2, 2, 3, 2, 3, 3, 4, 2, 3, 3, 4, 3, 4, 4, 5, 1, 2, 2, 3, 2, 3, 3, 4, 2, 3, 3, 4, 3, 4, 4, 5, 2, 3, 3, 4, 3, 4, 4, 5, 3, 4, 4, 5, 4, 5, 5, 6, 1, 2, 2, 3, 2, 3, 3, 4, 2, 3, 3, 4, 3, 4, 4, 5, 2, 3, 3, 4, 3, 4, 4, 5, 3, 4, 4, 5, 4, 5, 5, 6, 2, 3, 3, 4, 3, 4, 4, 5, 3, 4, 4, 5, 4, 5, 5, 6, 3, 4, 4, 5, 4, 5, 5, 6, 4, 5, 5, 6, 5, 6, 6, 7, 1, 2, 2, 3, 2, 3, 3, 4, 2, 3, 3, 4, 3, 4, 4, 5, 2, 3, 3, 4, 3, 4, 4, 5, 3, 4, 4, 5, 4, 5, 5, 6, 2, 3, 3, 4, 3, 4, 4, 5, 3, 4, 4, 5, 4, 5, 5, 6, 3, 4, 4, 5, 4, 5, 5, 6, 4, 5, 5, 6, 5, 6, 6, 7, 2, 3, 3, 4, 3, 4, 4, 5, 3, 4, 4, 5, 4, 5, 5, 6, 3, 4, 4, 5, 4, 5, 5, 6, 4, 5, 5, 6, 5, 6, 6, 7, 3, 4, 4, 5, 4, 5, 5, 6, 4, 5, 5, 6, 5, 6, 6, 7, 4, 5, 5, 6, 5, 6, 6, 7, 5, 6, 6, 7, 6, 7, 7, 8]

theorem e10_17 : Tab.fn a10 17 = F17 := Tab.fn_hd
theorem e10_16 : Tab.fn a10 16 = F16 := ((Tab.fn_tl rfl).trans Tab.fn_hd)
theorem e10_18 : Tab.fn a10 18 = F18 := ((Tab.fn_tl rfl).trans ((Tab.fn_tl rfl).trans Tab.fn_hd))
theorem e18_36 : Tab.fn a18 36 = F36 := Tab.fn_hd

theorem rem_ge (b : Int) (w : Int) (h : 0 ≤ b) : (decide (arI .rem .u64 b w ≥ 0)) = true := by
  rw [arRem _ _ h, decide_eq_true_eq]
  by_cases hw : w = 0
  · subst hw; rw [Int.emod_zero]; exact h
  · exact Int.emod_nonneg _ hw

theorem sub_ge (x y : Int) : (decide (arI .sub .u64 x y ≥ 0)) = true := by rw [arSub, decide_eq_true_eq]; omega

theorem q16 (b : Bool) : F16 [] [b] = some ([bif b then 1 else 0], []) := by cases b <;> rfl

theorem u32_ge (x : Int) : 0 ≤ IntKind.wrap .u64 (IntKind.wrap .u32 x) := by rw [wrap_u64]; omega
theorem shlN (a s : Nat) (hs : s ≤ 64) : arI .shl .u64 (a : Int) (s : Int) = ((a * 2 ^ s % 2 ^ 64 : Nat) : Int) := by
  rw [arShl _ _ (by omega) (by omega), Int.toNat_natCast, Int.natCast_emod, Int.natCast_mul, Int.natCast_pow]; rfl
theorem shrN (a s : Nat) (hs : s ≤ 64) : arI .shr .u64 (a : Int) (s : Int) = ((a / 2 ^ s : Nat) : Int) := by
  rw [arShr _ _ (by omega) (by omega), Int.toNat_natCast, Int.natCast_ediv, Int.natCast_pow]; rfl
theorem remN (a w : Nat) : arI .rem .u64 (a : Int) (w : Int) = ((a % w : Nat) : Int) := by
  rw [arRem _ _ (by omega), Int.natCast_emod]
theorem subN (a b : Nat) (h : b ≤ a) (ha : a < 2 ^ 64) : arI .sub .u64 (a : Int) (b : Int) = ((a - b : Nat) : Int) := by
  rw [arSub]; omega
theorem shl_lt (a s : Nat) : a * 2 ^ s % 2 ^ 64 < 2 ^ 64 := Nat.mod_lt _ (by decide)
theorem shr_lt (a s : Nat) (h : a < 2 ^ 64) : a / 2 ^ s < 2 ^ 64 := Nat.lt_of_le_of_lt (Nat.div_le_self _ _) h
/-! Turned left by s, of 64 bits. -/
def rl (a s : Nat) : Nat := (a % 2 ^ (64 - s)) * 2 ^ s + a / 2 ^ (64 - s)
theorem rl_or (a s : Nat) (ha : a < 2 ^ 64) (hs : s ≤ 64) : (a * 2 ^ s % 2 ^ 64) ||| (a / 2 ^ (64 - s)) = rl a s := by
  have e : 2 ^ 64 = 2 ^ (64 - s) * 2 ^ s := by rw [← Nat.pow_add, Nat.sub_add_cancel hs]
  have h : a / 2 ^ (64 - s) < 2 ^ s := Nat.div_lt_of_lt_mul (by rw [← e]; exact ha)
  rw [e, Nat.mul_mod_mul_right, Nat.mul_comm _ (2 ^ s), ← Nat.two_pow_add_eq_or_of_lt h, Nat.mul_comm (2 ^ s)]
  rfl
theorem rl_lt (a s : Nat) (ha : a < 2 ^ 64) (hs : s ≤ 64) : rl a s < 2 ^ 64 := by
  rw [← rl_or a s ha hs]
  exact Nat.or_lt_two_pow (shl_lt a s) (shr_lt a _ ha)
theorem rl_back (a s : Nat) (ha : a < 2 ^ 64) (hs : s ≤ 64) : rl (rl a s) (64 - s) = a := by
  have e : 2 ^ 64 = 2 ^ (64 - s) * 2 ^ s := by rw [← Nat.pow_add, Nat.sub_add_cancel hs]
  have h : a / 2 ^ (64 - s) < 2 ^ s := Nat.div_lt_of_lt_mul (by rw [← e]; exact ha)
  unfold rl
  rw [show 64 - (64 - s) = s from by omega, Nat.mul_comm _ (2 ^ s), Nat.mul_add_mod, Nat.mod_eq_of_lt h, Nat.mul_add_div (Nat.two_pow_pos s), Nat.div_eq_of_lt h, Nat.add_zero, Nat.mul_comm, Nat.add_comm, Nat.mod_add_div]
theorem nats {a : Int} (h : 0 ≤ a) : ∃ n : Nat, a = n := Int.eq_ofNat_of_zero_le h


theorem wrap_u32 (n : Int) : IntKind.u32.wrap n = n % 4294967296 := by simp [IntKind.wrap, IntKind.bits, IntKind.signed]
theorem wrap_u8 (n : Int) : IntKind.u8.wrap n = n % 256 := by simp [IntKind.wrap, IntKind.bits, IntKind.signed]
theorem wrap_i64 (n : Int) : IntKind.i64.wrap n = (n + 9223372036854775808) % 18446744073709551616 - 9223372036854775808 := by simp [IntKind.wrap, IntKind.bits, IntKind.signed]; split <;> omega
theorem wrap_i32 (n : Int) : IntKind.i32.wrap n = (n + 2147483648) % 4294967296 - 2147483648 := by simp [IntKind.wrap, IntKind.bits, IntKind.signed]; split <;> omega
theorem wrap_i16 (n : Int) : IntKind.i16.wrap n = (n + 32768) % 65536 - 32768 := by simp [IntKind.wrap, IntKind.bits, IntKind.signed]; split <;> omega
theorem wrap_i8 (n : Int) : IntKind.i8.wrap n = (n + 128) % 256 - 128 := by simp [IntKind.wrap, IntKind.bits, IntKind.signed]; split <;> omega

def val : List Nat → Nat
  | [] => 0
  | a :: l => a + 256 * val l
def msk (b : Nat) : Nat → Nat
  | 0 => 0
  | n + 1 => b + 256 * msk b n
theorem and_byte (p q r s : Nat) (hp : p < 256) (hr : r < 256) : (p + 256 * q) &&& (r + 256 * s) = (p &&& r) + 256 * (q &&& s) := by
  have hpr : p &&& r < 2 ^ 8 := Nat.and_lt_two_pow p (by omega)
  refine Nat.eq_of_testBit_eq fun j => ?_
  rw [Nat.testBit_and, show p + 256 * q = 2 ^ 8 * q + p from by omega, show r + 256 * s = 2 ^ 8 * s + r from by omega, show (p &&& r) + 256 * (q &&& s) = 2 ^ 8 * (q &&& s) + (p &&& r) from by omega,
    Nat.testBit_two_pow_mul_add _ (by omega), Nat.testBit_two_pow_mul_add _ (by omega), Nat.testBit_two_pow_mul_add _ hpr]
  split <;> rw [Nat.testBit_and]
def s1 (m x : Nat) : Nat := (x / 2 &&& m) + (x &&& m)
def s2 (m x : Nat) : Nat := (x / 4 &&& m) + (x &&& m)
def s4 (m x : Nat) : Nat := (x / 16 + x) &&& m
theorem t1_ : ∀ a : Fin 256, ∀ b : Fin 2, (a.val / 2 + 128 * b.val) &&& 85 = a.val / 2 &&& 85 := by decide +kernel
theorem t2_ : ∀ a : Fin 256, ∀ b : Fin 4, (a.val / 4 + 64 * b.val) &&& 51 = a.val / 4 &&& 51 := by decide +kernel
theorem t1 (a b : Nat) (ha : a < 256) : (a / 2 + 128 * (b % 2)) &&& 85 = a / 2 &&& 85 := t1_ ⟨a, ha⟩ ⟨b % 2, by omega⟩
theorem t2 (a b : Nat) (ha : a < 256) : (a / 4 + 64 * (b % 4)) &&& 51 = a / 4 &&& 51 := t2_ ⟨a, ha⟩ ⟨b % 4, by omega⟩
theorem s1_val : ∀ l : List Nat, (∀ a ∈ l, a < 256) → s1 (msk 85 l.length) (val l) = val (l.map (s1 85))
  | [], _ => rfl
  | a :: l, h => by
    have ha : a < 256 := h a (List.mem_cons_self ..)
    have ih := s1_val l (fun x hx => h x (List.mem_cons_of_mem _ hx))
    simp only [List.map_cons, List.length_cons, val, msk]
    rw [← ih]
    unfold s1
    rw [show (a + 256 * val l) / 2 = (a / 2 + 128 * (val l % 2)) + 256 * (val l / 2) from by omega, and_byte _ _ _ _ (by omega) (by omega), and_byte _ _ _ _ ha (by omega), t1 a _ ha]
    omega
theorem s2_val : ∀ l : List Nat, (∀ a ∈ l, a < 256) → s2 (msk 51 l.length) (val l) = val (l.map (s2 51))
  | [], _ => rfl
  | a :: l, h => by
    have ha : a < 256 := h a (List.mem_cons_self ..)
    have ih := s2_val l (fun x hx => h x (List.mem_cons_of_mem _ hx))
    simp only [List.map_cons, List.length_cons, val, msk]
    rw [← ih]
    unfold s2
    rw [show (a + 256 * val l) / 4 = (a / 4 + 64 * (val l % 4)) + 256 * (val l / 4) from by omega, and_byte _ _ _ _ (by omega) (by omega), and_byte _ _ _ _ ha (by omega), t2 a _ ha]
    omega
theorem and15 (x : Nat) : x &&& 15 = x % 16 := Nat.and_two_pow_sub_one_eq_mod x 4
theorem s4_val : ∀ l : List Nat, (∀ a ∈ l, a ≤ 68 ∧ a % 16 ≤ 4) → s4 (msk 15 l.length) (val l) = val (l.map (s4 15)) ∧ val l % 16 ≤ 4
  | [], _ => ⟨rfl, by decide⟩
  | a :: l, h => by
    have ha := h a (List.mem_cons_self ..)
    obtain ⟨ih, ih2⟩ := s4_val l (fun x hx => h x (List.mem_cons_of_mem _ hx))
    refine ⟨?_, by simp only [val]; omega⟩
    simp only [List.map_cons, List.length_cons, val, msk]
    rw [← ih]
    unfold s4
    rw [show (a + 256 * val l) / 16 + (a + 256 * val l) = (a / 16 + a + 16 * (val l % 16)) + 256 * (val l / 16 + val l) from by omega, and_byte _ _ _ _ (by omega) (by omega), and15, and15]
    omega
def pop8 (a : Nat) : Nat := s4 15 (s2 51 (s1 85 a))
theorem p1_ : ∀ a : Fin 256, s1 85 a.val < 256 ∧ s2 51 (s1 85 a.val) ≤ 68 ∧ s2 51 (s1 85 a.val) % 16 ≤ 4 ∧ pop8 a.val ≤ 8 ∧ pop8 a.val + pop8 (255 - a.val) = 8 := by decide +kernel
theorem p1 (a : Nat) (h : a < 256) : s1 85 a < 256 ∧ s2 51 (s1 85 a) ≤ 68 ∧ s2 51 (s1 85 a) % 16 ≤ 4 ∧ pop8 a ≤ 8 ∧ pop8 a + pop8 (255 - a) = 8 := p1_ ⟨a, h⟩
theorem pop_val (l : List Nat) (h : ∀ a ∈ l, a < 256) : s4 (msk 15 l.length) (s2 (msk 51 l.length) (s1 (msk 85 l.length) (val l))) = val (l.map pop8) := by
  rw [s1_val l h]
  have h2 := s2_val (l.map (s1 85)) (fun x hx => by obtain ⟨a, ha, rfl⟩ := List.mem_map.1 hx; exact (p1 a (h a ha)).1)
  rw [List.length_map] at h2
  rw [h2, List.map_map]
  have h4 := (s4_val (l.map (s2 51 ∘ s1 85)) (fun x hx => by obtain ⟨a, ha, rfl⟩ := List.mem_map.1 hx; exact ⟨(p1 a (h a ha)).2.1, (p1 a (h a ha)).2.2.1⟩)).1
  rw [List.length_map] at h4
  rw [h4, List.map_map]
  rfl
def bytes (x : Nat) : List Nat := [x % 256, x / 256 % 256, x / 65536 % 256, x / 16777216 % 256, x / 4294967296 % 256, x / 1099511627776 % 256, x / 281474976710656 % 256, x / 72057594037927936 % 256]
theorem val_bytes (x : Nat) (h : x < 18446744073709551616) : val (bytes x) = x := by simp only [bytes, val]; omega
theorem bytes_lt (x : Nat) : ∀ a ∈ bytes x, a < 256 := by
  intro a ha
  simp only [bytes, List.mem_cons, List.not_mem_nil, or_false] at ha
  omega
/-- The number of bits that are 1, byte by byte. -/
def pop (x : Nat) : Nat := ((bytes x).map pop8).sum
theorem pop_le (x : Nat) : pop x ≤ 64 := by
  have h := fun a ha => (p1 a (bytes_lt x a ha)).2.2.2.1
  simp only [bytes, List.mem_cons, List.not_mem_nil, or_false, forall_eq_or_imp, forall_eq] at h
  simp only [pop, bytes, List.map_cons, List.map_nil, List.sum_cons, List.sum_nil]
  omega
theorem pop_not (x : Nat) (h : x < 18446744073709551616) : pop x + pop (18446744073709551615 - x) = 64 := by
  have h0 := fun a ha => (p1 a (bytes_lt x a ha)).2.2.2.2
  simp only [bytes, List.mem_cons, List.not_mem_nil, or_false, forall_eq_or_imp, forall_eq] at h0
  simp only [pop, bytes, List.map_cons, List.map_nil, List.sum_cons, List.sum_nil]
  rw [show (18446744073709551615 - x) % 256 = 255 - x % 256 from by omega, show (18446744073709551615 - x) / 256 % 256 = 255 - x / 256 % 256 from by omega, show (18446744073709551615 - x) / 65536 % 256 = 255 - x / 65536 % 256 from by omega,
    show (18446744073709551615 - x) / 16777216 % 256 = 255 - x / 16777216 % 256 from by omega, show (18446744073709551615 - x) / 4294967296 % 256 = 255 - x / 4294967296 % 256 from by omega, show (18446744073709551615 - x) / 1099511627776 % 256 = 255 - x / 1099511627776 % 256 from by omega,
    show (18446744073709551615 - x) / 281474976710656 % 256 = 255 - x / 281474976710656 % 256 from by omega, show (18446744073709551615 - x) / 72057594037927936 % 256 = 255 - x / 72057594037927936 % 256 from by omega]
  omega
theorem pop_sum (x : Nat) (h : x < 18446744073709551616) :
    let z := s4 1085102592571150095 (s2 3689348814741910323 (s1 6148914691236517205 x))
    let z1 := (z + z / 256) % 18446744073709551616
    let z2 := (z1 + z1 / 65536) % 18446744073709551616
    let z3 := (z2 + z2 / 4294967296) % 18446744073709551616
    z < 18446744073709551616 ∧ z3 % 128 = pop x := by
  have h0 := pop_val (bytes x) (bytes_lt x)
  have hb := fun a ha => (p1 a (bytes_lt x a ha)).2.2.2.1
  rw [val_bytes x h] at h0
  have e1 : msk 15 (bytes x).length = 1085102592571150095 := by simp only [bytes, List.length_cons, List.length_nil]; decide +kernel
  have e2 : msk 51 (bytes x).length = 3689348814741910323 := by simp only [bytes, List.length_cons, List.length_nil]; decide +kernel
  have e3 : msk 85 (bytes x).length = 6148914691236517205 := by simp only [bytes, List.length_cons, List.length_nil]; decide +kernel
  rw [e1, e2, e3] at h0
  intro z z1 z2 z3
  have hz : z = val ((bytes x).map pop8) := h0
  unfold pop
  simp only [bytes, List.mem_cons, List.not_mem_nil, or_false, forall_eq_or_imp, forall_eq] at hb
  simp only [bytes, List.map_cons, List.map_nil, List.sum_cons, List.sum_nil, val] at hz ⊢
  have hz1 : z1 = (z + z / 256) % 18446744073709551616 := rfl
  have hz2 : z2 = (z1 + z1 / 65536) % 18446744073709551616 := rfl
  have hz3 : z3 = (z2 + z2 / 4294967296) % 18446744073709551616 := rfl
  clear_value z z1 z2 z3
  clear h0 e1 e2 e3 h
  generalize pop8 (x % 256) = p0 at *
  generalize pop8 (x / 256 % 256) = p1 at *
  generalize pop8 (x / 65536 % 256) = p2 at *
  generalize pop8 (x / 16777216 % 256) = p3 at *
  generalize pop8 (x / 4294967296 % 256) = p4 at *
  generalize pop8 (x / 1099511627776 % 256) = p5 at *
  generalize pop8 (x / 281474976710656 % 256) = p6 at *
  generalize pop8 (x / 72057594037927936 % 256) = p7 at *
  obtain ⟨b0, b1, b2, b3, b4, b5, b6, b7⟩ := hb
  have k0 : z < 18446744073709551616 := by omega
  refine ⟨k0, ?_⟩
  have f0 : z / 256 = p1 + 256 * p2 + 65536 * p3 + 16777216 * p4 + 4294967296 * p5 + 1099511627776 * p6 + 281474976710656 * p7 := by omega
  have f1 : z1 = (p0 + p1) + 256 * (p1 + p2) + 65536 * (p2 + p3) + 16777216 * (p3 + p4) + 4294967296 * (p4 + p5) + 1099511627776 * (p5 + p6) + 281474976710656 * (p6 + p7) + 72057594037927936 * p7 := by omega
  clear hz1 hz f0
  have f2 : z1 / 65536 = (p2 + p3) + 256 * (p3 + p4) + 65536 * (p4 + p5) + 16777216 * (p5 + p6) + 4294967296 * (p6 + p7) + 1099511627776 * p7 := by omega
  have f3 : z2 = (p0 + p1 + p2 + p3) + 256 * (p1 + p2 + p3 + p4) + 65536 * (p2 + p3 + p4 + p5) + 16777216 * (p3 + p4 + p5 + p6) + 4294967296 * (p4 + p5 + p6 + p7) + 1099511627776 * (p5 + p6 + p7) + 281474976710656 * (p6 + p7) + 72057594037927936 * p7 := by omega
  clear hz2 f1 f2
  have f4 : z2 / 4294967296 = (p4 + p5 + p6 + p7) + 256 * (p5 + p6 + p7) + 65536 * (p6 + p7) + 16777216 * p7 := by omega
  omega
/-! A length in bits; the lowest 1. -/
theorem len_top : ∀ (k n : Nat), n < 2 ^ k → n ≠ 0 → k ≤ 64 → 1 ≤ Go.Lib.bitLen n ∧ n / 2 ^ (Go.Lib.bitLen n - 1) = 1
  | 0, n, h, h0, _ => by omega
  | k + 1, n, h, h0, hk => by
    have hn : n < 2 ^ 64 := Nat.lt_of_lt_of_le h (Nat.pow_le_pow_right (by decide) hk)
    have e := Go.Lib.bitLen_half n h0 hn
    by_cases h1 : n / 2 = 0
    · have : Go.Lib.bitLen 0 = 0 := by decide
      rw [h1, this] at e
      rw [e]
      have : n = 1 := by omega
      subst this
      exact ⟨by decide, by decide⟩
    · obtain ⟨i1, i2⟩ := len_top k (n / 2) (by rw [Nat.pow_succ] at h; omega) h1 (by omega)
      refine ⟨by omega, ?_⟩
      rw [e, show 1 + Go.Lib.bitLen (n / 2) - 1 = (Go.Lib.bitLen (n / 2) - 1) + 1 from by omega, Nat.pow_succ, Nat.mul_comm, ← Nat.div_div_eq_div_mul, i2]


theorem shr1 (x : Int) : arI .shr .u64 x 1 = x / 2 := by
  rw [arShr _ _ (by decide) (by decide)]; simp

theorem shr2 (x : Int) : arI .shr .u64 x 2 = x / 4 := by
  rw [arShr _ _ (by decide) (by decide)]; simp

theorem shr4 (x : Int) : arI .shr .u64 x 4 = x / 16 := by
  rw [arShr _ _ (by decide) (by decide)]; simp

theorem shr8 (x : Int) : arI .shr .u64 x 8 = x / 256 := by
  rw [arShr _ _ (by decide) (by decide)]; simp

theorem shr16 (x : Int) : arI .shr .u64 x 16 = x / 65536 := by
  rw [arShr _ _ (by decide) (by decide)]; simp

theorem shr32 (x : Int) : arI .shr .u64 x 32 = x / 4294967296 := by
  rw [arShr _ _ (by decide) (by decide)]; simp

theorem shrw8 (x : Int) : arI .shr .u32 x 8 = x / 256 := by
  show x.fdiv (2 ^ (min (8 : Int).toNat 32)) = _
  rw [Int.fdiv_eq_ediv_of_nonneg _ (by decide)]; simp

theorem shrw16 (x : Int) : arI .shr .u32 x 16 = x / 65536 := by
  show x.fdiv (2 ^ (min (16 : Int).toNat 32)) = _
  rw [Int.fdiv_eq_ediv_of_nonneg _ (by decide)]; simp

theorem shrw24 (x : Int) : arI .shr .u32 x 24 = x / 16777216 := by
  show x.fdiv (2 ^ (min (24 : Int).toNat 32)) = _
  rw [Int.fdiv_eq_ediv_of_nonneg _ (by decide)]; simp

theorem low8w (b : Int) : arI .and .u32 b 255 = b % 256 := by
  show IntKind.u32.wrap ((BitVec.ofInt 32 b &&& BitVec.ofInt 32 255).toNat : Int) = _
  rw [BitVec.toNat_and, BitVec.toNat_ofInt, show (BitVec.ofInt 32 255).toNat = 2 ^ 8 - 1 from by decide, Nat.and_two_pow_sub_one_eq_mod, wrap_u32]
  omega
theorem r1 {a b : Int} (h : a = b) : (some ([a], []) : Option (List Int × List Bool)) = some ([b], []) := by rw [h]
theorem len8_ : ∀ i : Fin 256, LEN8.getD i.val 0 = Lib.bitLen i.val := by decide +kernel
theorem pop8_ : ∀ i : Fin 256, POP8.getD i.val 0 = pop8 i.val := by decide +kernel
theorem len_at (i : Nat) (h : i < 256) : LEN8.getD (IntKind.wrap .u8 (i : Int)).toNat 0 = Lib.bitLen i := by
  rw [wrap_u8, show ((i : Int) % 256).toNat = i from by omega]; exact len8_ ⟨i, h⟩
theorem pop_at (I : Int) (i : Nat) (hI : I = i) (h : i < 256) : POP8.getD I.toNat 0 = pop8 i := by
  rw [hI, Int.toNat_natCast]; exact pop8_ ⟨i, h⟩
theorem len_fin (x s D : Nat) (S I : Int) (hS : S = s) (hD : D = 2 ^ s) (hI : I = ((x / D : Nat) : Int)) (hlt : x / D < 256) (hge : s = 0 ∨ D ≤ x) (hs : s ≤ 64) (hx : x < 18446744073709551616) :
    arI .add .i64 S (IntKind.wrap .i64 ((LEN8.getD (IntKind.wrap .u8 I).toNat 0 : Nat) : Int)) = ((Lib.bitLen x : Nat) : Int) := by
  subst hS hI hD
  rw [len_at _ hlt]
  have h8 : Lib.bitLen (x / 2 ^ s) ≤ 8 := Lib.bitLen_le _ 8 (by decide) hlt
  have e : Lib.bitLen x = s + Lib.bitLen (x / 2 ^ s) := by
    rcases hge with h | h
    · subst h; rw [Nat.pow_zero, Nat.div_one, Nat.zero_add]
    · exact Lib.bitLen_shift s x h hx
  show IntKind.wrap .i64 (_ + IntKind.wrap .i64 _) = _
  rw [wrap_i64, wrap_i64, e]; omega

theorem e19_37 : Tab.fn a19 37 = F37 := Tab.fn_hd
theorem e22_38 : Tab.fn a22 38 = F38 := Tab.fn_hd

set_option maxHeartbeats 4000000 in
theorem q38 (x : Nat) (hx : x < 18446744073709551616) : F38 [(x : Int)] [] = some ([((Lib.bitLen x : Nat) : Int)], []) := by
  refine Eq.trans (Fd_of (n := 1) (m := 0) (t := t38) (C := Tab.fn a38) rfl rfl) ?_
  rw [t38]
  refine st_ite (fun hc => ?_) (fun hc => ?_)
  · replace hc : (decide ((x : Int) ≥ 4294967296)) = true := hc
    have c1 := hc
    clear hc
    refine st_ite (fun hc => ?_) (fun hc => ?_)
    · replace hc : (decide ((arI .shr .u64 (x : Int) 32) ≥ 65536)) = true := hc
      have c2 := hc
      clear hc
      refine st_lb fun b0 hb0 => ?_
      replace hb0 : b0 = (decide ((arI .shr .u64 (arI .shr .u64 (x : Int) 32) 16) ≥ 256)) := hb0
      show T.den _ _ [(x : Int)] [b0] = _
      refine st_ite (fun hc => ?_) (fun hc => ?_)
      · replace hc : b0 = true := hc
        have c3 := hc
        clear hc
        refine st_li fun i1 hi1 => ?_
        replace hi1 : i1 = (arI .shr .u64 (arI .shr .u64 (arI .shr .u64 (x : Int) 32) 16) 8) := hi1
        show T.den _ _ [(x : Int), i1] [b0] = _
        refine st_rq (show ((decide ((IntKind.wrap .u8 i1) ≥ 0)) && (decide ((IntKind.wrap .u8 i1) < 256))) = true from ?_) ?_
        · rw [wrap_u8, Bool.and_eq_true, decide_eq_true_eq, decide_eq_true_eq]; omega
        refine st_ret ?_
        show some ([(arI .add .i64 56 (IntKind.wrap .i64 ((LEN8.getD ((IntKind.wrap .u8 i1)).toNat 0 : Nat) : Int)))], []) = _
        rw [hb0] at c3
        rw [hi1]
        simp only [shr32, shr16, shr8, decide_eq_true_eq, decide_eq_false_iff_not] at c1 c2 c3
        exact r1 (len_fin x 56 72057594037927936 _ _ rfl (by decide) (by simp only [shr32, shr16, shr8]; omega) (by omega) (by omega) (by decide) (by omega))
      · replace hc : b0 = false := hc
        have c4 := hc
        clear hc
        refine st_rq (show ((decide ((IntKind.wrap .u8 (arI .shr .u64 (arI .shr .u64 (x : Int) 32) 16)) ≥ 0)) && (decide ((IntKind.wrap .u8 (arI .shr .u64 (arI .shr .u64 (x : Int) 32) 16)) < 256))) = true from ?_) ?_
        · rw [wrap_u8, Bool.and_eq_true, decide_eq_true_eq, decide_eq_true_eq]; omega
        refine st_li fun i1 hi1 => ?_
        replace hi1 : i1 = ((LEN8.getD ((IntKind.wrap .u8 (arI .shr .u64 (arI .shr .u64 (x : Int) 32) 16))).toNat 0 : Nat) : Int) := hi1
        show T.den _ _ [(x : Int), i1] [b0] = _
        refine st_ret ?_
        show some ([(arI .add .i64 48 (IntKind.wrap .i64 i1))], []) = _
        rw [hb0] at c4
        rw [hi1]
        simp only [shr32, shr16, shr8, decide_eq_true_eq, decide_eq_false_iff_not] at c1 c2 c4
        exact r1 (len_fin x 48 281474976710656 _ _ rfl (by decide) (by simp only [shr32, shr16, shr8]; omega) (by omega) (by omega) (by decide) (by omega))
    · replace hc : (decide ((arI .shr .u64 (x : Int) 32) ≥ 65536)) = false := hc
      have c5 := hc
      clear hc
      refine st_ite (fun hc => ?_) (fun hc => ?_)
      · replace hc : (decide ((arI .shr .u64 (x : Int) 32) ≥ 256)) = true := hc
        have c6 := hc
        clear hc
        refine st_rq (show ((decide ((IntKind.wrap .u8 (arI .shr .u64 (arI .shr .u64 (x : Int) 32) 8)) ≥ 0)) && (decide ((IntKind.wrap .u8 (arI .shr .u64 (arI .shr .u64 (x : Int) 32) 8)) < 256))) = true from ?_) ?_
        · rw [wrap_u8, Bool.and_eq_true, decide_eq_true_eq, decide_eq_true_eq]; omega
        refine st_li fun i1 hi1 => ?_
        replace hi1 : i1 = ((LEN8.getD ((IntKind.wrap .u8 (arI .shr .u64 (arI .shr .u64 (x : Int) 32) 8))).toNat 0 : Nat) : Int) := hi1
        show T.den _ _ [(x : Int), i1] [] = _
        refine st_ret ?_
        show some ([(arI .add .i64 40 (IntKind.wrap .i64 i1))], []) = _
        rw [hi1]
        simp only [shr32, shr16, shr8, decide_eq_true_eq, decide_eq_false_iff_not] at c1 c5 c6
        exact r1 (len_fin x 40 1099511627776 _ _ rfl (by decide) (by simp only [shr32, shr16, shr8]; omega) (by omega) (by omega) (by decide) (by omega))
      · replace hc : (decide ((arI .shr .u64 (x : Int) 32) ≥ 256)) = false := hc
        have c7 := hc
        clear hc
        refine st_rq (show ((decide ((IntKind.wrap .u8 (arI .shr .u64 (x : Int) 32)) ≥ 0)) && (decide ((IntKind.wrap .u8 (arI .shr .u64 (x : Int) 32)) < 256))) = true from ?_) ?_
        · rw [wrap_u8, Bool.and_eq_true, decide_eq_true_eq, decide_eq_true_eq]; omega
        refine st_li fun i1 hi1 => ?_
        replace hi1 : i1 = (arI .add .i64 32 (IntKind.wrap .i64 ((LEN8.getD ((IntKind.wrap .u8 (arI .shr .u64 (x : Int) 32))).toNat 0 : Nat) : Int))) := hi1
        show T.den _ _ [(x : Int), i1] [] = _
        refine st_ret ?_
        show some ([i1], []) = _
        rw [hi1]
        simp only [shr32, shr16, shr8, decide_eq_true_eq, decide_eq_false_iff_not] at c1 c5 c7
        exact r1 (len_fin x 32 4294967296 _ _ rfl (by decide) (by simp only [shr32, shr16, shr8]; omega) (by omega) (by omega) (by decide) (by omega))
  · replace hc : (decide ((x : Int) ≥ 4294967296)) = false := hc
    have c8 := hc
    clear hc
    refine st_ite (fun hc => ?_) (fun hc => ?_)
    · replace hc : (decide ((x : Int) ≥ 65536)) = true := hc
      have c9 := hc
      clear hc
      refine st_ite (fun hc => ?_) (fun hc => ?_)
      · replace hc : (decide ((arI .shr .u64 (x : Int) 16) ≥ 256)) = true := hc
        have c10 := hc
        clear hc
        refine st_rq (show ((decide ((IntKind.wrap .u8 (arI .shr .u64 (arI .shr .u64 (x : Int) 16) 8)) ≥ 0)) && (decide ((IntKind.wrap .u8 (arI .shr .u64 (arI .shr .u64 (x : Int) 16) 8)) < 256))) = true from ?_) ?_
        · rw [wrap_u8, Bool.and_eq_true, decide_eq_true_eq, decide_eq_true_eq]; omega
        refine st_li fun i1 hi1 => ?_
        replace hi1 : i1 = ((LEN8.getD ((IntKind.wrap .u8 (arI .shr .u64 (arI .shr .u64 (x : Int) 16) 8))).toNat 0 : Nat) : Int) := hi1
        show T.den _ _ [(x : Int), i1] [] = _
        refine st_ret ?_
        show some ([(arI .add .i64 24 (IntKind.wrap .i64 i1))], []) = _
        rw [hi1]
        simp only [shr32, shr16, shr8, decide_eq_true_eq, decide_eq_false_iff_not] at c8 c9 c10
        exact r1 (len_fin x 24 16777216 _ _ rfl (by decide) (by simp only [shr32, shr16, shr8]; omega) (by omega) (by omega) (by decide) (by omega))
      · replace hc : (decide ((arI .shr .u64 (x : Int) 16) ≥ 256)) = false := hc
        have c11 := hc
        clear hc
        refine st_rq (show ((decide ((IntKind.wrap .u8 (arI .shr .u64 (x : Int) 16)) ≥ 0)) && (decide ((IntKind.wrap .u8 (arI .shr .u64 (x : Int) 16)) < 256))) = true from ?_) ?_
        · rw [wrap_u8, Bool.and_eq_true, decide_eq_true_eq, decide_eq_true_eq]; omega
        refine st_li fun i1 hi1 => ?_
        replace hi1 : i1 = (arI .add .i64 16 (IntKind.wrap .i64 ((LEN8.getD ((IntKind.wrap .u8 (arI .shr .u64 (x : Int) 16))).toNat 0 : Nat) : Int))) := hi1
        show T.den _ _ [(x : Int), i1] [] = _
        refine st_ret ?_
        show some ([i1], []) = _
        rw [hi1]
        simp only [shr32, shr16, shr8, decide_eq_true_eq, decide_eq_false_iff_not] at c8 c9 c11
        exact r1 (len_fin x 16 65536 _ _ rfl (by decide) (by simp only [shr32, shr16, shr8]; omega) (by omega) (by omega) (by decide) (by omega))
    · replace hc : (decide ((x : Int) ≥ 65536)) = false := hc
      have c12 := hc
      clear hc
      refine st_ite (fun hc => ?_) (fun hc => ?_)
      · replace hc : (decide ((x : Int) ≥ 256)) = true := hc
        have c13 := hc
        clear hc
        refine st_rq (show ((decide ((IntKind.wrap .u8 (arI .shr .u64 (x : Int) 8)) ≥ 0)) && (decide ((IntKind.wrap .u8 (arI .shr .u64 (x : Int) 8)) < 256))) = true from ?_) ?_
        · rw [wrap_u8, Bool.and_eq_true, decide_eq_true_eq, decide_eq_true_eq]; omega
        refine st_li fun i1 hi1 => ?_
        replace hi1 : i1 = (arI .add .i64 8 (IntKind.wrap .i64 ((LEN8.getD ((IntKind.wrap .u8 (arI .shr .u64 (x : Int) 8))).toNat 0 : Nat) : Int))) := hi1
        show T.den _ _ [(x : Int), i1] [] = _
        refine st_ret ?_
        show some ([i1], []) = _
        rw [hi1]
        simp only [shr32, shr16, shr8, decide_eq_true_eq, decide_eq_false_iff_not] at c8 c12 c13
        exact r1 (len_fin x 8 256 _ _ rfl (by decide) (by simp only [shr32, shr16, shr8]; omega) (by omega) (by omega) (by decide) (by omega))
      · replace hc : (decide ((x : Int) ≥ 256)) = false := hc
        have c14 := hc
        clear hc
        refine st_rq (show ((decide ((IntKind.wrap .u8 (x : Int)) ≥ 0)) && (decide ((IntKind.wrap .u8 (x : Int)) < 256))) = true from ?_) ?_
        · rw [wrap_u8, Bool.and_eq_true, decide_eq_true_eq, decide_eq_true_eq]; omega
        refine st_ret ?_
        show some ([(arI .add .i64 0 (IntKind.wrap .i64 ((LEN8.getD ((IntKind.wrap .u8 (x : Int))).toNat 0 : Nat) : Int)))], []) = _
        simp only [shr32, shr16, shr8, decide_eq_true_eq, decide_eq_false_iff_not] at c8 c12 c14
        exact r1 (len_fin x 0 1 _ _ rfl (by decide) (by omega) (by omega) (by omega) (by decide) (by omega))

set_option maxHeartbeats 4000000 in
theorem q37 (x : Nat) (hx : x < 4294967296) : F37 [(x : Int)] [] = some ([((Lib.bitLen x : Nat) : Int)], []) := by
  refine Eq.trans (Fd_of (n := 1) (m := 0) (t := t37) (C := Tab.fn a37) rfl rfl) ?_
  rw [t37]
  refine st_ite (fun hc => ?_) (fun hc => ?_)
  · replace hc : (decide ((x : Int) ≥ 65536)) = true := hc
    have c1 := hc
    clear hc
    refine st_ite (fun hc => ?_) (fun hc => ?_)
    · replace hc : (decide ((arI .shr .u32 (x : Int) 16) ≥ 256)) = true := hc
      have c2 := hc
      clear hc
      refine st_rq (show ((decide ((IntKind.wrap .u8 (arI .shr .u32 (arI .shr .u32 (x : Int) 16) 8)) ≥ 0)) && (decide ((IntKind.wrap .u8 (arI .shr .u32 (arI .shr .u32 (x : Int) 16) 8)) < 256))) = true from ?_) ?_
      · rw [wrap_u8, Bool.and_eq_true, decide_eq_true_eq, decide_eq_true_eq]; omega
      refine st_li fun i1 hi1 => ?_
      replace hi1 : i1 = ((LEN8.getD ((IntKind.wrap .u8 (arI .shr .u32 (arI .shr .u32 (x : Int) 16) 8))).toNat 0 : Nat) : Int) := hi1
      show T.den _ _ [(x : Int), i1] [] = _
      refine st_ret ?_
      show some ([(arI .add .i64 24 (IntKind.wrap .i64 i1))], []) = _
      rw [hi1]
      simp only [shrw16, shrw8, decide_eq_true_eq, decide_eq_false_iff_not] at c1 c2
      exact r1 (len_fin x 24 16777216 _ _ rfl (by decide) (by simp only [shrw16, shrw8]; omega) (by omega) (by omega) (by decide) (by omega))
    · replace hc : (decide ((arI .shr .u32 (x : Int) 16) ≥ 256)) = false := hc
      have c3 := hc
      clear hc
      refine st_rq (show ((decide ((IntKind.wrap .u8 (arI .shr .u32 (x : Int) 16)) ≥ 0)) && (decide ((IntKind.wrap .u8 (arI .shr .u32 (x : Int) 16)) < 256))) = true from ?_) ?_
      · rw [wrap_u8, Bool.and_eq_true, decide_eq_true_eq, decide_eq_true_eq]; omega
      refine st_li fun i1 hi1 => ?_
      replace hi1 : i1 = (arI .add .i64 16 (IntKind.wrap .i64 ((LEN8.getD ((IntKind.wrap .u8 (arI .shr .u32 (x : Int) 16))).toNat 0 : Nat) : Int))) := hi1
      show T.den _ _ [(x : Int), i1] [] = _
      refine st_ret ?_
      show some ([i1], []) = _
      rw [hi1]
      simp only [shrw16, shrw8, decide_eq_true_eq, decide_eq_false_iff_not] at c1 c3
      exact r1 (len_fin x 16 65536 _ _ rfl (by decide) (by simp only [shrw16, shrw8]; omega) (by omega) (by omega) (by decide) (by omega))
  · replace hc : (decide ((x : Int) ≥ 65536)) = false := hc
    have c4 := hc
    clear hc
    refine st_ite (fun hc => ?_) (fun hc => ?_)
    · replace hc : (decide ((x : Int) ≥ 256)) = true := hc
      have c5 := hc
      clear hc
      refine st_rq (show ((decide ((IntKind.wrap .u8 (arI .shr .u32 (x : Int) 8)) ≥ 0)) && (decide ((IntKind.wrap .u8 (arI .shr .u32 (x : Int) 8)) < 256))) = true from ?_) ?_
      · rw [wrap_u8, Bool.and_eq_true, decide_eq_true_eq, decide_eq_true_eq]; omega
      refine st_li fun i1 hi1 => ?_
      replace hi1 : i1 = (arI .add .i64 8 (IntKind.wrap .i64 ((LEN8.getD ((IntKind.wrap .u8 (arI .shr .u32 (x : Int) 8))).toNat 0 : Nat) : Int))) := hi1
      show T.den _ _ [(x : Int), i1] [] = _
      refine st_ret ?_
      show some ([i1], []) = _
      rw [hi1]
      simp only [shrw16, shrw8, decide_eq_true_eq, decide_eq_false_iff_not] at c4 c5
      exact r1 (len_fin x 8 256 _ _ rfl (by decide) (by simp only [shrw16, shrw8]; omega) (by omega) (by omega) (by decide) (by omega))
    · replace hc : (decide ((x : Int) ≥ 256)) = false := hc
      have c6 := hc
      clear hc
      refine st_rq (show ((decide ((IntKind.wrap .u8 (x : Int)) ≥ 0)) && (decide ((IntKind.wrap .u8 (x : Int)) < 256))) = true from ?_) ?_
      · rw [wrap_u8, Bool.and_eq_true, decide_eq_true_eq, decide_eq_true_eq]; omega
      refine st_ret ?_
      show some ([(arI .add .i64 0 (IntKind.wrap .i64 ((LEN8.getD ((IntKind.wrap .u8 (x : Int))).toNat 0 : Nat) : Int)))], []) = _
      simp only [shrw16, shrw8, decide_eq_true_eq, decide_eq_false_iff_not] at c4 c6
      exact r1 (len_fin x 0 1 _ _ rfl (by decide) (by omega) (by omega) (by omega) (by decide) (by omega))

set_option maxHeartbeats 4000000 in
theorem q21 (x : Nat) (hx : x < 4294967296) : F21 [(x : Int)] [] = some ([((pop x : Nat) : Int)], []) := by
  refine Eq.trans (Fd_of (n := 1) (m := 0) (t := t21) (C := Tab.fn a21) rfl rfl) ?_
  rw [t21]
  refine st_rq (show ((decide ((arI .shr .u32 (x : Int) 24) ≥ 0)) && (decide ((arI .shr .u32 (x : Int) 24) < 256))) = true from ?_) ?_
  · simp only [shrw24, shrw16, shrw8, low8w, Bool.and_eq_true, decide_eq_true_eq]; omega
  refine st_rq (show ((decide ((arI .and .u32 (arI .shr .u32 (x : Int) 16) 255) ≥ 0)) && (decide ((arI .and .u32 (arI .shr .u32 (x : Int) 16) 255) < 256))) = true from ?_) ?_
  · simp only [shrw24, shrw16, shrw8, low8w, Bool.and_eq_true, decide_eq_true_eq]; omega
  refine st_li fun i1 hi1 => ?_
  replace hi1 : i1 = (arI .add .u8 ((POP8.getD ((arI .shr .u32 (x : Int) 24)).toNat 0 : Nat) : Int) ((POP8.getD ((arI .and .u32 (arI .shr .u32 (x : Int) 16) 255)).toNat 0 : Nat) : Int)) := hi1
  show T.den _ _ [(x : Int), i1] [] = _
  refine st_rq (show ((decide ((arI .and .u32 (arI .shr .u32 (x : Int) 8) 255) ≥ 0)) && (decide ((arI .and .u32 (arI .shr .u32 (x : Int) 8) 255) < 256))) = true from ?_) ?_
  · simp only [shrw24, shrw16, shrw8, low8w, Bool.and_eq_true, decide_eq_true_eq]; omega
  refine st_li fun i2 hi2 => ?_
  replace hi2 : i2 = (arI .add .u8 i1 ((POP8.getD ((arI .and .u32 (arI .shr .u32 (x : Int) 8) 255)).toNat 0 : Nat) : Int)) := hi2
  show T.den _ _ [(x : Int), i1, i2] [] = _
  refine st_rq (show ((decide ((arI .and .u32 (x : Int) 255) ≥ 0)) && (decide ((arI .and .u32 (x : Int) 255) < 256))) = true from ?_) ?_
  · simp only [shrw24, shrw16, shrw8, low8w, Bool.and_eq_true, decide_eq_true_eq]; omega
  refine st_li fun i3 hi3 => ?_
  replace hi3 : i3 = (IntKind.wrap .i64 (arI .add .u8 i2 ((POP8.getD ((arI .and .u32 (x : Int) 255)).toNat 0 : Nat) : Int))) := hi3
  show T.den _ _ [(x : Int), i1, i2, i3] [] = _
  refine st_ret ?_
  show some ([i3], []) = _
  have k0 := (p1 (x / 16777216) (by omega)).2.2.2.1
  have k1 := (p1 (x / 65536 % 256) (by omega)).2.2.2.1
  have k2 := (p1 (x / 256 % 256) (by omega)).2.2.2.1
  have k3 := (p1 (x % 256) (by omega)).2.2.2.1
  have z : pop8 0 = 0 := by decide
  rw [pop_at (arI .shr .u32 (x : Int) 24) (x / 16777216) (by rw [shrw24]; omega) (by omega), pop_at (arI .and .u32 (arI .shr .u32 (x : Int) 16) 255) (x / 65536 % 256) (by rw [low8w, shrw16]; omega) (by omega)] at hi1
  rw [pop_at (arI .and .u32 (arI .shr .u32 (x : Int) 8) 255) (x / 256 % 256) (by rw [low8w, shrw8]; omega) (by omega)] at hi2
  rw [pop_at (arI .and .u32 (x : Int) 255) (x % 256) (by rw [low8w]; omega) (by omega)] at hi3
  have a8 : ∀ a b : Int, arI .add .u8 a b = (a + b) % 256 := fun a b => wrap_u8 _
  rw [a8] at hi1 hi2 hi3
  rw [wrap_i64] at hi3
  refine r1 ?_
  unfold pop bytes
  simp only [List.map_cons, List.map_nil, List.sum_cons, List.sum_nil]
  rw [show x / 16777216 % 256 = x / 16777216 from by omega, show x / 4294967296 % 256 = 0 from by omega, show x / 1099511627776 % 256 = 0 from by omega, show x / 281474976710656 % 256 = 0 from by omega, show x / 72057594037927936 % 256 = 0 from by omega, z]
  omega

theorem s4_lt (m x : Nat) (h : m < 2 ^ 64) : s4 m x < 2 ^ 64 := Nat.lt_of_le_of_lt Nat.and_le_right h
theorem s2_lt (m x : Nat) (h : m < 2 ^ 63) : s2 m x < 2 ^ 64 := by
  have h1 : x / 4 &&& m ≤ m := Nat.and_le_right
  have h2 : x &&& m ≤ m := Nat.and_le_right
  unfold s2; omega
theorem s1_lt (m x : Nat) (h : m < 2 ^ 63) : s1 m x < 2 ^ 64 := by
  have h1 : x / 2 &&& m ≤ m := Nat.and_le_right
  have h2 : x &&& m ≤ m := Nat.and_le_right
  unfold s1; omega
theorem st1 (x m : Nat) (M : Int) (hM : M = m) (hx : x < 2 ^ 64) (hm : m < 2 ^ 63) : arI .add .u64 (arI .and .u64 (arI .shr .u64 (x : Int) 1) M) (arI .and .u64 (x : Int) M) = ((s1 m x : Nat) : Int) := by
  subst hM
  have h := s1_lt m x hm
  rw [shr1, show (x : Int) / 2 = ((x / 2 : Nat) : Int) from by omega, band _ _ (by omega) (by omega), band _ _ hx (by omega), arAdd]
  unfold s1 at h ⊢; omega
theorem st2 (x m : Nat) (M : Int) (hM : M = m) (hx : x < 2 ^ 64) (hm : m < 2 ^ 63) : arI .add .u64 (arI .and .u64 (arI .shr .u64 (x : Int) 2) M) (arI .and .u64 (x : Int) M) = ((s2 m x : Nat) : Int) := by
  subst hM
  have h := s2_lt m x hm
  rw [shr2, show (x : Int) / 4 = ((x / 4 : Nat) : Int) from by omega, band _ _ (by omega) (by omega), band _ _ hx (by omega), arAdd]
  unfold s2 at h ⊢; omega
theorem s1_le (l : List Nat) (h : ∀ a ∈ l, a < 256) : ∀ a ∈ l.map (s1 85), a < 256 := fun x hx => by obtain ⟨a, ha, rfl⟩ := List.mem_map.1 hx; exact (p1 a (h a ha)).1
theorem s2_le (x : Nat) (h : x < 18446744073709551616) : s2 3689348814741910323 (s1 6148914691236517205 x) ≤ 4919131752989213764 := by
  have e2 : msk 51 (bytes x).length = 3689348814741910323 := by simp only [bytes, List.length_cons, List.length_nil]; decide +kernel
  have e3 : msk 85 (bytes x).length = 6148914691236517205 := by simp only [bytes, List.length_cons, List.length_nil]; decide +kernel
  have h1 := s1_val (bytes x) (bytes_lt x)
  have h2 := s2_val ((bytes x).map (s1 85)) (s1_le _ (bytes_lt x))
  rw [List.length_map] at h2
  rw [val_bytes x h, e3] at h1
  rw [e2, ← h1] at h2
  rw [h2]
  have hb := fun a ha => (p1 a (bytes_lt x a ha)).2.1
  simp only [bytes, List.mem_cons, List.not_mem_nil, or_false, forall_eq_or_imp, forall_eq] at hb
  simp only [bytes, List.map_cons, List.map_nil, val]
  omega
theorem low7 (b : Int) : arI .and .i64 b 127 = b % 128 := by
  show IntKind.i64.wrap ((BitVec.ofInt 64 b &&& BitVec.ofInt 64 127).toNat : Int) = _
  rw [BitVec.toNat_and, BitVec.toNat_ofInt, show (BitVec.ofInt 64 127).toNat = 2 ^ 7 - 1 from by decide, Nat.and_two_pow_sub_one_eq_mod, wrap_i64]
  omega

theorem padd (z K : Nat) (k : Int) (hk : k = ((z / K : Nat) : Int)) : arI .add .u64 (z : Int) k = (((z + z / K) % 18446744073709551616 : Nat) : Int) := by
  rw [arAdd, hk, Int.natCast_emod, Int.natCast_add]; rfl
theorem fin7 (z : Nat) : (((z : Int) + 9223372036854775808) % 18446744073709551616 - 9223372036854775808) % 128 = ((z % 128 : Nat) : Int) := by omega
theorem pop_fin (z : Nat) (i4 i5 i6 : Int) (h4 : i4 = (arI .shr .u64 (arI .add .u64 (z : Int) (arI .shr .u64 (z : Int) 8)) 16)) (h5 : i5 = (arI .add .u64 (arI .add .u64 (z : Int) (arI .shr .u64 (z : Int) 8)) i4))
    (h6 : i6 = (arI .and .i64 (IntKind.wrap .i64 (arI .add .u64 i5 (arI .shr .u64 i5 32))) 127)) :
    i6 = (((((z + z / 256) % 18446744073709551616 + (z + z / 256) % 18446744073709551616 / 65536) % 18446744073709551616 + ((z + z / 256) % 18446744073709551616 + (z + z / 256) % 18446744073709551616 / 65536) % 18446744073709551616 / 4294967296) % 18446744073709551616 % 128 : Nat) : Int) := by
  have f1 := padd z 256 (arI .shr .u64 (z : Int) 8) (by rw [shr8]; omega)
  generalize (z + z / 256) % 18446744073709551616 = z1 at f1 ⊢
  rw [f1] at h4 h5
  have f2 := padd z1 65536 i4 (by rw [h4, shr16]; omega)
  generalize (z1 + z1 / 65536) % 18446744073709551616 = z2 at f2 ⊢
  rw [f2] at h5
  subst h5
  have f3 := padd z2 4294967296 (arI .shr .u64 (z2 : Int) 32) (by rw [shr32]; omega)
  generalize (z2 + z2 / 4294967296) % 18446744073709551616 = z3 at f3 ⊢
  rw [h6, f3, low7, wrap_i64]
  exact fin7 z3

set_option maxHeartbeats 4000000 in
theorem q24 (x : Nat) (hx : x < 18446744073709551616) : F24 [(x : Int)] [] = some ([((pop x : Nat) : Int)], []) := by
  refine Eq.trans (Fd_of (n := 1) (m := 0) (t := t24) (C := Tab.fn a24) rfl rfl) ?_
  rw [t24]
  refine st_li fun i1 hi1 => ?_
  replace hi1 : i1 = (arI .add .u64 (arI .and .u64 (arI .shr .u64 (x : Int) 1) 6148914691236517205) (arI .and .u64 (x : Int) 6148914691236517205)) := hi1
  show T.den _ _ [(x : Int), i1] [] = _
  refine st_li fun i2 hi2 => ?_
  replace hi2 : i2 = (arI .add .u64 (arI .and .u64 (arI .shr .u64 i1 2) 3689348814741910323) (arI .and .u64 i1 3689348814741910323)) := hi2
  show T.den _ _ [(x : Int), i1, i2] [] = _
  refine st_li fun i3 hi3 => ?_
  replace hi3 : i3 = (arI .and .u64 (arI .add .u64 (arI .shr .u64 i2 4) i2) 1085102592571150095) := hi3
  show T.den _ _ [(x : Int), i1, i2, i3] [] = _
  refine st_li fun i4 hi4 => ?_
  replace hi4 : i4 = (arI .shr .u64 (arI .add .u64 i3 (arI .shr .u64 i3 8)) 16) := hi4
  show T.den _ _ [(x : Int), i1, i2, i3, i4] [] = _
  refine st_li fun i5 hi5 => ?_
  replace hi5 : i5 = (arI .add .u64 (arI .add .u64 i3 (arI .shr .u64 i3 8)) i4) := hi5
  show T.den _ _ [(x : Int), i1, i2, i3, i4, i5] [] = _
  refine st_li fun i6 hi6 => ?_
  replace hi6 : i6 = (arI .and .i64 (IntKind.wrap .i64 (arI .add .u64 i5 (arI .shr .u64 i5 32))) 127) := hi6
  show T.den _ _ [(x : Int), i1, i2, i3, i4, i5, i6] [] = _
  refine st_ret ?_
  show some ([i6], []) = _
  rw [st1 x 6148914691236517205 6148914691236517205 rfl hx (by decide)] at hi1
  subst hi1
  rw [st2 _ 3689348814741910323 3689348814741910323 rfl (s1_lt _ _ (by decide)) (by decide)] at hi2
  subst hi2
  obtain ⟨hz, hp⟩ := pop_sum x hx
  have hle := s2_le x hx
  have e3 : i3 = ((s4 1085102592571150095 (s2 3689348814741910323 (s1 6148914691236517205 x)) : Nat) : Int) := by
    rw [hi3, shr4, arAdd]
    generalize s2 3689348814741910323 (s1 6148914691236517205 x) = y at hle
    rw [show ((y : Int) / 16 + y) % 18446744073709551616 = ((y / 16 + y : Nat) : Int) from by omega, show (1085102592571150095 : Int) = ((1085102592571150095 : Nat) : Int) from rfl, band _ _ (by omega) (by decide)]
    rfl
  clear hi3
  subst e3
  exact r1 (hp ▸ pop_fin _ _ _ _ hi4 hi5 hi6)

set_option maxHeartbeats 4000000 in
theorem q19 (x : Nat) (hx : x < 4294967296) : F19 [(x : Int)] [] = some ([((32 - Lib.bitLen x : Nat) : Int)], []) := by
  refine Eq.trans (Fd_of (n := 1) (m := 0) (t := t19) (C := Tab.fn a19) rfl rfl) ?_
  rw [t19]
  refine st_1_0 (e19_37) (g := true) rfl (l := [(x : Int)]) rfl (m := []) rfl (cl_t (q37 x hx)) fun i1 hi1 => ?_
  show T.den _ _ [(x : Int), i1] [] = _
  refine st_ret ?_
  show some ([(arI .sub .i64 32 i1)], []) = _
  have hl := Lib.bitLen_le x 32 (by decide) hx
  refine r1 ?_
  rw [hi1]
  show IntKind.wrap .i64 (32 - _) = _
  rw [wrap_i64]; omega

set_option maxHeartbeats 4000000 in
theorem q22 (x : Nat) (hx : x < 18446744073709551616) : F22 [(x : Int)] [] = some ([((64 - Lib.bitLen x : Nat) : Int)], []) := by
  refine Eq.trans (Fd_of (n := 1) (m := 0) (t := t22) (C := Tab.fn a22) rfl rfl) ?_
  rw [t22]
  refine st_1_0 (e22_38) (g := true) rfl (l := [(x : Int)]) rfl (m := []) rfl (cl_t (q38 x hx)) fun i1 hi1 => ?_
  show T.den _ _ [(x : Int), i1] [] = _
  refine st_ret ?_
  show some ([(arI .sub .i64 64 i1)], []) = _
  have hl := Lib.bitLen_le x 64 (by decide) hx
  refine r1 ?_
  rw [hi1]
  show IntKind.wrap .i64 (64 - _) = _
  rw [wrap_i64]; omega

theorem F20_one (x : Int) : F20 [x] [] = (Tabs.tz32f x).map (fun r => ([r], ([] : List Bool))) := rfl
theorem q20 (x : Nat) (hx : x < 4294967296) : F20 [(x : Int)] [] = some ([((Lib.ctz 32 x : Nat) : Int)], []) := by
  have h1 : Tabs.tz32f (x : Int) = some ((Lib.ctz 32 x : Nat) : Int) := by
    unfold Tabs.tz32f
    rw [if_pos (by omega), Int.toNat_natCast]
  rw [F20_one, h1, Option.map_some]

theorem F23_one (x : Int) : F23 [x] [] = (Tabs.tz64f x).map (fun r => ([r], ([] : List Bool))) := rfl
theorem q23 (x : Nat) (hx : x < 18446744073709551616) : F23 [(x : Int)] [] = some ([((Lib.ctz 64 x : Nat) : Int)], []) := by
  have h1 : Tabs.tz64f (x : Int) = some ((Lib.ctz 64 x : Nat) : Int) := by
    unfold Tabs.tz64f
    rw [if_pos (by omega), Int.toNat_natCast]
  rw [F23_one, h1, Option.map_some]

theorem e11_16 : Tab.fn a11 16 = F16 := Tab.fn_hd
theorem e11_19 : Tab.fn a11 19 = F19 := ((Tab.fn_tl rfl).trans Tab.fn_hd)
theorem e11_20 : Tab.fn a11 20 = F20 := ((Tab.fn_tl rfl).trans ((Tab.fn_tl rfl).trans Tab.fn_hd))
theorem e11_21 : Tab.fn a11 21 = F21 := ((Tab.fn_tl rfl).trans ((Tab.fn_tl rfl).trans ((Tab.fn_tl rfl).trans Tab.fn_hd)))
theorem e11_22 : Tab.fn a11 22 = F22 := ((Tab.fn_tl rfl).trans ((Tab.fn_tl rfl).trans ((Tab.fn_tl rfl).trans ((Tab.fn_tl rfl).trans Tab.fn_hd))))
theorem e11_23 : Tab.fn a11 23 = F23 := ((Tab.fn_tl rfl).trans ((Tab.fn_tl rfl).trans ((Tab.fn_tl rfl).trans ((Tab.fn_tl rfl).trans ((Tab.fn_tl rfl).trans Tab.fn_hd)))))
theorem e11_24 : Tab.fn a11 24 = F24 := ((Tab.fn_tl rfl).trans ((Tab.fn_tl rfl).trans ((Tab.fn_tl rfl).trans ((Tab.fn_tl rfl).trans ((Tab.fn_tl rfl).trans ((Tab.fn_tl rfl).trans Tab.fn_hd))))))

set_option maxHeartbeats 4000000 in
theorem q11_105 (a : Int) (A : Nat) (ha : IntKind.wrap .u32 a = A) (hA : A < 4294967296) : F11 [(105 : Int), a] [] = some ([(IntKind.wrap .u64 ((pop A : Nat) : Int))], [true]) := by
  refine Eq.trans (Fd_of (n := 2) (m := 0) (t := t11) (C := Tab.fn a11) rfl rfl) ?_
  rw [t11]
  refine st_itf (show ((105 : Int) == 69) = false from by kernel_rfl) ?_
  refine st_itf (show ((105 : Int) == 80) = false from by kernel_rfl) ?_
  refine st_itf (show ((105 : Int) == 103) = false from by kernel_rfl) ?_
  refine st_itf (show ((105 : Int) == 104) = false from by kernel_rfl) ?_
  refine st_itt (show ((105 : Int) == 105) = true from by kernel_rfl) ?_
  refine st_1_0 (e11_21) (g := true) rfl (l := [(IntKind.wrap .u32 a)]) rfl (m := []) rfl (cl_t ((congrArg (fun z => F21 [z] []) (show (IntKind.wrap .u32 a) = (A : Int) from ha)).trans (q21 A hA))) fun i2 hi2 => ?_
  show T.den _ _ [(105 : Int), a, i2] [] = _
  refine st_ret ?_
  show some ([(IntKind.wrap .u64 i2)], [true]) = _
  subst hi2
  rfl

set_option maxHeartbeats 4000000 in
theorem q11_103 (a : Int) (A : Nat) (ha : IntKind.wrap .u32 a = A) (hA : A < 4294967296) : F11 [(103 : Int), a] [] = some ([(IntKind.wrap .u64 ((32 - Lib.bitLen A : Nat) : Int))], [true]) := by
  refine Eq.trans (Fd_of (n := 2) (m := 0) (t := t11) (C := Tab.fn a11) rfl rfl) ?_
  rw [t11]
  refine st_itf (show ((103 : Int) == 69) = false from by kernel_rfl) ?_
  refine st_itf (show ((103 : Int) == 80) = false from by kernel_rfl) ?_
  refine st_itt (show ((103 : Int) == 103) = true from by kernel_rfl) ?_
  refine st_1_0 (e11_19) (g := true) rfl (l := [(IntKind.wrap .u32 a)]) rfl (m := []) rfl (cl_t ((congrArg (fun z => F19 [z] []) (show (IntKind.wrap .u32 a) = (A : Int) from ha)).trans (q19 A hA))) fun i2 hi2 => ?_
  show T.den _ _ [(103 : Int), a, i2] [] = _
  refine st_ret ?_
  show some ([(IntKind.wrap .u64 i2)], [true]) = _
  subst hi2
  rfl

set_option maxHeartbeats 4000000 in
theorem q11_104 (a : Int) (A : Nat) (ha : IntKind.wrap .u32 a = A) (hA : A < 4294967296) : F11 [(104 : Int), a] [] = some ([(IntKind.wrap .u64 ((Lib.ctz 32 A : Nat) : Int))], [true]) := by
  refine Eq.trans (Fd_of (n := 2) (m := 0) (t := t11) (C := Tab.fn a11) rfl rfl) ?_
  rw [t11]
  refine st_itf (show ((104 : Int) == 69) = false from by kernel_rfl) ?_
  refine st_itf (show ((104 : Int) == 80) = false from by kernel_rfl) ?_
  refine st_itf (show ((104 : Int) == 103) = false from by kernel_rfl) ?_
  refine st_itt (show ((104 : Int) == 104) = true from by kernel_rfl) ?_
  refine st_1_0 (e11_20) (g := true) rfl (l := [(IntKind.wrap .u32 a)]) rfl (m := []) rfl (cl_t ((congrArg (fun z => F20 [z] []) (show (IntKind.wrap .u32 a) = (A : Int) from ha)).trans (q20 A hA))) fun i2 hi2 => ?_
  show T.den _ _ [(104 : Int), a, i2] [] = _
  refine st_ret ?_
  show some ([(IntKind.wrap .u64 i2)], [true]) = _
  subst hi2
  rfl

set_option maxHeartbeats 4000000 in
theorem q11_123 (a : Int) (A : Nat) (ha : a = A) (hA : A < 18446744073709551616) : F11 [(123 : Int), a] [] = some ([(IntKind.wrap .u64 ((pop A : Nat) : Int))], [true]) := by
  refine Eq.trans (Fd_of (n := 2) (m := 0) (t := t11) (C := Tab.fn a11) rfl rfl) ?_
  rw [t11]
  refine st_itf (show ((123 : Int) == 69) = false from by kernel_rfl) ?_
  refine st_itf (show ((123 : Int) == 80) = false from by kernel_rfl) ?_
  refine st_itf (show ((123 : Int) == 103) = false from by kernel_rfl) ?_
  refine st_itf (show ((123 : Int) == 104) = false from by kernel_rfl) ?_
  refine st_itf (show ((123 : Int) == 105) = false from by kernel_rfl) ?_
  refine st_itf (show ((123 : Int) == 121) = false from by kernel_rfl) ?_
  refine st_itf (show ((123 : Int) == 122) = false from by kernel_rfl) ?_
  refine st_itt (show ((123 : Int) == 123) = true from by kernel_rfl) ?_
  refine st_1_0 (e11_24) (g := true) rfl (l := [a]) rfl (m := []) rfl (cl_t ((congrArg (fun z => F24 [z] []) (show a = (A : Int) from ha)).trans (q24 A hA))) fun i2 hi2 => ?_
  show T.den _ _ [(123 : Int), a, i2] [] = _
  refine st_ret ?_
  show some ([(IntKind.wrap .u64 i2)], [true]) = _
  subst hi2
  rfl

set_option maxHeartbeats 4000000 in
theorem q11_121 (a : Int) (A : Nat) (ha : a = A) (hA : A < 18446744073709551616) : F11 [(121 : Int), a] [] = some ([(IntKind.wrap .u64 ((64 - Lib.bitLen A : Nat) : Int))], [true]) := by
  refine Eq.trans (Fd_of (n := 2) (m := 0) (t := t11) (C := Tab.fn a11) rfl rfl) ?_
  rw [t11]
  refine st_itf (show ((121 : Int) == 69) = false from by kernel_rfl) ?_
  refine st_itf (show ((121 : Int) == 80) = false from by kernel_rfl) ?_
  refine st_itf (show ((121 : Int) == 103) = false from by kernel_rfl) ?_
  refine st_itf (show ((121 : Int) == 104) = false from by kernel_rfl) ?_
  refine st_itf (show ((121 : Int) == 105) = false from by kernel_rfl) ?_
  refine st_itt (show ((121 : Int) == 121) = true from by kernel_rfl) ?_
  refine st_1_0 (e11_22) (g := true) rfl (l := [a]) rfl (m := []) rfl (cl_t ((congrArg (fun z => F22 [z] []) (show a = (A : Int) from ha)).trans (q22 A hA))) fun i2 hi2 => ?_
  show T.den _ _ [(121 : Int), a, i2] [] = _
  refine st_ret ?_
  show some ([(IntKind.wrap .u64 i2)], [true]) = _
  subst hi2
  rfl

set_option maxHeartbeats 4000000 in
theorem q11_122 (a : Int) (A : Nat) (ha : a = A) (hA : A < 18446744073709551616) : F11 [(122 : Int), a] [] = some ([(IntKind.wrap .u64 ((Lib.ctz 64 A : Nat) : Int))], [true]) := by
  refine Eq.trans (Fd_of (n := 2) (m := 0) (t := t11) (C := Tab.fn a11) rfl rfl) ?_
  rw [t11]
  refine st_itf (show ((122 : Int) == 69) = false from by kernel_rfl) ?_
  refine st_itf (show ((122 : Int) == 80) = false from by kernel_rfl) ?_
  refine st_itf (show ((122 : Int) == 103) = false from by kernel_rfl) ?_
  refine st_itf (show ((122 : Int) == 104) = false from by kernel_rfl) ?_
  refine st_itf (show ((122 : Int) == 105) = false from by kernel_rfl) ?_
  refine st_itf (show ((122 : Int) == 121) = false from by kernel_rfl) ?_
  refine st_itt (show ((122 : Int) == 122) = true from by kernel_rfl) ?_
  refine st_1_0 (e11_23) (g := true) rfl (l := [a]) rfl (m := []) rfl (cl_t ((congrArg (fun z => F23 [z] []) (show a = (A : Int) from ha)).trans (q23 A hA))) fun i2 hi2 => ?_
  show T.den _ _ [(122 : Int), a, i2] [] = _
  refine st_ret ?_
  show some ([(IntKind.wrap .u64 i2)], [true]) = _
  subst hi2
  rfl

set_option maxHeartbeats 4000000 in
theorem q11_69 (a : Int) : F11 [(69 : Int), a] [] = some ([(bif ((IntKind.wrap .u32 a) == 0) then 1 else 0)], [true]) := by
  refine Eq.trans (Fd_of (n := 2) (m := 0) (t := t11) (C := Tab.fn a11) rfl rfl) ?_
  rw [t11]
  refine st_itt (show ((69 : Int) == 69) = true from by kernel_rfl) ?_
  refine st_1_0 (e11_16) (g := true) rfl (l := []) rfl (m := [((IntKind.wrap .u32 a) == 0)]) rfl (cl_t (q16 ((IntKind.wrap .u32 a) == 0))) fun i2 hi2 => ?_
  show T.den _ _ [(69 : Int), a, i2] [] = _
  refine st_ret ?_
  show some ([i2], [true]) = _
  subst hi2
  rfl

set_option maxHeartbeats 4000000 in
theorem q11_192 (a : Int) : F11 [(192 : Int), a] [] = some ([(IntKind.wrap .u64 (IntKind.wrap .u32 (IntKind.wrap .i32 (IntKind.wrap .i8 a))))], [true]) := by
  refine Eq.trans (Fd_of (n := 2) (m := 0) (t := t11) (C := Tab.fn a11) rfl rfl) ?_
  rw [t11]
  refine st_itf (show ((192 : Int) == 69) = false from by kernel_rfl) ?_
  refine st_itf (show ((192 : Int) == 80) = false from by kernel_rfl) ?_
  refine st_itf (show ((192 : Int) == 103) = false from by kernel_rfl) ?_
  refine st_itf (show ((192 : Int) == 104) = false from by kernel_rfl) ?_
  refine st_itf (show ((192 : Int) == 105) = false from by kernel_rfl) ?_
  refine st_itf (show ((192 : Int) == 121) = false from by kernel_rfl) ?_
  refine st_itf (show ((192 : Int) == 122) = false from by kernel_rfl) ?_
  refine st_itf (show ((192 : Int) == 123) = false from by kernel_rfl) ?_
  refine st_itf (show ((192 : Int) == 167) = false from by kernel_rfl) ?_
  refine st_itf (show ((192 : Int) == 173) = false from by kernel_rfl) ?_
  refine st_itf (show ((192 : Int) == 172) = false from by kernel_rfl) ?_
  refine st_itf (show ((192 : Int) == 196) = false from by kernel_rfl) ?_
  refine st_itt (show ((192 : Int) == 192) = true from by kernel_rfl) ?_
  refine st_ret ?_
  show some ([(IntKind.wrap .u64 (IntKind.wrap .u32 (IntKind.wrap .i32 (IntKind.wrap .i8 a))))], [true]) = _
  rfl

set_option maxHeartbeats 4000000 in
theorem q11_193 (a : Int) : F11 [(193 : Int), a] [] = some ([(IntKind.wrap .u64 (IntKind.wrap .u32 (IntKind.wrap .i32 (IntKind.wrap .i16 a))))], [true]) := by
  refine Eq.trans (Fd_of (n := 2) (m := 0) (t := t11) (C := Tab.fn a11) rfl rfl) ?_
  rw [t11]
  refine st_itf (show ((193 : Int) == 69) = false from by kernel_rfl) ?_
  refine st_itf (show ((193 : Int) == 80) = false from by kernel_rfl) ?_
  refine st_itf (show ((193 : Int) == 103) = false from by kernel_rfl) ?_
  refine st_itf (show ((193 : Int) == 104) = false from by kernel_rfl) ?_
  refine st_itf (show ((193 : Int) == 105) = false from by kernel_rfl) ?_
  refine st_itf (show ((193 : Int) == 121) = false from by kernel_rfl) ?_
  refine st_itf (show ((193 : Int) == 122) = false from by kernel_rfl) ?_
  refine st_itf (show ((193 : Int) == 123) = false from by kernel_rfl) ?_
  refine st_itf (show ((193 : Int) == 167) = false from by kernel_rfl) ?_
  refine st_itf (show ((193 : Int) == 173) = false from by kernel_rfl) ?_
  refine st_itf (show ((193 : Int) == 172) = false from by kernel_rfl) ?_
  refine st_itf (show ((193 : Int) == 196) = false from by kernel_rfl) ?_
  refine st_itf (show ((193 : Int) == 192) = false from by kernel_rfl) ?_
  refine st_itt (show ((193 : Int) == 193) = true from by kernel_rfl) ?_
  refine st_ret ?_
  show some ([(IntKind.wrap .u64 (IntKind.wrap .u32 (IntKind.wrap .i32 (IntKind.wrap .i16 a))))], [true]) = _
  rfl

set_option maxHeartbeats 4000000 in
theorem q11_80 (a : Int) : F11 [(80 : Int), a] [] = some ([(bif (a == 0) then 1 else 0)], [true]) := by
  refine Eq.trans (Fd_of (n := 2) (m := 0) (t := t11) (C := Tab.fn a11) rfl rfl) ?_
  rw [t11]
  refine st_itf (show ((80 : Int) == 69) = false from by kernel_rfl) ?_
  refine st_itt (show ((80 : Int) == 80) = true from by kernel_rfl) ?_
  refine st_1_0 (e11_16) (g := true) rfl (l := []) rfl (m := [(a == 0)]) rfl (cl_t (q16 (a == 0))) fun i2 hi2 => ?_
  show T.den _ _ [(80 : Int), a, i2] [] = _
  refine st_ret ?_
  show some ([i2], [true]) = _
  subst hi2
  rfl

set_option maxHeartbeats 4000000 in
theorem q11_167 (a : Int) : F11 [(167 : Int), a] [] = some ([(IntKind.wrap .u64 (IntKind.wrap .u32 a))], [true]) := by
  refine Eq.trans (Fd_of (n := 2) (m := 0) (t := t11) (C := Tab.fn a11) rfl rfl) ?_
  rw [t11]
  refine st_itf (show ((167 : Int) == 69) = false from by kernel_rfl) ?_
  refine st_itf (show ((167 : Int) == 80) = false from by kernel_rfl) ?_
  refine st_itf (show ((167 : Int) == 103) = false from by kernel_rfl) ?_
  refine st_itf (show ((167 : Int) == 104) = false from by kernel_rfl) ?_
  refine st_itf (show ((167 : Int) == 105) = false from by kernel_rfl) ?_
  refine st_itf (show ((167 : Int) == 121) = false from by kernel_rfl) ?_
  refine st_itf (show ((167 : Int) == 122) = false from by kernel_rfl) ?_
  refine st_itf (show ((167 : Int) == 123) = false from by kernel_rfl) ?_
  refine st_itt (show ((167 : Int) == 167) = true from by kernel_rfl) ?_
  refine st_itt (show ((167 : Int) == 167) = true from by kernel_rfl) ?_
  refine st_ret ?_
  show some ([(IntKind.wrap .u64 (IntKind.wrap .u32 a))], [true]) = _
  rfl

set_option maxHeartbeats 4000000 in
theorem q11_194 (a : Int) : F11 [(194 : Int), a] [] = some ([(IntKind.wrap .u64 (IntKind.wrap .i64 (IntKind.wrap .i8 a)))], [true]) := by
  refine Eq.trans (Fd_of (n := 2) (m := 0) (t := t11) (C := Tab.fn a11) rfl rfl) ?_
  rw [t11]
  refine st_itf (show ((194 : Int) == 69) = false from by kernel_rfl) ?_
  refine st_itf (show ((194 : Int) == 80) = false from by kernel_rfl) ?_
  refine st_itf (show ((194 : Int) == 103) = false from by kernel_rfl) ?_
  refine st_itf (show ((194 : Int) == 104) = false from by kernel_rfl) ?_
  refine st_itf (show ((194 : Int) == 105) = false from by kernel_rfl) ?_
  refine st_itf (show ((194 : Int) == 121) = false from by kernel_rfl) ?_
  refine st_itf (show ((194 : Int) == 122) = false from by kernel_rfl) ?_
  refine st_itf (show ((194 : Int) == 123) = false from by kernel_rfl) ?_
  refine st_itf (show ((194 : Int) == 167) = false from by kernel_rfl) ?_
  refine st_itf (show ((194 : Int) == 173) = false from by kernel_rfl) ?_
  refine st_itf (show ((194 : Int) == 172) = false from by kernel_rfl) ?_
  refine st_itf (show ((194 : Int) == 196) = false from by kernel_rfl) ?_
  refine st_itf (show ((194 : Int) == 192) = false from by kernel_rfl) ?_
  refine st_itf (show ((194 : Int) == 193) = false from by kernel_rfl) ?_
  refine st_itt (show ((194 : Int) == 194) = true from by kernel_rfl) ?_
  refine st_ret ?_
  show some ([(IntKind.wrap .u64 (IntKind.wrap .i64 (IntKind.wrap .i8 a)))], [true]) = _
  rfl

set_option maxHeartbeats 4000000 in
theorem q11_195 (a : Int) : F11 [(195 : Int), a] [] = some ([(IntKind.wrap .u64 (IntKind.wrap .i64 (IntKind.wrap .i16 a)))], [true]) := by
  refine Eq.trans (Fd_of (n := 2) (m := 0) (t := t11) (C := Tab.fn a11) rfl rfl) ?_
  rw [t11]
  refine st_itf (show ((195 : Int) == 69) = false from by kernel_rfl) ?_
  refine st_itf (show ((195 : Int) == 80) = false from by kernel_rfl) ?_
  refine st_itf (show ((195 : Int) == 103) = false from by kernel_rfl) ?_
  refine st_itf (show ((195 : Int) == 104) = false from by kernel_rfl) ?_
  refine st_itf (show ((195 : Int) == 105) = false from by kernel_rfl) ?_
  refine st_itf (show ((195 : Int) == 121) = false from by kernel_rfl) ?_
  refine st_itf (show ((195 : Int) == 122) = false from by kernel_rfl) ?_
  refine st_itf (show ((195 : Int) == 123) = false from by kernel_rfl) ?_
  refine st_itf (show ((195 : Int) == 167) = false from by kernel_rfl) ?_
  refine st_itf (show ((195 : Int) == 173) = false from by kernel_rfl) ?_
  refine st_itf (show ((195 : Int) == 172) = false from by kernel_rfl) ?_
  refine st_itf (show ((195 : Int) == 196) = false from by kernel_rfl) ?_
  refine st_itf (show ((195 : Int) == 192) = false from by kernel_rfl) ?_
  refine st_itf (show ((195 : Int) == 193) = false from by kernel_rfl) ?_
  refine st_itf (show ((195 : Int) == 194) = false from by kernel_rfl) ?_
  refine st_itt (show ((195 : Int) == 195) = true from by kernel_rfl) ?_
  refine st_ret ?_
  show some ([(IntKind.wrap .u64 (IntKind.wrap .i64 (IntKind.wrap .i16 a)))], [true]) = _
  rfl

set_option maxHeartbeats 4000000 in
theorem q11_196 (a : Int) : F11 [(196 : Int), a] [] = some ([(IntKind.wrap .u64 (IntKind.wrap .i64 (IntKind.wrap .i32 (IntKind.wrap .u32 a))))], [true]) := by
  refine Eq.trans (Fd_of (n := 2) (m := 0) (t := t11) (C := Tab.fn a11) rfl rfl) ?_
  rw [t11]
  refine st_itf (show ((196 : Int) == 69) = false from by kernel_rfl) ?_
  refine st_itf (show ((196 : Int) == 80) = false from by kernel_rfl) ?_
  refine st_itf (show ((196 : Int) == 103) = false from by kernel_rfl) ?_
  refine st_itf (show ((196 : Int) == 104) = false from by kernel_rfl) ?_
  refine st_itf (show ((196 : Int) == 105) = false from by kernel_rfl) ?_
  refine st_itf (show ((196 : Int) == 121) = false from by kernel_rfl) ?_
  refine st_itf (show ((196 : Int) == 122) = false from by kernel_rfl) ?_
  refine st_itf (show ((196 : Int) == 123) = false from by kernel_rfl) ?_
  refine st_itf (show ((196 : Int) == 167) = false from by kernel_rfl) ?_
  refine st_itf (show ((196 : Int) == 173) = false from by kernel_rfl) ?_
  refine st_itf (show ((196 : Int) == 172) = false from by kernel_rfl) ?_
  refine st_itt (show ((196 : Int) == 196) = true from by kernel_rfl) ?_
  refine st_ret ?_
  show some ([(IntKind.wrap .u64 (IntKind.wrap .i64 (IntKind.wrap .i32 (IntKind.wrap .u32 a))))], [true]) = _
  rfl

set_option maxHeartbeats 4000000 in
theorem q11_172 (a : Int) : F11 [(172 : Int), a] [] = some ([(IntKind.wrap .u64 (IntKind.wrap .i64 (IntKind.wrap .i32 (IntKind.wrap .u32 a))))], [true]) := by
  refine Eq.trans (Fd_of (n := 2) (m := 0) (t := t11) (C := Tab.fn a11) rfl rfl) ?_
  rw [t11]
  refine st_itf (show ((172 : Int) == 69) = false from by kernel_rfl) ?_
  refine st_itf (show ((172 : Int) == 80) = false from by kernel_rfl) ?_
  refine st_itf (show ((172 : Int) == 103) = false from by kernel_rfl) ?_
  refine st_itf (show ((172 : Int) == 104) = false from by kernel_rfl) ?_
  refine st_itf (show ((172 : Int) == 105) = false from by kernel_rfl) ?_
  refine st_itf (show ((172 : Int) == 121) = false from by kernel_rfl) ?_
  refine st_itf (show ((172 : Int) == 122) = false from by kernel_rfl) ?_
  refine st_itf (show ((172 : Int) == 123) = false from by kernel_rfl) ?_
  refine st_itf (show ((172 : Int) == 167) = false from by kernel_rfl) ?_
  refine st_itf (show ((172 : Int) == 173) = false from by kernel_rfl) ?_
  refine st_itt (show ((172 : Int) == 172) = true from by kernel_rfl) ?_
  refine st_itt (show ((172 : Int) == 172) = true from by kernel_rfl) ?_
  refine st_ret ?_
  show some ([(IntKind.wrap .u64 (IntKind.wrap .i64 (IntKind.wrap .i32 (IntKind.wrap .u32 a))))], [true]) = _
  rfl

set_option maxHeartbeats 4000000 in
theorem q11_173 (a : Int) : F11 [(173 : Int), a] [] = some ([(IntKind.wrap .u64 (IntKind.wrap .u32 a))], [true]) := by
  refine Eq.trans (Fd_of (n := 2) (m := 0) (t := t11) (C := Tab.fn a11) rfl rfl) ?_
  rw [t11]
  refine st_itf (show ((173 : Int) == 69) = false from by kernel_rfl) ?_
  refine st_itf (show ((173 : Int) == 80) = false from by kernel_rfl) ?_
  refine st_itf (show ((173 : Int) == 103) = false from by kernel_rfl) ?_
  refine st_itf (show ((173 : Int) == 104) = false from by kernel_rfl) ?_
  refine st_itf (show ((173 : Int) == 105) = false from by kernel_rfl) ?_
  refine st_itf (show ((173 : Int) == 121) = false from by kernel_rfl) ?_
  refine st_itf (show ((173 : Int) == 122) = false from by kernel_rfl) ?_
  refine st_itf (show ((173 : Int) == 123) = false from by kernel_rfl) ?_
  refine st_itf (show ((173 : Int) == 167) = false from by kernel_rfl) ?_
  refine st_itt (show ((173 : Int) == 173) = true from by kernel_rfl) ?_
  refine st_ret ?_
  show some ([(IntKind.wrap .u64 (IntKind.wrap .u32 a))], [true]) = _
  rfl

def dt (b x y l : Int) : Int := if b = 0 then 6 else if x = l ∧ y = -1 then 7 else 0
def dq (b x y l : Int) : Int := if b = 0 then 0 else if x = l ∧ y = -1 then 0 else IntKind.wrap .u64 (arI .quo .i64 x y)
def dz (b : Int) : Int := if b = 0 then 6 else 0
def uq (a b : Int) : Int := if b = 0 then 0 else arI .quo .u64 a b
def dr (b x y : Int) : Int := if b = 0 then 0 else if y = -1 then 0 else IntKind.wrap .u64 (arI .rem .i64 x y)
def ur (a b : Int) : Int := if b = 0 then 0 else arI .rem .u64 a b
theorem i32_ne (b : Int) (h : 0 ≤ b) (h1 : b < 4294967296) : b ≠ 0 → IntKind.wrap .i64 (IntKind.wrap .i32 b) ≠ 0 := by
  simp only [IntKind.wrap, IntKind.bits, IntKind.signed]; omega
theorem i64_ne (b : Int) (h : 0 ≤ b) (h1 : b < 18446744073709551616) : b ≠ 0 → IntKind.wrap .i64 b ≠ 0 := by
  simp only [IntKind.wrap, IntKind.bits, IntKind.signed]; omega
theorem u32_lt (x : Int) : IntKind.wrap .u64 (IntKind.wrap .u32 x) < 4294967296 := by
  have h : IntKind.u32.wrap x = x % 4294967296 := by simp [IntKind.wrap, IntKind.bits, IntKind.signed]
  rw [wrap_u64, h]; omega

theorem q36_0 (a b x y l : Int) (hy : b ≠ 0 → y ≠ 0) : F36 [(0 : Int), a, b, x, y, l] [] = some ([dq b x y l, dt b x y l], []) := by
  refine Eq.trans (Fd_of (n := 6) (m := 0) (t := t36) (C := Tab.fn a36) rfl rfl) ?_
  rw [t36]
  refine st_ite (fun hc => ?_) (fun hc => ?_)
  · replace hc : (b == 0) = true := hc
    have c1 := hc
    clear hc
    refine st_ret ?_
    show some ([0, 6], []) = _
    unfold dq dt
    refine r2 ?_ ?_ <;> simp_all
  · replace hc : (b == 0) = false := hc
    have c2 := hc
    clear hc
    refine st_lb fun b0 hb0 => ?_
    replace hb0 : b0 = (((0 : Int) == 0) && (x == l)) := hb0
    show T.den _ _ [(0 : Int), a, b, x, y, l] [b0] = _
    refine st_ite (fun hc => ?_) (fun hc => ?_)
    · replace hc : (b0 && (y == (-1))) = true := hc
      have c3 := hc
      clear hc
      refine st_ret ?_
      show some ([0, 7], []) = _
      unfold dq dt
      refine r2 ?_ ?_ <;> simp_all
    · replace hc : (b0 && (y == (-1))) = false := hc
      have c4 := hc
      clear hc
      refine st_itt (show ((0 : Int) == 0) = true from by kernel_rfl) ?_
      refine st_rq (show (y != 0) = true from ?_) ?_
      · simp_all
      refine st_ret ?_
      show some ([(IntKind.wrap .u64 (arI .quo .i64 x y)), 0], []) = _
      unfold dq dt
      refine r2 ?_ ?_ <;> simp_all

theorem q36_1 (a b x y l : Int) (hy : b ≠ 0 → y ≠ 0) : F36 [(1 : Int), a, b, x, y, l] [] = some ([uq a b, dz b], []) := by
  refine Eq.trans (Fd_of (n := 6) (m := 0) (t := t36) (C := Tab.fn a36) rfl rfl) ?_
  rw [t36]
  refine st_ite (fun hc => ?_) (fun hc => ?_)
  · replace hc : (b == 0) = true := hc
    have c1 := hc
    clear hc
    refine st_ret ?_
    show some ([0, 6], []) = _
    unfold uq dz
    refine r2 ?_ ?_ <;> simp_all
  · replace hc : (b == 0) = false := hc
    have c2 := hc
    clear hc
    refine st_lbc (show (((1 : Int) == 0) && (x == l)) = false from by kernel_rfl) ?_
    show T.den _ _ [(1 : Int), a, b, x, y, l] [false] = _
    refine st_itf (show (false && (y == (-1))) = false from by kernel_rfl) ?_
    refine st_itf (show ((1 : Int) == 0) = false from by kernel_rfl) ?_
    refine st_itt (show ((1 : Int) == 1) = true from by kernel_rfl) ?_
    refine st_rq (show (b != 0) = true from ?_) ?_
    · simp_all
    refine st_ret ?_
    show some ([(arI .quo .u64 a b), 0], []) = _
    unfold uq dz
    refine r2 ?_ ?_ <;> simp_all

theorem q36_2 (a b x y l : Int) (hy : b ≠ 0 → y ≠ 0) : F36 [(2 : Int), a, b, x, y, l] [] = some ([dr b x y, dz b], []) := by
  refine Eq.trans (Fd_of (n := 6) (m := 0) (t := t36) (C := Tab.fn a36) rfl rfl) ?_
  rw [t36]
  refine st_ite (fun hc => ?_) (fun hc => ?_)
  · replace hc : (b == 0) = true := hc
    have c1 := hc
    clear hc
    refine st_ret ?_
    show some ([0, 6], []) = _
    unfold dr dz
    refine r2 ?_ ?_ <;> simp_all
  · replace hc : (b == 0) = false := hc
    have c2 := hc
    clear hc
    refine st_lbc (show (((2 : Int) == 0) && (x == l)) = false from by kernel_rfl) ?_
    show T.den _ _ [(2 : Int), a, b, x, y, l] [false] = _
    refine st_itf (show (false && (y == (-1))) = false from by kernel_rfl) ?_
    refine st_itf (show ((2 : Int) == 0) = false from by kernel_rfl) ?_
    refine st_itf (show ((2 : Int) == 1) = false from by kernel_rfl) ?_
    refine st_lb fun b1 hb1 => ?_
    replace hb1 : b1 = (((2 : Int) == 2) && (y == (-1))) := hb1
    show T.den _ _ [(2 : Int), a, b, x, y, l] [false, b1] = _
    refine st_ite (fun hc => ?_) (fun hc => ?_)
    · replace hc : b1 = true := hc
      have c3 := hc
      clear hc
      refine st_ret ?_
      show some ([0, 0], []) = _
      unfold dr dz
      refine r2 ?_ ?_ <;> simp_all
    · replace hc : b1 = false := hc
      have c4 := hc
      clear hc
      refine st_itt (show ((2 : Int) == 2) = true from by kernel_rfl) ?_
      refine st_rq (show (y != 0) = true from ?_) ?_
      · simp_all
      refine st_ret ?_
      show some ([(IntKind.wrap .u64 (arI .rem .i64 x y)), 0], []) = _
      unfold dr dz
      refine r2 ?_ ?_ <;> simp_all

theorem q36_3 (a b x y l : Int) (hy : b ≠ 0 → y ≠ 0) : F36 [(3 : Int), a, b, x, y, l] [] = some ([ur a b, dz b], []) := by
  refine Eq.trans (Fd_of (n := 6) (m := 0) (t := t36) (C := Tab.fn a36) rfl rfl) ?_
  rw [t36]
  refine st_ite (fun hc => ?_) (fun hc => ?_)
  · replace hc : (b == 0) = true := hc
    have c1 := hc
    clear hc
    refine st_ret ?_
    show some ([0, 6], []) = _
    unfold ur dz
    refine r2 ?_ ?_ <;> simp_all
  · replace hc : (b == 0) = false := hc
    have c2 := hc
    clear hc
    refine st_lbc (show (((3 : Int) == 0) && (x == l)) = false from by kernel_rfl) ?_
    show T.den _ _ [(3 : Int), a, b, x, y, l] [false] = _
    refine st_itf (show (false && (y == (-1))) = false from by kernel_rfl) ?_
    refine st_itf (show ((3 : Int) == 0) = false from by kernel_rfl) ?_
    refine st_itf (show ((3 : Int) == 1) = false from by kernel_rfl) ?_
    refine st_lbc (show (((3 : Int) == 2) && (y == (-1))) = false from by kernel_rfl) ?_
    show T.den _ _ [(3 : Int), a, b, x, y, l] [false, false] = _
    refine st_itf (show false = false from by kernel_rfl) ?_
    refine st_itf (show ((3 : Int) == 2) = false from by kernel_rfl) ?_
    refine st_rq (show (b != 0) = true from ?_) ?_
    · simp_all
    refine st_ret ?_
    show some ([(arI .rem .u64 a b), 0], []) = _
    unfold ur dz
    refine r2 ?_ ?_ <;> simp_all

theorem q17_0 (a b x y : Int) : F17 [0, a, b, x, y] [] = some ([], [(a == b)]) := by kernel_rfl

set_option maxHeartbeats 4000000 in
theorem q10_70 (a b : Int) : F10 [(70 : Int), a, b] [] = some ([(bif ((IntKind.wrap .u64 (IntKind.wrap .u32 a)) == (IntKind.wrap .u64 (IntKind.wrap .u32 b))) then 1 else 0), 0], [true]) := by
  refine Eq.trans (Fd_of (n := 3) (m := 0) (t := t10) (C := Tab.fn a10) rfl rfl) ?_
  rw [t10]
  refine st_lbc (show ((decide ((70 : Int) ≥ 70)) && (decide ((70 : Int) ≤ 79))) = true from by kernel_rfl) ?_
  show T.den _ _ [(70 : Int), a, b] [true] = _
  refine st_itt (show true = true from by kernel_rfl) ?_
  refine st_0_1 (e10_17) (g := true) rfl (l := [0, (IntKind.wrap .u64 (IntKind.wrap .u32 a)), (IntKind.wrap .u64 (IntKind.wrap .u32 b)), (IntKind.wrap .i64 (IntKind.wrap .i32 (IntKind.wrap .u64 (IntKind.wrap .u32 a)))), (IntKind.wrap .i64 (IntKind.wrap .i32 (IntKind.wrap .u64 (IntKind.wrap .u32 b))))]) rfl (m := []) rfl (cl_t (q17_0 (IntKind.wrap .u64 (IntKind.wrap .u32 a)) (IntKind.wrap .u64 (IntKind.wrap .u32 b)) (IntKind.wrap .i64 (IntKind.wrap .i32 (IntKind.wrap .u64 (IntKind.wrap .u32 a)))) (IntKind.wrap .i64 (IntKind.wrap .i32 (IntKind.wrap .u64 (IntKind.wrap .u32 b)))))) fun b1 hb1 => ?_
  show T.den _ _ [(70 : Int), a, b] [true, b1] = _
  refine st_1_0 (e10_16) (g := true) rfl (l := []) rfl (m := [b1]) rfl (cl_t (q16 b1)) fun i3 hi3 => ?_
  show T.den _ _ [(70 : Int), a, b, i3] [true, b1] = _
  refine st_ret ?_
  show some ([i3, 0], [true]) = _
  subst hb1 hi3
  rfl

theorem q17_1 (a b x y : Int) : F17 [1, a, b, x, y] [] = some ([], [(a != b)]) := by kernel_rfl

set_option maxHeartbeats 4000000 in
theorem q10_71 (a b : Int) : F10 [(71 : Int), a, b] [] = some ([(bif ((IntKind.wrap .u64 (IntKind.wrap .u32 a)) != (IntKind.wrap .u64 (IntKind.wrap .u32 b))) then 1 else 0), 0], [true]) := by
  refine Eq.trans (Fd_of (n := 3) (m := 0) (t := t10) (C := Tab.fn a10) rfl rfl) ?_
  rw [t10]
  refine st_lbc (show ((decide ((71 : Int) ≥ 70)) && (decide ((71 : Int) ≤ 79))) = true from by kernel_rfl) ?_
  show T.den _ _ [(71 : Int), a, b] [true] = _
  refine st_itt (show true = true from by kernel_rfl) ?_
  refine st_0_1 (e10_17) (g := true) rfl (l := [1, (IntKind.wrap .u64 (IntKind.wrap .u32 a)), (IntKind.wrap .u64 (IntKind.wrap .u32 b)), (IntKind.wrap .i64 (IntKind.wrap .i32 (IntKind.wrap .u64 (IntKind.wrap .u32 a)))), (IntKind.wrap .i64 (IntKind.wrap .i32 (IntKind.wrap .u64 (IntKind.wrap .u32 b))))]) rfl (m := []) rfl (cl_t (q17_1 (IntKind.wrap .u64 (IntKind.wrap .u32 a)) (IntKind.wrap .u64 (IntKind.wrap .u32 b)) (IntKind.wrap .i64 (IntKind.wrap .i32 (IntKind.wrap .u64 (IntKind.wrap .u32 a)))) (IntKind.wrap .i64 (IntKind.wrap .i32 (IntKind.wrap .u64 (IntKind.wrap .u32 b)))))) fun b1 hb1 => ?_
  show T.den _ _ [(71 : Int), a, b] [true, b1] = _
  refine st_1_0 (e10_16) (g := true) rfl (l := []) rfl (m := [b1]) rfl (cl_t (q16 b1)) fun i3 hi3 => ?_
  show T.den _ _ [(71 : Int), a, b, i3] [true, b1] = _
  refine st_ret ?_
  show some ([i3, 0], [true]) = _
  subst hb1 hi3
  rfl

theorem q17_2 (a b x y : Int) : F17 [2, a, b, x, y] [] = some ([], [(decide (x < y))]) := by kernel_rfl

set_option maxHeartbeats 4000000 in
theorem q10_72 (a b : Int) : F10 [(72 : Int), a, b] [] = some ([(bif (decide ((IntKind.wrap .i64 (IntKind.wrap .i32 (IntKind.wrap .u64 (IntKind.wrap .u32 a)))) < (IntKind.wrap .i64 (IntKind.wrap .i32 (IntKind.wrap .u64 (IntKind.wrap .u32 b)))))) then 1 else 0), 0], [true]) := by
  refine Eq.trans (Fd_of (n := 3) (m := 0) (t := t10) (C := Tab.fn a10) rfl rfl) ?_
  rw [t10]
  refine st_lbc (show ((decide ((72 : Int) ≥ 70)) && (decide ((72 : Int) ≤ 79))) = true from by kernel_rfl) ?_
  show T.den _ _ [(72 : Int), a, b] [true] = _
  refine st_itt (show true = true from by kernel_rfl) ?_
  refine st_0_1 (e10_17) (g := true) rfl (l := [2, (IntKind.wrap .u64 (IntKind.wrap .u32 a)), (IntKind.wrap .u64 (IntKind.wrap .u32 b)), (IntKind.wrap .i64 (IntKind.wrap .i32 (IntKind.wrap .u64 (IntKind.wrap .u32 a)))), (IntKind.wrap .i64 (IntKind.wrap .i32 (IntKind.wrap .u64 (IntKind.wrap .u32 b))))]) rfl (m := []) rfl (cl_t (q17_2 (IntKind.wrap .u64 (IntKind.wrap .u32 a)) (IntKind.wrap .u64 (IntKind.wrap .u32 b)) (IntKind.wrap .i64 (IntKind.wrap .i32 (IntKind.wrap .u64 (IntKind.wrap .u32 a)))) (IntKind.wrap .i64 (IntKind.wrap .i32 (IntKind.wrap .u64 (IntKind.wrap .u32 b)))))) fun b1 hb1 => ?_
  show T.den _ _ [(72 : Int), a, b] [true, b1] = _
  refine st_1_0 (e10_16) (g := true) rfl (l := []) rfl (m := [b1]) rfl (cl_t (q16 b1)) fun i3 hi3 => ?_
  show T.den _ _ [(72 : Int), a, b, i3] [true, b1] = _
  refine st_ret ?_
  show some ([i3, 0], [true]) = _
  subst hb1 hi3
  rfl

theorem q17_3 (a b x y : Int) : F17 [3, a, b, x, y] [] = some ([], [(decide (a < b))]) := by kernel_rfl

set_option maxHeartbeats 4000000 in
theorem q10_73 (a b : Int) : F10 [(73 : Int), a, b] [] = some ([(bif (decide ((IntKind.wrap .u64 (IntKind.wrap .u32 a)) < (IntKind.wrap .u64 (IntKind.wrap .u32 b)))) then 1 else 0), 0], [true]) := by
  refine Eq.trans (Fd_of (n := 3) (m := 0) (t := t10) (C := Tab.fn a10) rfl rfl) ?_
  rw [t10]
  refine st_lbc (show ((decide ((73 : Int) ≥ 70)) && (decide ((73 : Int) ≤ 79))) = true from by kernel_rfl) ?_
  show T.den _ _ [(73 : Int), a, b] [true] = _
  refine st_itt (show true = true from by kernel_rfl) ?_
  refine st_0_1 (e10_17) (g := true) rfl (l := [3, (IntKind.wrap .u64 (IntKind.wrap .u32 a)), (IntKind.wrap .u64 (IntKind.wrap .u32 b)), (IntKind.wrap .i64 (IntKind.wrap .i32 (IntKind.wrap .u64 (IntKind.wrap .u32 a)))), (IntKind.wrap .i64 (IntKind.wrap .i32 (IntKind.wrap .u64 (IntKind.wrap .u32 b))))]) rfl (m := []) rfl (cl_t (q17_3 (IntKind.wrap .u64 (IntKind.wrap .u32 a)) (IntKind.wrap .u64 (IntKind.wrap .u32 b)) (IntKind.wrap .i64 (IntKind.wrap .i32 (IntKind.wrap .u64 (IntKind.wrap .u32 a)))) (IntKind.wrap .i64 (IntKind.wrap .i32 (IntKind.wrap .u64 (IntKind.wrap .u32 b)))))) fun b1 hb1 => ?_
  show T.den _ _ [(73 : Int), a, b] [true, b1] = _
  refine st_1_0 (e10_16) (g := true) rfl (l := []) rfl (m := [b1]) rfl (cl_t (q16 b1)) fun i3 hi3 => ?_
  show T.den _ _ [(73 : Int), a, b, i3] [true, b1] = _
  refine st_ret ?_
  show some ([i3, 0], [true]) = _
  subst hb1 hi3
  rfl

theorem q17_4 (a b x y : Int) : F17 [4, a, b, x, y] [] = some ([], [(decide (x > y))]) := by kernel_rfl

set_option maxHeartbeats 4000000 in
theorem q10_74 (a b : Int) : F10 [(74 : Int), a, b] [] = some ([(bif (decide ((IntKind.wrap .i64 (IntKind.wrap .i32 (IntKind.wrap .u64 (IntKind.wrap .u32 a)))) > (IntKind.wrap .i64 (IntKind.wrap .i32 (IntKind.wrap .u64 (IntKind.wrap .u32 b)))))) then 1 else 0), 0], [true]) := by
  refine Eq.trans (Fd_of (n := 3) (m := 0) (t := t10) (C := Tab.fn a10) rfl rfl) ?_
  rw [t10]
  refine st_lbc (show ((decide ((74 : Int) ≥ 70)) && (decide ((74 : Int) ≤ 79))) = true from by kernel_rfl) ?_
  show T.den _ _ [(74 : Int), a, b] [true] = _
  refine st_itt (show true = true from by kernel_rfl) ?_
  refine st_0_1 (e10_17) (g := true) rfl (l := [4, (IntKind.wrap .u64 (IntKind.wrap .u32 a)), (IntKind.wrap .u64 (IntKind.wrap .u32 b)), (IntKind.wrap .i64 (IntKind.wrap .i32 (IntKind.wrap .u64 (IntKind.wrap .u32 a)))), (IntKind.wrap .i64 (IntKind.wrap .i32 (IntKind.wrap .u64 (IntKind.wrap .u32 b))))]) rfl (m := []) rfl (cl_t (q17_4 (IntKind.wrap .u64 (IntKind.wrap .u32 a)) (IntKind.wrap .u64 (IntKind.wrap .u32 b)) (IntKind.wrap .i64 (IntKind.wrap .i32 (IntKind.wrap .u64 (IntKind.wrap .u32 a)))) (IntKind.wrap .i64 (IntKind.wrap .i32 (IntKind.wrap .u64 (IntKind.wrap .u32 b)))))) fun b1 hb1 => ?_
  show T.den _ _ [(74 : Int), a, b] [true, b1] = _
  refine st_1_0 (e10_16) (g := true) rfl (l := []) rfl (m := [b1]) rfl (cl_t (q16 b1)) fun i3 hi3 => ?_
  show T.den _ _ [(74 : Int), a, b, i3] [true, b1] = _
  refine st_ret ?_
  show some ([i3, 0], [true]) = _
  subst hb1 hi3
  rfl

theorem q17_5 (a b x y : Int) : F17 [5, a, b, x, y] [] = some ([], [(decide (a > b))]) := by kernel_rfl

set_option maxHeartbeats 4000000 in
theorem q10_75 (a b : Int) : F10 [(75 : Int), a, b] [] = some ([(bif (decide ((IntKind.wrap .u64 (IntKind.wrap .u32 a)) > (IntKind.wrap .u64 (IntKind.wrap .u32 b)))) then 1 else 0), 0], [true]) := by
  refine Eq.trans (Fd_of (n := 3) (m := 0) (t := t10) (C := Tab.fn a10) rfl rfl) ?_
  rw [t10]
  refine st_lbc (show ((decide ((75 : Int) ≥ 70)) && (decide ((75 : Int) ≤ 79))) = true from by kernel_rfl) ?_
  show T.den _ _ [(75 : Int), a, b] [true] = _
  refine st_itt (show true = true from by kernel_rfl) ?_
  refine st_0_1 (e10_17) (g := true) rfl (l := [5, (IntKind.wrap .u64 (IntKind.wrap .u32 a)), (IntKind.wrap .u64 (IntKind.wrap .u32 b)), (IntKind.wrap .i64 (IntKind.wrap .i32 (IntKind.wrap .u64 (IntKind.wrap .u32 a)))), (IntKind.wrap .i64 (IntKind.wrap .i32 (IntKind.wrap .u64 (IntKind.wrap .u32 b))))]) rfl (m := []) rfl (cl_t (q17_5 (IntKind.wrap .u64 (IntKind.wrap .u32 a)) (IntKind.wrap .u64 (IntKind.wrap .u32 b)) (IntKind.wrap .i64 (IntKind.wrap .i32 (IntKind.wrap .u64 (IntKind.wrap .u32 a)))) (IntKind.wrap .i64 (IntKind.wrap .i32 (IntKind.wrap .u64 (IntKind.wrap .u32 b)))))) fun b1 hb1 => ?_
  show T.den _ _ [(75 : Int), a, b] [true, b1] = _
  refine st_1_0 (e10_16) (g := true) rfl (l := []) rfl (m := [b1]) rfl (cl_t (q16 b1)) fun i3 hi3 => ?_
  show T.den _ _ [(75 : Int), a, b, i3] [true, b1] = _
  refine st_ret ?_
  show some ([i3, 0], [true]) = _
  subst hb1 hi3
  rfl

theorem q17_6 (a b x y : Int) : F17 [6, a, b, x, y] [] = some ([], [(decide (x ≤ y))]) := by kernel_rfl

set_option maxHeartbeats 4000000 in
theorem q10_76 (a b : Int) : F10 [(76 : Int), a, b] [] = some ([(bif (decide ((IntKind.wrap .i64 (IntKind.wrap .i32 (IntKind.wrap .u64 (IntKind.wrap .u32 a)))) ≤ (IntKind.wrap .i64 (IntKind.wrap .i32 (IntKind.wrap .u64 (IntKind.wrap .u32 b)))))) then 1 else 0), 0], [true]) := by
  refine Eq.trans (Fd_of (n := 3) (m := 0) (t := t10) (C := Tab.fn a10) rfl rfl) ?_
  rw [t10]
  refine st_lbc (show ((decide ((76 : Int) ≥ 70)) && (decide ((76 : Int) ≤ 79))) = true from by kernel_rfl) ?_
  show T.den _ _ [(76 : Int), a, b] [true] = _
  refine st_itt (show true = true from by kernel_rfl) ?_
  refine st_0_1 (e10_17) (g := true) rfl (l := [6, (IntKind.wrap .u64 (IntKind.wrap .u32 a)), (IntKind.wrap .u64 (IntKind.wrap .u32 b)), (IntKind.wrap .i64 (IntKind.wrap .i32 (IntKind.wrap .u64 (IntKind.wrap .u32 a)))), (IntKind.wrap .i64 (IntKind.wrap .i32 (IntKind.wrap .u64 (IntKind.wrap .u32 b))))]) rfl (m := []) rfl (cl_t (q17_6 (IntKind.wrap .u64 (IntKind.wrap .u32 a)) (IntKind.wrap .u64 (IntKind.wrap .u32 b)) (IntKind.wrap .i64 (IntKind.wrap .i32 (IntKind.wrap .u64 (IntKind.wrap .u32 a)))) (IntKind.wrap .i64 (IntKind.wrap .i32 (IntKind.wrap .u64 (IntKind.wrap .u32 b)))))) fun b1 hb1 => ?_
  show T.den _ _ [(76 : Int), a, b] [true, b1] = _
  refine st_1_0 (e10_16) (g := true) rfl (l := []) rfl (m := [b1]) rfl (cl_t (q16 b1)) fun i3 hi3 => ?_
  show T.den _ _ [(76 : Int), a, b, i3] [true, b1] = _
  refine st_ret ?_
  show some ([i3, 0], [true]) = _
  subst hb1 hi3
  rfl

theorem q17_7 (a b x y : Int) : F17 [7, a, b, x, y] [] = some ([], [(decide (a ≤ b))]) := by kernel_rfl

set_option maxHeartbeats 4000000 in
theorem q10_77 (a b : Int) : F10 [(77 : Int), a, b] [] = some ([(bif (decide ((IntKind.wrap .u64 (IntKind.wrap .u32 a)) ≤ (IntKind.wrap .u64 (IntKind.wrap .u32 b)))) then 1 else 0), 0], [true]) := by
  refine Eq.trans (Fd_of (n := 3) (m := 0) (t := t10) (C := Tab.fn a10) rfl rfl) ?_
  rw [t10]
  refine st_lbc (show ((decide ((77 : Int) ≥ 70)) && (decide ((77 : Int) ≤ 79))) = true from by kernel_rfl) ?_
  show T.den _ _ [(77 : Int), a, b] [true] = _
  refine st_itt (show true = true from by kernel_rfl) ?_
  refine st_0_1 (e10_17) (g := true) rfl (l := [7, (IntKind.wrap .u64 (IntKind.wrap .u32 a)), (IntKind.wrap .u64 (IntKind.wrap .u32 b)), (IntKind.wrap .i64 (IntKind.wrap .i32 (IntKind.wrap .u64 (IntKind.wrap .u32 a)))), (IntKind.wrap .i64 (IntKind.wrap .i32 (IntKind.wrap .u64 (IntKind.wrap .u32 b))))]) rfl (m := []) rfl (cl_t (q17_7 (IntKind.wrap .u64 (IntKind.wrap .u32 a)) (IntKind.wrap .u64 (IntKind.wrap .u32 b)) (IntKind.wrap .i64 (IntKind.wrap .i32 (IntKind.wrap .u64 (IntKind.wrap .u32 a)))) (IntKind.wrap .i64 (IntKind.wrap .i32 (IntKind.wrap .u64 (IntKind.wrap .u32 b)))))) fun b1 hb1 => ?_
  show T.den _ _ [(77 : Int), a, b] [true, b1] = _
  refine st_1_0 (e10_16) (g := true) rfl (l := []) rfl (m := [b1]) rfl (cl_t (q16 b1)) fun i3 hi3 => ?_
  show T.den _ _ [(77 : Int), a, b, i3] [true, b1] = _
  refine st_ret ?_
  show some ([i3, 0], [true]) = _
  subst hb1 hi3
  rfl

theorem q17_8 (a b x y : Int) : F17 [8, a, b, x, y] [] = some ([], [(decide (x ≥ y))]) := by kernel_rfl

set_option maxHeartbeats 4000000 in
theorem q10_78 (a b : Int) : F10 [(78 : Int), a, b] [] = some ([(bif (decide ((IntKind.wrap .i64 (IntKind.wrap .i32 (IntKind.wrap .u64 (IntKind.wrap .u32 a)))) ≥ (IntKind.wrap .i64 (IntKind.wrap .i32 (IntKind.wrap .u64 (IntKind.wrap .u32 b)))))) then 1 else 0), 0], [true]) := by
  refine Eq.trans (Fd_of (n := 3) (m := 0) (t := t10) (C := Tab.fn a10) rfl rfl) ?_
  rw [t10]
  refine st_lbc (show ((decide ((78 : Int) ≥ 70)) && (decide ((78 : Int) ≤ 79))) = true from by kernel_rfl) ?_
  show T.den _ _ [(78 : Int), a, b] [true] = _
  refine st_itt (show true = true from by kernel_rfl) ?_
  refine st_0_1 (e10_17) (g := true) rfl (l := [8, (IntKind.wrap .u64 (IntKind.wrap .u32 a)), (IntKind.wrap .u64 (IntKind.wrap .u32 b)), (IntKind.wrap .i64 (IntKind.wrap .i32 (IntKind.wrap .u64 (IntKind.wrap .u32 a)))), (IntKind.wrap .i64 (IntKind.wrap .i32 (IntKind.wrap .u64 (IntKind.wrap .u32 b))))]) rfl (m := []) rfl (cl_t (q17_8 (IntKind.wrap .u64 (IntKind.wrap .u32 a)) (IntKind.wrap .u64 (IntKind.wrap .u32 b)) (IntKind.wrap .i64 (IntKind.wrap .i32 (IntKind.wrap .u64 (IntKind.wrap .u32 a)))) (IntKind.wrap .i64 (IntKind.wrap .i32 (IntKind.wrap .u64 (IntKind.wrap .u32 b)))))) fun b1 hb1 => ?_
  show T.den _ _ [(78 : Int), a, b] [true, b1] = _
  refine st_1_0 (e10_16) (g := true) rfl (l := []) rfl (m := [b1]) rfl (cl_t (q16 b1)) fun i3 hi3 => ?_
  show T.den _ _ [(78 : Int), a, b, i3] [true, b1] = _
  refine st_ret ?_
  show some ([i3, 0], [true]) = _
  subst hb1 hi3
  rfl

theorem q17_9 (a b x y : Int) : F17 [9, a, b, x, y] [] = some ([], [(decide (a ≥ b))]) := by kernel_rfl

set_option maxHeartbeats 4000000 in
theorem q10_79 (a b : Int) : F10 [(79 : Int), a, b] [] = some ([(bif (decide ((IntKind.wrap .u64 (IntKind.wrap .u32 a)) ≥ (IntKind.wrap .u64 (IntKind.wrap .u32 b)))) then 1 else 0), 0], [true]) := by
  refine Eq.trans (Fd_of (n := 3) (m := 0) (t := t10) (C := Tab.fn a10) rfl rfl) ?_
  rw [t10]
  refine st_lbc (show ((decide ((79 : Int) ≥ 70)) && (decide ((79 : Int) ≤ 79))) = true from by kernel_rfl) ?_
  show T.den _ _ [(79 : Int), a, b] [true] = _
  refine st_itt (show true = true from by kernel_rfl) ?_
  refine st_0_1 (e10_17) (g := true) rfl (l := [9, (IntKind.wrap .u64 (IntKind.wrap .u32 a)), (IntKind.wrap .u64 (IntKind.wrap .u32 b)), (IntKind.wrap .i64 (IntKind.wrap .i32 (IntKind.wrap .u64 (IntKind.wrap .u32 a)))), (IntKind.wrap .i64 (IntKind.wrap .i32 (IntKind.wrap .u64 (IntKind.wrap .u32 b))))]) rfl (m := []) rfl (cl_t (q17_9 (IntKind.wrap .u64 (IntKind.wrap .u32 a)) (IntKind.wrap .u64 (IntKind.wrap .u32 b)) (IntKind.wrap .i64 (IntKind.wrap .i32 (IntKind.wrap .u64 (IntKind.wrap .u32 a)))) (IntKind.wrap .i64 (IntKind.wrap .i32 (IntKind.wrap .u64 (IntKind.wrap .u32 b)))))) fun b1 hb1 => ?_
  show T.den _ _ [(79 : Int), a, b] [true, b1] = _
  refine st_1_0 (e10_16) (g := true) rfl (l := []) rfl (m := [b1]) rfl (cl_t (q16 b1)) fun i3 hi3 => ?_
  show T.den _ _ [(79 : Int), a, b, i3] [true, b1] = _
  refine st_ret ?_
  show some ([i3, 0], [true]) = _
  subst hb1 hi3
  rfl

set_option maxHeartbeats 4000000 in
theorem q18_0_32 (a b : Int) : F18 [(0 : Int), a, b, (32 : Int)] [] = some ([(arI .add .u64 a b), 0], []) := by
  refine Eq.trans (Fd_of (n := 4) (m := 0) (t := t18) (C := Tab.fn a18) rfl rfl) ?_
  rw [t18]
  refine st_itt (show ((32 : Int) == 32) = true from by kernel_rfl) ?_
  refine st_rq (show ((32 : Int) != 0) = true from by kernel_rfl) ?_
  refine st_itt (show ((0 : Int) == 0) = true from by kernel_rfl) ?_
  refine st_ret ?_
  show some ([(arI .add .u64 a b), 0], []) = _
  rfl

set_option maxHeartbeats 4000000 in
theorem q10_106 (a b : Int) : F10 [(106 : Int), a, b] [] = some ([(IntKind.wrap .u64 (IntKind.wrap .u32 (arI .add .u64 (IntKind.wrap .u64 (IntKind.wrap .u32 a)) (IntKind.wrap .u64 (IntKind.wrap .u32 b))))), 0], [true]) := by
  refine Eq.trans (Fd_of (n := 3) (m := 0) (t := t10) (C := Tab.fn a10) rfl rfl) ?_
  rw [t10]
  refine st_lbc (show ((decide ((106 : Int) ≥ 70)) && (decide ((106 : Int) ≤ 79))) = false from by kernel_rfl) ?_
  show T.den _ _ [(106 : Int), a, b] [false] = _
  refine st_itf (show false = false from by kernel_rfl) ?_
  refine st_lbc (show ((decide ((106 : Int) ≥ 81)) && (decide ((106 : Int) ≤ 90))) = false from by kernel_rfl) ?_
  show T.den _ _ [(106 : Int), a, b] [false, false] = _
  refine st_itf (show false = false from by kernel_rfl) ?_
  refine st_lbc (show ((decide ((106 : Int) ≥ 106)) && (decide ((106 : Int) ≤ 120))) = true from by kernel_rfl) ?_
  show T.den _ _ [(106 : Int), a, b] [false, false, true] = _
  refine st_itt (show true = true from by kernel_rfl) ?_
  refine st_2_0 (e10_18) (g := true) rfl (l := [0, (IntKind.wrap .u64 (IntKind.wrap .u32 a)), (IntKind.wrap .u64 (IntKind.wrap .u32 b)), 32]) rfl (m := []) rfl (cl_t (q18_0_32 (IntKind.wrap .u64 (IntKind.wrap .u32 a)) (IntKind.wrap .u64 (IntKind.wrap .u32 b)) )) fun i3 i4 hi3 hi4 => ?_
  show T.den _ _ [(106 : Int), a, b, i3, i4] [false, false, true] = _
  refine st_ret ?_
  show some ([(IntKind.wrap .u64 (IntKind.wrap .u32 i3)), i4], [true]) = _
  subst hi3 hi4
  rfl

set_option maxHeartbeats 4000000 in
theorem q18_1_32 (a b : Int) : F18 [(1 : Int), a, b, (32 : Int)] [] = some ([(arI .sub .u64 a b), 0], []) := by
  refine Eq.trans (Fd_of (n := 4) (m := 0) (t := t18) (C := Tab.fn a18) rfl rfl) ?_
  rw [t18]
  refine st_itt (show ((32 : Int) == 32) = true from by kernel_rfl) ?_
  refine st_rq (show ((32 : Int) != 0) = true from by kernel_rfl) ?_
  refine st_itf (show ((1 : Int) == 0) = false from by kernel_rfl) ?_
  refine st_itt (show ((1 : Int) == 1) = true from by kernel_rfl) ?_
  refine st_ret ?_
  show some ([(arI .sub .u64 a b), 0], []) = _
  rfl

set_option maxHeartbeats 4000000 in
theorem q10_107 (a b : Int) : F10 [(107 : Int), a, b] [] = some ([(IntKind.wrap .u64 (IntKind.wrap .u32 (arI .sub .u64 (IntKind.wrap .u64 (IntKind.wrap .u32 a)) (IntKind.wrap .u64 (IntKind.wrap .u32 b))))), 0], [true]) := by
  refine Eq.trans (Fd_of (n := 3) (m := 0) (t := t10) (C := Tab.fn a10) rfl rfl) ?_
  rw [t10]
  refine st_lbc (show ((decide ((107 : Int) ≥ 70)) && (decide ((107 : Int) ≤ 79))) = false from by kernel_rfl) ?_
  show T.den _ _ [(107 : Int), a, b] [false] = _
  refine st_itf (show false = false from by kernel_rfl) ?_
  refine st_lbc (show ((decide ((107 : Int) ≥ 81)) && (decide ((107 : Int) ≤ 90))) = false from by kernel_rfl) ?_
  show T.den _ _ [(107 : Int), a, b] [false, false] = _
  refine st_itf (show false = false from by kernel_rfl) ?_
  refine st_lbc (show ((decide ((107 : Int) ≥ 106)) && (decide ((107 : Int) ≤ 120))) = true from by kernel_rfl) ?_
  show T.den _ _ [(107 : Int), a, b] [false, false, true] = _
  refine st_itt (show true = true from by kernel_rfl) ?_
  refine st_2_0 (e10_18) (g := true) rfl (l := [1, (IntKind.wrap .u64 (IntKind.wrap .u32 a)), (IntKind.wrap .u64 (IntKind.wrap .u32 b)), 32]) rfl (m := []) rfl (cl_t (q18_1_32 (IntKind.wrap .u64 (IntKind.wrap .u32 a)) (IntKind.wrap .u64 (IntKind.wrap .u32 b)) )) fun i3 i4 hi3 hi4 => ?_
  show T.den _ _ [(107 : Int), a, b, i3, i4] [false, false, true] = _
  refine st_ret ?_
  show some ([(IntKind.wrap .u64 (IntKind.wrap .u32 i3)), i4], [true]) = _
  subst hi3 hi4
  rfl

set_option maxHeartbeats 4000000 in
theorem q18_2_32 (a b : Int) : F18 [(2 : Int), a, b, (32 : Int)] [] = some ([(arI .mul .u64 a b), 0], []) := by
  refine Eq.trans (Fd_of (n := 4) (m := 0) (t := t18) (C := Tab.fn a18) rfl rfl) ?_
  rw [t18]
  refine st_itt (show ((32 : Int) == 32) = true from by kernel_rfl) ?_
  refine st_rq (show ((32 : Int) != 0) = true from by kernel_rfl) ?_
  refine st_itf (show ((2 : Int) == 0) = false from by kernel_rfl) ?_
  refine st_itf (show ((2 : Int) == 1) = false from by kernel_rfl) ?_
  refine st_itt (show ((2 : Int) == 2) = true from by kernel_rfl) ?_
  refine st_ret ?_
  show some ([(arI .mul .u64 a b), 0], []) = _
  rfl

set_option maxHeartbeats 4000000 in
theorem q10_108 (a b : Int) : F10 [(108 : Int), a, b] [] = some ([(IntKind.wrap .u64 (IntKind.wrap .u32 (arI .mul .u64 (IntKind.wrap .u64 (IntKind.wrap .u32 a)) (IntKind.wrap .u64 (IntKind.wrap .u32 b))))), 0], [true]) := by
  refine Eq.trans (Fd_of (n := 3) (m := 0) (t := t10) (C := Tab.fn a10) rfl rfl) ?_
  rw [t10]
  refine st_lbc (show ((decide ((108 : Int) ≥ 70)) && (decide ((108 : Int) ≤ 79))) = false from by kernel_rfl) ?_
  show T.den _ _ [(108 : Int), a, b] [false] = _
  refine st_itf (show false = false from by kernel_rfl) ?_
  refine st_lbc (show ((decide ((108 : Int) ≥ 81)) && (decide ((108 : Int) ≤ 90))) = false from by kernel_rfl) ?_
  show T.den _ _ [(108 : Int), a, b] [false, false] = _
  refine st_itf (show false = false from by kernel_rfl) ?_
  refine st_lbc (show ((decide ((108 : Int) ≥ 106)) && (decide ((108 : Int) ≤ 120))) = true from by kernel_rfl) ?_
  show T.den _ _ [(108 : Int), a, b] [false, false, true] = _
  refine st_itt (show true = true from by kernel_rfl) ?_
  refine st_2_0 (e10_18) (g := true) rfl (l := [2, (IntKind.wrap .u64 (IntKind.wrap .u32 a)), (IntKind.wrap .u64 (IntKind.wrap .u32 b)), 32]) rfl (m := []) rfl (cl_t (q18_2_32 (IntKind.wrap .u64 (IntKind.wrap .u32 a)) (IntKind.wrap .u64 (IntKind.wrap .u32 b)) )) fun i3 i4 hi3 hi4 => ?_
  show T.den _ _ [(108 : Int), a, b, i3, i4] [false, false, true] = _
  refine st_ret ?_
  show some ([(IntKind.wrap .u64 (IntKind.wrap .u32 i3)), i4], [true]) = _
  subst hi3 hi4
  rfl

set_option maxHeartbeats 4000000 in
theorem q18_3_32 (a b : Int) (hb : 0 ≤ b) (hb2 : b < 4294967296) : F18 [(3 : Int), a, b, (32 : Int)] [] = some ([(dq b (IntKind.wrap .i64 (IntKind.wrap .i32 a)) (IntKind.wrap .i64 (IntKind.wrap .i32 b)) (-2147483648)), (dt b (IntKind.wrap .i64 (IntKind.wrap .i32 a)) (IntKind.wrap .i64 (IntKind.wrap .i32 b)) (-2147483648))], []) := by
  refine Eq.trans (Fd_of (n := 4) (m := 0) (t := t18) (C := Tab.fn a18) rfl rfl) ?_
  rw [t18]
  refine st_itt (show ((32 : Int) == 32) = true from by kernel_rfl) ?_
  refine st_rq (show ((32 : Int) != 0) = true from by kernel_rfl) ?_
  refine st_itf (show ((3 : Int) == 0) = false from by kernel_rfl) ?_
  refine st_itf (show ((3 : Int) == 1) = false from by kernel_rfl) ?_
  refine st_itf (show ((3 : Int) == 2) = false from by kernel_rfl) ?_
  refine st_itt (show ((3 : Int) == 3) = true from by kernel_rfl) ?_
  refine st_itt (show ((3 : Int) == 3) = true from by kernel_rfl) ?_
  refine st_2_0 (e18_36) (g := true) rfl (l := [0, a, b, (IntKind.wrap .i64 (IntKind.wrap .i32 a)), (IntKind.wrap .i64 (IntKind.wrap .i32 b)), (-2147483648)]) rfl (m := []) rfl (cl_t (q36_0 (a) (b) ((IntKind.wrap .i64 (IntKind.wrap .i32 a))) ((IntKind.wrap .i64 (IntKind.wrap .i32 b))) ((-2147483648)) (i32_ne b hb hb2))) fun i4 i5 hi4 hi5 => ?_
  show T.den _ _ [(3 : Int), a, b, (32 : Int), i4, i5] [] = _
  refine st_ret ?_
  show some ([i4, i5], []) = _
  subst hi4 hi5
  rfl

set_option maxHeartbeats 4000000 in
theorem q10_109 (a b : Int) : F10 [(109 : Int), a, b] [] = some ([(IntKind.wrap .u64 (IntKind.wrap .u32 (dq (IntKind.wrap .u64 (IntKind.wrap .u32 b)) (IntKind.wrap .i64 (IntKind.wrap .i32 (IntKind.wrap .u64 (IntKind.wrap .u32 a)))) (IntKind.wrap .i64 (IntKind.wrap .i32 (IntKind.wrap .u64 (IntKind.wrap .u32 b)))) (-2147483648)))), (dt (IntKind.wrap .u64 (IntKind.wrap .u32 b)) (IntKind.wrap .i64 (IntKind.wrap .i32 (IntKind.wrap .u64 (IntKind.wrap .u32 a)))) (IntKind.wrap .i64 (IntKind.wrap .i32 (IntKind.wrap .u64 (IntKind.wrap .u32 b)))) (-2147483648))], [true]) := by
  refine Eq.trans (Fd_of (n := 3) (m := 0) (t := t10) (C := Tab.fn a10) rfl rfl) ?_
  rw [t10]
  refine st_lbc (show ((decide ((109 : Int) ≥ 70)) && (decide ((109 : Int) ≤ 79))) = false from by kernel_rfl) ?_
  show T.den _ _ [(109 : Int), a, b] [false] = _
  refine st_itf (show false = false from by kernel_rfl) ?_
  refine st_lbc (show ((decide ((109 : Int) ≥ 81)) && (decide ((109 : Int) ≤ 90))) = false from by kernel_rfl) ?_
  show T.den _ _ [(109 : Int), a, b] [false, false] = _
  refine st_itf (show false = false from by kernel_rfl) ?_
  refine st_lbc (show ((decide ((109 : Int) ≥ 106)) && (decide ((109 : Int) ≤ 120))) = true from by kernel_rfl) ?_
  show T.den _ _ [(109 : Int), a, b] [false, false, true] = _
  refine st_itt (show true = true from by kernel_rfl) ?_
  refine st_2_0 (e10_18) (g := true) rfl (l := [3, (IntKind.wrap .u64 (IntKind.wrap .u32 a)), (IntKind.wrap .u64 (IntKind.wrap .u32 b)), 32]) rfl (m := []) rfl (cl_t (q18_3_32 (IntKind.wrap .u64 (IntKind.wrap .u32 a)) (IntKind.wrap .u64 (IntKind.wrap .u32 b)) (u32_ge _) (u32_lt _))) fun i3 i4 hi3 hi4 => ?_
  show T.den _ _ [(109 : Int), a, b, i3, i4] [false, false, true] = _
  refine st_ret ?_
  show some ([(IntKind.wrap .u64 (IntKind.wrap .u32 i3)), i4], [true]) = _
  subst hi3 hi4
  rfl

set_option maxHeartbeats 4000000 in
theorem q18_4_32 (a b : Int) (hb : 0 ≤ b) (hb2 : b < 4294967296) : F18 [(4 : Int), a, b, (32 : Int)] [] = some ([(uq a b), (dz b)], []) := by
  refine Eq.trans (Fd_of (n := 4) (m := 0) (t := t18) (C := Tab.fn a18) rfl rfl) ?_
  rw [t18]
  refine st_itt (show ((32 : Int) == 32) = true from by kernel_rfl) ?_
  refine st_rq (show ((32 : Int) != 0) = true from by kernel_rfl) ?_
  refine st_itf (show ((4 : Int) == 0) = false from by kernel_rfl) ?_
  refine st_itf (show ((4 : Int) == 1) = false from by kernel_rfl) ?_
  refine st_itf (show ((4 : Int) == 2) = false from by kernel_rfl) ?_
  refine st_itf (show ((4 : Int) == 3) = false from by kernel_rfl) ?_
  refine st_itt (show ((4 : Int) == 4) = true from by kernel_rfl) ?_
  refine st_itt (show ((4 : Int) == 4) = true from by kernel_rfl) ?_
  refine st_2_0 (e18_36) (g := true) rfl (l := [1, a, b, (IntKind.wrap .i64 (IntKind.wrap .i32 a)), (IntKind.wrap .i64 (IntKind.wrap .i32 b)), (-2147483648)]) rfl (m := []) rfl (cl_t (q36_1 (a) (b) ((IntKind.wrap .i64 (IntKind.wrap .i32 a))) ((IntKind.wrap .i64 (IntKind.wrap .i32 b))) ((-2147483648)) (i32_ne b hb hb2))) fun i4 i5 hi4 hi5 => ?_
  show T.den _ _ [(4 : Int), a, b, (32 : Int), i4, i5] [] = _
  refine st_ret ?_
  show some ([i4, i5], []) = _
  subst hi4 hi5
  rfl

set_option maxHeartbeats 4000000 in
theorem q10_110 (a b : Int) : F10 [(110 : Int), a, b] [] = some ([(IntKind.wrap .u64 (IntKind.wrap .u32 (uq (IntKind.wrap .u64 (IntKind.wrap .u32 a)) (IntKind.wrap .u64 (IntKind.wrap .u32 b))))), (dz (IntKind.wrap .u64 (IntKind.wrap .u32 b)))], [true]) := by
  refine Eq.trans (Fd_of (n := 3) (m := 0) (t := t10) (C := Tab.fn a10) rfl rfl) ?_
  rw [t10]
  refine st_lbc (show ((decide ((110 : Int) ≥ 70)) && (decide ((110 : Int) ≤ 79))) = false from by kernel_rfl) ?_
  show T.den _ _ [(110 : Int), a, b] [false] = _
  refine st_itf (show false = false from by kernel_rfl) ?_
  refine st_lbc (show ((decide ((110 : Int) ≥ 81)) && (decide ((110 : Int) ≤ 90))) = false from by kernel_rfl) ?_
  show T.den _ _ [(110 : Int), a, b] [false, false] = _
  refine st_itf (show false = false from by kernel_rfl) ?_
  refine st_lbc (show ((decide ((110 : Int) ≥ 106)) && (decide ((110 : Int) ≤ 120))) = true from by kernel_rfl) ?_
  show T.den _ _ [(110 : Int), a, b] [false, false, true] = _
  refine st_itt (show true = true from by kernel_rfl) ?_
  refine st_2_0 (e10_18) (g := true) rfl (l := [4, (IntKind.wrap .u64 (IntKind.wrap .u32 a)), (IntKind.wrap .u64 (IntKind.wrap .u32 b)), 32]) rfl (m := []) rfl (cl_t (q18_4_32 (IntKind.wrap .u64 (IntKind.wrap .u32 a)) (IntKind.wrap .u64 (IntKind.wrap .u32 b)) (u32_ge _) (u32_lt _))) fun i3 i4 hi3 hi4 => ?_
  show T.den _ _ [(110 : Int), a, b, i3, i4] [false, false, true] = _
  refine st_ret ?_
  show some ([(IntKind.wrap .u64 (IntKind.wrap .u32 i3)), i4], [true]) = _
  subst hi3 hi4
  rfl

set_option maxHeartbeats 4000000 in
theorem q18_5_32 (a b : Int) (hb : 0 ≤ b) (hb2 : b < 4294967296) : F18 [(5 : Int), a, b, (32 : Int)] [] = some ([(dr b (IntKind.wrap .i64 (IntKind.wrap .i32 a)) (IntKind.wrap .i64 (IntKind.wrap .i32 b))), (dz b)], []) := by
  refine Eq.trans (Fd_of (n := 4) (m := 0) (t := t18) (C := Tab.fn a18) rfl rfl) ?_
  rw [t18]
  refine st_itt (show ((32 : Int) == 32) = true from by kernel_rfl) ?_
  refine st_rq (show ((32 : Int) != 0) = true from by kernel_rfl) ?_
  refine st_itf (show ((5 : Int) == 0) = false from by kernel_rfl) ?_
  refine st_itf (show ((5 : Int) == 1) = false from by kernel_rfl) ?_
  refine st_itf (show ((5 : Int) == 2) = false from by kernel_rfl) ?_
  refine st_itf (show ((5 : Int) == 3) = false from by kernel_rfl) ?_
  refine st_itf (show ((5 : Int) == 4) = false from by kernel_rfl) ?_
  refine st_itt (show ((5 : Int) == 5) = true from by kernel_rfl) ?_
  refine st_itt (show ((5 : Int) == 5) = true from by kernel_rfl) ?_
  refine st_2_0 (e18_36) (g := true) rfl (l := [2, a, b, (IntKind.wrap .i64 (IntKind.wrap .i32 a)), (IntKind.wrap .i64 (IntKind.wrap .i32 b)), (-2147483648)]) rfl (m := []) rfl (cl_t (q36_2 (a) (b) ((IntKind.wrap .i64 (IntKind.wrap .i32 a))) ((IntKind.wrap .i64 (IntKind.wrap .i32 b))) ((-2147483648)) (i32_ne b hb hb2))) fun i4 i5 hi4 hi5 => ?_
  show T.den _ _ [(5 : Int), a, b, (32 : Int), i4, i5] [] = _
  refine st_ret ?_
  show some ([i4, i5], []) = _
  subst hi4 hi5
  rfl

set_option maxHeartbeats 4000000 in
theorem q10_111 (a b : Int) : F10 [(111 : Int), a, b] [] = some ([(IntKind.wrap .u64 (IntKind.wrap .u32 (dr (IntKind.wrap .u64 (IntKind.wrap .u32 b)) (IntKind.wrap .i64 (IntKind.wrap .i32 (IntKind.wrap .u64 (IntKind.wrap .u32 a)))) (IntKind.wrap .i64 (IntKind.wrap .i32 (IntKind.wrap .u64 (IntKind.wrap .u32 b))))))), (dz (IntKind.wrap .u64 (IntKind.wrap .u32 b)))], [true]) := by
  refine Eq.trans (Fd_of (n := 3) (m := 0) (t := t10) (C := Tab.fn a10) rfl rfl) ?_
  rw [t10]
  refine st_lbc (show ((decide ((111 : Int) ≥ 70)) && (decide ((111 : Int) ≤ 79))) = false from by kernel_rfl) ?_
  show T.den _ _ [(111 : Int), a, b] [false] = _
  refine st_itf (show false = false from by kernel_rfl) ?_
  refine st_lbc (show ((decide ((111 : Int) ≥ 81)) && (decide ((111 : Int) ≤ 90))) = false from by kernel_rfl) ?_
  show T.den _ _ [(111 : Int), a, b] [false, false] = _
  refine st_itf (show false = false from by kernel_rfl) ?_
  refine st_lbc (show ((decide ((111 : Int) ≥ 106)) && (decide ((111 : Int) ≤ 120))) = true from by kernel_rfl) ?_
  show T.den _ _ [(111 : Int), a, b] [false, false, true] = _
  refine st_itt (show true = true from by kernel_rfl) ?_
  refine st_2_0 (e10_18) (g := true) rfl (l := [5, (IntKind.wrap .u64 (IntKind.wrap .u32 a)), (IntKind.wrap .u64 (IntKind.wrap .u32 b)), 32]) rfl (m := []) rfl (cl_t (q18_5_32 (IntKind.wrap .u64 (IntKind.wrap .u32 a)) (IntKind.wrap .u64 (IntKind.wrap .u32 b)) (u32_ge _) (u32_lt _))) fun i3 i4 hi3 hi4 => ?_
  show T.den _ _ [(111 : Int), a, b, i3, i4] [false, false, true] = _
  refine st_ret ?_
  show some ([(IntKind.wrap .u64 (IntKind.wrap .u32 i3)), i4], [true]) = _
  subst hi3 hi4
  rfl

set_option maxHeartbeats 4000000 in
theorem q18_6_32 (a b : Int) (hb : 0 ≤ b) (hb2 : b < 4294967296) : F18 [(6 : Int), a, b, (32 : Int)] [] = some ([(ur a b), (dz b)], []) := by
  refine Eq.trans (Fd_of (n := 4) (m := 0) (t := t18) (C := Tab.fn a18) rfl rfl) ?_
  rw [t18]
  refine st_itt (show ((32 : Int) == 32) = true from by kernel_rfl) ?_
  refine st_rq (show ((32 : Int) != 0) = true from by kernel_rfl) ?_
  refine st_itf (show ((6 : Int) == 0) = false from by kernel_rfl) ?_
  refine st_itf (show ((6 : Int) == 1) = false from by kernel_rfl) ?_
  refine st_itf (show ((6 : Int) == 2) = false from by kernel_rfl) ?_
  refine st_itf (show ((6 : Int) == 3) = false from by kernel_rfl) ?_
  refine st_itf (show ((6 : Int) == 4) = false from by kernel_rfl) ?_
  refine st_itf (show ((6 : Int) == 5) = false from by kernel_rfl) ?_
  refine st_itt (show ((6 : Int) == 6) = true from by kernel_rfl) ?_
  refine st_2_0 (e18_36) (g := true) rfl (l := [3, a, b, (IntKind.wrap .i64 (IntKind.wrap .i32 a)), (IntKind.wrap .i64 (IntKind.wrap .i32 b)), (-2147483648)]) rfl (m := []) rfl (cl_t (q36_3 (a) (b) ((IntKind.wrap .i64 (IntKind.wrap .i32 a))) ((IntKind.wrap .i64 (IntKind.wrap .i32 b))) ((-2147483648)) (i32_ne b hb hb2))) fun i4 i5 hi4 hi5 => ?_
  show T.den _ _ [(6 : Int), a, b, (32 : Int), i4, i5] [] = _
  refine st_ret ?_
  show some ([i4, i5], []) = _
  subst hi4 hi5
  rfl

set_option maxHeartbeats 4000000 in
theorem q10_112 (a b : Int) : F10 [(112 : Int), a, b] [] = some ([(IntKind.wrap .u64 (IntKind.wrap .u32 (ur (IntKind.wrap .u64 (IntKind.wrap .u32 a)) (IntKind.wrap .u64 (IntKind.wrap .u32 b))))), (dz (IntKind.wrap .u64 (IntKind.wrap .u32 b)))], [true]) := by
  refine Eq.trans (Fd_of (n := 3) (m := 0) (t := t10) (C := Tab.fn a10) rfl rfl) ?_
  rw [t10]
  refine st_lbc (show ((decide ((112 : Int) ≥ 70)) && (decide ((112 : Int) ≤ 79))) = false from by kernel_rfl) ?_
  show T.den _ _ [(112 : Int), a, b] [false] = _
  refine st_itf (show false = false from by kernel_rfl) ?_
  refine st_lbc (show ((decide ((112 : Int) ≥ 81)) && (decide ((112 : Int) ≤ 90))) = false from by kernel_rfl) ?_
  show T.den _ _ [(112 : Int), a, b] [false, false] = _
  refine st_itf (show false = false from by kernel_rfl) ?_
  refine st_lbc (show ((decide ((112 : Int) ≥ 106)) && (decide ((112 : Int) ≤ 120))) = true from by kernel_rfl) ?_
  show T.den _ _ [(112 : Int), a, b] [false, false, true] = _
  refine st_itt (show true = true from by kernel_rfl) ?_
  refine st_2_0 (e10_18) (g := true) rfl (l := [6, (IntKind.wrap .u64 (IntKind.wrap .u32 a)), (IntKind.wrap .u64 (IntKind.wrap .u32 b)), 32]) rfl (m := []) rfl (cl_t (q18_6_32 (IntKind.wrap .u64 (IntKind.wrap .u32 a)) (IntKind.wrap .u64 (IntKind.wrap .u32 b)) (u32_ge _) (u32_lt _))) fun i3 i4 hi3 hi4 => ?_
  show T.den _ _ [(112 : Int), a, b, i3, i4] [false, false, true] = _
  refine st_ret ?_
  show some ([(IntKind.wrap .u64 (IntKind.wrap .u32 i3)), i4], [true]) = _
  subst hi3 hi4
  rfl

set_option maxHeartbeats 4000000 in
theorem q18_7_32 (a b : Int) : F18 [(7 : Int), a, b, (32 : Int)] [] = some ([(arI .and .u64 a b), 0], []) := by
  refine Eq.trans (Fd_of (n := 4) (m := 0) (t := t18) (C := Tab.fn a18) rfl rfl) ?_
  rw [t18]
  refine st_itt (show ((32 : Int) == 32) = true from by kernel_rfl) ?_
  refine st_rq (show ((32 : Int) != 0) = true from by kernel_rfl) ?_
  refine st_itf (show ((7 : Int) == 0) = false from by kernel_rfl) ?_
  refine st_itf (show ((7 : Int) == 1) = false from by kernel_rfl) ?_
  refine st_itf (show ((7 : Int) == 2) = false from by kernel_rfl) ?_
  refine st_itf (show ((7 : Int) == 3) = false from by kernel_rfl) ?_
  refine st_itf (show ((7 : Int) == 4) = false from by kernel_rfl) ?_
  refine st_itf (show ((7 : Int) == 5) = false from by kernel_rfl) ?_
  refine st_itf (show ((7 : Int) == 6) = false from by kernel_rfl) ?_
  refine st_itt (show ((7 : Int) == 7) = true from by kernel_rfl) ?_
  refine st_ret ?_
  show some ([(arI .and .u64 a b), 0], []) = _
  rfl

set_option maxHeartbeats 4000000 in
theorem q10_113 (a b : Int) : F10 [(113 : Int), a, b] [] = some ([(IntKind.wrap .u64 (IntKind.wrap .u32 (arI .and .u64 (IntKind.wrap .u64 (IntKind.wrap .u32 a)) (IntKind.wrap .u64 (IntKind.wrap .u32 b))))), 0], [true]) := by
  refine Eq.trans (Fd_of (n := 3) (m := 0) (t := t10) (C := Tab.fn a10) rfl rfl) ?_
  rw [t10]
  refine st_lbc (show ((decide ((113 : Int) ≥ 70)) && (decide ((113 : Int) ≤ 79))) = false from by kernel_rfl) ?_
  show T.den _ _ [(113 : Int), a, b] [false] = _
  refine st_itf (show false = false from by kernel_rfl) ?_
  refine st_lbc (show ((decide ((113 : Int) ≥ 81)) && (decide ((113 : Int) ≤ 90))) = false from by kernel_rfl) ?_
  show T.den _ _ [(113 : Int), a, b] [false, false] = _
  refine st_itf (show false = false from by kernel_rfl) ?_
  refine st_lbc (show ((decide ((113 : Int) ≥ 106)) && (decide ((113 : Int) ≤ 120))) = true from by kernel_rfl) ?_
  show T.den _ _ [(113 : Int), a, b] [false, false, true] = _
  refine st_itt (show true = true from by kernel_rfl) ?_
  refine st_2_0 (e10_18) (g := true) rfl (l := [7, (IntKind.wrap .u64 (IntKind.wrap .u32 a)), (IntKind.wrap .u64 (IntKind.wrap .u32 b)), 32]) rfl (m := []) rfl (cl_t (q18_7_32 (IntKind.wrap .u64 (IntKind.wrap .u32 a)) (IntKind.wrap .u64 (IntKind.wrap .u32 b)) )) fun i3 i4 hi3 hi4 => ?_
  show T.den _ _ [(113 : Int), a, b, i3, i4] [false, false, true] = _
  refine st_ret ?_
  show some ([(IntKind.wrap .u64 (IntKind.wrap .u32 i3)), i4], [true]) = _
  subst hi3 hi4
  rfl

set_option maxHeartbeats 4000000 in
theorem q18_8_32 (a b : Int) : F18 [(8 : Int), a, b, (32 : Int)] [] = some ([(arI .or .u64 a b), 0], []) := by
  refine Eq.trans (Fd_of (n := 4) (m := 0) (t := t18) (C := Tab.fn a18) rfl rfl) ?_
  rw [t18]
  refine st_itt (show ((32 : Int) == 32) = true from by kernel_rfl) ?_
  refine st_rq (show ((32 : Int) != 0) = true from by kernel_rfl) ?_
  refine st_itf (show ((8 : Int) == 0) = false from by kernel_rfl) ?_
  refine st_itf (show ((8 : Int) == 1) = false from by kernel_rfl) ?_
  refine st_itf (show ((8 : Int) == 2) = false from by kernel_rfl) ?_
  refine st_itf (show ((8 : Int) == 3) = false from by kernel_rfl) ?_
  refine st_itf (show ((8 : Int) == 4) = false from by kernel_rfl) ?_
  refine st_itf (show ((8 : Int) == 5) = false from by kernel_rfl) ?_
  refine st_itf (show ((8 : Int) == 6) = false from by kernel_rfl) ?_
  refine st_itf (show ((8 : Int) == 7) = false from by kernel_rfl) ?_
  refine st_itt (show ((8 : Int) == 8) = true from by kernel_rfl) ?_
  refine st_ret ?_
  show some ([(arI .or .u64 a b), 0], []) = _
  rfl

set_option maxHeartbeats 4000000 in
theorem q10_114 (a b : Int) : F10 [(114 : Int), a, b] [] = some ([(IntKind.wrap .u64 (IntKind.wrap .u32 (arI .or .u64 (IntKind.wrap .u64 (IntKind.wrap .u32 a)) (IntKind.wrap .u64 (IntKind.wrap .u32 b))))), 0], [true]) := by
  refine Eq.trans (Fd_of (n := 3) (m := 0) (t := t10) (C := Tab.fn a10) rfl rfl) ?_
  rw [t10]
  refine st_lbc (show ((decide ((114 : Int) ≥ 70)) && (decide ((114 : Int) ≤ 79))) = false from by kernel_rfl) ?_
  show T.den _ _ [(114 : Int), a, b] [false] = _
  refine st_itf (show false = false from by kernel_rfl) ?_
  refine st_lbc (show ((decide ((114 : Int) ≥ 81)) && (decide ((114 : Int) ≤ 90))) = false from by kernel_rfl) ?_
  show T.den _ _ [(114 : Int), a, b] [false, false] = _
  refine st_itf (show false = false from by kernel_rfl) ?_
  refine st_lbc (show ((decide ((114 : Int) ≥ 106)) && (decide ((114 : Int) ≤ 120))) = true from by kernel_rfl) ?_
  show T.den _ _ [(114 : Int), a, b] [false, false, true] = _
  refine st_itt (show true = true from by kernel_rfl) ?_
  refine st_2_0 (e10_18) (g := true) rfl (l := [8, (IntKind.wrap .u64 (IntKind.wrap .u32 a)), (IntKind.wrap .u64 (IntKind.wrap .u32 b)), 32]) rfl (m := []) rfl (cl_t (q18_8_32 (IntKind.wrap .u64 (IntKind.wrap .u32 a)) (IntKind.wrap .u64 (IntKind.wrap .u32 b)) )) fun i3 i4 hi3 hi4 => ?_
  show T.den _ _ [(114 : Int), a, b, i3, i4] [false, false, true] = _
  refine st_ret ?_
  show some ([(IntKind.wrap .u64 (IntKind.wrap .u32 i3)), i4], [true]) = _
  subst hi3 hi4
  rfl

set_option maxHeartbeats 4000000 in
theorem q18_9_32 (a b : Int) : F18 [(9 : Int), a, b, (32 : Int)] [] = some ([(arI .xor .u64 a b), 0], []) := by
  refine Eq.trans (Fd_of (n := 4) (m := 0) (t := t18) (C := Tab.fn a18) rfl rfl) ?_
  rw [t18]
  refine st_itt (show ((32 : Int) == 32) = true from by kernel_rfl) ?_
  refine st_rq (show ((32 : Int) != 0) = true from by kernel_rfl) ?_
  refine st_itf (show ((9 : Int) == 0) = false from by kernel_rfl) ?_
  refine st_itf (show ((9 : Int) == 1) = false from by kernel_rfl) ?_
  refine st_itf (show ((9 : Int) == 2) = false from by kernel_rfl) ?_
  refine st_itf (show ((9 : Int) == 3) = false from by kernel_rfl) ?_
  refine st_itf (show ((9 : Int) == 4) = false from by kernel_rfl) ?_
  refine st_itf (show ((9 : Int) == 5) = false from by kernel_rfl) ?_
  refine st_itf (show ((9 : Int) == 6) = false from by kernel_rfl) ?_
  refine st_itf (show ((9 : Int) == 7) = false from by kernel_rfl) ?_
  refine st_itf (show ((9 : Int) == 8) = false from by kernel_rfl) ?_
  refine st_itt (show ((9 : Int) == 9) = true from by kernel_rfl) ?_
  refine st_ret ?_
  show some ([(arI .xor .u64 a b), 0], []) = _
  rfl

set_option maxHeartbeats 4000000 in
theorem q10_115 (a b : Int) : F10 [(115 : Int), a, b] [] = some ([(IntKind.wrap .u64 (IntKind.wrap .u32 (arI .xor .u64 (IntKind.wrap .u64 (IntKind.wrap .u32 a)) (IntKind.wrap .u64 (IntKind.wrap .u32 b))))), 0], [true]) := by
  refine Eq.trans (Fd_of (n := 3) (m := 0) (t := t10) (C := Tab.fn a10) rfl rfl) ?_
  rw [t10]
  refine st_lbc (show ((decide ((115 : Int) ≥ 70)) && (decide ((115 : Int) ≤ 79))) = false from by kernel_rfl) ?_
  show T.den _ _ [(115 : Int), a, b] [false] = _
  refine st_itf (show false = false from by kernel_rfl) ?_
  refine st_lbc (show ((decide ((115 : Int) ≥ 81)) && (decide ((115 : Int) ≤ 90))) = false from by kernel_rfl) ?_
  show T.den _ _ [(115 : Int), a, b] [false, false] = _
  refine st_itf (show false = false from by kernel_rfl) ?_
  refine st_lbc (show ((decide ((115 : Int) ≥ 106)) && (decide ((115 : Int) ≤ 120))) = true from by kernel_rfl) ?_
  show T.den _ _ [(115 : Int), a, b] [false, false, true] = _
  refine st_itt (show true = true from by kernel_rfl) ?_
  refine st_2_0 (e10_18) (g := true) rfl (l := [9, (IntKind.wrap .u64 (IntKind.wrap .u32 a)), (IntKind.wrap .u64 (IntKind.wrap .u32 b)), 32]) rfl (m := []) rfl (cl_t (q18_9_32 (IntKind.wrap .u64 (IntKind.wrap .u32 a)) (IntKind.wrap .u64 (IntKind.wrap .u32 b)) )) fun i3 i4 hi3 hi4 => ?_
  show T.den _ _ [(115 : Int), a, b, i3, i4] [false, false, true] = _
  refine st_ret ?_
  show some ([(IntKind.wrap .u64 (IntKind.wrap .u32 i3)), i4], [true]) = _
  subst hi3 hi4
  rfl

set_option maxHeartbeats 4000000 in
theorem q18_10_32 (a b : Int) (hb : 0 ≤ b) : F18 [(10 : Int), a, b, (32 : Int)] [] = some ([(arI .shl .u64 a (arI .rem .u64 b (32 : Int))), 0], []) := by
  refine Eq.trans (Fd_of (n := 4) (m := 0) (t := t18) (C := Tab.fn a18) rfl rfl) ?_
  rw [t18]
  refine st_itt (show ((32 : Int) == 32) = true from by kernel_rfl) ?_
  refine st_rq (show ((32 : Int) != 0) = true from by kernel_rfl) ?_
  refine st_itf (show ((10 : Int) == 0) = false from by kernel_rfl) ?_
  refine st_itf (show ((10 : Int) == 1) = false from by kernel_rfl) ?_
  refine st_itf (show ((10 : Int) == 2) = false from by kernel_rfl) ?_
  refine st_itf (show ((10 : Int) == 3) = false from by kernel_rfl) ?_
  refine st_itf (show ((10 : Int) == 4) = false from by kernel_rfl) ?_
  refine st_itf (show ((10 : Int) == 5) = false from by kernel_rfl) ?_
  refine st_itf (show ((10 : Int) == 6) = false from by kernel_rfl) ?_
  refine st_itf (show ((10 : Int) == 7) = false from by kernel_rfl) ?_
  refine st_itf (show ((10 : Int) == 8) = false from by kernel_rfl) ?_
  refine st_itf (show ((10 : Int) == 9) = false from by kernel_rfl) ?_
  refine st_itt (show ((10 : Int) == 10) = true from by kernel_rfl) ?_
  refine st_rq (show (decide ((arI .rem .u64 b (32 : Int)) ≥ 0)) = true from ?_) ?_
  · first | exact rem_ge _ _ (by omega) | exact sub_ge _ _ | (subst_vars; exact sub_ge _ _) | (omega)
  refine st_ret ?_
  show some ([(arI .shl .u64 a (arI .rem .u64 b (32 : Int))), 0], []) = _
  rfl

set_option maxHeartbeats 4000000 in
theorem q10_116 (a b : Int) : F10 [(116 : Int), a, b] [] = some ([(IntKind.wrap .u64 (IntKind.wrap .u32 (arI .shl .u64 (IntKind.wrap .u64 (IntKind.wrap .u32 a)) (arI .rem .u64 (IntKind.wrap .u64 (IntKind.wrap .u32 b)) (32 : Int))))), 0], [true]) := by
  refine Eq.trans (Fd_of (n := 3) (m := 0) (t := t10) (C := Tab.fn a10) rfl rfl) ?_
  rw [t10]
  refine st_lbc (show ((decide ((116 : Int) ≥ 70)) && (decide ((116 : Int) ≤ 79))) = false from by kernel_rfl) ?_
  show T.den _ _ [(116 : Int), a, b] [false] = _
  refine st_itf (show false = false from by kernel_rfl) ?_
  refine st_lbc (show ((decide ((116 : Int) ≥ 81)) && (decide ((116 : Int) ≤ 90))) = false from by kernel_rfl) ?_
  show T.den _ _ [(116 : Int), a, b] [false, false] = _
  refine st_itf (show false = false from by kernel_rfl) ?_
  refine st_lbc (show ((decide ((116 : Int) ≥ 106)) && (decide ((116 : Int) ≤ 120))) = true from by kernel_rfl) ?_
  show T.den _ _ [(116 : Int), a, b] [false, false, true] = _
  refine st_itt (show true = true from by kernel_rfl) ?_
  refine st_2_0 (e10_18) (g := true) rfl (l := [10, (IntKind.wrap .u64 (IntKind.wrap .u32 a)), (IntKind.wrap .u64 (IntKind.wrap .u32 b)), 32]) rfl (m := []) rfl (cl_t (q18_10_32 (IntKind.wrap .u64 (IntKind.wrap .u32 a)) (IntKind.wrap .u64 (IntKind.wrap .u32 b)) (u32_ge _))) fun i3 i4 hi3 hi4 => ?_
  show T.den _ _ [(116 : Int), a, b, i3, i4] [false, false, true] = _
  refine st_ret ?_
  show some ([(IntKind.wrap .u64 (IntKind.wrap .u32 i3)), i4], [true]) = _
  subst hi3 hi4
  rfl

set_option maxHeartbeats 4000000 in
theorem q18_11_32 (a b : Int) (hb : 0 ≤ b) : F18 [(11 : Int), a, b, (32 : Int)] [] = some ([(IntKind.wrap .u64 (arI .shr .i64 (IntKind.wrap .i64 (IntKind.wrap .i32 a)) (arI .rem .u64 b (32 : Int)))), 0], []) := by
  refine Eq.trans (Fd_of (n := 4) (m := 0) (t := t18) (C := Tab.fn a18) rfl rfl) ?_
  rw [t18]
  refine st_itt (show ((32 : Int) == 32) = true from by kernel_rfl) ?_
  refine st_rq (show ((32 : Int) != 0) = true from by kernel_rfl) ?_
  refine st_itf (show ((11 : Int) == 0) = false from by kernel_rfl) ?_
  refine st_itf (show ((11 : Int) == 1) = false from by kernel_rfl) ?_
  refine st_itf (show ((11 : Int) == 2) = false from by kernel_rfl) ?_
  refine st_itf (show ((11 : Int) == 3) = false from by kernel_rfl) ?_
  refine st_itf (show ((11 : Int) == 4) = false from by kernel_rfl) ?_
  refine st_itf (show ((11 : Int) == 5) = false from by kernel_rfl) ?_
  refine st_itf (show ((11 : Int) == 6) = false from by kernel_rfl) ?_
  refine st_itf (show ((11 : Int) == 7) = false from by kernel_rfl) ?_
  refine st_itf (show ((11 : Int) == 8) = false from by kernel_rfl) ?_
  refine st_itf (show ((11 : Int) == 9) = false from by kernel_rfl) ?_
  refine st_itf (show ((11 : Int) == 10) = false from by kernel_rfl) ?_
  refine st_itt (show ((11 : Int) == 11) = true from by kernel_rfl) ?_
  refine st_rq (show (decide ((arI .rem .u64 b (32 : Int)) ≥ 0)) = true from ?_) ?_
  · first | exact rem_ge _ _ (by omega) | exact sub_ge _ _ | (subst_vars; exact sub_ge _ _) | (omega)
  refine st_li fun i4 hi4 => ?_
  replace hi4 : i4 = (arI .shr .i64 (IntKind.wrap .i64 (IntKind.wrap .i32 a)) (arI .rem .u64 b (32 : Int))) := hi4
  show T.den _ _ [(11 : Int), a, b, (32 : Int), i4] [] = _
  refine st_ret ?_
  show some ([(IntKind.wrap .u64 i4), 0], []) = _
  subst hi4
  rfl

set_option maxHeartbeats 4000000 in
theorem q10_117 (a b : Int) : F10 [(117 : Int), a, b] [] = some ([(IntKind.wrap .u64 (IntKind.wrap .u32 (IntKind.wrap .u64 (arI .shr .i64 (IntKind.wrap .i64 (IntKind.wrap .i32 (IntKind.wrap .u64 (IntKind.wrap .u32 a)))) (arI .rem .u64 (IntKind.wrap .u64 (IntKind.wrap .u32 b)) (32 : Int)))))), 0], [true]) := by
  refine Eq.trans (Fd_of (n := 3) (m := 0) (t := t10) (C := Tab.fn a10) rfl rfl) ?_
  rw [t10]
  refine st_lbc (show ((decide ((117 : Int) ≥ 70)) && (decide ((117 : Int) ≤ 79))) = false from by kernel_rfl) ?_
  show T.den _ _ [(117 : Int), a, b] [false] = _
  refine st_itf (show false = false from by kernel_rfl) ?_
  refine st_lbc (show ((decide ((117 : Int) ≥ 81)) && (decide ((117 : Int) ≤ 90))) = false from by kernel_rfl) ?_
  show T.den _ _ [(117 : Int), a, b] [false, false] = _
  refine st_itf (show false = false from by kernel_rfl) ?_
  refine st_lbc (show ((decide ((117 : Int) ≥ 106)) && (decide ((117 : Int) ≤ 120))) = true from by kernel_rfl) ?_
  show T.den _ _ [(117 : Int), a, b] [false, false, true] = _
  refine st_itt (show true = true from by kernel_rfl) ?_
  refine st_2_0 (e10_18) (g := true) rfl (l := [11, (IntKind.wrap .u64 (IntKind.wrap .u32 a)), (IntKind.wrap .u64 (IntKind.wrap .u32 b)), 32]) rfl (m := []) rfl (cl_t (q18_11_32 (IntKind.wrap .u64 (IntKind.wrap .u32 a)) (IntKind.wrap .u64 (IntKind.wrap .u32 b)) (u32_ge _))) fun i3 i4 hi3 hi4 => ?_
  show T.den _ _ [(117 : Int), a, b, i3, i4] [false, false, true] = _
  refine st_ret ?_
  show some ([(IntKind.wrap .u64 (IntKind.wrap .u32 i3)), i4], [true]) = _
  subst hi3 hi4
  rfl

set_option maxHeartbeats 4000000 in
theorem q18_12_32 (a b : Int) (hb : 0 ≤ b) : F18 [(12 : Int), a, b, (32 : Int)] [] = some ([(arI .shr .u64 a (arI .rem .u64 b (32 : Int))), 0], []) := by
  refine Eq.trans (Fd_of (n := 4) (m := 0) (t := t18) (C := Tab.fn a18) rfl rfl) ?_
  rw [t18]
  refine st_itt (show ((32 : Int) == 32) = true from by kernel_rfl) ?_
  refine st_rq (show ((32 : Int) != 0) = true from by kernel_rfl) ?_
  refine st_itf (show ((12 : Int) == 0) = false from by kernel_rfl) ?_
  refine st_itf (show ((12 : Int) == 1) = false from by kernel_rfl) ?_
  refine st_itf (show ((12 : Int) == 2) = false from by kernel_rfl) ?_
  refine st_itf (show ((12 : Int) == 3) = false from by kernel_rfl) ?_
  refine st_itf (show ((12 : Int) == 4) = false from by kernel_rfl) ?_
  refine st_itf (show ((12 : Int) == 5) = false from by kernel_rfl) ?_
  refine st_itf (show ((12 : Int) == 6) = false from by kernel_rfl) ?_
  refine st_itf (show ((12 : Int) == 7) = false from by kernel_rfl) ?_
  refine st_itf (show ((12 : Int) == 8) = false from by kernel_rfl) ?_
  refine st_itf (show ((12 : Int) == 9) = false from by kernel_rfl) ?_
  refine st_itf (show ((12 : Int) == 10) = false from by kernel_rfl) ?_
  refine st_itf (show ((12 : Int) == 11) = false from by kernel_rfl) ?_
  refine st_itt (show ((12 : Int) == 12) = true from by kernel_rfl) ?_
  refine st_rq (show (decide ((arI .rem .u64 b (32 : Int)) ≥ 0)) = true from ?_) ?_
  · first | exact rem_ge _ _ (by omega) | exact sub_ge _ _ | (subst_vars; exact sub_ge _ _) | (omega)
  refine st_ret ?_
  show some ([(arI .shr .u64 a (arI .rem .u64 b (32 : Int))), 0], []) = _
  rfl

set_option maxHeartbeats 4000000 in
theorem q10_118 (a b : Int) : F10 [(118 : Int), a, b] [] = some ([(IntKind.wrap .u64 (IntKind.wrap .u32 (arI .shr .u64 (IntKind.wrap .u64 (IntKind.wrap .u32 a)) (arI .rem .u64 (IntKind.wrap .u64 (IntKind.wrap .u32 b)) (32 : Int))))), 0], [true]) := by
  refine Eq.trans (Fd_of (n := 3) (m := 0) (t := t10) (C := Tab.fn a10) rfl rfl) ?_
  rw [t10]
  refine st_lbc (show ((decide ((118 : Int) ≥ 70)) && (decide ((118 : Int) ≤ 79))) = false from by kernel_rfl) ?_
  show T.den _ _ [(118 : Int), a, b] [false] = _
  refine st_itf (show false = false from by kernel_rfl) ?_
  refine st_lbc (show ((decide ((118 : Int) ≥ 81)) && (decide ((118 : Int) ≤ 90))) = false from by kernel_rfl) ?_
  show T.den _ _ [(118 : Int), a, b] [false, false] = _
  refine st_itf (show false = false from by kernel_rfl) ?_
  refine st_lbc (show ((decide ((118 : Int) ≥ 106)) && (decide ((118 : Int) ≤ 120))) = true from by kernel_rfl) ?_
  show T.den _ _ [(118 : Int), a, b] [false, false, true] = _
  refine st_itt (show true = true from by kernel_rfl) ?_
  refine st_2_0 (e10_18) (g := true) rfl (l := [12, (IntKind.wrap .u64 (IntKind.wrap .u32 a)), (IntKind.wrap .u64 (IntKind.wrap .u32 b)), 32]) rfl (m := []) rfl (cl_t (q18_12_32 (IntKind.wrap .u64 (IntKind.wrap .u32 a)) (IntKind.wrap .u64 (IntKind.wrap .u32 b)) (u32_ge _))) fun i3 i4 hi3 hi4 => ?_
  show T.den _ _ [(118 : Int), a, b, i3, i4] [false, false, true] = _
  refine st_ret ?_
  show some ([(IntKind.wrap .u64 (IntKind.wrap .u32 i3)), i4], [true]) = _
  subst hi3 hi4
  rfl

set_option maxHeartbeats 4000000 in
theorem q18_13_32 (a b : Int) (hb : 0 ≤ b) : F18 [(13 : Int), a, b, (32 : Int)] [] = some ([(arI .or .u64 (arI .shl .u64 a (arI .rem .u64 b (32 : Int))) (arI .shr .u64 a (arI .sub .u64 (32 : Int) (arI .rem .u64 b (32 : Int))))), 0], []) := by
  refine Eq.trans (Fd_of (n := 4) (m := 0) (t := t18) (C := Tab.fn a18) rfl rfl) ?_
  rw [t18]
  refine st_itt (show ((32 : Int) == 32) = true from by kernel_rfl) ?_
  refine st_rq (show ((32 : Int) != 0) = true from by kernel_rfl) ?_
  refine st_itf (show ((13 : Int) == 0) = false from by kernel_rfl) ?_
  refine st_itf (show ((13 : Int) == 1) = false from by kernel_rfl) ?_
  refine st_itf (show ((13 : Int) == 2) = false from by kernel_rfl) ?_
  refine st_itf (show ((13 : Int) == 3) = false from by kernel_rfl) ?_
  refine st_itf (show ((13 : Int) == 4) = false from by kernel_rfl) ?_
  refine st_itf (show ((13 : Int) == 5) = false from by kernel_rfl) ?_
  refine st_itf (show ((13 : Int) == 6) = false from by kernel_rfl) ?_
  refine st_itf (show ((13 : Int) == 7) = false from by kernel_rfl) ?_
  refine st_itf (show ((13 : Int) == 8) = false from by kernel_rfl) ?_
  refine st_itf (show ((13 : Int) == 9) = false from by kernel_rfl) ?_
  refine st_itf (show ((13 : Int) == 10) = false from by kernel_rfl) ?_
  refine st_itf (show ((13 : Int) == 11) = false from by kernel_rfl) ?_
  refine st_itf (show ((13 : Int) == 12) = false from by kernel_rfl) ?_
  refine st_itt (show ((13 : Int) == 13) = true from by kernel_rfl) ?_
  refine st_rq (show (decide ((arI .rem .u64 b (32 : Int)) ≥ 0)) = true from ?_) ?_
  · first | exact rem_ge _ _ (by omega) | exact sub_ge _ _ | (subst_vars; exact sub_ge _ _) | (omega)
  refine st_li fun i4 hi4 => ?_
  replace hi4 : i4 = (arI .sub .u64 (32 : Int) (arI .rem .u64 b (32 : Int))) := hi4
  show T.den _ _ [(13 : Int), a, b, (32 : Int), i4] [] = _
  refine st_rq (show (decide (i4 ≥ 0)) = true from ?_) ?_
  · first | exact rem_ge _ _ (by omega) | exact sub_ge _ _ | (subst_vars; exact sub_ge _ _) | (omega)
  refine st_li fun i5 hi5 => ?_
  replace hi5 : i5 = (arI .or .u64 (arI .shl .u64 a (arI .rem .u64 b (32 : Int))) (arI .shr .u64 a i4)) := hi5
  show T.den _ _ [(13 : Int), a, b, (32 : Int), i4, i5] [] = _
  refine st_ret ?_
  show some ([i5, 0], []) = _
  subst hi4 hi5
  rfl

set_option maxHeartbeats 4000000 in
theorem q10_119 (a b : Int) : F10 [(119 : Int), a, b] [] = some ([(IntKind.wrap .u64 (IntKind.wrap .u32 (arI .or .u64 (arI .shl .u64 (IntKind.wrap .u64 (IntKind.wrap .u32 a)) (arI .rem .u64 (IntKind.wrap .u64 (IntKind.wrap .u32 b)) (32 : Int))) (arI .shr .u64 (IntKind.wrap .u64 (IntKind.wrap .u32 a)) (arI .sub .u64 (32 : Int) (arI .rem .u64 (IntKind.wrap .u64 (IntKind.wrap .u32 b)) (32 : Int))))))), 0], [true]) := by
  refine Eq.trans (Fd_of (n := 3) (m := 0) (t := t10) (C := Tab.fn a10) rfl rfl) ?_
  rw [t10]
  refine st_lbc (show ((decide ((119 : Int) ≥ 70)) && (decide ((119 : Int) ≤ 79))) = false from by kernel_rfl) ?_
  show T.den _ _ [(119 : Int), a, b] [false] = _
  refine st_itf (show false = false from by kernel_rfl) ?_
  refine st_lbc (show ((decide ((119 : Int) ≥ 81)) && (decide ((119 : Int) ≤ 90))) = false from by kernel_rfl) ?_
  show T.den _ _ [(119 : Int), a, b] [false, false] = _
  refine st_itf (show false = false from by kernel_rfl) ?_
  refine st_lbc (show ((decide ((119 : Int) ≥ 106)) && (decide ((119 : Int) ≤ 120))) = true from by kernel_rfl) ?_
  show T.den _ _ [(119 : Int), a, b] [false, false, true] = _
  refine st_itt (show true = true from by kernel_rfl) ?_
  refine st_2_0 (e10_18) (g := true) rfl (l := [13, (IntKind.wrap .u64 (IntKind.wrap .u32 a)), (IntKind.wrap .u64 (IntKind.wrap .u32 b)), 32]) rfl (m := []) rfl (cl_t (q18_13_32 (IntKind.wrap .u64 (IntKind.wrap .u32 a)) (IntKind.wrap .u64 (IntKind.wrap .u32 b)) (u32_ge _))) fun i3 i4 hi3 hi4 => ?_
  show T.den _ _ [(119 : Int), a, b, i3, i4] [false, false, true] = _
  refine st_ret ?_
  show some ([(IntKind.wrap .u64 (IntKind.wrap .u32 i3)), i4], [true]) = _
  subst hi3 hi4
  rfl

set_option maxHeartbeats 4000000 in
theorem q18_14_32 (a b : Int) (hb : 0 ≤ b) : F18 [(14 : Int), a, b, (32 : Int)] [] = some ([(arI .or .u64 (arI .shr .u64 a (arI .rem .u64 b (32 : Int))) (arI .shl .u64 a (arI .sub .u64 (32 : Int) (arI .rem .u64 b (32 : Int))))), 0], []) := by
  refine Eq.trans (Fd_of (n := 4) (m := 0) (t := t18) (C := Tab.fn a18) rfl rfl) ?_
  rw [t18]
  refine st_itt (show ((32 : Int) == 32) = true from by kernel_rfl) ?_
  refine st_rq (show ((32 : Int) != 0) = true from by kernel_rfl) ?_
  refine st_itf (show ((14 : Int) == 0) = false from by kernel_rfl) ?_
  refine st_itf (show ((14 : Int) == 1) = false from by kernel_rfl) ?_
  refine st_itf (show ((14 : Int) == 2) = false from by kernel_rfl) ?_
  refine st_itf (show ((14 : Int) == 3) = false from by kernel_rfl) ?_
  refine st_itf (show ((14 : Int) == 4) = false from by kernel_rfl) ?_
  refine st_itf (show ((14 : Int) == 5) = false from by kernel_rfl) ?_
  refine st_itf (show ((14 : Int) == 6) = false from by kernel_rfl) ?_
  refine st_itf (show ((14 : Int) == 7) = false from by kernel_rfl) ?_
  refine st_itf (show ((14 : Int) == 8) = false from by kernel_rfl) ?_
  refine st_itf (show ((14 : Int) == 9) = false from by kernel_rfl) ?_
  refine st_itf (show ((14 : Int) == 10) = false from by kernel_rfl) ?_
  refine st_itf (show ((14 : Int) == 11) = false from by kernel_rfl) ?_
  refine st_itf (show ((14 : Int) == 12) = false from by kernel_rfl) ?_
  refine st_itf (show ((14 : Int) == 13) = false from by kernel_rfl) ?_
  refine st_rq (show (decide ((arI .rem .u64 b (32 : Int)) ≥ 0)) = true from ?_) ?_
  · first | exact rem_ge _ _ (by omega) | exact sub_ge _ _ | (subst_vars; exact sub_ge _ _) | (omega)
  refine st_li fun i4 hi4 => ?_
  replace hi4 : i4 = (arI .sub .u64 (32 : Int) (arI .rem .u64 b (32 : Int))) := hi4
  show T.den _ _ [(14 : Int), a, b, (32 : Int), i4] [] = _
  refine st_rq (show (decide (i4 ≥ 0)) = true from ?_) ?_
  · first | exact rem_ge _ _ (by omega) | exact sub_ge _ _ | (subst_vars; exact sub_ge _ _) | (omega)
  refine st_li fun i5 hi5 => ?_
  replace hi5 : i5 = (arI .or .u64 (arI .shr .u64 a (arI .rem .u64 b (32 : Int))) (arI .shl .u64 a i4)) := hi5
  show T.den _ _ [(14 : Int), a, b, (32 : Int), i4, i5] [] = _
  refine st_ret ?_
  show some ([i5, 0], []) = _
  subst hi4 hi5
  rfl

set_option maxHeartbeats 4000000 in
theorem q10_120 (a b : Int) : F10 [(120 : Int), a, b] [] = some ([(IntKind.wrap .u64 (IntKind.wrap .u32 (arI .or .u64 (arI .shr .u64 (IntKind.wrap .u64 (IntKind.wrap .u32 a)) (arI .rem .u64 (IntKind.wrap .u64 (IntKind.wrap .u32 b)) (32 : Int))) (arI .shl .u64 (IntKind.wrap .u64 (IntKind.wrap .u32 a)) (arI .sub .u64 (32 : Int) (arI .rem .u64 (IntKind.wrap .u64 (IntKind.wrap .u32 b)) (32 : Int))))))), 0], [true]) := by
  refine Eq.trans (Fd_of (n := 3) (m := 0) (t := t10) (C := Tab.fn a10) rfl rfl) ?_
  rw [t10]
  refine st_lbc (show ((decide ((120 : Int) ≥ 70)) && (decide ((120 : Int) ≤ 79))) = false from by kernel_rfl) ?_
  show T.den _ _ [(120 : Int), a, b] [false] = _
  refine st_itf (show false = false from by kernel_rfl) ?_
  refine st_lbc (show ((decide ((120 : Int) ≥ 81)) && (decide ((120 : Int) ≤ 90))) = false from by kernel_rfl) ?_
  show T.den _ _ [(120 : Int), a, b] [false, false] = _
  refine st_itf (show false = false from by kernel_rfl) ?_
  refine st_lbc (show ((decide ((120 : Int) ≥ 106)) && (decide ((120 : Int) ≤ 120))) = true from by kernel_rfl) ?_
  show T.den _ _ [(120 : Int), a, b] [false, false, true] = _
  refine st_itt (show true = true from by kernel_rfl) ?_
  refine st_2_0 (e10_18) (g := true) rfl (l := [14, (IntKind.wrap .u64 (IntKind.wrap .u32 a)), (IntKind.wrap .u64 (IntKind.wrap .u32 b)), 32]) rfl (m := []) rfl (cl_t (q18_14_32 (IntKind.wrap .u64 (IntKind.wrap .u32 a)) (IntKind.wrap .u64 (IntKind.wrap .u32 b)) (u32_ge _))) fun i3 i4 hi3 hi4 => ?_
  show T.den _ _ [(120 : Int), a, b, i3, i4] [false, false, true] = _
  refine st_ret ?_
  show some ([(IntKind.wrap .u64 (IntKind.wrap .u32 i3)), i4], [true]) = _
  subst hi3 hi4
  rfl

set_option maxHeartbeats 4000000 in
theorem q10_81 (a b : Int) : F10 [(81 : Int), a, b] [] = some ([(bif (a == b) then 1 else 0), 0], [true]) := by
  refine Eq.trans (Fd_of (n := 3) (m := 0) (t := t10) (C := Tab.fn a10) rfl rfl) ?_
  rw [t10]
  refine st_lbc (show ((decide ((81 : Int) ≥ 70)) && (decide ((81 : Int) ≤ 79))) = false from by kernel_rfl) ?_
  show T.den _ _ [(81 : Int), a, b] [false] = _
  refine st_itf (show false = false from by kernel_rfl) ?_
  refine st_lbc (show ((decide ((81 : Int) ≥ 81)) && (decide ((81 : Int) ≤ 90))) = true from by kernel_rfl) ?_
  show T.den _ _ [(81 : Int), a, b] [false, true] = _
  refine st_itt (show true = true from by kernel_rfl) ?_
  refine st_0_1 (e10_17) (g := true) rfl (l := [0, a, b, (IntKind.wrap .i64 a), (IntKind.wrap .i64 b)]) rfl (m := []) rfl (cl_t (q17_0 a b (IntKind.wrap .i64 a) (IntKind.wrap .i64 b))) fun b2 hb2 => ?_
  show T.den _ _ [(81 : Int), a, b] [false, true, b2] = _
  refine st_1_0 (e10_16) (g := true) rfl (l := []) rfl (m := [b2]) rfl (cl_t (q16 b2)) fun i3 hi3 => ?_
  show T.den _ _ [(81 : Int), a, b, i3] [false, true, b2] = _
  refine st_ret ?_
  show some ([i3, 0], [true]) = _
  subst hb2 hi3
  rfl

set_option maxHeartbeats 4000000 in
theorem q10_82 (a b : Int) : F10 [(82 : Int), a, b] [] = some ([(bif (a != b) then 1 else 0), 0], [true]) := by
  refine Eq.trans (Fd_of (n := 3) (m := 0) (t := t10) (C := Tab.fn a10) rfl rfl) ?_
  rw [t10]
  refine st_lbc (show ((decide ((82 : Int) ≥ 70)) && (decide ((82 : Int) ≤ 79))) = false from by kernel_rfl) ?_
  show T.den _ _ [(82 : Int), a, b] [false] = _
  refine st_itf (show false = false from by kernel_rfl) ?_
  refine st_lbc (show ((decide ((82 : Int) ≥ 81)) && (decide ((82 : Int) ≤ 90))) = true from by kernel_rfl) ?_
  show T.den _ _ [(82 : Int), a, b] [false, true] = _
  refine st_itt (show true = true from by kernel_rfl) ?_
  refine st_0_1 (e10_17) (g := true) rfl (l := [1, a, b, (IntKind.wrap .i64 a), (IntKind.wrap .i64 b)]) rfl (m := []) rfl (cl_t (q17_1 a b (IntKind.wrap .i64 a) (IntKind.wrap .i64 b))) fun b2 hb2 => ?_
  show T.den _ _ [(82 : Int), a, b] [false, true, b2] = _
  refine st_1_0 (e10_16) (g := true) rfl (l := []) rfl (m := [b2]) rfl (cl_t (q16 b2)) fun i3 hi3 => ?_
  show T.den _ _ [(82 : Int), a, b, i3] [false, true, b2] = _
  refine st_ret ?_
  show some ([i3, 0], [true]) = _
  subst hb2 hi3
  rfl

set_option maxHeartbeats 4000000 in
theorem q10_83 (a b : Int) : F10 [(83 : Int), a, b] [] = some ([(bif (decide ((IntKind.wrap .i64 a) < (IntKind.wrap .i64 b))) then 1 else 0), 0], [true]) := by
  refine Eq.trans (Fd_of (n := 3) (m := 0) (t := t10) (C := Tab.fn a10) rfl rfl) ?_
  rw [t10]
  refine st_lbc (show ((decide ((83 : Int) ≥ 70)) && (decide ((83 : Int) ≤ 79))) = false from by kernel_rfl) ?_
  show T.den _ _ [(83 : Int), a, b] [false] = _
  refine st_itf (show false = false from by kernel_rfl) ?_
  refine st_lbc (show ((decide ((83 : Int) ≥ 81)) && (decide ((83 : Int) ≤ 90))) = true from by kernel_rfl) ?_
  show T.den _ _ [(83 : Int), a, b] [false, true] = _
  refine st_itt (show true = true from by kernel_rfl) ?_
  refine st_0_1 (e10_17) (g := true) rfl (l := [2, a, b, (IntKind.wrap .i64 a), (IntKind.wrap .i64 b)]) rfl (m := []) rfl (cl_t (q17_2 a b (IntKind.wrap .i64 a) (IntKind.wrap .i64 b))) fun b2 hb2 => ?_
  show T.den _ _ [(83 : Int), a, b] [false, true, b2] = _
  refine st_1_0 (e10_16) (g := true) rfl (l := []) rfl (m := [b2]) rfl (cl_t (q16 b2)) fun i3 hi3 => ?_
  show T.den _ _ [(83 : Int), a, b, i3] [false, true, b2] = _
  refine st_ret ?_
  show some ([i3, 0], [true]) = _
  subst hb2 hi3
  rfl

set_option maxHeartbeats 4000000 in
theorem q10_84 (a b : Int) : F10 [(84 : Int), a, b] [] = some ([(bif (decide (a < b)) then 1 else 0), 0], [true]) := by
  refine Eq.trans (Fd_of (n := 3) (m := 0) (t := t10) (C := Tab.fn a10) rfl rfl) ?_
  rw [t10]
  refine st_lbc (show ((decide ((84 : Int) ≥ 70)) && (decide ((84 : Int) ≤ 79))) = false from by kernel_rfl) ?_
  show T.den _ _ [(84 : Int), a, b] [false] = _
  refine st_itf (show false = false from by kernel_rfl) ?_
  refine st_lbc (show ((decide ((84 : Int) ≥ 81)) && (decide ((84 : Int) ≤ 90))) = true from by kernel_rfl) ?_
  show T.den _ _ [(84 : Int), a, b] [false, true] = _
  refine st_itt (show true = true from by kernel_rfl) ?_
  refine st_0_1 (e10_17) (g := true) rfl (l := [3, a, b, (IntKind.wrap .i64 a), (IntKind.wrap .i64 b)]) rfl (m := []) rfl (cl_t (q17_3 a b (IntKind.wrap .i64 a) (IntKind.wrap .i64 b))) fun b2 hb2 => ?_
  show T.den _ _ [(84 : Int), a, b] [false, true, b2] = _
  refine st_1_0 (e10_16) (g := true) rfl (l := []) rfl (m := [b2]) rfl (cl_t (q16 b2)) fun i3 hi3 => ?_
  show T.den _ _ [(84 : Int), a, b, i3] [false, true, b2] = _
  refine st_ret ?_
  show some ([i3, 0], [true]) = _
  subst hb2 hi3
  rfl

set_option maxHeartbeats 4000000 in
theorem q10_85 (a b : Int) : F10 [(85 : Int), a, b] [] = some ([(bif (decide ((IntKind.wrap .i64 a) > (IntKind.wrap .i64 b))) then 1 else 0), 0], [true]) := by
  refine Eq.trans (Fd_of (n := 3) (m := 0) (t := t10) (C := Tab.fn a10) rfl rfl) ?_
  rw [t10]
  refine st_lbc (show ((decide ((85 : Int) ≥ 70)) && (decide ((85 : Int) ≤ 79))) = false from by kernel_rfl) ?_
  show T.den _ _ [(85 : Int), a, b] [false] = _
  refine st_itf (show false = false from by kernel_rfl) ?_
  refine st_lbc (show ((decide ((85 : Int) ≥ 81)) && (decide ((85 : Int) ≤ 90))) = true from by kernel_rfl) ?_
  show T.den _ _ [(85 : Int), a, b] [false, true] = _
  refine st_itt (show true = true from by kernel_rfl) ?_
  refine st_0_1 (e10_17) (g := true) rfl (l := [4, a, b, (IntKind.wrap .i64 a), (IntKind.wrap .i64 b)]) rfl (m := []) rfl (cl_t (q17_4 a b (IntKind.wrap .i64 a) (IntKind.wrap .i64 b))) fun b2 hb2 => ?_
  show T.den _ _ [(85 : Int), a, b] [false, true, b2] = _
  refine st_1_0 (e10_16) (g := true) rfl (l := []) rfl (m := [b2]) rfl (cl_t (q16 b2)) fun i3 hi3 => ?_
  show T.den _ _ [(85 : Int), a, b, i3] [false, true, b2] = _
  refine st_ret ?_
  show some ([i3, 0], [true]) = _
  subst hb2 hi3
  rfl

set_option maxHeartbeats 4000000 in
theorem q10_86 (a b : Int) : F10 [(86 : Int), a, b] [] = some ([(bif (decide (a > b)) then 1 else 0), 0], [true]) := by
  refine Eq.trans (Fd_of (n := 3) (m := 0) (t := t10) (C := Tab.fn a10) rfl rfl) ?_
  rw [t10]
  refine st_lbc (show ((decide ((86 : Int) ≥ 70)) && (decide ((86 : Int) ≤ 79))) = false from by kernel_rfl) ?_
  show T.den _ _ [(86 : Int), a, b] [false] = _
  refine st_itf (show false = false from by kernel_rfl) ?_
  refine st_lbc (show ((decide ((86 : Int) ≥ 81)) && (decide ((86 : Int) ≤ 90))) = true from by kernel_rfl) ?_
  show T.den _ _ [(86 : Int), a, b] [false, true] = _
  refine st_itt (show true = true from by kernel_rfl) ?_
  refine st_0_1 (e10_17) (g := true) rfl (l := [5, a, b, (IntKind.wrap .i64 a), (IntKind.wrap .i64 b)]) rfl (m := []) rfl (cl_t (q17_5 a b (IntKind.wrap .i64 a) (IntKind.wrap .i64 b))) fun b2 hb2 => ?_
  show T.den _ _ [(86 : Int), a, b] [false, true, b2] = _
  refine st_1_0 (e10_16) (g := true) rfl (l := []) rfl (m := [b2]) rfl (cl_t (q16 b2)) fun i3 hi3 => ?_
  show T.den _ _ [(86 : Int), a, b, i3] [false, true, b2] = _
  refine st_ret ?_
  show some ([i3, 0], [true]) = _
  subst hb2 hi3
  rfl

set_option maxHeartbeats 4000000 in
theorem q10_87 (a b : Int) : F10 [(87 : Int), a, b] [] = some ([(bif (decide ((IntKind.wrap .i64 a) ≤ (IntKind.wrap .i64 b))) then 1 else 0), 0], [true]) := by
  refine Eq.trans (Fd_of (n := 3) (m := 0) (t := t10) (C := Tab.fn a10) rfl rfl) ?_
  rw [t10]
  refine st_lbc (show ((decide ((87 : Int) ≥ 70)) && (decide ((87 : Int) ≤ 79))) = false from by kernel_rfl) ?_
  show T.den _ _ [(87 : Int), a, b] [false] = _
  refine st_itf (show false = false from by kernel_rfl) ?_
  refine st_lbc (show ((decide ((87 : Int) ≥ 81)) && (decide ((87 : Int) ≤ 90))) = true from by kernel_rfl) ?_
  show T.den _ _ [(87 : Int), a, b] [false, true] = _
  refine st_itt (show true = true from by kernel_rfl) ?_
  refine st_0_1 (e10_17) (g := true) rfl (l := [6, a, b, (IntKind.wrap .i64 a), (IntKind.wrap .i64 b)]) rfl (m := []) rfl (cl_t (q17_6 a b (IntKind.wrap .i64 a) (IntKind.wrap .i64 b))) fun b2 hb2 => ?_
  show T.den _ _ [(87 : Int), a, b] [false, true, b2] = _
  refine st_1_0 (e10_16) (g := true) rfl (l := []) rfl (m := [b2]) rfl (cl_t (q16 b2)) fun i3 hi3 => ?_
  show T.den _ _ [(87 : Int), a, b, i3] [false, true, b2] = _
  refine st_ret ?_
  show some ([i3, 0], [true]) = _
  subst hb2 hi3
  rfl

set_option maxHeartbeats 4000000 in
theorem q10_88 (a b : Int) : F10 [(88 : Int), a, b] [] = some ([(bif (decide (a ≤ b)) then 1 else 0), 0], [true]) := by
  refine Eq.trans (Fd_of (n := 3) (m := 0) (t := t10) (C := Tab.fn a10) rfl rfl) ?_
  rw [t10]
  refine st_lbc (show ((decide ((88 : Int) ≥ 70)) && (decide ((88 : Int) ≤ 79))) = false from by kernel_rfl) ?_
  show T.den _ _ [(88 : Int), a, b] [false] = _
  refine st_itf (show false = false from by kernel_rfl) ?_
  refine st_lbc (show ((decide ((88 : Int) ≥ 81)) && (decide ((88 : Int) ≤ 90))) = true from by kernel_rfl) ?_
  show T.den _ _ [(88 : Int), a, b] [false, true] = _
  refine st_itt (show true = true from by kernel_rfl) ?_
  refine st_0_1 (e10_17) (g := true) rfl (l := [7, a, b, (IntKind.wrap .i64 a), (IntKind.wrap .i64 b)]) rfl (m := []) rfl (cl_t (q17_7 a b (IntKind.wrap .i64 a) (IntKind.wrap .i64 b))) fun b2 hb2 => ?_
  show T.den _ _ [(88 : Int), a, b] [false, true, b2] = _
  refine st_1_0 (e10_16) (g := true) rfl (l := []) rfl (m := [b2]) rfl (cl_t (q16 b2)) fun i3 hi3 => ?_
  show T.den _ _ [(88 : Int), a, b, i3] [false, true, b2] = _
  refine st_ret ?_
  show some ([i3, 0], [true]) = _
  subst hb2 hi3
  rfl

set_option maxHeartbeats 4000000 in
theorem q10_89 (a b : Int) : F10 [(89 : Int), a, b] [] = some ([(bif (decide ((IntKind.wrap .i64 a) ≥ (IntKind.wrap .i64 b))) then 1 else 0), 0], [true]) := by
  refine Eq.trans (Fd_of (n := 3) (m := 0) (t := t10) (C := Tab.fn a10) rfl rfl) ?_
  rw [t10]
  refine st_lbc (show ((decide ((89 : Int) ≥ 70)) && (decide ((89 : Int) ≤ 79))) = false from by kernel_rfl) ?_
  show T.den _ _ [(89 : Int), a, b] [false] = _
  refine st_itf (show false = false from by kernel_rfl) ?_
  refine st_lbc (show ((decide ((89 : Int) ≥ 81)) && (decide ((89 : Int) ≤ 90))) = true from by kernel_rfl) ?_
  show T.den _ _ [(89 : Int), a, b] [false, true] = _
  refine st_itt (show true = true from by kernel_rfl) ?_
  refine st_0_1 (e10_17) (g := true) rfl (l := [8, a, b, (IntKind.wrap .i64 a), (IntKind.wrap .i64 b)]) rfl (m := []) rfl (cl_t (q17_8 a b (IntKind.wrap .i64 a) (IntKind.wrap .i64 b))) fun b2 hb2 => ?_
  show T.den _ _ [(89 : Int), a, b] [false, true, b2] = _
  refine st_1_0 (e10_16) (g := true) rfl (l := []) rfl (m := [b2]) rfl (cl_t (q16 b2)) fun i3 hi3 => ?_
  show T.den _ _ [(89 : Int), a, b, i3] [false, true, b2] = _
  refine st_ret ?_
  show some ([i3, 0], [true]) = _
  subst hb2 hi3
  rfl

set_option maxHeartbeats 4000000 in
theorem q10_90 (a b : Int) : F10 [(90 : Int), a, b] [] = some ([(bif (decide (a ≥ b)) then 1 else 0), 0], [true]) := by
  refine Eq.trans (Fd_of (n := 3) (m := 0) (t := t10) (C := Tab.fn a10) rfl rfl) ?_
  rw [t10]
  refine st_lbc (show ((decide ((90 : Int) ≥ 70)) && (decide ((90 : Int) ≤ 79))) = false from by kernel_rfl) ?_
  show T.den _ _ [(90 : Int), a, b] [false] = _
  refine st_itf (show false = false from by kernel_rfl) ?_
  refine st_lbc (show ((decide ((90 : Int) ≥ 81)) && (decide ((90 : Int) ≤ 90))) = true from by kernel_rfl) ?_
  show T.den _ _ [(90 : Int), a, b] [false, true] = _
  refine st_itt (show true = true from by kernel_rfl) ?_
  refine st_0_1 (e10_17) (g := true) rfl (l := [9, a, b, (IntKind.wrap .i64 a), (IntKind.wrap .i64 b)]) rfl (m := []) rfl (cl_t (q17_9 a b (IntKind.wrap .i64 a) (IntKind.wrap .i64 b))) fun b2 hb2 => ?_
  show T.den _ _ [(90 : Int), a, b] [false, true, b2] = _
  refine st_1_0 (e10_16) (g := true) rfl (l := []) rfl (m := [b2]) rfl (cl_t (q16 b2)) fun i3 hi3 => ?_
  show T.den _ _ [(90 : Int), a, b, i3] [false, true, b2] = _
  refine st_ret ?_
  show some ([i3, 0], [true]) = _
  subst hb2 hi3
  rfl

set_option maxHeartbeats 4000000 in
theorem q18_0_64 (a b : Int) : F18 [(0 : Int), a, b, (64 : Int)] [] = some ([(arI .add .u64 a b), 0], []) := by
  refine Eq.trans (Fd_of (n := 4) (m := 0) (t := t18) (C := Tab.fn a18) rfl rfl) ?_
  rw [t18]
  refine st_itf (show ((64 : Int) == 32) = false from by kernel_rfl) ?_
  refine st_rq (show ((64 : Int) != 0) = true from by kernel_rfl) ?_
  refine st_itt (show ((0 : Int) == 0) = true from by kernel_rfl) ?_
  refine st_ret ?_
  show some ([(arI .add .u64 a b), 0], []) = _
  rfl

set_option maxHeartbeats 4000000 in
theorem q10_124 (a b : Int) : F10 [(124 : Int), a, b] [] = some ([(arI .add .u64 a b), 0], [true]) := by
  refine Eq.trans (Fd_of (n := 3) (m := 0) (t := t10) (C := Tab.fn a10) rfl rfl) ?_
  rw [t10]
  refine st_lbc (show ((decide ((124 : Int) ≥ 70)) && (decide ((124 : Int) ≤ 79))) = false from by kernel_rfl) ?_
  show T.den _ _ [(124 : Int), a, b] [false] = _
  refine st_itf (show false = false from by kernel_rfl) ?_
  refine st_lbc (show ((decide ((124 : Int) ≥ 81)) && (decide ((124 : Int) ≤ 90))) = false from by kernel_rfl) ?_
  show T.den _ _ [(124 : Int), a, b] [false, false] = _
  refine st_itf (show false = false from by kernel_rfl) ?_
  refine st_lbc (show ((decide ((124 : Int) ≥ 106)) && (decide ((124 : Int) ≤ 120))) = false from by kernel_rfl) ?_
  show T.den _ _ [(124 : Int), a, b] [false, false, false] = _
  refine st_itf (show false = false from by kernel_rfl) ?_
  refine st_lbc (show ((decide ((124 : Int) ≥ 124)) && (decide ((124 : Int) ≤ 138))) = true from by kernel_rfl) ?_
  show T.den _ _ [(124 : Int), a, b] [false, false, false, true] = _
  refine st_itt (show true = true from by kernel_rfl) ?_
  refine st_2_0 (e10_18) (g := true) rfl (l := [0, a, b, 64]) rfl (m := []) rfl (cl_t (q18_0_64 a b )) fun i3 i4 hi3 hi4 => ?_
  show T.den _ _ [(124 : Int), a, b, i3, i4] [false, false, false, true] = _
  refine st_ret ?_
  show some ([i3, i4], [true]) = _
  subst hi3 hi4
  rfl

set_option maxHeartbeats 4000000 in
theorem q18_1_64 (a b : Int) : F18 [(1 : Int), a, b, (64 : Int)] [] = some ([(arI .sub .u64 a b), 0], []) := by
  refine Eq.trans (Fd_of (n := 4) (m := 0) (t := t18) (C := Tab.fn a18) rfl rfl) ?_
  rw [t18]
  refine st_itf (show ((64 : Int) == 32) = false from by kernel_rfl) ?_
  refine st_rq (show ((64 : Int) != 0) = true from by kernel_rfl) ?_
  refine st_itf (show ((1 : Int) == 0) = false from by kernel_rfl) ?_
  refine st_itt (show ((1 : Int) == 1) = true from by kernel_rfl) ?_
  refine st_ret ?_
  show some ([(arI .sub .u64 a b), 0], []) = _
  rfl

set_option maxHeartbeats 4000000 in
theorem q10_125 (a b : Int) : F10 [(125 : Int), a, b] [] = some ([(arI .sub .u64 a b), 0], [true]) := by
  refine Eq.trans (Fd_of (n := 3) (m := 0) (t := t10) (C := Tab.fn a10) rfl rfl) ?_
  rw [t10]
  refine st_lbc (show ((decide ((125 : Int) ≥ 70)) && (decide ((125 : Int) ≤ 79))) = false from by kernel_rfl) ?_
  show T.den _ _ [(125 : Int), a, b] [false] = _
  refine st_itf (show false = false from by kernel_rfl) ?_
  refine st_lbc (show ((decide ((125 : Int) ≥ 81)) && (decide ((125 : Int) ≤ 90))) = false from by kernel_rfl) ?_
  show T.den _ _ [(125 : Int), a, b] [false, false] = _
  refine st_itf (show false = false from by kernel_rfl) ?_
  refine st_lbc (show ((decide ((125 : Int) ≥ 106)) && (decide ((125 : Int) ≤ 120))) = false from by kernel_rfl) ?_
  show T.den _ _ [(125 : Int), a, b] [false, false, false] = _
  refine st_itf (show false = false from by kernel_rfl) ?_
  refine st_lbc (show ((decide ((125 : Int) ≥ 124)) && (decide ((125 : Int) ≤ 138))) = true from by kernel_rfl) ?_
  show T.den _ _ [(125 : Int), a, b] [false, false, false, true] = _
  refine st_itt (show true = true from by kernel_rfl) ?_
  refine st_2_0 (e10_18) (g := true) rfl (l := [1, a, b, 64]) rfl (m := []) rfl (cl_t (q18_1_64 a b )) fun i3 i4 hi3 hi4 => ?_
  show T.den _ _ [(125 : Int), a, b, i3, i4] [false, false, false, true] = _
  refine st_ret ?_
  show some ([i3, i4], [true]) = _
  subst hi3 hi4
  rfl

set_option maxHeartbeats 4000000 in
theorem q18_2_64 (a b : Int) : F18 [(2 : Int), a, b, (64 : Int)] [] = some ([(arI .mul .u64 a b), 0], []) := by
  refine Eq.trans (Fd_of (n := 4) (m := 0) (t := t18) (C := Tab.fn a18) rfl rfl) ?_
  rw [t18]
  refine st_itf (show ((64 : Int) == 32) = false from by kernel_rfl) ?_
  refine st_rq (show ((64 : Int) != 0) = true from by kernel_rfl) ?_
  refine st_itf (show ((2 : Int) == 0) = false from by kernel_rfl) ?_
  refine st_itf (show ((2 : Int) == 1) = false from by kernel_rfl) ?_
  refine st_itt (show ((2 : Int) == 2) = true from by kernel_rfl) ?_
  refine st_ret ?_
  show some ([(arI .mul .u64 a b), 0], []) = _
  rfl

set_option maxHeartbeats 4000000 in
theorem q10_126 (a b : Int) : F10 [(126 : Int), a, b] [] = some ([(arI .mul .u64 a b), 0], [true]) := by
  refine Eq.trans (Fd_of (n := 3) (m := 0) (t := t10) (C := Tab.fn a10) rfl rfl) ?_
  rw [t10]
  refine st_lbc (show ((decide ((126 : Int) ≥ 70)) && (decide ((126 : Int) ≤ 79))) = false from by kernel_rfl) ?_
  show T.den _ _ [(126 : Int), a, b] [false] = _
  refine st_itf (show false = false from by kernel_rfl) ?_
  refine st_lbc (show ((decide ((126 : Int) ≥ 81)) && (decide ((126 : Int) ≤ 90))) = false from by kernel_rfl) ?_
  show T.den _ _ [(126 : Int), a, b] [false, false] = _
  refine st_itf (show false = false from by kernel_rfl) ?_
  refine st_lbc (show ((decide ((126 : Int) ≥ 106)) && (decide ((126 : Int) ≤ 120))) = false from by kernel_rfl) ?_
  show T.den _ _ [(126 : Int), a, b] [false, false, false] = _
  refine st_itf (show false = false from by kernel_rfl) ?_
  refine st_lbc (show ((decide ((126 : Int) ≥ 124)) && (decide ((126 : Int) ≤ 138))) = true from by kernel_rfl) ?_
  show T.den _ _ [(126 : Int), a, b] [false, false, false, true] = _
  refine st_itt (show true = true from by kernel_rfl) ?_
  refine st_2_0 (e10_18) (g := true) rfl (l := [2, a, b, 64]) rfl (m := []) rfl (cl_t (q18_2_64 a b )) fun i3 i4 hi3 hi4 => ?_
  show T.den _ _ [(126 : Int), a, b, i3, i4] [false, false, false, true] = _
  refine st_ret ?_
  show some ([i3, i4], [true]) = _
  subst hi3 hi4
  rfl

set_option maxHeartbeats 4000000 in
theorem q18_3_64 (a b : Int) (hb : 0 ≤ b) (hb2 : b < 18446744073709551616) : F18 [(3 : Int), a, b, (64 : Int)] [] = some ([(dq b (IntKind.wrap .i64 a) (IntKind.wrap .i64 b) (-9223372036854775808)), (dt b (IntKind.wrap .i64 a) (IntKind.wrap .i64 b) (-9223372036854775808))], []) := by
  refine Eq.trans (Fd_of (n := 4) (m := 0) (t := t18) (C := Tab.fn a18) rfl rfl) ?_
  rw [t18]
  refine st_itf (show ((64 : Int) == 32) = false from by kernel_rfl) ?_
  refine st_rq (show ((64 : Int) != 0) = true from by kernel_rfl) ?_
  refine st_itf (show ((3 : Int) == 0) = false from by kernel_rfl) ?_
  refine st_itf (show ((3 : Int) == 1) = false from by kernel_rfl) ?_
  refine st_itf (show ((3 : Int) == 2) = false from by kernel_rfl) ?_
  refine st_itt (show ((3 : Int) == 3) = true from by kernel_rfl) ?_
  refine st_itt (show ((3 : Int) == 3) = true from by kernel_rfl) ?_
  refine st_2_0 (e18_36) (g := true) rfl (l := [0, a, b, (IntKind.wrap .i64 a), (IntKind.wrap .i64 b), (-9223372036854775808)]) rfl (m := []) rfl (cl_t (q36_0 (a) (b) ((IntKind.wrap .i64 a)) ((IntKind.wrap .i64 b)) ((-9223372036854775808)) (i64_ne b hb hb2))) fun i4 i5 hi4 hi5 => ?_
  show T.den _ _ [(3 : Int), a, b, (64 : Int), i4, i5] [] = _
  refine st_ret ?_
  show some ([i4, i5], []) = _
  subst hi4 hi5
  rfl

set_option maxHeartbeats 4000000 in
theorem q10_127 (a b : Int) (hb : 0 ≤ b) (hb2 : b < 18446744073709551616) : F10 [(127 : Int), a, b] [] = some ([(dq b (IntKind.wrap .i64 a) (IntKind.wrap .i64 b) (-9223372036854775808)), (dt b (IntKind.wrap .i64 a) (IntKind.wrap .i64 b) (-9223372036854775808))], [true]) := by
  refine Eq.trans (Fd_of (n := 3) (m := 0) (t := t10) (C := Tab.fn a10) rfl rfl) ?_
  rw [t10]
  refine st_lbc (show ((decide ((127 : Int) ≥ 70)) && (decide ((127 : Int) ≤ 79))) = false from by kernel_rfl) ?_
  show T.den _ _ [(127 : Int), a, b] [false] = _
  refine st_itf (show false = false from by kernel_rfl) ?_
  refine st_lbc (show ((decide ((127 : Int) ≥ 81)) && (decide ((127 : Int) ≤ 90))) = false from by kernel_rfl) ?_
  show T.den _ _ [(127 : Int), a, b] [false, false] = _
  refine st_itf (show false = false from by kernel_rfl) ?_
  refine st_lbc (show ((decide ((127 : Int) ≥ 106)) && (decide ((127 : Int) ≤ 120))) = false from by kernel_rfl) ?_
  show T.den _ _ [(127 : Int), a, b] [false, false, false] = _
  refine st_itf (show false = false from by kernel_rfl) ?_
  refine st_lbc (show ((decide ((127 : Int) ≥ 124)) && (decide ((127 : Int) ≤ 138))) = true from by kernel_rfl) ?_
  show T.den _ _ [(127 : Int), a, b] [false, false, false, true] = _
  refine st_itt (show true = true from by kernel_rfl) ?_
  refine st_2_0 (e10_18) (g := true) rfl (l := [3, a, b, 64]) rfl (m := []) rfl (cl_t (q18_3_64 a b hb hb2)) fun i3 i4 hi3 hi4 => ?_
  show T.den _ _ [(127 : Int), a, b, i3, i4] [false, false, false, true] = _
  refine st_ret ?_
  show some ([i3, i4], [true]) = _
  subst hi3 hi4
  rfl

set_option maxHeartbeats 4000000 in
theorem q18_4_64 (a b : Int) (hb : 0 ≤ b) (hb2 : b < 18446744073709551616) : F18 [(4 : Int), a, b, (64 : Int)] [] = some ([(uq a b), (dz b)], []) := by
  refine Eq.trans (Fd_of (n := 4) (m := 0) (t := t18) (C := Tab.fn a18) rfl rfl) ?_
  rw [t18]
  refine st_itf (show ((64 : Int) == 32) = false from by kernel_rfl) ?_
  refine st_rq (show ((64 : Int) != 0) = true from by kernel_rfl) ?_
  refine st_itf (show ((4 : Int) == 0) = false from by kernel_rfl) ?_
  refine st_itf (show ((4 : Int) == 1) = false from by kernel_rfl) ?_
  refine st_itf (show ((4 : Int) == 2) = false from by kernel_rfl) ?_
  refine st_itf (show ((4 : Int) == 3) = false from by kernel_rfl) ?_
  refine st_itt (show ((4 : Int) == 4) = true from by kernel_rfl) ?_
  refine st_itt (show ((4 : Int) == 4) = true from by kernel_rfl) ?_
  refine st_2_0 (e18_36) (g := true) rfl (l := [1, a, b, (IntKind.wrap .i64 a), (IntKind.wrap .i64 b), (-9223372036854775808)]) rfl (m := []) rfl (cl_t (q36_1 (a) (b) ((IntKind.wrap .i64 a)) ((IntKind.wrap .i64 b)) ((-9223372036854775808)) (i64_ne b hb hb2))) fun i4 i5 hi4 hi5 => ?_
  show T.den _ _ [(4 : Int), a, b, (64 : Int), i4, i5] [] = _
  refine st_ret ?_
  show some ([i4, i5], []) = _
  subst hi4 hi5
  rfl

set_option maxHeartbeats 4000000 in
theorem q10_128 (a b : Int) (hb : 0 ≤ b) (hb2 : b < 18446744073709551616) : F10 [(128 : Int), a, b] [] = some ([(uq a b), (dz b)], [true]) := by
  refine Eq.trans (Fd_of (n := 3) (m := 0) (t := t10) (C := Tab.fn a10) rfl rfl) ?_
  rw [t10]
  refine st_lbc (show ((decide ((128 : Int) ≥ 70)) && (decide ((128 : Int) ≤ 79))) = false from by kernel_rfl) ?_
  show T.den _ _ [(128 : Int), a, b] [false] = _
  refine st_itf (show false = false from by kernel_rfl) ?_
  refine st_lbc (show ((decide ((128 : Int) ≥ 81)) && (decide ((128 : Int) ≤ 90))) = false from by kernel_rfl) ?_
  show T.den _ _ [(128 : Int), a, b] [false, false] = _
  refine st_itf (show false = false from by kernel_rfl) ?_
  refine st_lbc (show ((decide ((128 : Int) ≥ 106)) && (decide ((128 : Int) ≤ 120))) = false from by kernel_rfl) ?_
  show T.den _ _ [(128 : Int), a, b] [false, false, false] = _
  refine st_itf (show false = false from by kernel_rfl) ?_
  refine st_lbc (show ((decide ((128 : Int) ≥ 124)) && (decide ((128 : Int) ≤ 138))) = true from by kernel_rfl) ?_
  show T.den _ _ [(128 : Int), a, b] [false, false, false, true] = _
  refine st_itt (show true = true from by kernel_rfl) ?_
  refine st_2_0 (e10_18) (g := true) rfl (l := [4, a, b, 64]) rfl (m := []) rfl (cl_t (q18_4_64 a b hb hb2)) fun i3 i4 hi3 hi4 => ?_
  show T.den _ _ [(128 : Int), a, b, i3, i4] [false, false, false, true] = _
  refine st_ret ?_
  show some ([i3, i4], [true]) = _
  subst hi3 hi4
  rfl

set_option maxHeartbeats 4000000 in
theorem q18_5_64 (a b : Int) (hb : 0 ≤ b) (hb2 : b < 18446744073709551616) : F18 [(5 : Int), a, b, (64 : Int)] [] = some ([(dr b (IntKind.wrap .i64 a) (IntKind.wrap .i64 b)), (dz b)], []) := by
  refine Eq.trans (Fd_of (n := 4) (m := 0) (t := t18) (C := Tab.fn a18) rfl rfl) ?_
  rw [t18]
  refine st_itf (show ((64 : Int) == 32) = false from by kernel_rfl) ?_
  refine st_rq (show ((64 : Int) != 0) = true from by kernel_rfl) ?_
  refine st_itf (show ((5 : Int) == 0) = false from by kernel_rfl) ?_
  refine st_itf (show ((5 : Int) == 1) = false from by kernel_rfl) ?_
  refine st_itf (show ((5 : Int) == 2) = false from by kernel_rfl) ?_
  refine st_itf (show ((5 : Int) == 3) = false from by kernel_rfl) ?_
  refine st_itf (show ((5 : Int) == 4) = false from by kernel_rfl) ?_
  refine st_itt (show ((5 : Int) == 5) = true from by kernel_rfl) ?_
  refine st_itt (show ((5 : Int) == 5) = true from by kernel_rfl) ?_
  refine st_2_0 (e18_36) (g := true) rfl (l := [2, a, b, (IntKind.wrap .i64 a), (IntKind.wrap .i64 b), (-9223372036854775808)]) rfl (m := []) rfl (cl_t (q36_2 (a) (b) ((IntKind.wrap .i64 a)) ((IntKind.wrap .i64 b)) ((-9223372036854775808)) (i64_ne b hb hb2))) fun i4 i5 hi4 hi5 => ?_
  show T.den _ _ [(5 : Int), a, b, (64 : Int), i4, i5] [] = _
  refine st_ret ?_
  show some ([i4, i5], []) = _
  subst hi4 hi5
  rfl

set_option maxHeartbeats 4000000 in
theorem q10_129 (a b : Int) (hb : 0 ≤ b) (hb2 : b < 18446744073709551616) : F10 [(129 : Int), a, b] [] = some ([(dr b (IntKind.wrap .i64 a) (IntKind.wrap .i64 b)), (dz b)], [true]) := by
  refine Eq.trans (Fd_of (n := 3) (m := 0) (t := t10) (C := Tab.fn a10) rfl rfl) ?_
  rw [t10]
  refine st_lbc (show ((decide ((129 : Int) ≥ 70)) && (decide ((129 : Int) ≤ 79))) = false from by kernel_rfl) ?_
  show T.den _ _ [(129 : Int), a, b] [false] = _
  refine st_itf (show false = false from by kernel_rfl) ?_
  refine st_lbc (show ((decide ((129 : Int) ≥ 81)) && (decide ((129 : Int) ≤ 90))) = false from by kernel_rfl) ?_
  show T.den _ _ [(129 : Int), a, b] [false, false] = _
  refine st_itf (show false = false from by kernel_rfl) ?_
  refine st_lbc (show ((decide ((129 : Int) ≥ 106)) && (decide ((129 : Int) ≤ 120))) = false from by kernel_rfl) ?_
  show T.den _ _ [(129 : Int), a, b] [false, false, false] = _
  refine st_itf (show false = false from by kernel_rfl) ?_
  refine st_lbc (show ((decide ((129 : Int) ≥ 124)) && (decide ((129 : Int) ≤ 138))) = true from by kernel_rfl) ?_
  show T.den _ _ [(129 : Int), a, b] [false, false, false, true] = _
  refine st_itt (show true = true from by kernel_rfl) ?_
  refine st_2_0 (e10_18) (g := true) rfl (l := [5, a, b, 64]) rfl (m := []) rfl (cl_t (q18_5_64 a b hb hb2)) fun i3 i4 hi3 hi4 => ?_
  show T.den _ _ [(129 : Int), a, b, i3, i4] [false, false, false, true] = _
  refine st_ret ?_
  show some ([i3, i4], [true]) = _
  subst hi3 hi4
  rfl

set_option maxHeartbeats 4000000 in
theorem q18_6_64 (a b : Int) (hb : 0 ≤ b) (hb2 : b < 18446744073709551616) : F18 [(6 : Int), a, b, (64 : Int)] [] = some ([(ur a b), (dz b)], []) := by
  refine Eq.trans (Fd_of (n := 4) (m := 0) (t := t18) (C := Tab.fn a18) rfl rfl) ?_
  rw [t18]
  refine st_itf (show ((64 : Int) == 32) = false from by kernel_rfl) ?_
  refine st_rq (show ((64 : Int) != 0) = true from by kernel_rfl) ?_
  refine st_itf (show ((6 : Int) == 0) = false from by kernel_rfl) ?_
  refine st_itf (show ((6 : Int) == 1) = false from by kernel_rfl) ?_
  refine st_itf (show ((6 : Int) == 2) = false from by kernel_rfl) ?_
  refine st_itf (show ((6 : Int) == 3) = false from by kernel_rfl) ?_
  refine st_itf (show ((6 : Int) == 4) = false from by kernel_rfl) ?_
  refine st_itf (show ((6 : Int) == 5) = false from by kernel_rfl) ?_
  refine st_itt (show ((6 : Int) == 6) = true from by kernel_rfl) ?_
  refine st_2_0 (e18_36) (g := true) rfl (l := [3, a, b, (IntKind.wrap .i64 a), (IntKind.wrap .i64 b), (-9223372036854775808)]) rfl (m := []) rfl (cl_t (q36_3 (a) (b) ((IntKind.wrap .i64 a)) ((IntKind.wrap .i64 b)) ((-9223372036854775808)) (i64_ne b hb hb2))) fun i4 i5 hi4 hi5 => ?_
  show T.den _ _ [(6 : Int), a, b, (64 : Int), i4, i5] [] = _
  refine st_ret ?_
  show some ([i4, i5], []) = _
  subst hi4 hi5
  rfl

set_option maxHeartbeats 4000000 in
theorem q10_130 (a b : Int) (hb : 0 ≤ b) (hb2 : b < 18446744073709551616) : F10 [(130 : Int), a, b] [] = some ([(ur a b), (dz b)], [true]) := by
  refine Eq.trans (Fd_of (n := 3) (m := 0) (t := t10) (C := Tab.fn a10) rfl rfl) ?_
  rw [t10]
  refine st_lbc (show ((decide ((130 : Int) ≥ 70)) && (decide ((130 : Int) ≤ 79))) = false from by kernel_rfl) ?_
  show T.den _ _ [(130 : Int), a, b] [false] = _
  refine st_itf (show false = false from by kernel_rfl) ?_
  refine st_lbc (show ((decide ((130 : Int) ≥ 81)) && (decide ((130 : Int) ≤ 90))) = false from by kernel_rfl) ?_
  show T.den _ _ [(130 : Int), a, b] [false, false] = _
  refine st_itf (show false = false from by kernel_rfl) ?_
  refine st_lbc (show ((decide ((130 : Int) ≥ 106)) && (decide ((130 : Int) ≤ 120))) = false from by kernel_rfl) ?_
  show T.den _ _ [(130 : Int), a, b] [false, false, false] = _
  refine st_itf (show false = false from by kernel_rfl) ?_
  refine st_lbc (show ((decide ((130 : Int) ≥ 124)) && (decide ((130 : Int) ≤ 138))) = true from by kernel_rfl) ?_
  show T.den _ _ [(130 : Int), a, b] [false, false, false, true] = _
  refine st_itt (show true = true from by kernel_rfl) ?_
  refine st_2_0 (e10_18) (g := true) rfl (l := [6, a, b, 64]) rfl (m := []) rfl (cl_t (q18_6_64 a b hb hb2)) fun i3 i4 hi3 hi4 => ?_
  show T.den _ _ [(130 : Int), a, b, i3, i4] [false, false, false, true] = _
  refine st_ret ?_
  show some ([i3, i4], [true]) = _
  subst hi3 hi4
  rfl

set_option maxHeartbeats 4000000 in
theorem q18_7_64 (a b : Int) : F18 [(7 : Int), a, b, (64 : Int)] [] = some ([(arI .and .u64 a b), 0], []) := by
  refine Eq.trans (Fd_of (n := 4) (m := 0) (t := t18) (C := Tab.fn a18) rfl rfl) ?_
  rw [t18]
  refine st_itf (show ((64 : Int) == 32) = false from by kernel_rfl) ?_
  refine st_rq (show ((64 : Int) != 0) = true from by kernel_rfl) ?_
  refine st_itf (show ((7 : Int) == 0) = false from by kernel_rfl) ?_
  refine st_itf (show ((7 : Int) == 1) = false from by kernel_rfl) ?_
  refine st_itf (show ((7 : Int) == 2) = false from by kernel_rfl) ?_
  refine st_itf (show ((7 : Int) == 3) = false from by kernel_rfl) ?_
  refine st_itf (show ((7 : Int) == 4) = false from by kernel_rfl) ?_
  refine st_itf (show ((7 : Int) == 5) = false from by kernel_rfl) ?_
  refine st_itf (show ((7 : Int) == 6) = false from by kernel_rfl) ?_
  refine st_itt (show ((7 : Int) == 7) = true from by kernel_rfl) ?_
  refine st_ret ?_
  show some ([(arI .and .u64 a b), 0], []) = _
  rfl

set_option maxHeartbeats 4000000 in
theorem q10_131 (a b : Int) : F10 [(131 : Int), a, b] [] = some ([(arI .and .u64 a b), 0], [true]) := by
  refine Eq.trans (Fd_of (n := 3) (m := 0) (t := t10) (C := Tab.fn a10) rfl rfl) ?_
  rw [t10]
  refine st_lbc (show ((decide ((131 : Int) ≥ 70)) && (decide ((131 : Int) ≤ 79))) = false from by kernel_rfl) ?_
  show T.den _ _ [(131 : Int), a, b] [false] = _
  refine st_itf (show false = false from by kernel_rfl) ?_
  refine st_lbc (show ((decide ((131 : Int) ≥ 81)) && (decide ((131 : Int) ≤ 90))) = false from by kernel_rfl) ?_
  show T.den _ _ [(131 : Int), a, b] [false, false] = _
  refine st_itf (show false = false from by kernel_rfl) ?_
  refine st_lbc (show ((decide ((131 : Int) ≥ 106)) && (decide ((131 : Int) ≤ 120))) = false from by kernel_rfl) ?_
  show T.den _ _ [(131 : Int), a, b] [false, false, false] = _
  refine st_itf (show false = false from by kernel_rfl) ?_
  refine st_lbc (show ((decide ((131 : Int) ≥ 124)) && (decide ((131 : Int) ≤ 138))) = true from by kernel_rfl) ?_
  show T.den _ _ [(131 : Int), a, b] [false, false, false, true] = _
  refine st_itt (show true = true from by kernel_rfl) ?_
  refine st_2_0 (e10_18) (g := true) rfl (l := [7, a, b, 64]) rfl (m := []) rfl (cl_t (q18_7_64 a b )) fun i3 i4 hi3 hi4 => ?_
  show T.den _ _ [(131 : Int), a, b, i3, i4] [false, false, false, true] = _
  refine st_ret ?_
  show some ([i3, i4], [true]) = _
  subst hi3 hi4
  rfl

set_option maxHeartbeats 4000000 in
theorem q18_8_64 (a b : Int) : F18 [(8 : Int), a, b, (64 : Int)] [] = some ([(arI .or .u64 a b), 0], []) := by
  refine Eq.trans (Fd_of (n := 4) (m := 0) (t := t18) (C := Tab.fn a18) rfl rfl) ?_
  rw [t18]
  refine st_itf (show ((64 : Int) == 32) = false from by kernel_rfl) ?_
  refine st_rq (show ((64 : Int) != 0) = true from by kernel_rfl) ?_
  refine st_itf (show ((8 : Int) == 0) = false from by kernel_rfl) ?_
  refine st_itf (show ((8 : Int) == 1) = false from by kernel_rfl) ?_
  refine st_itf (show ((8 : Int) == 2) = false from by kernel_rfl) ?_
  refine st_itf (show ((8 : Int) == 3) = false from by kernel_rfl) ?_
  refine st_itf (show ((8 : Int) == 4) = false from by kernel_rfl) ?_
  refine st_itf (show ((8 : Int) == 5) = false from by kernel_rfl) ?_
  refine st_itf (show ((8 : Int) == 6) = false from by kernel_rfl) ?_
  refine st_itf (show ((8 : Int) == 7) = false from by kernel_rfl) ?_
  refine st_itt (show ((8 : Int) == 8) = true from by kernel_rfl) ?_
  refine st_ret ?_
  show some ([(arI .or .u64 a b), 0], []) = _
  rfl

set_option maxHeartbeats 4000000 in
theorem q10_132 (a b : Int) : F10 [(132 : Int), a, b] [] = some ([(arI .or .u64 a b), 0], [true]) := by
  refine Eq.trans (Fd_of (n := 3) (m := 0) (t := t10) (C := Tab.fn a10) rfl rfl) ?_
  rw [t10]
  refine st_lbc (show ((decide ((132 : Int) ≥ 70)) && (decide ((132 : Int) ≤ 79))) = false from by kernel_rfl) ?_
  show T.den _ _ [(132 : Int), a, b] [false] = _
  refine st_itf (show false = false from by kernel_rfl) ?_
  refine st_lbc (show ((decide ((132 : Int) ≥ 81)) && (decide ((132 : Int) ≤ 90))) = false from by kernel_rfl) ?_
  show T.den _ _ [(132 : Int), a, b] [false, false] = _
  refine st_itf (show false = false from by kernel_rfl) ?_
  refine st_lbc (show ((decide ((132 : Int) ≥ 106)) && (decide ((132 : Int) ≤ 120))) = false from by kernel_rfl) ?_
  show T.den _ _ [(132 : Int), a, b] [false, false, false] = _
  refine st_itf (show false = false from by kernel_rfl) ?_
  refine st_lbc (show ((decide ((132 : Int) ≥ 124)) && (decide ((132 : Int) ≤ 138))) = true from by kernel_rfl) ?_
  show T.den _ _ [(132 : Int), a, b] [false, false, false, true] = _
  refine st_itt (show true = true from by kernel_rfl) ?_
  refine st_2_0 (e10_18) (g := true) rfl (l := [8, a, b, 64]) rfl (m := []) rfl (cl_t (q18_8_64 a b )) fun i3 i4 hi3 hi4 => ?_
  show T.den _ _ [(132 : Int), a, b, i3, i4] [false, false, false, true] = _
  refine st_ret ?_
  show some ([i3, i4], [true]) = _
  subst hi3 hi4
  rfl

set_option maxHeartbeats 4000000 in
theorem q18_9_64 (a b : Int) : F18 [(9 : Int), a, b, (64 : Int)] [] = some ([(arI .xor .u64 a b), 0], []) := by
  refine Eq.trans (Fd_of (n := 4) (m := 0) (t := t18) (C := Tab.fn a18) rfl rfl) ?_
  rw [t18]
  refine st_itf (show ((64 : Int) == 32) = false from by kernel_rfl) ?_
  refine st_rq (show ((64 : Int) != 0) = true from by kernel_rfl) ?_
  refine st_itf (show ((9 : Int) == 0) = false from by kernel_rfl) ?_
  refine st_itf (show ((9 : Int) == 1) = false from by kernel_rfl) ?_
  refine st_itf (show ((9 : Int) == 2) = false from by kernel_rfl) ?_
  refine st_itf (show ((9 : Int) == 3) = false from by kernel_rfl) ?_
  refine st_itf (show ((9 : Int) == 4) = false from by kernel_rfl) ?_
  refine st_itf (show ((9 : Int) == 5) = false from by kernel_rfl) ?_
  refine st_itf (show ((9 : Int) == 6) = false from by kernel_rfl) ?_
  refine st_itf (show ((9 : Int) == 7) = false from by kernel_rfl) ?_
  refine st_itf (show ((9 : Int) == 8) = false from by kernel_rfl) ?_
  refine st_itt (show ((9 : Int) == 9) = true from by kernel_rfl) ?_
  refine st_ret ?_
  show some ([(arI .xor .u64 a b), 0], []) = _
  rfl

set_option maxHeartbeats 4000000 in
theorem q10_133 (a b : Int) : F10 [(133 : Int), a, b] [] = some ([(arI .xor .u64 a b), 0], [true]) := by
  refine Eq.trans (Fd_of (n := 3) (m := 0) (t := t10) (C := Tab.fn a10) rfl rfl) ?_
  rw [t10]
  refine st_lbc (show ((decide ((133 : Int) ≥ 70)) && (decide ((133 : Int) ≤ 79))) = false from by kernel_rfl) ?_
  show T.den _ _ [(133 : Int), a, b] [false] = _
  refine st_itf (show false = false from by kernel_rfl) ?_
  refine st_lbc (show ((decide ((133 : Int) ≥ 81)) && (decide ((133 : Int) ≤ 90))) = false from by kernel_rfl) ?_
  show T.den _ _ [(133 : Int), a, b] [false, false] = _
  refine st_itf (show false = false from by kernel_rfl) ?_
  refine st_lbc (show ((decide ((133 : Int) ≥ 106)) && (decide ((133 : Int) ≤ 120))) = false from by kernel_rfl) ?_
  show T.den _ _ [(133 : Int), a, b] [false, false, false] = _
  refine st_itf (show false = false from by kernel_rfl) ?_
  refine st_lbc (show ((decide ((133 : Int) ≥ 124)) && (decide ((133 : Int) ≤ 138))) = true from by kernel_rfl) ?_
  show T.den _ _ [(133 : Int), a, b] [false, false, false, true] = _
  refine st_itt (show true = true from by kernel_rfl) ?_
  refine st_2_0 (e10_18) (g := true) rfl (l := [9, a, b, 64]) rfl (m := []) rfl (cl_t (q18_9_64 a b )) fun i3 i4 hi3 hi4 => ?_
  show T.den _ _ [(133 : Int), a, b, i3, i4] [false, false, false, true] = _
  refine st_ret ?_
  show some ([i3, i4], [true]) = _
  subst hi3 hi4
  rfl

set_option maxHeartbeats 4000000 in
theorem q18_10_64 (a b : Int) (hb : 0 ≤ b) : F18 [(10 : Int), a, b, (64 : Int)] [] = some ([(arI .shl .u64 a (arI .rem .u64 b (64 : Int))), 0], []) := by
  refine Eq.trans (Fd_of (n := 4) (m := 0) (t := t18) (C := Tab.fn a18) rfl rfl) ?_
  rw [t18]
  refine st_itf (show ((64 : Int) == 32) = false from by kernel_rfl) ?_
  refine st_rq (show ((64 : Int) != 0) = true from by kernel_rfl) ?_
  refine st_itf (show ((10 : Int) == 0) = false from by kernel_rfl) ?_
  refine st_itf (show ((10 : Int) == 1) = false from by kernel_rfl) ?_
  refine st_itf (show ((10 : Int) == 2) = false from by kernel_rfl) ?_
  refine st_itf (show ((10 : Int) == 3) = false from by kernel_rfl) ?_
  refine st_itf (show ((10 : Int) == 4) = false from by kernel_rfl) ?_
  refine st_itf (show ((10 : Int) == 5) = false from by kernel_rfl) ?_
  refine st_itf (show ((10 : Int) == 6) = false from by kernel_rfl) ?_
  refine st_itf (show ((10 : Int) == 7) = false from by kernel_rfl) ?_
  refine st_itf (show ((10 : Int) == 8) = false from by kernel_rfl) ?_
  refine st_itf (show ((10 : Int) == 9) = false from by kernel_rfl) ?_
  refine st_itt (show ((10 : Int) == 10) = true from by kernel_rfl) ?_
  refine st_rq (show (decide ((arI .rem .u64 b (64 : Int)) ≥ 0)) = true from ?_) ?_
  · first | exact rem_ge _ _ (by omega) | exact sub_ge _ _ | (subst_vars; exact sub_ge _ _) | (omega)
  refine st_ret ?_
  show some ([(arI .shl .u64 a (arI .rem .u64 b (64 : Int))), 0], []) = _
  rfl

set_option maxHeartbeats 4000000 in
theorem q10_134 (a b : Int) (hb : 0 ≤ b) : F10 [(134 : Int), a, b] [] = some ([(arI .shl .u64 a (arI .rem .u64 b (64 : Int))), 0], [true]) := by
  refine Eq.trans (Fd_of (n := 3) (m := 0) (t := t10) (C := Tab.fn a10) rfl rfl) ?_
  rw [t10]
  refine st_lbc (show ((decide ((134 : Int) ≥ 70)) && (decide ((134 : Int) ≤ 79))) = false from by kernel_rfl) ?_
  show T.den _ _ [(134 : Int), a, b] [false] = _
  refine st_itf (show false = false from by kernel_rfl) ?_
  refine st_lbc (show ((decide ((134 : Int) ≥ 81)) && (decide ((134 : Int) ≤ 90))) = false from by kernel_rfl) ?_
  show T.den _ _ [(134 : Int), a, b] [false, false] = _
  refine st_itf (show false = false from by kernel_rfl) ?_
  refine st_lbc (show ((decide ((134 : Int) ≥ 106)) && (decide ((134 : Int) ≤ 120))) = false from by kernel_rfl) ?_
  show T.den _ _ [(134 : Int), a, b] [false, false, false] = _
  refine st_itf (show false = false from by kernel_rfl) ?_
  refine st_lbc (show ((decide ((134 : Int) ≥ 124)) && (decide ((134 : Int) ≤ 138))) = true from by kernel_rfl) ?_
  show T.den _ _ [(134 : Int), a, b] [false, false, false, true] = _
  refine st_itt (show true = true from by kernel_rfl) ?_
  refine st_2_0 (e10_18) (g := true) rfl (l := [10, a, b, 64]) rfl (m := []) rfl (cl_t (q18_10_64 a b hb)) fun i3 i4 hi3 hi4 => ?_
  show T.den _ _ [(134 : Int), a, b, i3, i4] [false, false, false, true] = _
  refine st_ret ?_
  show some ([i3, i4], [true]) = _
  subst hi3 hi4
  rfl

set_option maxHeartbeats 4000000 in
theorem q18_11_64 (a b : Int) (hb : 0 ≤ b) : F18 [(11 : Int), a, b, (64 : Int)] [] = some ([(IntKind.wrap .u64 (arI .shr .i64 (IntKind.wrap .i64 a) (arI .rem .u64 b (64 : Int)))), 0], []) := by
  refine Eq.trans (Fd_of (n := 4) (m := 0) (t := t18) (C := Tab.fn a18) rfl rfl) ?_
  rw [t18]
  refine st_itf (show ((64 : Int) == 32) = false from by kernel_rfl) ?_
  refine st_rq (show ((64 : Int) != 0) = true from by kernel_rfl) ?_
  refine st_itf (show ((11 : Int) == 0) = false from by kernel_rfl) ?_
  refine st_itf (show ((11 : Int) == 1) = false from by kernel_rfl) ?_
  refine st_itf (show ((11 : Int) == 2) = false from by kernel_rfl) ?_
  refine st_itf (show ((11 : Int) == 3) = false from by kernel_rfl) ?_
  refine st_itf (show ((11 : Int) == 4) = false from by kernel_rfl) ?_
  refine st_itf (show ((11 : Int) == 5) = false from by kernel_rfl) ?_
  refine st_itf (show ((11 : Int) == 6) = false from by kernel_rfl) ?_
  refine st_itf (show ((11 : Int) == 7) = false from by kernel_rfl) ?_
  refine st_itf (show ((11 : Int) == 8) = false from by kernel_rfl) ?_
  refine st_itf (show ((11 : Int) == 9) = false from by kernel_rfl) ?_
  refine st_itf (show ((11 : Int) == 10) = false from by kernel_rfl) ?_
  refine st_itt (show ((11 : Int) == 11) = true from by kernel_rfl) ?_
  refine st_rq (show (decide ((arI .rem .u64 b (64 : Int)) ≥ 0)) = true from ?_) ?_
  · first | exact rem_ge _ _ (by omega) | exact sub_ge _ _ | (subst_vars; exact sub_ge _ _) | (omega)
  refine st_li fun i4 hi4 => ?_
  replace hi4 : i4 = (arI .shr .i64 (IntKind.wrap .i64 a) (arI .rem .u64 b (64 : Int))) := hi4
  show T.den _ _ [(11 : Int), a, b, (64 : Int), i4] [] = _
  refine st_ret ?_
  show some ([(IntKind.wrap .u64 i4), 0], []) = _
  subst hi4
  rfl

set_option maxHeartbeats 4000000 in
theorem q10_135 (a b : Int) (hb : 0 ≤ b) : F10 [(135 : Int), a, b] [] = some ([(IntKind.wrap .u64 (arI .shr .i64 (IntKind.wrap .i64 a) (arI .rem .u64 b (64 : Int)))), 0], [true]) := by
  refine Eq.trans (Fd_of (n := 3) (m := 0) (t := t10) (C := Tab.fn a10) rfl rfl) ?_
  rw [t10]
  refine st_lbc (show ((decide ((135 : Int) ≥ 70)) && (decide ((135 : Int) ≤ 79))) = false from by kernel_rfl) ?_
  show T.den _ _ [(135 : Int), a, b] [false] = _
  refine st_itf (show false = false from by kernel_rfl) ?_
  refine st_lbc (show ((decide ((135 : Int) ≥ 81)) && (decide ((135 : Int) ≤ 90))) = false from by kernel_rfl) ?_
  show T.den _ _ [(135 : Int), a, b] [false, false] = _
  refine st_itf (show false = false from by kernel_rfl) ?_
  refine st_lbc (show ((decide ((135 : Int) ≥ 106)) && (decide ((135 : Int) ≤ 120))) = false from by kernel_rfl) ?_
  show T.den _ _ [(135 : Int), a, b] [false, false, false] = _
  refine st_itf (show false = false from by kernel_rfl) ?_
  refine st_lbc (show ((decide ((135 : Int) ≥ 124)) && (decide ((135 : Int) ≤ 138))) = true from by kernel_rfl) ?_
  show T.den _ _ [(135 : Int), a, b] [false, false, false, true] = _
  refine st_itt (show true = true from by kernel_rfl) ?_
  refine st_2_0 (e10_18) (g := true) rfl (l := [11, a, b, 64]) rfl (m := []) rfl (cl_t (q18_11_64 a b hb)) fun i3 i4 hi3 hi4 => ?_
  show T.den _ _ [(135 : Int), a, b, i3, i4] [false, false, false, true] = _
  refine st_ret ?_
  show some ([i3, i4], [true]) = _
  subst hi3 hi4
  rfl

set_option maxHeartbeats 4000000 in
theorem q18_12_64 (a b : Int) (hb : 0 ≤ b) : F18 [(12 : Int), a, b, (64 : Int)] [] = some ([(arI .shr .u64 a (arI .rem .u64 b (64 : Int))), 0], []) := by
  refine Eq.trans (Fd_of (n := 4) (m := 0) (t := t18) (C := Tab.fn a18) rfl rfl) ?_
  rw [t18]
  refine st_itf (show ((64 : Int) == 32) = false from by kernel_rfl) ?_
  refine st_rq (show ((64 : Int) != 0) = true from by kernel_rfl) ?_
  refine st_itf (show ((12 : Int) == 0) = false from by kernel_rfl) ?_
  refine st_itf (show ((12 : Int) == 1) = false from by kernel_rfl) ?_
  refine st_itf (show ((12 : Int) == 2) = false from by kernel_rfl) ?_
  refine st_itf (show ((12 : Int) == 3) = false from by kernel_rfl) ?_
  refine st_itf (show ((12 : Int) == 4) = false from by kernel_rfl) ?_
  refine st_itf (show ((12 : Int) == 5) = false from by kernel_rfl) ?_
  refine st_itf (show ((12 : Int) == 6) = false from by kernel_rfl) ?_
  refine st_itf (show ((12 : Int) == 7) = false from by kernel_rfl) ?_
  refine st_itf (show ((12 : Int) == 8) = false from by kernel_rfl) ?_
  refine st_itf (show ((12 : Int) == 9) = false from by kernel_rfl) ?_
  refine st_itf (show ((12 : Int) == 10) = false from by kernel_rfl) ?_
  refine st_itf (show ((12 : Int) == 11) = false from by kernel_rfl) ?_
  refine st_itt (show ((12 : Int) == 12) = true from by kernel_rfl) ?_
  refine st_rq (show (decide ((arI .rem .u64 b (64 : Int)) ≥ 0)) = true from ?_) ?_
  · first | exact rem_ge _ _ (by omega) | exact sub_ge _ _ | (subst_vars; exact sub_ge _ _) | (omega)
  refine st_ret ?_
  show some ([(arI .shr .u64 a (arI .rem .u64 b (64 : Int))), 0], []) = _
  rfl

set_option maxHeartbeats 4000000 in
theorem q10_136 (a b : Int) (hb : 0 ≤ b) : F10 [(136 : Int), a, b] [] = some ([(arI .shr .u64 a (arI .rem .u64 b (64 : Int))), 0], [true]) := by
  refine Eq.trans (Fd_of (n := 3) (m := 0) (t := t10) (C := Tab.fn a10) rfl rfl) ?_
  rw [t10]
  refine st_lbc (show ((decide ((136 : Int) ≥ 70)) && (decide ((136 : Int) ≤ 79))) = false from by kernel_rfl) ?_
  show T.den _ _ [(136 : Int), a, b] [false] = _
  refine st_itf (show false = false from by kernel_rfl) ?_
  refine st_lbc (show ((decide ((136 : Int) ≥ 81)) && (decide ((136 : Int) ≤ 90))) = false from by kernel_rfl) ?_
  show T.den _ _ [(136 : Int), a, b] [false, false] = _
  refine st_itf (show false = false from by kernel_rfl) ?_
  refine st_lbc (show ((decide ((136 : Int) ≥ 106)) && (decide ((136 : Int) ≤ 120))) = false from by kernel_rfl) ?_
  show T.den _ _ [(136 : Int), a, b] [false, false, false] = _
  refine st_itf (show false = false from by kernel_rfl) ?_
  refine st_lbc (show ((decide ((136 : Int) ≥ 124)) && (decide ((136 : Int) ≤ 138))) = true from by kernel_rfl) ?_
  show T.den _ _ [(136 : Int), a, b] [false, false, false, true] = _
  refine st_itt (show true = true from by kernel_rfl) ?_
  refine st_2_0 (e10_18) (g := true) rfl (l := [12, a, b, 64]) rfl (m := []) rfl (cl_t (q18_12_64 a b hb)) fun i3 i4 hi3 hi4 => ?_
  show T.den _ _ [(136 : Int), a, b, i3, i4] [false, false, false, true] = _
  refine st_ret ?_
  show some ([i3, i4], [true]) = _
  subst hi3 hi4
  rfl

set_option maxHeartbeats 4000000 in
theorem q18_13_64 (a b : Int) (hb : 0 ≤ b) : F18 [(13 : Int), a, b, (64 : Int)] [] = some ([(arI .or .u64 (arI .shl .u64 a (arI .rem .u64 b (64 : Int))) (arI .shr .u64 a (arI .sub .u64 (64 : Int) (arI .rem .u64 b (64 : Int))))), 0], []) := by
  refine Eq.trans (Fd_of (n := 4) (m := 0) (t := t18) (C := Tab.fn a18) rfl rfl) ?_
  rw [t18]
  refine st_itf (show ((64 : Int) == 32) = false from by kernel_rfl) ?_
  refine st_rq (show ((64 : Int) != 0) = true from by kernel_rfl) ?_
  refine st_itf (show ((13 : Int) == 0) = false from by kernel_rfl) ?_
  refine st_itf (show ((13 : Int) == 1) = false from by kernel_rfl) ?_
  refine st_itf (show ((13 : Int) == 2) = false from by kernel_rfl) ?_
  refine st_itf (show ((13 : Int) == 3) = false from by kernel_rfl) ?_
  refine st_itf (show ((13 : Int) == 4) = false from by kernel_rfl) ?_
  refine st_itf (show ((13 : Int) == 5) = false from by kernel_rfl) ?_
  refine st_itf (show ((13 : Int) == 6) = false from by kernel_rfl) ?_
  refine st_itf (show ((13 : Int) == 7) = false from by kernel_rfl) ?_
  refine st_itf (show ((13 : Int) == 8) = false from by kernel_rfl) ?_
  refine st_itf (show ((13 : Int) == 9) = false from by kernel_rfl) ?_
  refine st_itf (show ((13 : Int) == 10) = false from by kernel_rfl) ?_
  refine st_itf (show ((13 : Int) == 11) = false from by kernel_rfl) ?_
  refine st_itf (show ((13 : Int) == 12) = false from by kernel_rfl) ?_
  refine st_itt (show ((13 : Int) == 13) = true from by kernel_rfl) ?_
  refine st_rq (show (decide ((arI .rem .u64 b (64 : Int)) ≥ 0)) = true from ?_) ?_
  · first | exact rem_ge _ _ (by omega) | exact sub_ge _ _ | (subst_vars; exact sub_ge _ _) | (omega)
  refine st_li fun i4 hi4 => ?_
  replace hi4 : i4 = (arI .sub .u64 (64 : Int) (arI .rem .u64 b (64 : Int))) := hi4
  show T.den _ _ [(13 : Int), a, b, (64 : Int), i4] [] = _
  refine st_rq (show (decide (i4 ≥ 0)) = true from ?_) ?_
  · first | exact rem_ge _ _ (by omega) | exact sub_ge _ _ | (subst_vars; exact sub_ge _ _) | (omega)
  refine st_li fun i5 hi5 => ?_
  replace hi5 : i5 = (arI .or .u64 (arI .shl .u64 a (arI .rem .u64 b (64 : Int))) (arI .shr .u64 a i4)) := hi5
  show T.den _ _ [(13 : Int), a, b, (64 : Int), i4, i5] [] = _
  refine st_ret ?_
  show some ([i5, 0], []) = _
  subst hi4 hi5
  rfl

set_option maxHeartbeats 4000000 in
theorem q10_137 (a b : Int) (hb : 0 ≤ b) : F10 [(137 : Int), a, b] [] = some ([(arI .or .u64 (arI .shl .u64 a (arI .rem .u64 b (64 : Int))) (arI .shr .u64 a (arI .sub .u64 (64 : Int) (arI .rem .u64 b (64 : Int))))), 0], [true]) := by
  refine Eq.trans (Fd_of (n := 3) (m := 0) (t := t10) (C := Tab.fn a10) rfl rfl) ?_
  rw [t10]
  refine st_lbc (show ((decide ((137 : Int) ≥ 70)) && (decide ((137 : Int) ≤ 79))) = false from by kernel_rfl) ?_
  show T.den _ _ [(137 : Int), a, b] [false] = _
  refine st_itf (show false = false from by kernel_rfl) ?_
  refine st_lbc (show ((decide ((137 : Int) ≥ 81)) && (decide ((137 : Int) ≤ 90))) = false from by kernel_rfl) ?_
  show T.den _ _ [(137 : Int), a, b] [false, false] = _
  refine st_itf (show false = false from by kernel_rfl) ?_
  refine st_lbc (show ((decide ((137 : Int) ≥ 106)) && (decide ((137 : Int) ≤ 120))) = false from by kernel_rfl) ?_
  show T.den _ _ [(137 : Int), a, b] [false, false, false] = _
  refine st_itf (show false = false from by kernel_rfl) ?_
  refine st_lbc (show ((decide ((137 : Int) ≥ 124)) && (decide ((137 : Int) ≤ 138))) = true from by kernel_rfl) ?_
  show T.den _ _ [(137 : Int), a, b] [false, false, false, true] = _
  refine st_itt (show true = true from by kernel_rfl) ?_
  refine st_2_0 (e10_18) (g := true) rfl (l := [13, a, b, 64]) rfl (m := []) rfl (cl_t (q18_13_64 a b hb)) fun i3 i4 hi3 hi4 => ?_
  show T.den _ _ [(137 : Int), a, b, i3, i4] [false, false, false, true] = _
  refine st_ret ?_
  show some ([i3, i4], [true]) = _
  subst hi3 hi4
  rfl

set_option maxHeartbeats 4000000 in
theorem q18_14_64 (a b : Int) (hb : 0 ≤ b) : F18 [(14 : Int), a, b, (64 : Int)] [] = some ([(arI .or .u64 (arI .shr .u64 a (arI .rem .u64 b (64 : Int))) (arI .shl .u64 a (arI .sub .u64 (64 : Int) (arI .rem .u64 b (64 : Int))))), 0], []) := by
  refine Eq.trans (Fd_of (n := 4) (m := 0) (t := t18) (C := Tab.fn a18) rfl rfl) ?_
  rw [t18]
  refine st_itf (show ((64 : Int) == 32) = false from by kernel_rfl) ?_
  refine st_rq (show ((64 : Int) != 0) = true from by kernel_rfl) ?_
  refine st_itf (show ((14 : Int) == 0) = false from by kernel_rfl) ?_
  refine st_itf (show ((14 : Int) == 1) = false from by kernel_rfl) ?_
  refine st_itf (show ((14 : Int) == 2) = false from by kernel_rfl) ?_
  refine st_itf (show ((14 : Int) == 3) = false from by kernel_rfl) ?_
  refine st_itf (show ((14 : Int) == 4) = false from by kernel_rfl) ?_
  refine st_itf (show ((14 : Int) == 5) = false from by kernel_rfl) ?_
  refine st_itf (show ((14 : Int) == 6) = false from by kernel_rfl) ?_
  refine st_itf (show ((14 : Int) == 7) = false from by kernel_rfl) ?_
  refine st_itf (show ((14 : Int) == 8) = false from by kernel_rfl) ?_
  refine st_itf (show ((14 : Int) == 9) = false from by kernel_rfl) ?_
  refine st_itf (show ((14 : Int) == 10) = false from by kernel_rfl) ?_
  refine st_itf (show ((14 : Int) == 11) = false from by kernel_rfl) ?_
  refine st_itf (show ((14 : Int) == 12) = false from by kernel_rfl) ?_
  refine st_itf (show ((14 : Int) == 13) = false from by kernel_rfl) ?_
  refine st_rq (show (decide ((arI .rem .u64 b (64 : Int)) ≥ 0)) = true from ?_) ?_
  · first | exact rem_ge _ _ (by omega) | exact sub_ge _ _ | (subst_vars; exact sub_ge _ _) | (omega)
  refine st_li fun i4 hi4 => ?_
  replace hi4 : i4 = (arI .sub .u64 (64 : Int) (arI .rem .u64 b (64 : Int))) := hi4
  show T.den _ _ [(14 : Int), a, b, (64 : Int), i4] [] = _
  refine st_rq (show (decide (i4 ≥ 0)) = true from ?_) ?_
  · first | exact rem_ge _ _ (by omega) | exact sub_ge _ _ | (subst_vars; exact sub_ge _ _) | (omega)
  refine st_li fun i5 hi5 => ?_
  replace hi5 : i5 = (arI .or .u64 (arI .shr .u64 a (arI .rem .u64 b (64 : Int))) (arI .shl .u64 a i4)) := hi5
  show T.den _ _ [(14 : Int), a, b, (64 : Int), i4, i5] [] = _
  refine st_ret ?_
  show some ([i5, 0], []) = _
  subst hi4 hi5
  rfl

set_option maxHeartbeats 4000000 in
theorem q10_138 (a b : Int) (hb : 0 ≤ b) : F10 [(138 : Int), a, b] [] = some ([(arI .or .u64 (arI .shr .u64 a (arI .rem .u64 b (64 : Int))) (arI .shl .u64 a (arI .sub .u64 (64 : Int) (arI .rem .u64 b (64 : Int))))), 0], [true]) := by
  refine Eq.trans (Fd_of (n := 3) (m := 0) (t := t10) (C := Tab.fn a10) rfl rfl) ?_
  rw [t10]
  refine st_lbc (show ((decide ((138 : Int) ≥ 70)) && (decide ((138 : Int) ≤ 79))) = false from by kernel_rfl) ?_
  show T.den _ _ [(138 : Int), a, b] [false] = _
  refine st_itf (show false = false from by kernel_rfl) ?_
  refine st_lbc (show ((decide ((138 : Int) ≥ 81)) && (decide ((138 : Int) ≤ 90))) = false from by kernel_rfl) ?_
  show T.den _ _ [(138 : Int), a, b] [false, false] = _
  refine st_itf (show false = false from by kernel_rfl) ?_
  refine st_lbc (show ((decide ((138 : Int) ≥ 106)) && (decide ((138 : Int) ≤ 120))) = false from by kernel_rfl) ?_
  show T.den _ _ [(138 : Int), a, b] [false, false, false] = _
  refine st_itf (show false = false from by kernel_rfl) ?_
  refine st_lbc (show ((decide ((138 : Int) ≥ 124)) && (decide ((138 : Int) ≤ 138))) = true from by kernel_rfl) ?_
  show T.den _ _ [(138 : Int), a, b] [false, false, false, true] = _
  refine st_itt (show true = true from by kernel_rfl) ?_
  refine st_2_0 (e10_18) (g := true) rfl (l := [14, a, b, 64]) rfl (m := []) rfl (cl_t (q18_14_64 a b hb)) fun i3 i4 hi3 hi4 => ?_
  show T.den _ _ [(138 : Int), a, b, i3, i4] [false, false, false, true] = _
  refine st_ret ?_
  show some ([i3, i4], [true]) = _
  subst hi3 hi4
  rfl

theorem q14_of (k : Nat) (T : List (Option (List Int × List Bool))) (h : (List.range 256).map (fun k : Nat => F14 [(k : Int)] []) = T) (hk : k < 256) : F14 [(k : Int)] [] = T.getD k none := by
  subst h; rw [List.getD_eq_getElem?_getD, List.getElem?_map, List.getElem?_range hk]; rfl

theorem q14_69 : F14 [69] [] = some ([1, 127, 0, 127], [true]) := by kernel_rfl

theorem q14_103 : F14 [103] [] = some ([1, 127, 0, 127], [true]) := by kernel_rfl

theorem q14_104 : F14 [104] [] = some ([1, 127, 0, 127], [true]) := by kernel_rfl

theorem q14_105 : F14 [105] [] = some ([1, 127, 0, 127], [true]) := by kernel_rfl

theorem q14_192 : F14 [192] [] = some ([1, 127, 0, 127], [true]) := by kernel_rfl

theorem q14_193 : F14 [193] [] = some ([1, 127, 0, 127], [true]) := by kernel_rfl

theorem q14_80 : F14 [80] [] = some ([1, 126, 0, 127], [true]) := by kernel_rfl

theorem q14_167 : F14 [167] [] = some ([1, 126, 0, 127], [true]) := by kernel_rfl

theorem q14_121 : F14 [121] [] = some ([1, 126, 0, 126], [true]) := by kernel_rfl

theorem q14_122 : F14 [122] [] = some ([1, 126, 0, 126], [true]) := by kernel_rfl

theorem q14_123 : F14 [123] [] = some ([1, 126, 0, 126], [true]) := by kernel_rfl

theorem q14_194 : F14 [194] [] = some ([1, 126, 0, 126], [true]) := by kernel_rfl

theorem q14_195 : F14 [195] [] = some ([1, 126, 0, 126], [true]) := by kernel_rfl

theorem q14_196 : F14 [196] [] = some ([1, 126, 0, 126], [true]) := by kernel_rfl

theorem q14_172 : F14 [172] [] = some ([1, 127, 0, 126], [true]) := by kernel_rfl

theorem q14_173 : F14 [173] [] = some ([1, 127, 0, 126], [true]) := by kernel_rfl

theorem q14_70 : F14 [70] [] = some ([2, 127, 127, 127], [true]) := by kernel_rfl

theorem q14_71 : F14 [71] [] = some ([2, 127, 127, 127], [true]) := by kernel_rfl

theorem q14_72 : F14 [72] [] = some ([2, 127, 127, 127], [true]) := by kernel_rfl

theorem q14_73 : F14 [73] [] = some ([2, 127, 127, 127], [true]) := by kernel_rfl

theorem q14_74 : F14 [74] [] = some ([2, 127, 127, 127], [true]) := by kernel_rfl

theorem q14_75 : F14 [75] [] = some ([2, 127, 127, 127], [true]) := by kernel_rfl

theorem q14_76 : F14 [76] [] = some ([2, 127, 127, 127], [true]) := by kernel_rfl

theorem q14_77 : F14 [77] [] = some ([2, 127, 127, 127], [true]) := by kernel_rfl

theorem q14_78 : F14 [78] [] = some ([2, 127, 127, 127], [true]) := by kernel_rfl

theorem q14_79 : F14 [79] [] = some ([2, 127, 127, 127], [true]) := by kernel_rfl

theorem q14_106 : F14 [106] [] = some ([2, 127, 127, 127], [true]) := by kernel_rfl

theorem q14_107 : F14 [107] [] = some ([2, 127, 127, 127], [true]) := by kernel_rfl

theorem q14_108 : F14 [108] [] = some ([2, 127, 127, 127], [true]) := by kernel_rfl

theorem q14_109 : F14 [109] [] = some ([2, 127, 127, 127], [true]) := by kernel_rfl

theorem q14_110 : F14 [110] [] = some ([2, 127, 127, 127], [true]) := by kernel_rfl

theorem q14_111 : F14 [111] [] = some ([2, 127, 127, 127], [true]) := by kernel_rfl

theorem q14_112 : F14 [112] [] = some ([2, 127, 127, 127], [true]) := by kernel_rfl

theorem q14_113 : F14 [113] [] = some ([2, 127, 127, 127], [true]) := by kernel_rfl

theorem q14_114 : F14 [114] [] = some ([2, 127, 127, 127], [true]) := by kernel_rfl

theorem q14_115 : F14 [115] [] = some ([2, 127, 127, 127], [true]) := by kernel_rfl

theorem q14_116 : F14 [116] [] = some ([2, 127, 127, 127], [true]) := by kernel_rfl

theorem q14_117 : F14 [117] [] = some ([2, 127, 127, 127], [true]) := by kernel_rfl

theorem q14_118 : F14 [118] [] = some ([2, 127, 127, 127], [true]) := by kernel_rfl

theorem q14_119 : F14 [119] [] = some ([2, 127, 127, 127], [true]) := by kernel_rfl

theorem q14_120 : F14 [120] [] = some ([2, 127, 127, 127], [true]) := by kernel_rfl

theorem q14_81 : F14 [81] [] = some ([2, 126, 126, 127], [true]) := by kernel_rfl

theorem q14_82 : F14 [82] [] = some ([2, 126, 126, 127], [true]) := by kernel_rfl

theorem q14_83 : F14 [83] [] = some ([2, 126, 126, 127], [true]) := by kernel_rfl

theorem q14_84 : F14 [84] [] = some ([2, 126, 126, 127], [true]) := by kernel_rfl

theorem q14_85 : F14 [85] [] = some ([2, 126, 126, 127], [true]) := by kernel_rfl

theorem q14_86 : F14 [86] [] = some ([2, 126, 126, 127], [true]) := by kernel_rfl

theorem q14_87 : F14 [87] [] = some ([2, 126, 126, 127], [true]) := by kernel_rfl

theorem q14_88 : F14 [88] [] = some ([2, 126, 126, 127], [true]) := by kernel_rfl

theorem q14_89 : F14 [89] [] = some ([2, 126, 126, 127], [true]) := by kernel_rfl

theorem q14_90 : F14 [90] [] = some ([2, 126, 126, 127], [true]) := by kernel_rfl

theorem q14_124 : F14 [124] [] = some ([2, 126, 126, 126], [true]) := by kernel_rfl

theorem q14_125 : F14 [125] [] = some ([2, 126, 126, 126], [true]) := by kernel_rfl

theorem q14_126 : F14 [126] [] = some ([2, 126, 126, 126], [true]) := by kernel_rfl

theorem q14_127 : F14 [127] [] = some ([2, 126, 126, 126], [true]) := by kernel_rfl

theorem q14_128 : F14 [128] [] = some ([2, 126, 126, 126], [true]) := by kernel_rfl

theorem q14_129 : F14 [129] [] = some ([2, 126, 126, 126], [true]) := by kernel_rfl

theorem q14_130 : F14 [130] [] = some ([2, 126, 126, 126], [true]) := by kernel_rfl

theorem q14_131 : F14 [131] [] = some ([2, 126, 126, 126], [true]) := by kernel_rfl

theorem q14_132 : F14 [132] [] = some ([2, 126, 126, 126], [true]) := by kernel_rfl

theorem q14_133 : F14 [133] [] = some ([2, 126, 126, 126], [true]) := by kernel_rfl

theorem q14_134 : F14 [134] [] = some ([2, 126, 126, 126], [true]) := by kernel_rfl

theorem q14_135 : F14 [135] [] = some ([2, 126, 126, 126], [true]) := by kernel_rfl

theorem q14_136 : F14 [136] [] = some ([2, 126, 126, 126], [true]) := by kernel_rfl

theorem q14_137 : F14 [137] [] = some ([2, 126, 126, 126], [true]) := by kernel_rfl

theorem q14_138 : F14 [138] [] = some ([2, 126, 126, 126], [true]) := by kernel_rfl

set_option maxHeartbeats 4000000 in
theorem q14_out (op : Int) (h : (op < 69 ∨ (91 ≤ op ∧ op ≤ 102) ∨ (139 ≤ op ∧ op ≤ 166) ∨ (168 ≤ op ∧ op ≤ 171) ∨ (174 ≤ op ∧ op ≤ 191) ∨ 196 < op)) : F14 [op] [] = some ([0, 0, 0, 0], [false]) := by
  refine Eq.trans (Fd_of (n := 1) (m := 0) (t := t14) (C := Tab.fn a14) rfl rfl) ?_
  rw [t14]
  refine st_itf (show (op == 69) = false from by simp only [Bool.and_eq_false_iff, Bool.or_eq_false_iff, decide_eq_false_iff_not, beq_eq_false_iff_ne, ne_eq, Bool.or_false, Bool.false_or, Bool.and_false, Bool.false_and] <;> omega) ?_
  refine st_lbc (show ((decide (op ≥ 103)) && (decide (op ≤ 105))) = false from by simp only [Bool.and_eq_false_iff, Bool.or_eq_false_iff, decide_eq_false_iff_not, beq_eq_false_iff_ne, ne_eq, Bool.or_false, Bool.false_or, Bool.and_false, Bool.false_and] <;> omega) ?_
  show T.den _ _ [op] [false] = _
  refine st_itf (show false = false from by simp only [Bool.and_eq_false_iff, Bool.or_eq_false_iff, decide_eq_false_iff_not, beq_eq_false_iff_ne, ne_eq, Bool.or_false, Bool.false_or, Bool.and_false, Bool.false_and] <;> omega) ?_
  refine st_itf (show (op == 192) = false from by simp only [Bool.and_eq_false_iff, Bool.or_eq_false_iff, decide_eq_false_iff_not, beq_eq_false_iff_ne, ne_eq, Bool.or_false, Bool.false_or, Bool.and_false, Bool.false_and] <;> omega) ?_
  refine st_itf (show (op == 193) = false from by simp only [Bool.and_eq_false_iff, Bool.or_eq_false_iff, decide_eq_false_iff_not, beq_eq_false_iff_ne, ne_eq, Bool.or_false, Bool.false_or, Bool.and_false, Bool.false_and] <;> omega) ?_
  refine st_itf (show (op == 80) = false from by simp only [Bool.and_eq_false_iff, Bool.or_eq_false_iff, decide_eq_false_iff_not, beq_eq_false_iff_ne, ne_eq, Bool.or_false, Bool.false_or, Bool.and_false, Bool.false_and] <;> omega) ?_
  refine st_itf (show (op == 167) = false from by simp only [Bool.and_eq_false_iff, Bool.or_eq_false_iff, decide_eq_false_iff_not, beq_eq_false_iff_ne, ne_eq, Bool.or_false, Bool.false_or, Bool.and_false, Bool.false_and] <;> omega) ?_
  refine st_lbc (show ((decide (op ≥ 121)) && (decide (op ≤ 123))) = false from by simp only [Bool.and_eq_false_iff, Bool.or_eq_false_iff, decide_eq_false_iff_not, beq_eq_false_iff_ne, ne_eq, Bool.or_false, Bool.false_or, Bool.and_false, Bool.false_and] <;> omega) ?_
  show T.den _ _ [op] [false, false] = _
  refine st_itf (show false = false from by simp only [Bool.and_eq_false_iff, Bool.or_eq_false_iff, decide_eq_false_iff_not, beq_eq_false_iff_ne, ne_eq, Bool.or_false, Bool.false_or, Bool.and_false, Bool.false_and] <;> omega) ?_
  refine st_lbc (show ((decide (op ≥ 194)) && (decide (op ≤ 196))) = false from by simp only [Bool.and_eq_false_iff, Bool.or_eq_false_iff, decide_eq_false_iff_not, beq_eq_false_iff_ne, ne_eq, Bool.or_false, Bool.false_or, Bool.and_false, Bool.false_and] <;> omega) ?_
  show T.den _ _ [op] [false, false, false] = _
  refine st_itf (show false = false from by simp only [Bool.and_eq_false_iff, Bool.or_eq_false_iff, decide_eq_false_iff_not, beq_eq_false_iff_ne, ne_eq, Bool.or_false, Bool.false_or, Bool.and_false, Bool.false_and] <;> omega) ?_
  refine st_itf (show (op == 172) = false from by simp only [Bool.and_eq_false_iff, Bool.or_eq_false_iff, decide_eq_false_iff_not, beq_eq_false_iff_ne, ne_eq, Bool.or_false, Bool.false_or, Bool.and_false, Bool.false_and] <;> omega) ?_
  refine st_itf (show (op == 173) = false from by simp only [Bool.and_eq_false_iff, Bool.or_eq_false_iff, decide_eq_false_iff_not, beq_eq_false_iff_ne, ne_eq, Bool.or_false, Bool.false_or, Bool.and_false, Bool.false_and] <;> omega) ?_
  refine st_lbc (show ((decide (op ≥ 70)) && (decide (op ≤ 79))) = false from by simp only [Bool.and_eq_false_iff, Bool.or_eq_false_iff, decide_eq_false_iff_not, beq_eq_false_iff_ne, ne_eq, Bool.or_false, Bool.false_or, Bool.and_false, Bool.false_and] <;> omega) ?_
  show T.den _ _ [op] [false, false, false, false] = _
  refine st_itf (show false = false from by simp only [Bool.and_eq_false_iff, Bool.or_eq_false_iff, decide_eq_false_iff_not, beq_eq_false_iff_ne, ne_eq, Bool.or_false, Bool.false_or, Bool.and_false, Bool.false_and] <;> omega) ?_
  refine st_lbc (show ((decide (op ≥ 106)) && (decide (op ≤ 120))) = false from by simp only [Bool.and_eq_false_iff, Bool.or_eq_false_iff, decide_eq_false_iff_not, beq_eq_false_iff_ne, ne_eq, Bool.or_false, Bool.false_or, Bool.and_false, Bool.false_and] <;> omega) ?_
  show T.den _ _ [op] [false, false, false, false, false] = _
  refine st_itf (show false = false from by simp only [Bool.and_eq_false_iff, Bool.or_eq_false_iff, decide_eq_false_iff_not, beq_eq_false_iff_ne, ne_eq, Bool.or_false, Bool.false_or, Bool.and_false, Bool.false_and] <;> omega) ?_
  refine st_lbc (show ((decide (op ≥ 81)) && (decide (op ≤ 90))) = false from by simp only [Bool.and_eq_false_iff, Bool.or_eq_false_iff, decide_eq_false_iff_not, beq_eq_false_iff_ne, ne_eq, Bool.or_false, Bool.false_or, Bool.and_false, Bool.false_and] <;> omega) ?_
  show T.den _ _ [op] [false, false, false, false, false, false] = _
  refine st_itf (show false = false from by simp only [Bool.and_eq_false_iff, Bool.or_eq_false_iff, decide_eq_false_iff_not, beq_eq_false_iff_ne, ne_eq, Bool.or_false, Bool.false_or, Bool.and_false, Bool.false_and] <;> omega) ?_
  refine st_lbc (show ((decide (op ≥ 124)) && (decide (op ≤ 138))) = false from by simp only [Bool.and_eq_false_iff, Bool.or_eq_false_iff, decide_eq_false_iff_not, beq_eq_false_iff_ne, ne_eq, Bool.or_false, Bool.false_or, Bool.and_false, Bool.false_and] <;> omega) ?_
  show T.den _ _ [op] [false, false, false, false, false, false, false] = _
  refine st_itf (show false = false from by simp only [Bool.and_eq_false_iff, Bool.or_eq_false_iff, decide_eq_false_iff_not, beq_eq_false_iff_ne, ne_eq, Bool.or_false, Bool.false_or, Bool.and_false, Bool.false_and] <;> omega) ?_
  refine st_ret ?_
  show some ([0, 0, 0, 0], [false]) = _
  rfl

def InR (a : Int) : Prop := 0 ≤ a ∧ a < 18446744073709551616
def U (op : Int) : Prop := ∃ i o : Int, F14 [op] [] = some ([1, i, 0, o], [true]) ∧ ∃ f : Int → Int, (∀ a, InR a → F11 [op, a] [] = some ([f a], [true])) ∧
  (i = 127 → ∀ a x, InR a → InR x → IntKind.wrap .u32 a = IntKind.wrap .u32 x → f a = f x) ∧ (∀ a, InR a → o = 126 ∨ f a < 4294967296)
def B (op : Int) : Prop := ∃ i o : Int, F14 [op] [] = some ([2, i, i, o], [true]) ∧ ∃ f g : Int → Int → Int, (∀ a b, InR a → InR b → F10 [op, a, b] [] = some ([f a b, g a b], [true])) ∧
  (i = 127 → ∀ a x b y, IntKind.wrap .u32 a = IntKind.wrap .u32 x → IntKind.wrap .u32 b = IntKind.wrap .u32 y → f a b = f x y ∧ g a b = g x y) ∧ (∀ a b, o = 126 ∨ f a b < 4294967296) ∧ (∀ a b, g a b = 0 ∨ f a b = 0)
theorem nat32 (a : Int) : ∃ A : Nat, IntKind.wrap .u32 a = A ∧ A < 4294967296 ∧ (IntKind.wrap .u32 a).toNat = A := by
  rw [wrap_u32]; exact ⟨(a % 4294967296).toNat, by omega, by omega, rfl⟩
theorem w64_lt (n : Nat) (h : n < 4294967296) : IntKind.wrap .u64 (n : Int) < 4294967296 := by rw [wrap_u64]; omega
theorem bif_lt (b : Bool) : (bif b then (1 : Int) else 0) < 4294967296 := by cases b <;> decide
theorem dt_dq (b x y l : Int) : dt b x y l = 0 ∨ dq b x y l = 0 := by
  unfold dt dq; by_cases h : b = 0
  · right; rw [if_pos h]
  · rw [if_neg h, if_neg h]; by_cases h2 : x = l ∧ y = -1
    · right; rw [if_pos h2]
    · left; rw [if_neg h2]
theorem dz_0 (b v : Int) : dz b = 0 ∨ (if b = 0 then 0 else v) = 0 := by
  unfold dz; by_cases h : b = 0
  · right; rw [if_pos h]
  · left; rw [if_neg h]
theorem w0 {v : Int} (h : v = 0) : IntKind.wrap .u64 (IntKind.wrap .u32 v) = 0 := by subst h; decide
theorem ctz_le (w x : Nat) (h : x < 2 ^ w) : Lib.ctz w x ≤ w := by
  unfold Lib.ctz
  by_cases h0 : x = 0
  · rw [if_pos h0]; exact Nat.le_refl _
  · rw [if_neg h0]
    obtain ⟨m, e, h1⟩ := Lib.ctzFrom_spec w x (by omega) h
    omega

theorem U_69 : U 69 := by
  refine ⟨127, 127, q14_69, fun a => (bif ((IntKind.wrap .u32 a) == 0) then 1 else 0), ?_, ?_, ?_⟩
  · exact fun a _ => q11_69 a
  · exact fun _ a x _ _ h => by simp only [h]
  · exact fun a h => .inr (bif_lt _)

theorem U_103 : U 103 := by
  refine ⟨127, 127, q14_103, fun a => IntKind.wrap .u64 (((32 - Lib.bitLen (IntKind.wrap .u32 a).toNat) : Nat) : Int), ?_, ?_, ?_⟩
  · exact fun a h => by
      obtain ⟨A, h1, h2, h3⟩ := nat32 a
      have := q11_103 a A h1 h2
      rw [this]; simp only [h3]
  · exact fun _ a x _ _ h => by simp only [h]
  · exact fun a h => .inr (by
      obtain ⟨A, h1, h2, h3⟩ := nat32 a
      simp only [h3]; exact w64_lt _ (by omega))

theorem U_104 : U 104 := by
  refine ⟨127, 127, q14_104, fun a => IntKind.wrap .u64 (((Lib.ctz 32 (IntKind.wrap .u32 a).toNat) : Nat) : Int), ?_, ?_, ?_⟩
  · exact fun a h => by
      obtain ⟨A, h1, h2, h3⟩ := nat32 a
      have := q11_104 a A h1 h2
      rw [this]; simp only [h3]
  · exact fun _ a x _ _ h => by simp only [h]
  · exact fun a h => .inr (by
      obtain ⟨A, h1, h2, h3⟩ := nat32 a
      simp only [h3]; exact w64_lt _ (by have := ctz_le 32 A (by omega); omega))

theorem U_105 : U 105 := by
  refine ⟨127, 127, q14_105, fun a => IntKind.wrap .u64 (((pop (IntKind.wrap .u32 a).toNat) : Nat) : Int), ?_, ?_, ?_⟩
  · exact fun a h => by
      obtain ⟨A, h1, h2, h3⟩ := nat32 a
      have := q11_105 a A h1 h2
      rw [this]; simp only [h3]
  · exact fun _ a x _ _ h => by simp only [h]
  · exact fun a h => .inr (by
      obtain ⟨A, h1, h2, h3⟩ := nat32 a
      simp only [h3]; exact w64_lt _ (by have := pop_le A; omega))

theorem U_192 : U 192 := by
  refine ⟨127, 127, q14_192, fun a => (IntKind.wrap .u64 (IntKind.wrap .u32 (IntKind.wrap .i32 (IntKind.wrap .i8 a)))), ?_, ?_, ?_⟩
  · exact fun a _ => q11_192 a
  · exact fun _ a x _ _ h => by simp only [wrap_u64, wrap_u32, wrap_i32, wrap_i16, wrap_i8] at h ⊢; omega
  · exact fun a h => .inr (by simp only [wrap_u64, wrap_u32, wrap_i32, wrap_i16, wrap_i8]; omega)

theorem U_193 : U 193 := by
  refine ⟨127, 127, q14_193, fun a => (IntKind.wrap .u64 (IntKind.wrap .u32 (IntKind.wrap .i32 (IntKind.wrap .i16 a)))), ?_, ?_, ?_⟩
  · exact fun a _ => q11_193 a
  · exact fun _ a x _ _ h => by simp only [wrap_u64, wrap_u32, wrap_i32, wrap_i16, wrap_i8] at h ⊢; omega
  · exact fun a h => .inr (by simp only [wrap_u64, wrap_u32, wrap_i32, wrap_i16, wrap_i8]; omega)

theorem U_80 : U 80 := by
  refine ⟨126, 127, q14_80, fun a => (bif (a == 0) then 1 else 0), ?_, ?_, ?_⟩
  · exact fun a _ => q11_80 a
  · exact fun h => by omega
  · exact fun a h => .inr (bif_lt _)

theorem U_167 : U 167 := by
  refine ⟨126, 127, q14_167, fun a => (IntKind.wrap .u64 (IntKind.wrap .u32 a)), ?_, ?_, ?_⟩
  · exact fun a _ => q11_167 a
  · exact fun h => by omega
  · exact fun a h => .inr (by simp only [wrap_u64, wrap_u32, wrap_i32, wrap_i16, wrap_i8]; omega)

theorem U_121 : U 121 := by
  refine ⟨126, 126, q14_121, fun a => IntKind.wrap .u64 (((64 - Lib.bitLen (a).toNat) : Nat) : Int), ?_, ?_, ?_⟩
  · exact fun a h => by
      obtain ⟨A, h1⟩ := nats h.1
      subst h1
      exact q11_121 _ A rfl (by have := h.2; omega)
  · exact fun h => by omega
  · exact fun a h => .inl rfl

theorem U_122 : U 122 := by
  refine ⟨126, 126, q14_122, fun a => IntKind.wrap .u64 (((Lib.ctz 64 (a).toNat) : Nat) : Int), ?_, ?_, ?_⟩
  · exact fun a h => by
      obtain ⟨A, h1⟩ := nats h.1
      subst h1
      exact q11_122 _ A rfl (by have := h.2; omega)
  · exact fun h => by omega
  · exact fun a h => .inl rfl

theorem U_123 : U 123 := by
  refine ⟨126, 126, q14_123, fun a => IntKind.wrap .u64 (((pop (a).toNat) : Nat) : Int), ?_, ?_, ?_⟩
  · exact fun a h => by
      obtain ⟨A, h1⟩ := nats h.1
      subst h1
      exact q11_123 _ A rfl (by have := h.2; omega)
  · exact fun h => by omega
  · exact fun a h => .inl rfl

theorem U_194 : U 194 := by
  refine ⟨126, 126, q14_194, fun a => (IntKind.wrap .u64 (IntKind.wrap .i64 (IntKind.wrap .i8 a))), ?_, ?_, ?_⟩
  · exact fun a _ => q11_194 a
  · exact fun h => by omega
  · exact fun a h => .inl rfl

theorem U_195 : U 195 := by
  refine ⟨126, 126, q14_195, fun a => (IntKind.wrap .u64 (IntKind.wrap .i64 (IntKind.wrap .i16 a))), ?_, ?_, ?_⟩
  · exact fun a _ => q11_195 a
  · exact fun h => by omega
  · exact fun a h => .inl rfl

theorem U_196 : U 196 := by
  refine ⟨126, 126, q14_196, fun a => (IntKind.wrap .u64 (IntKind.wrap .i64 (IntKind.wrap .i32 (IntKind.wrap .u32 a)))), ?_, ?_, ?_⟩
  · exact fun a _ => q11_196 a
  · exact fun h => by omega
  · exact fun a h => .inl rfl

theorem U_172 : U 172 := by
  refine ⟨127, 126, q14_172, fun a => (IntKind.wrap .u64 (IntKind.wrap .i64 (IntKind.wrap .i32 (IntKind.wrap .u32 a)))), ?_, ?_, ?_⟩
  · exact fun a _ => q11_172 a
  · exact fun _ a x _ _ h => by simp only [h]
  · exact fun a h => .inl rfl

theorem U_173 : U 173 := by
  refine ⟨127, 126, q14_173, fun a => (IntKind.wrap .u64 (IntKind.wrap .u32 a)), ?_, ?_, ?_⟩
  · exact fun a _ => q11_173 a
  · exact fun _ a x _ _ h => by simp only [h]
  · exact fun a h => .inl rfl

theorem B_70 : B 70 := by
  refine ⟨127, 127, q14_70, fun a b => (bif ((IntKind.wrap .u64 (IntKind.wrap .u32 a)) == (IntKind.wrap .u64 (IntKind.wrap .u32 b))) then 1 else 0), fun a b => 0, ?_, ?_, ?_, ?_⟩
  · exact fun a b ha hb => q10_70 a b
  · exact fun _ a x b y h1 h2 => by simp only [h1, h2, and_self]
  · exact fun a b => .inr (bif_lt _)
  · exact fun a b => .inl rfl

theorem B_71 : B 71 := by
  refine ⟨127, 127, q14_71, fun a b => (bif ((IntKind.wrap .u64 (IntKind.wrap .u32 a)) != (IntKind.wrap .u64 (IntKind.wrap .u32 b))) then 1 else 0), fun a b => 0, ?_, ?_, ?_, ?_⟩
  · exact fun a b ha hb => q10_71 a b
  · exact fun _ a x b y h1 h2 => by simp only [h1, h2, and_self]
  · exact fun a b => .inr (bif_lt _)
  · exact fun a b => .inl rfl

theorem B_72 : B 72 := by
  refine ⟨127, 127, q14_72, fun a b => (bif (decide ((IntKind.wrap .i64 (IntKind.wrap .i32 (IntKind.wrap .u64 (IntKind.wrap .u32 a)))) < (IntKind.wrap .i64 (IntKind.wrap .i32 (IntKind.wrap .u64 (IntKind.wrap .u32 b)))))) then 1 else 0), fun a b => 0, ?_, ?_, ?_, ?_⟩
  · exact fun a b ha hb => q10_72 a b
  · exact fun _ a x b y h1 h2 => by simp only [h1, h2, and_self]
  · exact fun a b => .inr (bif_lt _)
  · exact fun a b => .inl rfl

theorem B_73 : B 73 := by
  refine ⟨127, 127, q14_73, fun a b => (bif (decide ((IntKind.wrap .u64 (IntKind.wrap .u32 a)) < (IntKind.wrap .u64 (IntKind.wrap .u32 b)))) then 1 else 0), fun a b => 0, ?_, ?_, ?_, ?_⟩
  · exact fun a b ha hb => q10_73 a b
  · exact fun _ a x b y h1 h2 => by simp only [h1, h2, and_self]
  · exact fun a b => .inr (bif_lt _)
  · exact fun a b => .inl rfl

theorem B_74 : B 74 := by
  refine ⟨127, 127, q14_74, fun a b => (bif (decide ((IntKind.wrap .i64 (IntKind.wrap .i32 (IntKind.wrap .u64 (IntKind.wrap .u32 a)))) > (IntKind.wrap .i64 (IntKind.wrap .i32 (IntKind.wrap .u64 (IntKind.wrap .u32 b)))))) then 1 else 0), fun a b => 0, ?_, ?_, ?_, ?_⟩
  · exact fun a b ha hb => q10_74 a b
  · exact fun _ a x b y h1 h2 => by simp only [h1, h2, and_self]
  · exact fun a b => .inr (bif_lt _)
  · exact fun a b => .inl rfl

theorem B_75 : B 75 := by
  refine ⟨127, 127, q14_75, fun a b => (bif (decide ((IntKind.wrap .u64 (IntKind.wrap .u32 a)) > (IntKind.wrap .u64 (IntKind.wrap .u32 b)))) then 1 else 0), fun a b => 0, ?_, ?_, ?_, ?_⟩
  · exact fun a b ha hb => q10_75 a b
  · exact fun _ a x b y h1 h2 => by simp only [h1, h2, and_self]
  · exact fun a b => .inr (bif_lt _)
  · exact fun a b => .inl rfl

theorem B_76 : B 76 := by
  refine ⟨127, 127, q14_76, fun a b => (bif (decide ((IntKind.wrap .i64 (IntKind.wrap .i32 (IntKind.wrap .u64 (IntKind.wrap .u32 a)))) ≤ (IntKind.wrap .i64 (IntKind.wrap .i32 (IntKind.wrap .u64 (IntKind.wrap .u32 b)))))) then 1 else 0), fun a b => 0, ?_, ?_, ?_, ?_⟩
  · exact fun a b ha hb => q10_76 a b
  · exact fun _ a x b y h1 h2 => by simp only [h1, h2, and_self]
  · exact fun a b => .inr (bif_lt _)
  · exact fun a b => .inl rfl

theorem B_77 : B 77 := by
  refine ⟨127, 127, q14_77, fun a b => (bif (decide ((IntKind.wrap .u64 (IntKind.wrap .u32 a)) ≤ (IntKind.wrap .u64 (IntKind.wrap .u32 b)))) then 1 else 0), fun a b => 0, ?_, ?_, ?_, ?_⟩
  · exact fun a b ha hb => q10_77 a b
  · exact fun _ a x b y h1 h2 => by simp only [h1, h2, and_self]
  · exact fun a b => .inr (bif_lt _)
  · exact fun a b => .inl rfl

theorem B_78 : B 78 := by
  refine ⟨127, 127, q14_78, fun a b => (bif (decide ((IntKind.wrap .i64 (IntKind.wrap .i32 (IntKind.wrap .u64 (IntKind.wrap .u32 a)))) ≥ (IntKind.wrap .i64 (IntKind.wrap .i32 (IntKind.wrap .u64 (IntKind.wrap .u32 b)))))) then 1 else 0), fun a b => 0, ?_, ?_, ?_, ?_⟩
  · exact fun a b ha hb => q10_78 a b
  · exact fun _ a x b y h1 h2 => by simp only [h1, h2, and_self]
  · exact fun a b => .inr (bif_lt _)
  · exact fun a b => .inl rfl

theorem B_79 : B 79 := by
  refine ⟨127, 127, q14_79, fun a b => (bif (decide ((IntKind.wrap .u64 (IntKind.wrap .u32 a)) ≥ (IntKind.wrap .u64 (IntKind.wrap .u32 b)))) then 1 else 0), fun a b => 0, ?_, ?_, ?_, ?_⟩
  · exact fun a b ha hb => q10_79 a b
  · exact fun _ a x b y h1 h2 => by simp only [h1, h2, and_self]
  · exact fun a b => .inr (bif_lt _)
  · exact fun a b => .inl rfl

theorem B_106 : B 106 := by
  refine ⟨127, 127, q14_106, fun a b => (IntKind.wrap .u64 (IntKind.wrap .u32 (arI .add .u64 (IntKind.wrap .u64 (IntKind.wrap .u32 a)) (IntKind.wrap .u64 (IntKind.wrap .u32 b))))), fun a b => 0, ?_, ?_, ?_, ?_⟩
  · exact fun a b ha hb => q10_106 a b
  · exact fun _ a x b y h1 h2 => by simp only [h1, h2, and_self]
  · exact fun a b => .inr (u32_lt _)
  · exact fun a b => .inl rfl

theorem B_107 : B 107 := by
  refine ⟨127, 127, q14_107, fun a b => (IntKind.wrap .u64 (IntKind.wrap .u32 (arI .sub .u64 (IntKind.wrap .u64 (IntKind.wrap .u32 a)) (IntKind.wrap .u64 (IntKind.wrap .u32 b))))), fun a b => 0, ?_, ?_, ?_, ?_⟩
  · exact fun a b ha hb => q10_107 a b
  · exact fun _ a x b y h1 h2 => by simp only [h1, h2, and_self]
  · exact fun a b => .inr (u32_lt _)
  · exact fun a b => .inl rfl

theorem B_108 : B 108 := by
  refine ⟨127, 127, q14_108, fun a b => (IntKind.wrap .u64 (IntKind.wrap .u32 (arI .mul .u64 (IntKind.wrap .u64 (IntKind.wrap .u32 a)) (IntKind.wrap .u64 (IntKind.wrap .u32 b))))), fun a b => 0, ?_, ?_, ?_, ?_⟩
  · exact fun a b ha hb => q10_108 a b
  · exact fun _ a x b y h1 h2 => by simp only [h1, h2, and_self]
  · exact fun a b => .inr (u32_lt _)
  · exact fun a b => .inl rfl

theorem B_109 : B 109 := by
  refine ⟨127, 127, q14_109, fun a b => (IntKind.wrap .u64 (IntKind.wrap .u32 (dq (IntKind.wrap .u64 (IntKind.wrap .u32 b)) (IntKind.wrap .i64 (IntKind.wrap .i32 (IntKind.wrap .u64 (IntKind.wrap .u32 a)))) (IntKind.wrap .i64 (IntKind.wrap .i32 (IntKind.wrap .u64 (IntKind.wrap .u32 b)))) (-2147483648)))), fun a b => (dt (IntKind.wrap .u64 (IntKind.wrap .u32 b)) (IntKind.wrap .i64 (IntKind.wrap .i32 (IntKind.wrap .u64 (IntKind.wrap .u32 a)))) (IntKind.wrap .i64 (IntKind.wrap .i32 (IntKind.wrap .u64 (IntKind.wrap .u32 b)))) (-2147483648)), ?_, ?_, ?_, ?_⟩
  · exact fun a b ha hb => q10_109 a b
  · exact fun _ a x b y h1 h2 => by simp only [h1, h2, and_self]
  · exact fun a b => .inr (u32_lt _)
  · exact fun a b => (dt_dq _ _ _ _).imp id w0

theorem B_110 : B 110 := by
  refine ⟨127, 127, q14_110, fun a b => (IntKind.wrap .u64 (IntKind.wrap .u32 (uq (IntKind.wrap .u64 (IntKind.wrap .u32 a)) (IntKind.wrap .u64 (IntKind.wrap .u32 b))))), fun a b => (dz (IntKind.wrap .u64 (IntKind.wrap .u32 b))), ?_, ?_, ?_, ?_⟩
  · exact fun a b ha hb => q10_110 a b
  · exact fun _ a x b y h1 h2 => by simp only [h1, h2, and_self]
  · exact fun a b => .inr (u32_lt _)
  · exact fun a b => (dz_0 _ _).imp id w0

theorem B_111 : B 111 := by
  refine ⟨127, 127, q14_111, fun a b => (IntKind.wrap .u64 (IntKind.wrap .u32 (dr (IntKind.wrap .u64 (IntKind.wrap .u32 b)) (IntKind.wrap .i64 (IntKind.wrap .i32 (IntKind.wrap .u64 (IntKind.wrap .u32 a)))) (IntKind.wrap .i64 (IntKind.wrap .i32 (IntKind.wrap .u64 (IntKind.wrap .u32 b))))))), fun a b => (dz (IntKind.wrap .u64 (IntKind.wrap .u32 b))), ?_, ?_, ?_, ?_⟩
  · exact fun a b ha hb => q10_111 a b
  · exact fun _ a x b y h1 h2 => by simp only [h1, h2, and_self]
  · exact fun a b => .inr (u32_lt _)
  · exact fun a b => (dz_0 _ _).imp id w0

theorem B_112 : B 112 := by
  refine ⟨127, 127, q14_112, fun a b => (IntKind.wrap .u64 (IntKind.wrap .u32 (ur (IntKind.wrap .u64 (IntKind.wrap .u32 a)) (IntKind.wrap .u64 (IntKind.wrap .u32 b))))), fun a b => (dz (IntKind.wrap .u64 (IntKind.wrap .u32 b))), ?_, ?_, ?_, ?_⟩
  · exact fun a b ha hb => q10_112 a b
  · exact fun _ a x b y h1 h2 => by simp only [h1, h2, and_self]
  · exact fun a b => .inr (u32_lt _)
  · exact fun a b => (dz_0 _ _).imp id w0

theorem B_113 : B 113 := by
  refine ⟨127, 127, q14_113, fun a b => (IntKind.wrap .u64 (IntKind.wrap .u32 (arI .and .u64 (IntKind.wrap .u64 (IntKind.wrap .u32 a)) (IntKind.wrap .u64 (IntKind.wrap .u32 b))))), fun a b => 0, ?_, ?_, ?_, ?_⟩
  · exact fun a b ha hb => q10_113 a b
  · exact fun _ a x b y h1 h2 => by simp only [h1, h2, and_self]
  · exact fun a b => .inr (u32_lt _)
  · exact fun a b => .inl rfl

theorem B_114 : B 114 := by
  refine ⟨127, 127, q14_114, fun a b => (IntKind.wrap .u64 (IntKind.wrap .u32 (arI .or .u64 (IntKind.wrap .u64 (IntKind.wrap .u32 a)) (IntKind.wrap .u64 (IntKind.wrap .u32 b))))), fun a b => 0, ?_, ?_, ?_, ?_⟩
  · exact fun a b ha hb => q10_114 a b
  · exact fun _ a x b y h1 h2 => by simp only [h1, h2, and_self]
  · exact fun a b => .inr (u32_lt _)
  · exact fun a b => .inl rfl

theorem B_115 : B 115 := by
  refine ⟨127, 127, q14_115, fun a b => (IntKind.wrap .u64 (IntKind.wrap .u32 (arI .xor .u64 (IntKind.wrap .u64 (IntKind.wrap .u32 a)) (IntKind.wrap .u64 (IntKind.wrap .u32 b))))), fun a b => 0, ?_, ?_, ?_, ?_⟩
  · exact fun a b ha hb => q10_115 a b
  · exact fun _ a x b y h1 h2 => by simp only [h1, h2, and_self]
  · exact fun a b => .inr (u32_lt _)
  · exact fun a b => .inl rfl

theorem B_116 : B 116 := by
  refine ⟨127, 127, q14_116, fun a b => (IntKind.wrap .u64 (IntKind.wrap .u32 (arI .shl .u64 (IntKind.wrap .u64 (IntKind.wrap .u32 a)) (arI .rem .u64 (IntKind.wrap .u64 (IntKind.wrap .u32 b)) (32 : Int))))), fun a b => 0, ?_, ?_, ?_, ?_⟩
  · exact fun a b ha hb => q10_116 a b
  · exact fun _ a x b y h1 h2 => by simp only [h1, h2, and_self]
  · exact fun a b => .inr (u32_lt _)
  · exact fun a b => .inl rfl

theorem B_117 : B 117 := by
  refine ⟨127, 127, q14_117, fun a b => (IntKind.wrap .u64 (IntKind.wrap .u32 (IntKind.wrap .u64 (arI .shr .i64 (IntKind.wrap .i64 (IntKind.wrap .i32 (IntKind.wrap .u64 (IntKind.wrap .u32 a)))) (arI .rem .u64 (IntKind.wrap .u64 (IntKind.wrap .u32 b)) (32 : Int)))))), fun a b => 0, ?_, ?_, ?_, ?_⟩
  · exact fun a b ha hb => q10_117 a b
  · exact fun _ a x b y h1 h2 => by simp only [h1, h2, and_self]
  · exact fun a b => .inr (u32_lt _)
  · exact fun a b => .inl rfl

theorem B_118 : B 118 := by
  refine ⟨127, 127, q14_118, fun a b => (IntKind.wrap .u64 (IntKind.wrap .u32 (arI .shr .u64 (IntKind.wrap .u64 (IntKind.wrap .u32 a)) (arI .rem .u64 (IntKind.wrap .u64 (IntKind.wrap .u32 b)) (32 : Int))))), fun a b => 0, ?_, ?_, ?_, ?_⟩
  · exact fun a b ha hb => q10_118 a b
  · exact fun _ a x b y h1 h2 => by simp only [h1, h2, and_self]
  · exact fun a b => .inr (u32_lt _)
  · exact fun a b => .inl rfl

theorem B_119 : B 119 := by
  refine ⟨127, 127, q14_119, fun a b => (IntKind.wrap .u64 (IntKind.wrap .u32 (arI .or .u64 (arI .shl .u64 (IntKind.wrap .u64 (IntKind.wrap .u32 a)) (arI .rem .u64 (IntKind.wrap .u64 (IntKind.wrap .u32 b)) (32 : Int))) (arI .shr .u64 (IntKind.wrap .u64 (IntKind.wrap .u32 a)) (arI .sub .u64 (32 : Int) (arI .rem .u64 (IntKind.wrap .u64 (IntKind.wrap .u32 b)) (32 : Int))))))), fun a b => 0, ?_, ?_, ?_, ?_⟩
  · exact fun a b ha hb => q10_119 a b
  · exact fun _ a x b y h1 h2 => by simp only [h1, h2, and_self]
  · exact fun a b => .inr (u32_lt _)
  · exact fun a b => .inl rfl

theorem B_120 : B 120 := by
  refine ⟨127, 127, q14_120, fun a b => (IntKind.wrap .u64 (IntKind.wrap .u32 (arI .or .u64 (arI .shr .u64 (IntKind.wrap .u64 (IntKind.wrap .u32 a)) (arI .rem .u64 (IntKind.wrap .u64 (IntKind.wrap .u32 b)) (32 : Int))) (arI .shl .u64 (IntKind.wrap .u64 (IntKind.wrap .u32 a)) (arI .sub .u64 (32 : Int) (arI .rem .u64 (IntKind.wrap .u64 (IntKind.wrap .u32 b)) (32 : Int))))))), fun a b => 0, ?_, ?_, ?_, ?_⟩
  · exact fun a b ha hb => q10_120 a b
  · exact fun _ a x b y h1 h2 => by simp only [h1, h2, and_self]
  · exact fun a b => .inr (u32_lt _)
  · exact fun a b => .inl rfl

theorem B_81 : B 81 := by
  refine ⟨126, 127, q14_81, fun a b => (bif (a == b) then 1 else 0), fun a b => 0, ?_, ?_, ?_, ?_⟩
  · exact fun a b ha hb => q10_81 a b
  · exact fun h => by omega
  · exact fun a b => .inr (bif_lt _)
  · exact fun a b => .inl rfl

theorem B_82 : B 82 := by
  refine ⟨126, 127, q14_82, fun a b => (bif (a != b) then 1 else 0), fun a b => 0, ?_, ?_, ?_, ?_⟩
  · exact fun a b ha hb => q10_82 a b
  · exact fun h => by omega
  · exact fun a b => .inr (bif_lt _)
  · exact fun a b => .inl rfl

theorem B_83 : B 83 := by
  refine ⟨126, 127, q14_83, fun a b => (bif (decide ((IntKind.wrap .i64 a) < (IntKind.wrap .i64 b))) then 1 else 0), fun a b => 0, ?_, ?_, ?_, ?_⟩
  · exact fun a b ha hb => q10_83 a b
  · exact fun h => by omega
  · exact fun a b => .inr (bif_lt _)
  · exact fun a b => .inl rfl

theorem B_84 : B 84 := by
  refine ⟨126, 127, q14_84, fun a b => (bif (decide (a < b)) then 1 else 0), fun a b => 0, ?_, ?_, ?_, ?_⟩
  · exact fun a b ha hb => q10_84 a b
  · exact fun h => by omega
  · exact fun a b => .inr (bif_lt _)
  · exact fun a b => .inl rfl

theorem B_85 : B 85 := by
  refine ⟨126, 127, q14_85, fun a b => (bif (decide ((IntKind.wrap .i64 a) > (IntKind.wrap .i64 b))) then 1 else 0), fun a b => 0, ?_, ?_, ?_, ?_⟩
  · exact fun a b ha hb => q10_85 a b
  · exact fun h => by omega
  · exact fun a b => .inr (bif_lt _)
  · exact fun a b => .inl rfl

theorem B_86 : B 86 := by
  refine ⟨126, 127, q14_86, fun a b => (bif (decide (a > b)) then 1 else 0), fun a b => 0, ?_, ?_, ?_, ?_⟩
  · exact fun a b ha hb => q10_86 a b
  · exact fun h => by omega
  · exact fun a b => .inr (bif_lt _)
  · exact fun a b => .inl rfl

theorem B_87 : B 87 := by
  refine ⟨126, 127, q14_87, fun a b => (bif (decide ((IntKind.wrap .i64 a) ≤ (IntKind.wrap .i64 b))) then 1 else 0), fun a b => 0, ?_, ?_, ?_, ?_⟩
  · exact fun a b ha hb => q10_87 a b
  · exact fun h => by omega
  · exact fun a b => .inr (bif_lt _)
  · exact fun a b => .inl rfl

theorem B_88 : B 88 := by
  refine ⟨126, 127, q14_88, fun a b => (bif (decide (a ≤ b)) then 1 else 0), fun a b => 0, ?_, ?_, ?_, ?_⟩
  · exact fun a b ha hb => q10_88 a b
  · exact fun h => by omega
  · exact fun a b => .inr (bif_lt _)
  · exact fun a b => .inl rfl

theorem B_89 : B 89 := by
  refine ⟨126, 127, q14_89, fun a b => (bif (decide ((IntKind.wrap .i64 a) ≥ (IntKind.wrap .i64 b))) then 1 else 0), fun a b => 0, ?_, ?_, ?_, ?_⟩
  · exact fun a b ha hb => q10_89 a b
  · exact fun h => by omega
  · exact fun a b => .inr (bif_lt _)
  · exact fun a b => .inl rfl

theorem B_90 : B 90 := by
  refine ⟨126, 127, q14_90, fun a b => (bif (decide (a ≥ b)) then 1 else 0), fun a b => 0, ?_, ?_, ?_, ?_⟩
  · exact fun a b ha hb => q10_90 a b
  · exact fun h => by omega
  · exact fun a b => .inr (bif_lt _)
  · exact fun a b => .inl rfl

theorem B_124 : B 124 := by
  refine ⟨126, 126, q14_124, fun a b => (arI .add .u64 a b), fun a b => 0, ?_, ?_, ?_, ?_⟩
  · exact fun a b ha hb => q10_124 a b
  · exact fun h => by omega
  · exact fun a b => .inl rfl
  · exact fun a b => .inl rfl

theorem B_125 : B 125 := by
  refine ⟨126, 126, q14_125, fun a b => (arI .sub .u64 a b), fun a b => 0, ?_, ?_, ?_, ?_⟩
  · exact fun a b ha hb => q10_125 a b
  · exact fun h => by omega
  · exact fun a b => .inl rfl
  · exact fun a b => .inl rfl

theorem B_126 : B 126 := by
  refine ⟨126, 126, q14_126, fun a b => (arI .mul .u64 a b), fun a b => 0, ?_, ?_, ?_, ?_⟩
  · exact fun a b ha hb => q10_126 a b
  · exact fun h => by omega
  · exact fun a b => .inl rfl
  · exact fun a b => .inl rfl

theorem B_127 : B 127 := by
  refine ⟨126, 126, q14_127, fun a b => (dq b (IntKind.wrap .i64 a) (IntKind.wrap .i64 b) (-9223372036854775808)), fun a b => (dt b (IntKind.wrap .i64 a) (IntKind.wrap .i64 b) (-9223372036854775808)), ?_, ?_, ?_, ?_⟩
  · exact fun a b ha hb => q10_127 a b hb.1 hb.2
  · exact fun h => by omega
  · exact fun a b => .inl rfl
  · exact fun a b => dt_dq _ _ _ _

theorem B_128 : B 128 := by
  refine ⟨126, 126, q14_128, fun a b => (uq a b), fun a b => (dz b), ?_, ?_, ?_, ?_⟩
  · exact fun a b ha hb => q10_128 a b hb.1 hb.2
  · exact fun h => by omega
  · exact fun a b => .inl rfl
  · exact fun a b => dz_0 _ _

theorem B_129 : B 129 := by
  refine ⟨126, 126, q14_129, fun a b => (dr b (IntKind.wrap .i64 a) (IntKind.wrap .i64 b)), fun a b => (dz b), ?_, ?_, ?_, ?_⟩
  · exact fun a b ha hb => q10_129 a b hb.1 hb.2
  · exact fun h => by omega
  · exact fun a b => .inl rfl
  · exact fun a b => dz_0 _ _

theorem B_130 : B 130 := by
  refine ⟨126, 126, q14_130, fun a b => (ur a b), fun a b => (dz b), ?_, ?_, ?_, ?_⟩
  · exact fun a b ha hb => q10_130 a b hb.1 hb.2
  · exact fun h => by omega
  · exact fun a b => .inl rfl
  · exact fun a b => dz_0 _ _

theorem B_131 : B 131 := by
  refine ⟨126, 126, q14_131, fun a b => (arI .and .u64 a b), fun a b => 0, ?_, ?_, ?_, ?_⟩
  · exact fun a b ha hb => q10_131 a b
  · exact fun h => by omega
  · exact fun a b => .inl rfl
  · exact fun a b => .inl rfl

theorem B_132 : B 132 := by
  refine ⟨126, 126, q14_132, fun a b => (arI .or .u64 a b), fun a b => 0, ?_, ?_, ?_, ?_⟩
  · exact fun a b ha hb => q10_132 a b
  · exact fun h => by omega
  · exact fun a b => .inl rfl
  · exact fun a b => .inl rfl

theorem B_133 : B 133 := by
  refine ⟨126, 126, q14_133, fun a b => (arI .xor .u64 a b), fun a b => 0, ?_, ?_, ?_, ?_⟩
  · exact fun a b ha hb => q10_133 a b
  · exact fun h => by omega
  · exact fun a b => .inl rfl
  · exact fun a b => .inl rfl

theorem B_134 : B 134 := by
  refine ⟨126, 126, q14_134, fun a b => (arI .shl .u64 a (arI .rem .u64 b (64 : Int))), fun a b => 0, ?_, ?_, ?_, ?_⟩
  · exact fun a b ha hb => q10_134 a b hb.1
  · exact fun h => by omega
  · exact fun a b => .inl rfl
  · exact fun a b => .inl rfl

theorem B_135 : B 135 := by
  refine ⟨126, 126, q14_135, fun a b => (IntKind.wrap .u64 (arI .shr .i64 (IntKind.wrap .i64 a) (arI .rem .u64 b (64 : Int)))), fun a b => 0, ?_, ?_, ?_, ?_⟩
  · exact fun a b ha hb => q10_135 a b hb.1
  · exact fun h => by omega
  · exact fun a b => .inl rfl
  · exact fun a b => .inl rfl

theorem B_136 : B 136 := by
  refine ⟨126, 126, q14_136, fun a b => (arI .shr .u64 a (arI .rem .u64 b (64 : Int))), fun a b => 0, ?_, ?_, ?_, ?_⟩
  · exact fun a b ha hb => q10_136 a b hb.1
  · exact fun h => by omega
  · exact fun a b => .inl rfl
  · exact fun a b => .inl rfl

theorem B_137 : B 137 := by
  refine ⟨126, 126, q14_137, fun a b => (arI .or .u64 (arI .shl .u64 a (arI .rem .u64 b (64 : Int))) (arI .shr .u64 a (arI .sub .u64 (64 : Int) (arI .rem .u64 b (64 : Int))))), fun a b => 0, ?_, ?_, ?_, ?_⟩
  · exact fun a b ha hb => q10_137 a b hb.1
  · exact fun h => by omega
  · exact fun a b => .inl rfl
  · exact fun a b => .inl rfl

theorem B_138 : B 138 := by
  refine ⟨126, 126, q14_138, fun a b => (arI .or .u64 (arI .shr .u64 a (arI .rem .u64 b (64 : Int))) (arI .shl .u64 a (arI .sub .u64 (64 : Int) (arI .rem .u64 b (64 : Int))))), fun a b => 0, ?_, ?_, ?_, ?_⟩
  · exact fun a b ha hb => q10_138 a b hb.1
  · exact fun h => by omega
  · exact fun a b => .inl rfl
  · exact fun a b => .inl rfl

theorem cases (op : Int) : F14 [op] [] = some ([0, 0, 0, 0], [false]) ∨ U op ∨ B op := by

  by_cases h69 : 69 ≤ op ∧ op ≤ 90

  · by_cases e69 : op = 69
    · subst e69; exact .inr (.inl U_69)

    by_cases e70 : op = 70
    · subst e70; exact .inr (.inr B_70)

    by_cases e71 : op = 71
    · subst e71; exact .inr (.inr B_71)

    by_cases e72 : op = 72
    · subst e72; exact .inr (.inr B_72)

    by_cases e73 : op = 73
    · subst e73; exact .inr (.inr B_73)

    by_cases e74 : op = 74
    · subst e74; exact .inr (.inr B_74)

    by_cases e75 : op = 75
    · subst e75; exact .inr (.inr B_75)

    by_cases e76 : op = 76
    · subst e76; exact .inr (.inr B_76)

    by_cases e77 : op = 77
    · subst e77; exact .inr (.inr B_77)

    by_cases e78 : op = 78
    · subst e78; exact .inr (.inr B_78)

    by_cases e79 : op = 79
    · subst e79; exact .inr (.inr B_79)

    by_cases e80 : op = 80
    · subst e80; exact .inr (.inl U_80)

    by_cases e81 : op = 81
    · subst e81; exact .inr (.inr B_81)

    by_cases e82 : op = 82
    · subst e82; exact .inr (.inr B_82)

    by_cases e83 : op = 83
    · subst e83; exact .inr (.inr B_83)

    by_cases e84 : op = 84
    · subst e84; exact .inr (.inr B_84)

    by_cases e85 : op = 85
    · subst e85; exact .inr (.inr B_85)

    by_cases e86 : op = 86
    · subst e86; exact .inr (.inr B_86)

    by_cases e87 : op = 87
    · subst e87; exact .inr (.inr B_87)

    by_cases e88 : op = 88
    · subst e88; exact .inr (.inr B_88)

    by_cases e89 : op = 89
    · subst e89; exact .inr (.inr B_89)

    have e90 : op = 90 := by omega
    subst e90; exact .inr (.inr B_90)

  by_cases h103 : 103 ≤ op ∧ op ≤ 138

  · by_cases e103 : op = 103
    · subst e103; exact .inr (.inl U_103)

    by_cases e104 : op = 104
    · subst e104; exact .inr (.inl U_104)

    by_cases e105 : op = 105
    · subst e105; exact .inr (.inl U_105)

    by_cases e106 : op = 106
    · subst e106; exact .inr (.inr B_106)

    by_cases e107 : op = 107
    · subst e107; exact .inr (.inr B_107)

    by_cases e108 : op = 108
    · subst e108; exact .inr (.inr B_108)

    by_cases e109 : op = 109
    · subst e109; exact .inr (.inr B_109)

    by_cases e110 : op = 110
    · subst e110; exact .inr (.inr B_110)

    by_cases e111 : op = 111
    · subst e111; exact .inr (.inr B_111)

    by_cases e112 : op = 112
    · subst e112; exact .inr (.inr B_112)

    by_cases e113 : op = 113
    · subst e113; exact .inr (.inr B_113)

    by_cases e114 : op = 114
    · subst e114; exact .inr (.inr B_114)

    by_cases e115 : op = 115
    · subst e115; exact .inr (.inr B_115)

    by_cases e116 : op = 116
    · subst e116; exact .inr (.inr B_116)

    by_cases e117 : op = 117
    · subst e117; exact .inr (.inr B_117)

    by_cases e118 : op = 118
    · subst e118; exact .inr (.inr B_118)

    by_cases e119 : op = 119
    · subst e119; exact .inr (.inr B_119)

    by_cases e120 : op = 120
    · subst e120; exact .inr (.inr B_120)

    by_cases e121 : op = 121
    · subst e121; exact .inr (.inl U_121)

    by_cases e122 : op = 122
    · subst e122; exact .inr (.inl U_122)

    by_cases e123 : op = 123
    · subst e123; exact .inr (.inl U_123)

    by_cases e124 : op = 124
    · subst e124; exact .inr (.inr B_124)

    by_cases e125 : op = 125
    · subst e125; exact .inr (.inr B_125)

    by_cases e126 : op = 126
    · subst e126; exact .inr (.inr B_126)

    by_cases e127 : op = 127
    · subst e127; exact .inr (.inr B_127)

    by_cases e128 : op = 128
    · subst e128; exact .inr (.inr B_128)

    by_cases e129 : op = 129
    · subst e129; exact .inr (.inr B_129)

    by_cases e130 : op = 130
    · subst e130; exact .inr (.inr B_130)

    by_cases e131 : op = 131
    · subst e131; exact .inr (.inr B_131)

    by_cases e132 : op = 132
    · subst e132; exact .inr (.inr B_132)

    by_cases e133 : op = 133
    · subst e133; exact .inr (.inr B_133)

    by_cases e134 : op = 134
    · subst e134; exact .inr (.inr B_134)

    by_cases e135 : op = 135
    · subst e135; exact .inr (.inr B_135)

    by_cases e136 : op = 136
    · subst e136; exact .inr (.inr B_136)

    by_cases e137 : op = 137
    · subst e137; exact .inr (.inr B_137)

    have e138 : op = 138 := by omega
    subst e138; exact .inr (.inr B_138)

  by_cases h167 : 167 ≤ op ∧ op ≤ 167

  · have e167 : op = 167 := by omega
    subst e167; exact .inr (.inl U_167)

  by_cases h172 : 172 ≤ op ∧ op ≤ 173

  · by_cases e172 : op = 172
    · subst e172; exact .inr (.inl U_172)

    have e173 : op = 173 := by omega
    subst e173; exact .inr (.inl U_173)

  by_cases h192 : 192 ≤ op ∧ op ≤ 196

  · by_cases e192 : op = 192
    · subst e192; exact .inr (.inl U_192)

    by_cases e193 : op = 193
    · subst e193; exact .inr (.inl U_193)

    by_cases e194 : op = 194
    · subst e194; exact .inr (.inl U_194)

    by_cases e195 : op = 195
    · subst e195; exact .inr (.inl U_195)

    have e196 : op = 196 := by omega
    subst e196; exact .inr (.inl U_196)

  exact .inl (q14_out op (by omega))

theorem e8_9 : Tab.fn a8 9 = F9 := Tab.fn_hd
theorem e8_14 : Tab.fn a8 14 = F14 := ((Tab.fn_tl rfl).trans Tab.fn_hd)
theorem e8_11 : Tab.fn a8 11 = F11 := ((Tab.fn_tl rfl).trans ((Tab.fn_tl rfl).trans Tab.fn_hd))
theorem e8_10 : Tab.fn a8 10 = F10 := ((Tab.fn_tl rfl).trans ((Tab.fn_tl rfl).trans ((Tab.fn_tl rfl).trans Tab.fn_hd)))

theorem q9 : F9 [] [] = some ([], [true]) := by decide +kernel
theorem mix (a c : Int) (ha : InR a) (hc : InR c) (x : Int) (hx : x = (arI .or .u64 (arI .and .u64 a 4294967295) (arI .shl .u64 c 32))) : InR x ∧ IntKind.wrap .u32 a = IntKind.wrap .u32 x := by
  obtain ⟨A, rfl⟩ := nats ha.1
  obtain ⟨C, rfl⟩ := nats hc.1
  have hA : A < 2 ^ 64 := by have := ha.2; omega
  have hC : C < 2 ^ 64 := by have := hc.2; omega
  have h1 : A &&& 4294967295 = A % 2 ^ 32 := Nat.and_two_pow_sub_one_eq_mod A 32
  rw [show (4294967295 : Int) = ((4294967295 : Nat) : Int) from rfl, band _ _ hA (by decide), h1, show (32 : Int) = ((32 : Nat) : Int) from rfl, shlN _ _ (by decide), bor _ _ (by omega) (by omega)] at hx
  have h2 : A % 2 ^ 32 ||| C * 2 ^ 32 % 2 ^ 64 < 2 ^ 64 := Nat.or_lt_two_pow (by omega) (by omega)
  have h3 : (A % 2 ^ 32 ||| C * 2 ^ 32 % 2 ^ 64) % 2 ^ 32 = A % 2 ^ 32 := by
    rw [Nat.or_mod_two_pow, show C * 2 ^ 32 % 2 ^ 64 % 2 ^ 32 = 0 from by omega, Nat.or_zero, Nat.mod_mod]
  generalize A % 2 ^ 32 ||| C * 2 ^ 32 % 2 ^ 64 = z at *
  subst hx
  exact ⟨⟨by omega, by omega⟩, by rw [wrap_u32, wrap_u32]; omega⟩

theorem len_ne {i : Int} {n m : Int} (h : i = n) (hc : (i == m) = true) (hn : n ≠ m) : False := by rw [beq_iff_eq] at hc; omega
theorem len_no {i : Int} {n m : Int} (h : i = n) (hc : (i == m) = false) (hn : n = m) : False := by rw [beq_eq_false_iff_ne] at hc; omega

theorem rb {a b : Bool} (h : a = b) : (some ([], [a]) : Option (List Int × List Bool)) = some ([], [b]) := by rw [h]

set_option maxHeartbeats 4000000 in
theorem law_o (op a b c d : Int) (ha : InR a) (hb : InR b) (hc : InR c) (hd : InR d) (hT : F14 [op] [] = some ([0, 0, 0, 0], [false])) : F8 [op, a, b, c, d] [] = some ([], [true]) := by
  refine Eq.trans (Fd_of (n := 5) (m := 0) (t := t8) (C := Tab.fn a8) rfl rfl) ?_
  rw [t8]
  refine st_0_1 (e8_9) (g := true) rfl (l := []) rfl (m := []) rfl (cl_t q9) fun b0 hb0 => ?_
  show T.den _ _ [op, a, b, c, d] [b0] = _
  refine st_ite (fun hc => ?_) (fun hc => ?_)
  · replace hc : (!b0) = true := hc
    have c1 := hc
    clear hc
    refine st_ret ?_
    show some ([], [false]) = _
    rw [hb0] at c1; cases c1
  · replace hc : (!b0) = false := hc
    have c2 := hc
    clear hc
    refine st_4_1 (e8_14) (g := true) rfl (l := [op]) rfl (m := []) rfl (cl_t hT) fun i5 i6 i7 i8 b1 hi5 hi6 hi7 hi8 hb1 => ?_
    show T.den _ _ [op, a, b, c, d, i5, i6, i7, i8] [b0, b1] = _
    refine st_ite (fun hc => ?_) (fun hc => ?_)
    · replace hc : (i5 == 0) = true := hc
      have c3 := hc
      clear hc
      refine st_ite (fun hc => ?_) (fun hc => ?_)
      · replace hc : (!b1) = true := hc
        have c4 := hc
        clear hc
        refine st_ret ?_
        show some ([], [true]) = _
        rfl
      · replace hc : (!b1) = false := hc
        have c5 := hc
        clear hc
        rw [hb1] at c5; cases c5
    · replace hc : (i5 == 0) = false := hc
      have c6 := hc
      clear hc
      exact (len_no hi5 c6 rfl).elim

set_option maxHeartbeats 4000000 in
theorem law_u (op a b c d : Int) (ha : InR a) (hb : InR b) (hc : InR c) (hd : InR d) (hU : U op) : F8 [op, a, b, c, d] [] = some ([], [true]) := by
  obtain ⟨i, o, hT, f, hf, hc1, hbd⟩ := hU
  refine Eq.trans (Fd_of (n := 5) (m := 0) (t := t8) (C := Tab.fn a8) rfl rfl) ?_
  rw [t8]
  refine st_0_1 (e8_9) (g := true) rfl (l := []) rfl (m := []) rfl (cl_t q9) fun b0 hb0 => ?_
  show T.den _ _ [op, a, b, c, d] [b0] = _
  refine st_ite (fun hc => ?_) (fun hc => ?_)
  · replace hc : (!b0) = true := hc
    have c1 := hc
    clear hc
    refine st_ret ?_
    show some ([], [false]) = _
    rw [hb0] at c1; cases c1
  · replace hc : (!b0) = false := hc
    have c2 := hc
    clear hc
    refine st_4_1 (e8_14) (g := true) rfl (l := [op]) rfl (m := []) rfl (cl_t hT) fun i5 i6 i7 i8 b1 hi5 hi6 hi7 hi8 hb1 => ?_
    show T.den _ _ [op, a, b, c, d, i5, i6, i7, i8] [b0, b1] = _
    refine st_ite (fun hc => ?_) (fun hc => ?_)
    · replace hc : (i5 == 0) = true := hc
      have c3 := hc
      clear hc
      exact (len_ne hi5 c3 (by decide)).elim
    · replace hc : (i5 == 0) = false := hc
      have c4 := hc
      clear hc
      refine st_ite (fun hc => ?_) (fun hc => ?_)
      · replace hc : (i5 == 1) = true := hc
        have c5 := hc
        clear hc
        refine st_ite (fun hc => ?_) (fun hc => ?_)
        · replace hc : (!b1) = true := hc
          have c6 := hc
          clear hc
          refine st_ret ?_
          show some ([], [true]) = _
          rfl
        · replace hc : (!b1) = false := hc
          have c7 := hc
          clear hc
          refine st_ite (fun hc => ?_) (fun hc => ?_)
          · replace hc : (i6 == 127) = true := hc
            have c8 := hc
            clear hc
            refine st_li fun i9 hi9 => ?_
            replace hi9 : i9 = (arI .or .u64 (arI .and .u64 a 4294967295) (arI .shl .u64 c 32)) := hi9
            have hx := mix a c ha hc _  hi9
            show T.den _ _ [op, a, b, c, d, i5, i6, i7, i8, i9] [b0, b1] = _
            refine st_li fun i10 hi10 => ?_
            replace hi10 : i10 = (arI .or .u64 (arI .and .u64 b 4294967295) (arI .shl .u64 d 32)) := hi10
            have hy := mix b d hb hd _  hi10
            show T.den _ _ [op, a, b, c, d, i5, i6, i7, i8, i9, i10] [b0, b1] = _
            refine st_1_1 (e8_11) (g := true) rfl (l := [op, a]) rfl (m := []) rfl (cl_t (hf a ha)) fun i11 b2 hi11 hb2 => ?_
            show T.den _ _ [op, a, b, c, d, i5, i6, i7, i8, i9, i10, i11] [b0, b1, b2] = _
            refine st_1_1 (e8_11) (g := true) rfl (l := [op, i9]) rfl (m := []) rfl (cl_t (hf i9 hx.1)) fun i12 b3 hi12 hb3 => ?_
            show T.den _ _ [op, a, b, c, d, i5, i6, i7, i8, i9, i10, i11, i12] [b0, b1, b2, b3] = _
            refine st_lb fun b4 hb4 => ?_
            replace hb4 : b4 = ((i8 == 126) || (decide (i11 < 4294967296))) := hb4
            show T.den _ _ [op, a, b, c, d, i5, i6, i7, i8, i9, i10, i11, i12] [b0, b1, b2, b3, b4] = _
            refine st_ret ?_
            show some ([], [((i11 == i12) && b4)]) = _
            have e1 := (hc1 (by rw [← hi6]; exact (beq_iff_eq.1 c8)) a i9 ha hx.1 hx.2)
            have e2 := hbd a ha
            refine rb ?_
            rw [hb4, hi11, hi12, hi8, ← e1]
            simp only [beq_self_eq_true, Bool.true_and, Bool.or_eq_true, beq_iff_eq, decide_eq_true_eq]; exact e2
          · replace hc : (i6 == 127) = false := hc
            have c9 := hc
            clear hc
            refine st_1_1 (e8_11) (g := true) rfl (l := [op, a]) rfl (m := []) rfl (cl_t (hf a ha)) fun i9 b2 hi9 hb2 => ?_
            show T.den _ _ [op, a, b, c, d, i5, i6, i7, i8, i9] [b0, b1, b2] = _
            refine st_1_1 (e8_11) (g := true) rfl (l := [op, a]) rfl (m := []) rfl (cl_t (hf a ha)) fun i10 b3 hi10 hb3 => ?_
            show T.den _ _ [op, a, b, c, d, i5, i6, i7, i8, i9, i10] [b0, b1, b2, b3] = _
            refine st_lb fun b4 hb4 => ?_
            replace hb4 : b4 = ((i8 == 126) || (decide (i9 < 4294967296))) := hb4
            show T.den _ _ [op, a, b, c, d, i5, i6, i7, i8, i9, i10] [b0, b1, b2, b3, b4] = _
            refine st_ret ?_
            show some ([], [((i9 == i10) && b4)]) = _
            have e2 := hbd a ha
            refine rb ?_
            rw [hb4, hi9, hi10, hi8]
            simp only [beq_self_eq_true, Bool.true_and, Bool.or_eq_true, beq_iff_eq, decide_eq_true_eq]; exact e2
      · replace hc : (i5 == 1) = false := hc
        have c10 := hc
        clear hc
        exact (len_no hi5 c10 rfl).elim

set_option maxHeartbeats 4000000 in
theorem law_b (op a b c d : Int) (ha : InR a) (hb : InR b) (hc : InR c) (hd : InR d) (hB : B op) : F8 [op, a, b, c, d] [] = some ([], [true]) := by
  obtain ⟨i, o, hT, f, g, hf, hc1, hbd, htz⟩ := hB
  refine Eq.trans (Fd_of (n := 5) (m := 0) (t := t8) (C := Tab.fn a8) rfl rfl) ?_
  rw [t8]
  refine st_0_1 (e8_9) (g := true) rfl (l := []) rfl (m := []) rfl (cl_t q9) fun b0 hb0 => ?_
  show T.den _ _ [op, a, b, c, d] [b0] = _
  refine st_ite (fun hc => ?_) (fun hc => ?_)
  · replace hc : (!b0) = true := hc
    have c1 := hc
    clear hc
    refine st_ret ?_
    show some ([], [false]) = _
    rw [hb0] at c1; cases c1
  · replace hc : (!b0) = false := hc
    have c2 := hc
    clear hc
    refine st_4_1 (e8_14) (g := true) rfl (l := [op]) rfl (m := []) rfl (cl_t hT) fun i5 i6 i7 i8 b1 hi5 hi6 hi7 hi8 hb1 => ?_
    show T.den _ _ [op, a, b, c, d, i5, i6, i7, i8] [b0, b1] = _
    refine st_ite (fun hc => ?_) (fun hc => ?_)
    · replace hc : (i5 == 0) = true := hc
      have c3 := hc
      clear hc
      exact (len_ne hi5 c3 (by decide)).elim
    · replace hc : (i5 == 0) = false := hc
      have c4 := hc
      clear hc
      refine st_ite (fun hc => ?_) (fun hc => ?_)
      · replace hc : (i5 == 1) = true := hc
        have c5 := hc
        clear hc
        exact (len_ne hi5 c5 (by decide)).elim
      · replace hc : (i5 == 1) = false := hc
        have c6 := hc
        clear hc
        refine st_ite (fun hc => ?_) (fun hc => ?_)
        · replace hc : (i5 == 2) = true := hc
          have c7 := hc
          clear hc
          refine st_ite (fun hc => ?_) (fun hc => ?_)
          · replace hc : (!b1) = true := hc
            have c8 := hc
            clear hc
            refine st_ret ?_
            show some ([], [true]) = _
            rfl
          · replace hc : (!b1) = false := hc
            have c9 := hc
            clear hc
            refine st_ite (fun hc => ?_) (fun hc => ?_)
            · replace hc : (i6 == 127) = true := hc
              have c10 := hc
              clear hc
              refine st_li fun i9 hi9 => ?_
              replace hi9 : i9 = (arI .or .u64 (arI .and .u64 a 4294967295) (arI .shl .u64 c 32)) := hi9
              have hx := mix a c ha hc _  hi9
              show T.den _ _ [op, a, b, c, d, i5, i6, i7, i8, i9] [b0, b1] = _
              refine st_li fun i10 hi10 => ?_
              replace hi10 : i10 = (arI .or .u64 (arI .and .u64 b 4294967295) (arI .shl .u64 d 32)) := hi10
              have hy := mix b d hb hd _  hi10
              show T.den _ _ [op, a, b, c, d, i5, i6, i7, i8, i9, i10] [b0, b1] = _
              refine st_2_1 (e8_10) (g := true) rfl (l := [op, a, b]) rfl (m := []) rfl (cl_t (hf a b ha hb)) fun i11 i12 b2 hi11 hi12 hb2 => ?_
              show T.den _ _ [op, a, b, c, d, i5, i6, i7, i8, i9, i10, i11, i12] [b0, b1, b2] = _
              refine st_2_1 (e8_10) (g := true) rfl (l := [op, i9, i10]) rfl (m := []) rfl (cl_t (hf i9 i10 hx.1 hy.1)) fun i13 i14 b3 hi13 hi14 hb3 => ?_
              show T.den _ _ [op, a, b, c, d, i5, i6, i7, i8, i9, i10, i11, i12, i13, i14] [b0, b1, b2, b3] = _
              refine st_lb fun b4 hb4 => ?_
              replace hb4 : b4 = ((i11 == i13) && (i12 == i14)) := hb4
              show T.den _ _ [op, a, b, c, d, i5, i6, i7, i8, i9, i10, i11, i12, i13, i14] [b0, b1, b2, b3, b4] = _
              refine st_lb fun b5 hb5 => ?_
              replace hb5 : b5 = ((i8 == 126) || (decide (i11 < 4294967296))) := hb5
              show T.den _ _ [op, a, b, c, d, i5, i6, i7, i8, i9, i10, i11, i12, i13, i14] [b0, b1, b2, b3, b4, b5] = _
              refine st_lb fun b6 hb6 => ?_
              replace hb6 : b6 = ((i12 == 0) || (i11 == 0)) := hb6
              show T.den _ _ [op, a, b, c, d, i5, i6, i7, i8, i9, i10, i11, i12, i13, i14] [b0, b1, b2, b3, b4, b5, b6] = _
              refine st_ret ?_
              show some ([], [((b4 && b5) && b6)]) = _
              obtain ⟨e1, e3⟩ := (hc1 (by rw [← hi6]; exact (beq_iff_eq.1 c10)) a i9 b i10 hx.2 hy.2)
              have e2 := hbd a b
              have e4 := htz a b
              refine rb ?_
              rw [hb4, hb5, hb6, hi11, hi13, hi12, hi14, hi8, ← e1, ← e3]
              simp only [beq_self_eq_true, Bool.true_and, Bool.and_eq_true, Bool.or_eq_true, beq_iff_eq, decide_eq_true_eq]; exact ⟨e2, e4⟩
            · replace hc : (i6 == 127) = false := hc
              have c11 := hc
              clear hc
              refine st_2_1 (e8_10) (g := true) rfl (l := [op, a, b]) rfl (m := []) rfl (cl_t (hf a b ha hb)) fun i9 i10 b2 hi9 hi10 hb2 => ?_
              show T.den _ _ [op, a, b, c, d, i5, i6, i7, i8, i9, i10] [b0, b1, b2] = _
              refine st_2_1 (e8_10) (g := true) rfl (l := [op, a, b]) rfl (m := []) rfl (cl_t (hf a b ha hb)) fun i11 i12 b3 hi11 hi12 hb3 => ?_
              show T.den _ _ [op, a, b, c, d, i5, i6, i7, i8, i9, i10, i11, i12] [b0, b1, b2, b3] = _
              refine st_lb fun b4 hb4 => ?_
              replace hb4 : b4 = ((i9 == i11) && (i10 == i12)) := hb4
              show T.den _ _ [op, a, b, c, d, i5, i6, i7, i8, i9, i10, i11, i12] [b0, b1, b2, b3, b4] = _
              refine st_lb fun b5 hb5 => ?_
              replace hb5 : b5 = ((i8 == 126) || (decide (i9 < 4294967296))) := hb5
              show T.den _ _ [op, a, b, c, d, i5, i6, i7, i8, i9, i10, i11, i12] [b0, b1, b2, b3, b4, b5] = _
              refine st_lb fun b6 hb6 => ?_
              replace hb6 : b6 = ((i10 == 0) || (i9 == 0)) := hb6
              show T.den _ _ [op, a, b, c, d, i5, i6, i7, i8, i9, i10, i11, i12] [b0, b1, b2, b3, b4, b5, b6] = _
              refine st_ret ?_
              show some ([], [((b4 && b5) && b6)]) = _
              have e2 := hbd a b
              have e4 := htz a b
              refine rb ?_
              rw [hb4, hb5, hb6, hi9, hi10, hi11, hi12, hi8]
              simp only [beq_self_eq_true, Bool.true_and, Bool.and_eq_true, Bool.or_eq_true, beq_iff_eq, decide_eq_true_eq]; exact ⟨e2, e4⟩
        · replace hc : (i5 == 2) = false := hc
          have c12 := hc
          clear hc
          exact (len_no hi5 c12 rfl).elim

theorem law (op a b c d : Int) (w0 : (Lit.int .i64 op).wf = true) (wa : (Lit.int .u64 a).wf = true) (wb : (Lit.int .u64 b).wf = true) (wc : (Lit.int .u64 c).wf = true) (wd : (Lit.int .u64 d).wf = true) : F8 [op, a, b, c, d] [] = some ([], [true]) := by
  rcases cases op with h | h | h
  · exact law_o op a b c d (wf_u64 wa) (wf_u64 wb) (wf_u64 wc) (wf_u64 wd) h
  · exact law_u op a b c d (wf_u64 wa) (wf_u64 wb) (wf_u64 wc) (wf_u64 wd) h
  · exact law_b op a b c d (wf_u64 wa) (wf_u64 wb) (wf_u64 wc) (wf_u64 wd) h
end Go.Proofs.YtghekmcdokgkkaaDoor.YNumWidth
