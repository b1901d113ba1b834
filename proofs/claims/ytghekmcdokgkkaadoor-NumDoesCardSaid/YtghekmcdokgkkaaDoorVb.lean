/-
  Readers of numbers, in plain Lean; what the code's and the document's steps come to.
-/
import Derived.Test.YtghekmcdokgkkaaDoorVp
namespace Go.Proofs.YtghekmcdokgkkaaDoor.Vb
set_option linter.all false
open Go.Proofs.YtghekmcdokgkkaaDoor.Vx Go.Proofs.YtghekmcdokgkkaaDoor.Vd Go.Proofs.YtghekmcdokgkkaaDoor.Vn Go.Proofs.YtghekmcdokgkkaaDoor.Vl Go.Proofs.YtghekmcdokgkkaaDoor.Vp
theorem wi {n : Int} (h0 : -9223372036854775808 ≤ n) (h1 : n < 9223372036854775808) : IntKind.i64.wrap n = n := by
  simp only [IntKind.wrap, IntKind.bits, IntKind.signed, Nat.reducePow, Nat.reduceSub, Int.reducePow, Bool.true_and, decide_eq_true_eq, ge_iff_le]
  split <;> omega
theorem wu {n : Int} (h0 : 0 ≤ n) (h1 : n < 18446744073709551616) : IntKind.u64.wrap n = n := wraps_u64 n h0 h1
theorem pow_pos (i : Nat) : 0 < 2 ^ i := Nat.pow_pos (by decide)
/-- The piece of seven bits that comes next. -/
theorem vl_or {l : List Int} {i : Nat} (hi : 7 * i ≤ 63) : (vl l i % 2 ^ 64 ||| ((l.getD i 0).toNat % 128) * 2 ^ (7 * i) % 2 ^ 64) = vl l (i + 1) % 2 ^ 64 := by
  have h1 := vl_lt l i
  rw [← Nat.or_mod_two_pow]
  congr 1
  show _ = vl l i + ((l.getD i 0).toNat % 128) * 2 ^ (7 * i)
  rw [Nat.or_comm, Nat.mul_comm, ← Nat.two_pow_add_eq_or_of_lt h1, Nat.add_comm]
theorem mod128 {x : Int} (h0 : 0 ≤ x) : x % 128 = ((x.toNat % 128 : Nat) : Int) := by omega
theorem vl_small (l : List Int) (s own : Nat) (hlt : l.getD s 0 < 128) (h0 : 0 ≤ l.getD s 0) : vl l (s + 1) < 2 ^ (7 * s + own) ↔ l.getD s 0 < 2 ^ own := by
  have h1 := vl_lt l s
  have h2 : (l.getD s 0).toNat % 128 = (l.getD s 0).toNat := Nat.mod_eq_of_lt (by omega)
  unfold vl
  rw [h2, Nat.pow_add]
  have hc : l.getD s 0 < 2 ^ own ↔ (l.getD s 0).toNat < 2 ^ own := by
    have e : ((2 ^ own : Nat) : Int) = (2 : Int) ^ own := by simp
    omega
  rw [hc]
  generalize (l.getD s 0).toNat = x
  generalize 2 ^ own = Q
  generalize hP : 2 ^ (7 * s) = P at h1 ⊢
  constructor
  · intro h
    rcases Nat.lt_or_ge x Q with h' | h'
    · exact h'
    · have := Nat.mul_le_mul_right P h'
      rw [Nat.mul_comm P Q] at h
      omega
  · intro h
    have := Nat.mul_le_mul_right P (Nat.succ_le_of_lt h)
    rw [Nat.mul_comm P Q]
    rw [Nat.succ_mul] at this
    omega
/-- The same, signed: the highest bit of the last piece counts down. -/
theorem ix_dl (l : List Int) (i : Nat) : (((dl l).getD i (.i 0)).cell 0).int = l.getD i 0 := by
  unfold dl
  rw [List.getD_eq_getElem?_getD, List.getElem?_map, List.getD_eq_getElem?_getD]
  cases l[i]? <;> rfl
theorem shl_nat (a i : Nat) (h : i ≤ 64) : arI .shl .u64 (a : Int) (i : Int) = ((a * 2 ^ i % 2 ^ 64 : Nat) : Int) := by
  rw [arShl _ _ (by omega) (by omega), Int.toNat_natCast]
  simp
theorem raw_step {l : List Int} (hb : Bytes l) {i : Nat} (hi : i ≤ 9) :
    arI .or .u64 ((vl l i % 2 ^ 64 : Nat) : Int) (arI .shl .u64 (IntKind.u64.wrap (arI .and .u8 (l.getD i 0) 127)) (IntKind.u64.wrap (arI .mul .i64 7 (i : Int)))) = ((vl l (i + 1) % 2 ^ 64 : Nat) : Int) := by
  have hx := hb.at i
  have e1 : arI .mul .i64 7 (i : Int) = ((7 * i : Nat) : Int) := by show IntKind.i64.wrap (7 * (i : Int)) = _; rw [wi (by omega) (by omega)]; omega
  have e2 : arI .and .u8 (l.getD i 0) 127 = ((((l.getD i 0).toNat % 128 : Nat)) : Int) := by show Go.bits .and .u8 _ 127 = _; rw [u8_and127 hx.1 hx.2, mod128 hx.1]
  rw [e1, e2, wu (by omega) (by omega), wu (by omega) (by omega), shl_nat _ _ (by omega), bor _ _ (Nat.mod_lt _ (by decide)) (Nat.mod_lt _ (by decide)), vl_or (by omega)]
theorem own_eq {bits s : Nat} (h1 : bits ≤ 64) (hs : s ≤ 9) : arI .sub .i64 (bits : Int) (arI .mul .i64 7 (arI .sub .i64 ((s + 1 : Nat) : Int) 1)) = (bits : Int) - 7 * (s : Int) := by
  have a : arI .sub .i64 ((s + 1 : Nat) : Int) 1 = (s : Int) := by show IntKind.i64.wrap (((s + 1 : Nat) : Int) - 1) = _; rw [wi (by omega) (by omega)]; omega
  have b : arI .mul .i64 7 (s : Int) = 7 * (s : Int) := by show IntKind.i64.wrap (7 * (s : Int)) = _; rw [wi (by omega) (by omega)]
  rw [a, b]
  show IntKind.i64.wrap ((bits : Int) - 7 * (s : Int)) = _
  rw [wi (by omega) (by omega)]
theorem shr8 {x : Int} (o : Nat) (ho : o ≤ 8) : arI .shr .u8 x (o : Int) = x / 2 ^ o := by
  show x.fdiv (2 ^ (min (Int.toNat (o : Int)) 8)) = _
  rw [show min (Int.toNat (o : Int)) 8 = o by omega]
  exact Int.fdiv_eq_ediv_of_nonneg _ (Int.pow_nonneg (by decide))
theorem pow_int_pos (o : Nat) : (0 : Int) < 2 ^ o := Int.pow_pos (by decide)
theorem ediv_zero_iff {x y : Int} (h0 : 0 ≤ x) (hy : 0 < y) : x / y = 0 ↔ x < y := by
  constructor
  · intro h
    have := Int.emod_add_mul_ediv x y
    have := Int.emod_lt_of_pos x hy
    rw [h] at *
    omega
  · intro h
    exact Int.ediv_eq_zero_of_lt h0 h
/-- The same, signed: the highest bit of the last piece counts down. -/
def sv (l : List Int) (s : Nat) : Int := if 2 ^ (7 * s + 6) ≤ vl l (s + 1) then ((vl l (s + 1) : Nat) : Int) - ((2 ^ (7 * s + 7) : Nat) : Int) else ((vl l (s + 1) : Nat) : Int)
theorem vl_large (l : List Int) (s o : Nat) (ho : o ≤ 7) (hlt : l.getD s 0 < 128) (h0 : 0 ≤ l.getD s 0) : 2 ^ (7 * s + 7) - 2 ^ (7 * s + o) ≤ vl l (s + 1) ↔ 128 - 2 ^ o ≤ l.getD s 0 := by
  have h1 := vl_lt l s
  have h2 : (l.getD s 0).toNat % 128 = (l.getD s 0).toNat := Nat.mod_eq_of_lt (by omega)
  unfold vl
  rw [h2, Nat.pow_add, Nat.pow_add]
  have hq : 2 ^ o ≤ 2 ^ 7 := pow_le ho
  have hc : 128 - 2 ^ o ≤ l.getD s 0 ↔ 128 - 2 ^ o ≤ (l.getD s 0).toNat := by
    have e : ((2 ^ o : Nat) : Int) = (2 : Int) ^ o := by simp
    omega
  rw [hc]
  have hx : (l.getD s 0).toNat < 128 := by omega
  generalize (l.getD s 0).toNat = x at hx ⊢
  generalize 2 ^ o = Q at hq ⊢
  generalize hP : 2 ^ (7 * s) = P at h1 ⊢
  rw [← Nat.mul_sub]
  have e7 : (2 : Nat) ^ 7 = 128 := rfl
  rw [e7] at hq ⊢
  rw [Nat.mul_comm P]
  constructor
  · intro h
    rcases Nat.lt_or_ge x (128 - Q) with h' | h'
    · have := Nat.mul_le_mul_right P (Nat.succ_le_of_lt h')
      rw [Nat.succ_mul] at this
      omega
    · exact h'
  · intro h
    have := Nat.mul_le_mul_right P h
    omega
theorem or_high {v t : Nat} (hv : v < 2 ^ t) (ht : t ≤ 64) : v ||| (2 ^ 64 - 2 ^ t) = v + (2 ^ 64 - 2 ^ t) := by
  have e : 2 ^ 64 - 2 ^ t = 2 ^ t * (2 ^ (64 - t) - 1) := by
    rw [Nat.mul_sub, ← Nat.pow_add, Nat.mul_one]
    congr 2
    omega
  rw [e, Nat.or_comm, ← Nat.two_pow_add_eq_or_of_lt hv]
  omega
theorem u8_and64 {x : Int} (h0 : 0 ≤ x) (h1 : x < 128) : arI .and .u8 x 64 = 0 ↔ x < 64 := by
  obtain ⟨n, rfl⟩ := Int.eq_ofNat_of_zero_le h0
  have h : ∀ m : Nat, m < 128 → (arI .and .u8 (m : Int) 64 = 0 ↔ m < 64) := by decide +kernel
  rw [h n (by omega)]
  omega
theorem s_tail {l : List Int} (hb : Bytes l) (s : Nat) (hlt : l.getD s 0 < 128) (hs : s ≤ 9) (h9 : s = 9 → -9223372036854775808 ≤ sv l s ∧ sv l s < 9223372036854775808) (z : Int) (hz : z = arI .mul .i64 7 ((s + 1 : Nat) : Int)) :
    ((decide (z < 64) && (arI .and .u8 (l.getD s 0) 64 != 0)) = true ∧ 0 ≤ IntKind.u64.wrap z ∧ IntKind.i64.wrap (arI .or .u64 ((vl l (s + 1) % 2 ^ 64 : Nat) : Int) (arI .shl .u64 18446744073709551615 (IntKind.u64.wrap z))) = sv l s) ∨
    ((decide (z < 64) && (arI .and .u8 (l.getD s 0) 64 != 0)) = false ∧ IntKind.i64.wrap ((vl l (s + 1) % 2 ^ 64 : Nat) : Int) = sv l s) := by
  have hx := hb.at s
  have hV := vl_lt l (s + 1)
  have h6 := vl_small l s 6 hlt hx.1
  have e1 : z = ((7 * s + 7 : Nat) : Int) := by rw [hz]; show IntKind.i64.wrap (7 * ((s + 1 : Nat) : Int)) = _; rw [wi (by omega) (by omega)]; omega
  rw [e1]
  have e2 : (2 : Int) ^ 6 = 64 := rfl
  rw [e2] at h6
  have hmul : 7 * (s + 1) = 7 * s + 7 := by omega
  rw [hmul] at hV
  have hpp : 2 ^ (7 * s + 7) = 2 * 2 ^ (7 * s + 6) := by rw [show 7 * s + 7 = (7 * s + 6) + 1 by omega, Nat.pow_succ]; omega
  by_cases h64 : ((7 * s + 7 : Nat) : Int) < 64
  · have hle : 2 ^ (7 * s + 7) ≤ 2 ^ 63 := pow_le (by omega)
    have hVs : vl l (s + 1) % 2 ^ 64 = vl l (s + 1) := Nat.mod_eq_of_lt (by omega)
    rw [hVs]
    by_cases hn : arI .and .u8 (l.getD s 0) 64 = 0
    · have hsm := h6.2 ((u8_and64 hx.1 hlt).1 hn)
      right
      rw [hn]
      refine ⟨by simp, ?_⟩
      unfold sv
      rw [if_neg (by omega), wi (by omega) (by omega)]
    · have hsm : ¬ vl l (s + 1) < 2 ^ (7 * s + 6) := fun h => hn ((u8_and64 hx.1 hlt).2 (h6.1 h))
      left
      have ew : IntKind.u64.wrap ((7 * s + 7 : Nat) : Int) = ((7 * s + 7 : Nat) : Int) := wu (by omega) (by omega)
      rw [ew]
      refine ⟨by rw [bne_iff_ne.2 hn, decide_eq_true h64]; rfl, by omega, ?_⟩
      have hsh : arI .shl .u64 18446744073709551615 ((7 * s + 7 : Nat) : Int) = ((2 ^ 64 - 2 ^ (7 * s + 7) : Nat) : Int) := by
        have := shl_nat 18446744073709551615 (7 * s + 7) (by omega)
        rw [show ((18446744073709551615 : Nat) : Int) = 18446744073709551615 from rfl] at this
        rw [this]
        congr 1
        have h2 : 18446744073709551615 * 2 ^ (7 * s + 7) = (2 ^ 64 - 2 ^ (7 * s + 7)) + 2 ^ 64 * (2 ^ (7 * s + 7) - 1) := by
          have h3 := pow_pos (7 * s + 7)
          generalize 2 ^ (7 * s + 7) = Q at hle h3 ⊢
          omega
        rw [h2, Nat.add_mul_mod_self_left, Nat.mod_eq_of_lt]
        have h3 := pow_pos (7 * s + 7)
        omega
      have hh : 2 ^ 64 - 2 ^ (7 * s + 7) < 2 ^ 64 := by have h3 := pow_pos (7 * s + 7); omega
      rw [hsh, bor _ _ (by omega) hh, or_high hV (by omega)]
      unfold sv
      rw [if_pos (by omega)]
      have h3 := pow_pos (7 * s + 6)
      simp only [IntKind.wrap, IntKind.bits, IntKind.signed, Nat.reducePow, Nat.reduceSub, Int.reducePow, Bool.true_and, decide_eq_true_eq, ge_iff_le]
      generalize 2 ^ (7 * s + 7) = Q at hle hV hpp ⊢
      split <;> omega
  · obtain rfl : s = 9 := by omega
    right
    have h9' := h9 rfl
    refine ⟨by rw [decide_eq_false h64]; rfl, ?_⟩
    unfold sv at h9' ⊢
    simp only [IntKind.wrap, IntKind.bits, IntKind.signed, Nat.reducePow, Nat.reduceSub, Int.reducePow, Bool.true_and, decide_eq_true_eq, ge_iff_le]
    simp only [Nat.reducePow, Nat.reduceMul, Nat.reduceAdd] at hV hpp h9' ⊢
    split at h9' <;> rename_i hh <;> simp only [hh, if_true, if_false] <;> split <;> omega
theorem rd_bind {α β : Type} {R : Rd α} {f : α → Rd β} {l : List Int} : (R.bind f) l = match R l with | .err e => .err e | .ok a n => match f a (l.drop n) with | .err e => .err e | .ok b k => .ok b (n + k) := rfl
theorem cut_dl (l : List Int) (p : Nat) : ((dl l).take ((l.length : Nat) : Int).toNat).drop ((p : Nat) : Int).toNat = dl (l.drop p) := by
  rw [Int.toNat_natCast, Int.toNat_natCast, List.take_of_length_le (by rw [dl_len]; exact Nat.le_refl _)]
  unfold dl
  rw [List.map_drop]
theorem addI {a b : Int} (h0 : -9223372036854775808 ≤ a + b) (h1 : a + b < 9223372036854775808) : arI .add .i64 a b = a + b := wi h0 h1
theorem subI {a b : Int} (h0 : -9223372036854775808 ≤ a - b) (h1 : a - b < 9223372036854775808) : arI .sub .i64 a b = a - b := wi h0 h1
theorem up1 (i : Nat) (h : i < 9223372036854775807) : arI .add .i64 (i : Int) 1 = ((i + 1 : Nat) : Int) := by rw [addI (by omega) (by omega)]; omega
/-- P1.1: a signed number. -/
def sP (bits : Nat) : Rd Int := fun l => if ends l < l.length ∧ ends l < mst bits then (if -((2 ^ (bits - 1) : Nat) : Int) ≤ sv l (ends l) ∧ sv l (ends l) < ((2 ^ (bits - 1) : Nat) : Int) then .ok (sv l (ends l)) (ends l + 1) else .err 2) else if mst bits ≤ ends l then .err 2 else .err 1
theorem sv_take_on {l m : List Int} (h : ends l < l.length) : sv (l.take (ends l + 1) ++ m) (ends l) = sv l (ends l) := by
  unfold sv; rw [vl_take_on h]
theorem sP_stbl (bits : Nat) : Stbl (sP bits) := by
  have inv : ∀ l a n, sP bits l = .ok a n → ends l < l.length ∧ ends l < mst bits ∧ (-((2 ^ (bits - 1) : Nat) : Int) ≤ sv l (ends l) ∧ sv l (ends l) < ((2 ^ (bits - 1) : Nat) : Int)) ∧ a = sv l (ends l) ∧ n = ends l + 1 := fun l a n h => by
    unfold sP at h
    split at h
    · rename_i hc
      split at h
      · rename_i hv
        cases h
        exact ⟨hc.1, hc.2, hv, rfl, rfl⟩
      · cases h
    · split at h <;> cases h
  refine ⟨fun l a n h => ?_, fun l a n h m => ?_, fun l a n h c hc => ?_, fun l e h => ?_⟩
  · obtain ⟨h1, _, _, _, rfl⟩ := inv l a n h
    omega
  · obtain ⟨h1, h2, h3, rfl, rfl⟩ := inv l a n h
    unfold sP
    rw [ends_take_on h1, sv_take_on h1, if_pos ⟨by rw [List.length_append, List.length_take]; omega, h2⟩, if_pos h3]
  · obtain ⟨h1, h2, h3, rfl, rfl⟩ := inv l a n h
    have hl : (l.take c).length = c := by rw [List.length_take]; omega
    have he : ends (l.take c) = c := by
      have a1 := ends_le (l.take c)
      have a2 := ends_ge (l := l.take c) (i := c) (by omega) fun j hj => by
        rw [List.getD_eq_getElem?_getD, List.getElem?_take, if_pos hj, ← List.getD_eq_getElem?_getD]
        exact ends_before l j (by omega)
      omega
    unfold sP
    rw [he, hl, if_neg (by omega), if_neg (by omega)]
  · unfold sP at h
    split at h
    · split at h <;> cases h
      decide
    · split at h <;> cases h <;> decide
theorem uP_back {n : Nat} (hn : n < 2 ^ 64) (m : List Int) {bits : Nat} (h0 : 1 ≤ bits) (hb : n < 2 ^ bits) : uP bits (uBytes n ++ m) = .ok n (uBytes n).length := by
  have hp := uBytes_pos n
  have hs := uBytes_small hn
  have he : ends (uBytes n ++ m) = (uBytes n).length - 1 := uB_ends 9 n m hs
  have hv : vl (uBytes n ++ m) (uBytes n).length = n := uB_vl 9 n m hs
  have hl : (uBytes n).length ≤ mst bits := (uBytes_len hn (by unfold mst; omega)).2 (Nat.lt_of_lt_of_le hb (pow_le (by unfold mst; omega)))
  unfold uP
  rw [he, show (uBytes n).length - 1 + 1 = (uBytes n).length by omega, hv, if_pos ⟨by rw [List.length_append]; omega, by omega⟩, if_pos hb]
theorem sv_back {n : Int} (h0 : -9223372036854775808 ≤ n) (h1 : n ≤ 9223372036854775807) (m : List Int) : sv (sBytes n ++ m) (ends (sBytes n ++ m)) = n := by
  have h2 := sB_ends 9 n m
  have h3 := sB_vl 9 n m
  have h4 := sB_pos 9 n
  have h5 := (sBytes_len h0 h1 ((sBytes n).length - 1)).1 (by unfold sBytes; omega)
  unfold sBytes at h5 ⊢
  rw [h2]
  generalize hL : (sB 9 n).length = L at *
  obtain ⟨t, rfl⟩ : ∃ t, L = t + 1 := ⟨L - 1, by omega⟩
  rw [show t + 1 - 1 = t by omega] at h5 ⊢
  unfold sv
  have hpp : 2 ^ (7 * t + 7) = 2 * 2 ^ (7 * t + 6) := by rw [show 7 * t + 7 = (7 * t + 6) + 1 by omega, Nat.pow_succ]; omega
  rw [show (128 : Nat) = 2 ^ 7 from rfl, ← Nat.pow_mul, show 7 * (t + 1) = 7 * t + 7 by omega] at h3
  generalize vl (sB 9 n ++ m) (t + 1) = V at h3 ⊢
  have hp := pow_pos (7 * t + 6)
  generalize 2 ^ (7 * t + 7) = Q at hpp h3 ⊢
  generalize 2 ^ (7 * t + 6) = P at hpp h5 hp ⊢
  rcases Int.lt_or_le n 0 with hn | hn
  · have : n % (Q : Int) = n + Q := by
      rw [← Int.add_emod_right, Int.emod_eq_of_lt (by omega) (by omega)]
    rw [this] at h3
    rw [if_pos (by omega)]
    omega
  · rw [Int.emod_eq_of_lt hn (by omega)] at h3
    rw [if_neg (by omega)]
    omega
theorem sP_back {n : Int} (h0 : -9223372036854775808 ≤ n) (h1 : n ≤ 9223372036854775807) (m : List Int) {bits : Nat} (hb0 : 1 ≤ bits) (hb : -((2 ^ (bits - 1) : Nat) : Int) ≤ n ∧ n < ((2 ^ (bits - 1) : Nat) : Int)) : sP bits (sBytes n ++ m) = .ok n (sBytes n).length := by
  have hp := sBytes_pos n
  have he : ends (sBytes n ++ m) = (sBytes n).length - 1 := sB_ends 9 n m
  have hl : (sBytes n).length ≤ mst bits := by
    have hpp : 2 ^ (bits - 1) ≤ 2 ^ (7 * (mst bits - 1) + 6) := pow_le (by unfold mst; omega)
    have := (sBytes_len h0 h1 (mst bits - 1)).2 ⟨by omega, by omega⟩
    unfold mst at *; omega
  have hv := sv_back h0 h1 m
  unfold sP
  rw [hv, if_pos ⟨by rw [he, List.length_append]; omega, by omega⟩, if_pos hb, he, show (sBytes n).length - 1 + 1 = (sBytes n).length by omega]
/-! The document's reading, bit by bit. -/
def wrap64 (n : Int) : Int := (n + 9223372036854775808) % 18446744073709551616 - 9223372036854775808
theorem wrap_w64 (n : Int) : IntKind.i64.wrap n = wrap64 n := by
  simp only [IntKind.wrap, IntKind.bits, IntKind.signed, Nat.reducePow, Nat.reduceSub, Int.reducePow, Bool.true_and, decide_eq_true_eq, ge_iff_le, wrap64]
  split <;> omega
theorem wrap64_id (x : Int) (h0 : -9223372036854775808 ≤ x) (h1 : x < 9223372036854775808) : wrap64 x = x := by unfold wrap64; omega
def bitsOf (V n : Nat) : List Bool := (List.range n).map (fun j => V.testBit j)
theorem bitsOf_length (V n : Nat) : (bitsOf V n).length = n := by simp [bitsOf]
theorem bitsOf_succ (V n : Nat) : bitsOf V n ++ [V.testBit n] = bitsOf V (n + 1) := by simp [bitsOf, List.range_succ]
theorem vl_testBit (l : List Int) (i j : Nat) : (vl l (i + 1)).testBit j = if j < 7 * i then (vl l i).testBit j else ((l.getD i 0).toNat % 128).testBit (j - 7 * i) := by
  show (vl l i + ((l.getD i 0).toNat % 128) * 2 ^ (7 * i)).testBit j = _
  rw [Nat.add_comm, Nat.mul_comm, Nat.testBit_two_pow_mul_add _ (vl_lt l i)]
theorem bitsOf_vl (l : List Int) (i : Nat) : bitsOf (vl l (i + 1)) (7 * i) = bitsOf (vl l i) (7 * i) := by
  unfold bitsOf
  refine List.map_congr_left (fun j hj => ?_)
  rw [vl_testBit, if_pos (by simpa using hj)]
theorem bits_at (V : Nat) {n i : Nat} (h : i < n) : ((((bitsOf V n).map D.b).getD i (.i 0)).cell 0).bool = V.testBit i := by
  unfold bitsOf
  rw [List.getD_eq_getElem?_getD, List.getElem?_map, List.getElem?_map, List.getElem?_range h]
  rfl
theorem read_bit {x : Int} (h0 : 0 ≤ x) (k : Nat) (hk : k < 7) : ((arI .rem .u8 (arI .shr .u8 x (k : Int)) 2) == 1) = (x.toNat % 128).testBit k := by
  obtain ⟨n, rfl⟩ := Int.eq_ofNat_of_zero_le h0
  have e : arI .shr .u8 (n : Int) (k : Int) = ((n / 2 ^ k : Nat) : Int) := by
    rw [shr8 k (by omega)]; simp
  show (Int.tmod (arI .shr .u8 (n : Int) (k : Int)) 2 == 1) = _
  rw [e, Int.tmod_eq_emod_of_nonneg (Int.natCast_nonneg _), Int.toNat_natCast, show (128 : Nat) = 2 ^ 7 from rfl, Nat.testBit_mod_two_pow, decide_eq_true hk, Bool.true_and, Nat.testBit_eq_decide_div_mod_eq, Bool.eq_iff_iff, beq_iff_eq, decide_eq_true_iff]
  generalize n / 2 ^ k = q
  omega
theorem mod_lt_pow (V i : Nat) : V % 2 ^ i < 2 ^ i := Nat.mod_lt _ (pow_pos i)
/-- The 64 bits that a signed number's bits stand for. -/
def full (V n : Nat) : Nat := if n < 64 then (if V.testBit (n - 1) then V + (2 ^ 64 - 2 ^ n) else V) else V % 2 ^ 64
theorem full_lt {V n : Nat} (hV : V < 2 ^ n) : full V n < 2 ^ 64 := by
  unfold full
  split
  · rename_i h
    have h1 := pow_le (Nat.le_of_lt h)
    split <;> omega
  · exact mod_lt_pow _ _
theorem full_bit {V n i : Nat} (hV : V < 2 ^ n) (h0 : 1 ≤ n) (hi : i < 64) : (full V n).testBit i = if i < n then V.testBit i else V.testBit (n - 1) := by
  unfold full
  by_cases hn : n < 64
  · rw [if_pos hn]
    by_cases hs : V.testBit (n - 1) = true
    · rw [if_pos hs, ← or_high hV (Nat.le_of_lt hn), Nat.testBit_or]
      have e : 2 ^ 64 - 2 ^ n = 2 ^ n * (2 ^ (64 - n) - 1) := by
        rw [Nat.mul_sub, ← Nat.pow_add, Nat.mul_one]
        congr 2
        omega
      have e2 := Nat.testBit_two_pow_mul_add (2 ^ (64 - n) - 1) (pow_pos n) i
      rw [Nat.add_zero] at e2
      rw [e, e2]
      by_cases hin : i < n
      · rw [if_pos hin, if_pos hin]; simp
      · rw [if_neg hin, if_neg hin, Nat.testBit_two_pow_sub_one, hs, decide_eq_true (by omega)]; simp
    · rw [if_neg hs]
      by_cases hin : i < n
      · rw [if_pos hin]
      · rw [if_neg hin, Nat.testBit_lt_two_pow (Nat.lt_of_lt_of_le hV (pow_le (by omega)))]
        simpa using hs
  · rw [if_neg hn, Nat.testBit_mod_two_pow, decide_eq_true hi, Bool.true_and, if_pos (by omega)]
theorem step_num (q F : Nat) (b : Bool) (hq : q < 9223372036854775808) (hF : F = 2 * q + (if b = true then 1 else 0)) :
    (if b = true then wrap64 (wrap64 (wrap64 (q : Int) * 2) + 1) else wrap64 (wrap64 (q : Int) * 2)) = wrap64 (F : Int) := by
  subst hF
  cases b
  · simp only [Bool.false_eq_true, if_false]
    unfold wrap64
    omega
  · simp only [if_true]
    unfold wrap64
    omega
theorem halves (F d : Nat) : F / 2 ^ d = 2 * (F / 2 ^ (d + 1)) + (if F.testBit d = true then 1 else 0) := by
  rw [Nat.testBit_eq_decide_div_mod_eq, Nat.pow_succ, ← Nat.div_div_eq_div_mul]
  generalize F / 2 ^ d = q
  by_cases h : q % 2 = 1
  · rw [if_pos (decide_eq_true h)]; omega
  · rw [if_neg (by simpa using h)]; omega
theorem half_lt {F d : Nat} (hF : F < 2 ^ 64) : F / 2 ^ (d + 1) < 9223372036854775808 := by
  rw [Nat.div_lt_iff_lt_mul (pow_pos _)]
  have h1 : 2 ^ 1 ≤ 2 ^ (d + 1) := pow_le (by omega)
  generalize 2 ^ (d + 1) = Q at h1 ⊢
  omega
/-- All the bits from a place on are the same: the number lies near the one end or the other. -/
theorem same_bits {V n b : Nat} (hV : V < 2 ^ n) (hbn : b < n) : (∀ j, b + 1 ≤ j → j < n → V.testBit j = V.testBit b) ↔ V < 2 ^ b ∨ 2 ^ n - 2 ^ b ≤ V := by
  have hp := pow_le (Nat.le_of_lt hbn)
  constructor
  · intro h
    by_cases hs : V.testBit b = true
    · right
      have e : V = V % 2 ^ b + 2 ^ b * (V / 2 ^ b) := (Nat.mod_add_div V (2 ^ b)).symm
      have hq : V / 2 ^ b = 2 ^ (n - b) - 1 := by
        refine Nat.eq_of_testBit_eq (fun j => ?_)
        rw [Nat.testBit_two_pow_sub_one, Nat.testBit_div_two_pow]
        by_cases hj : j < n - b
        · rw [decide_eq_true hj]
          by_cases h0 : j = 0
          · subst h0; simpa using hs
          · rw [h (j + b) (by omega) (by omega)]; exact hs
        · rw [decide_eq_false hj, Nat.testBit_lt_two_pow (Nat.lt_of_lt_of_le hV (pow_le (by omega)))]
      rw [hq] at e
      have e2 : 2 ^ b * (2 ^ (n - b) - 1) = 2 ^ n - 2 ^ b := by
        rw [Nat.mul_sub, ← Nat.pow_add, Nat.mul_one]
        congr 2
        omega
      omega
    · left
      refine Nat.lt_pow_two_of_testBit V (fun j hj => ?_)
      by_cases hjn : j < n
      · by_cases e : j = b
        · subst e; simpa using hs
        · rw [h j (by omega) hjn]; simpa using hs
      · exact Nat.testBit_lt_two_pow (Nat.lt_of_lt_of_le hV (pow_le (by omega)))
  · rintro (h | h) j h1 h2
    · rw [Nat.testBit_lt_two_pow (Nat.lt_of_lt_of_le h (pow_le (by omega))), Nat.testBit_lt_two_pow h]
    · have hq : V / 2 ^ b = 2 ^ (n - b) - 1 := by
        have e2 : 2 ^ b * (2 ^ (n - b) - 1) = 2 ^ n - 2 ^ b := by
          rw [Nat.mul_sub, ← Nat.pow_add, Nat.mul_one]
          congr 2
          omega
        have hpb := pow_pos b
        have hpn := pow_pos (n - b)
        have e3 : 2 ^ b * (2 ^ (n - b) - 1 + 1) = 2 ^ n := by
          rw [Nat.sub_add_cancel hpn, ← Nat.pow_add]
          congr 1
          omega
        refine Nat.div_eq_of_lt_le ?_ ?_
        · rw [Nat.mul_comm, e2]; exact h
        · rw [Nat.mul_comm, e3]; exact hV
      have key : ∀ i, b ≤ i → i < n → V.testBit i = true := fun i hi hin => by
        have := (Nat.testBit_div_two_pow V (i - b) : (V / 2 ^ b).testBit (i - b) = V.testBit (i - b + b))
        rw [hq, Nat.testBit_two_pow_sub_one, decide_eq_true (by omega), Nat.sub_add_cancel hi] at this
        exact this.symm
      rw [key j (by omega) h2, key b (by omega) hbn]
theorem sv_full (l : List Int) (s : Nat) (hs : s ≤ 9) (h9 : s = 9 → -9223372036854775808 ≤ sv l s ∧ sv l s < 9223372036854775808) : wrap64 ((full (vl l (s + 1)) (7 * s + 7) : Nat) : Int) = sv l s := by
  have hV := vl_lt l (s + 1)
  rw [show 7 * (s + 1) = 7 * s + 7 by omega] at hV
  have hpp : 2 ^ (7 * s + 7) = 2 * 2 ^ (7 * s + 6) := by rw [show 7 * s + 7 = (7 * s + 6) + 1 by omega, Nat.pow_succ]; omega
  have hbit : (vl l (s + 1)).testBit (7 * s + 6) = decide (2 ^ (7 * s + 6) ≤ vl l (s + 1)) := by
    by_cases h : 2 ^ (7 * s + 6) ≤ vl l (s + 1)
    · rw [decide_eq_true h]
      have := same_bits (V := vl l (s + 1)) (n := 7 * s + 7) (b := 7 * s + 6) hV (by omega)
      rw [Nat.testBit_eq_decide_div_mod_eq]
      have hd : vl l (s + 1) / 2 ^ (7 * s + 6) = 1 := Nat.div_eq_of_lt_le (by omega) (by omega)
      rw [hd]; rfl
    · rw [decide_eq_false h, Nat.testBit_lt_two_pow (by omega)]
  by_cases h64 : 7 * s + 7 < 64
  · have hle : 2 ^ (7 * s + 7) ≤ 2 ^ 63 := pow_le (by omega)
    unfold full sv
    rw [if_pos h64, show 7 * s + 7 - 1 = 7 * s + 6 by omega, hbit]
    by_cases h : 2 ^ (7 * s + 6) ≤ vl l (s + 1)
    · rw [if_pos (decide_eq_true h), if_pos h]
      unfold wrap64
      generalize 2 ^ (7 * s + 7) = Q at hle hV hpp ⊢
      omega
    · rw [if_neg (by simpa using h), if_neg h, wrap64_id _ (by omega) (by omega)]
  · obtain rfl : s = 9 := by omega
    have h9' := h9 rfl
    unfold full
    rw [if_neg h64]
    unfold sv at h9' ⊢
    unfold wrap64
    simp only [Nat.reducePow, Nat.reduceMul, Nat.reduceAdd] at hV hpp h9' ⊢
    split at h9' <;> rename_i hh <;> simp only [hh, if_true, if_false] <;> omega
/-! The first pieces of a number, each with 128 more; and the whole form of some bytes. -/
def pre (n : Int) (i : Nat) : List Int := (List.range i).map fun j => n / 2 ^ (7 * j) % 128 + 128
def form (n : Int) (s : Nat) : List Int := pre n s ++ [n / 2 ^ (7 * s) % 128]
theorem pre_len (n : Int) (i : Nat) : (pre n i).length = i := by simp [pre]
theorem pre_succ (n : Int) (i : Nat) : pre n (i + 1) = pre n i ++ [n / 2 ^ (7 * i) % 128 + 128] := by simp [pre, List.range_succ]
theorem div_step (n : Int) (j : Nat) : n / 2 ^ (7 * (j + 1)) = n / 128 / 2 ^ (7 * j) := by
  rw [Int.ediv_ediv_of_nonneg (by decide), show (2 : Int) ^ (7 * (j + 1)) = 128 * 2 ^ (7 * j) from by rw [Nat.mul_add, Int.pow_add]; omega]
theorem form_cons (n : Int) (s : Nat) : form n (s + 1) = (n % 128 + 128) :: form (n / 128) s := by
  have e : pre n (s + 1) = (n % 128 + 128) :: pre (n / 128) s := by
    unfold pre
    rw [List.range_succ_eq_map, List.map_cons, List.map_map]
    refine congr (congrArg List.cons ?_) (List.map_congr_left (fun j _ => ?_))
    · simp
    · show n / 2 ^ (7 * (j + 1)) % 128 + 128 = _
      rw [div_step]
  unfold form
  rw [e, div_step]
  rfl
theorem sB_form : ∀ (f : Nat) (n : Int), sB f n = form n ((sB f n).length - 1)
  | 0, n => by simp [sB, form, pre]
  | f + 1, n => by
    unfold sB
    by_cases h : -64 ≤ n ∧ n ≤ 63
    · rw [if_pos h]; simp [form, pre]
    · rw [if_neg h]
      have hp := sB_pos f (n / 128)
      rw [List.length_cons, show (sB f (n / 128)).length + 1 - 1 = ((sB f (n / 128)).length - 1) + 1 by omega, form_cons, ← sB_form f (n / 128)]
theorem form_bytes (n : Int) (s : Nat) : Bytes (form n s) := fun x hx => by
  unfold form pre at hx
  rcases List.mem_append.1 hx with hx | hx
  · obtain ⟨j, _, rfl⟩ := List.mem_map.1 hx
    have := Int.emod_nonneg (n / 2 ^ (7 * j)) (show (128 : Int) ≠ 0 by decide)
    have := Int.emod_lt_of_pos (n / 2 ^ (7 * j)) (show (0 : Int) < 128 by decide)
    omega
  · rw [List.mem_singleton] at hx
    subst hx
    have := Int.emod_nonneg (n / 2 ^ (7 * s)) (show (128 : Int) ≠ 0 by decide)
    have := Int.emod_lt_of_pos (n / 2 ^ (7 * s)) (show (0 : Int) < 128 by decide)
    omega
theorem form_len (n : Int) (s : Nat) : (form n s).length = s + 1 := by simp [form, pre]
theorem form_ends (n : Int) (s : Nat) : ends (form n s) = s := by
  refine ends_eq (by rw [form_len]; omega) (fun j hj => ?_) ?_
  · have : (form n s).getD j 0 = n / 2 ^ (7 * j) % 128 + 128 := by
      rw [List.getD_eq_getElem?_getD]
      unfold form
      rw [List.getElem?_append_left (by rw [pre_len]; exact hj)]
      simp [pre, hj]
    rw [this]
    have := Int.emod_nonneg (n / 2 ^ (7 * j)) (show (128 : Int) ≠ 0 by decide)
    omega
  · have : (form n s).getD s 0 = n / 2 ^ (7 * s) % 128 := by
      rw [List.getD_eq_getElem?_getD]
      simp [form, pre]
    rw [this]
    exact Int.emod_lt_of_pos _ (by decide)
theorem piece (n : Int) (i : Nat) (hi : i ≤ 9) : arI .rem .u64 (IntKind.u64.wrap (arI .shr .i64 n (IntKind.u64.wrap (arI .mul .i64 7 (i : Int))))) 128 = n / 2 ^ (7 * i) % 128 := by
  have e : IntKind.u64.wrap (arI .mul .i64 7 (i : Int)) = ((7 * i : Nat) : Int) := by
    have : arI .mul .i64 7 (i : Int) = ((7 * i : Nat) : Int) := by show IntKind.i64.wrap (7 * (i : Int)) = _; rw [wi (by omega) (by omega)]; omega
    rw [this, wu (by omega) (by omega)]
  have e2 : arI .shr .i64 n ((7 * i : Nat) : Int) = n / 2 ^ (7 * i) := by
    show n.fdiv (2 ^ (min (Int.toNat ((7 * i : Nat) : Int)) 64)) = _
    rw [show min (Int.toNat ((7 * i : Nat) : Int)) 64 = 7 * i by omega]
    exact Int.fdiv_eq_ediv_of_nonneg _ (Int.pow_nonneg (by decide))
  rw [e, e2]
  generalize n / 2 ^ (7 * i) = z
  have ew : IntKind.u64.wrap z = z % 18446744073709551616 := by simp [IntKind.wrap, IntKind.bits, IntKind.signed]
  show Int.tmod (IntKind.u64.wrap z) 128 = _
  rw [ew, Int.tmod_eq_emod_of_nonneg (by omega)]
  omega
theorem form_ne {n : Int} (h0 : -9223372036854775808 ≤ n) (h1 : n ≤ 9223372036854775807) {s : Nat} (hs : s + 1 < (sBytes n).length) : sP 64 (form n s) ≠ .ok n (s + 1) ∧ ∀ a k, sP 64 (form n s) = .ok a k → a ≠ n := by
  have hne : sv (form n s) s ≠ n := fun e => by
    have hV := vl_lt (form n s) (s + 1)
    have hpp : 2 ^ (7 * s + 7) = 2 * 2 ^ (7 * s + 6) := by rw [show 7 * s + 7 = (7 * s + 6) + 1 by omega, Nat.pow_succ]; omega
    rw [show 7 * (s + 1) = 7 * s + 7 by omega] at hV
    have hn := mt (sBytes_len h0 h1 s).2 (by omega)
    refine hn ?_
    rw [← e]
    unfold sv
    split <;> omega
  have key : ∀ a k, sP 64 (form n s) = .ok a k → a ≠ n := fun a k h => by
    unfold sP at h
    rw [form_ends] at h
    split at h
    · split at h
      · cases h; exact hne
      · cases h
    · split at h <;> cases h
  exact ⟨fun h => key _ _ h rfl, key⟩
theorem form_all {n : Int} : form n ((sBytes n).length - 1) = sBytes n := (sB_form 9 n).symm
theorem form_read {n : Int} (h0 : -9223372036854775808 ≤ n) (h1 : n ≤ 9223372036854775807) : sP 64 (sBytes n) = .ok n (sBytes n).length := by
  have := sP_back h0 h1 [] (bits := 64) (by decide) (by constructor <;> simp <;> omega)
  rwa [List.append_nil] at this
end Go.Proofs.YtghekmcdokgkkaaDoor.Vb
