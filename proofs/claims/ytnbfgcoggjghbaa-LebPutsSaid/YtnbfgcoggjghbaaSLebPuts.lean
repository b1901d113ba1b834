/-
  What the functions of layer 1 (numbers in pieces of seven bits) answer, in natural numbers: no program in sight.
-/
import Derived.Test.YtnbfgcoggjghbaaPLebPutsx
import Derived.Test.YtnbfgcoggjghbaaNums
namespace Go.Proofs.Ytnbfgcoggjghbaa.SLebPuts
set_option linter.unusedVariables false
open Go.RowKit Go.Proofs.Ytnbfgcoggjghbaa.PLebPuts Go.Proofs.YtnbfgcoggjghbaaW.PrintWords Go.Proofs.YtnbfgcoggjghbaaW.PrintLast Go.Proofs.YtnbfgcoggjghbaaW.PrintMore Go.Proofs.Ytnbfgcoggjghbaa.Nums
/-- Bytes. -/
def Bytes (l : List Int) : Prop := ∀ x ∈ l, 0 ≤ x ∧ x < 256
theorem bytes_wf {l : List Int} (h : ∀ x ∈ l, (Lit.int .u8 x).wf = true) : Bytes l := fun x hx => by
  obtain ⟨n, rfl, hn⟩ := wf_u8 (h x hx)
  omega
theorem Bytes.take {l : List Int} (h : Bytes l) (n : Nat) : Bytes (l.take n) := fun x hx => h x (List.mem_of_mem_take hx)
theorem Bytes.drop {l : List Int} (h : Bytes l) (n : Nat) : Bytes (l.drop n) := fun x hx => h x (List.mem_of_mem_drop hx)
theorem Bytes.append {l m : List Int} (h : Bytes l) (h' : Bytes m) : Bytes (l ++ m) := fun x hx => by
  rcases List.mem_append.1 hx with hx | hx
  · exact h x hx
  · exact h' x hx
theorem Bytes.at {l : List Int} (h : Bytes l) (i : Nat) : 0 ≤ l.getD i 0 ∧ l.getD i 0 < 256 := by
  rw [List.getD_eq_getElem?_getD]
  by_cases hi : i < l.length
  · rw [List.getElem?_eq_getElem hi]; exact h _ (List.getElem_mem hi)
  · rw [List.getElem?_eq_none (by omega)]; simp
/-- Where the first byte below 128 stands. -/
def ends : List Int → Nat
  | [] => 0
  | x :: xs => if x < 128 then 0 else ends xs + 1
theorem ends_le : ∀ l : List Int, ends l ≤ l.length
  | [] => Nat.le_refl _
  | x :: xs => by
    unfold ends
    split
    · exact Nat.zero_le _
    · have := ends_le xs
      simp; omega
theorem ends_at : ∀ l : List Int, ends l < l.length → l.getD (ends l) 0 < 128
  | [], h => by simp at h
  | x :: xs, h => by
    unfold ends at h ⊢
    by_cases hx : x < 128
    · rw [if_pos hx]; simpa using hx
    · rw [if_neg hx] at h ⊢
      have := ends_at xs (by simpa using h)
      simpa using this
theorem ends_before : ∀ (l : List Int) (j : Nat), j < ends l → 128 ≤ l.getD j 0
  | [], j, h => by simp [ends] at h
  | x :: xs, j, h => by
    unfold ends at h
    by_cases hx : x < 128
    · rw [if_pos hx] at h; omega
    · rw [if_neg hx] at h
      cases j with
      | zero => simp; omega
      | succ j =>
        have := ends_before xs j (by omega)
        simpa using this
theorem ends_ge {l : List Int} {i : Nat} (hi : i ≤ l.length) (h : ∀ j, j < i → 128 ≤ l.getD j 0) : i ≤ ends l := by
  rcases Nat.lt_or_ge (ends l) i with h' | h'
  · have h1 := ends_at l (by omega)
    have h2 := h _ h'
    omega
  · exact h'
theorem ends_eq {l : List Int} {i : Nat} (hi : i < l.length) (h : ∀ j, j < i → 128 ≤ l.getD j 0) (ha : l.getD i 0 < 128) : ends l = i := by
  have h1 := ends_ge (Nat.le_of_lt hi) h
  rcases Nat.lt_or_ge i (ends l) with h' | h'
  · have := ends_before l i h'
    omega
  · omega
/-- The number that the first i bytes make up, seven bits each. -/
def vl (l : List Int) : Nat → Nat
  | 0 => 0
  | i + 1 => vl l i + ((l.getD i 0).toNat % 128) * 2 ^ (7 * i)
theorem vl_lt (l : List Int) : ∀ i, vl l i < 2 ^ (7 * i)
  | 0 => by simp [vl]
  | i + 1 => by
    have h1 := vl_lt l i
    have h2 : (l.getD i 0).toNat % 128 ≤ 127 := by omega
    have h3 : 2 ^ (7 * (i + 1)) = 128 * 2 ^ (7 * i) := by rw [show 7 * (i + 1) = 7 * i + 7 by omega, Nat.pow_add]; omega
    have h4 := Nat.mul_le_mul_right (2 ^ (7 * i)) h2
    unfold vl
    omega
theorem vl_congr {l m : List Int} : ∀ i, (∀ j, j < i → l.getD j 0 = m.getD j 0) → vl l i = vl m i
  | 0, _ => rfl
  | i + 1, h => by
    unfold vl
    rw [vl_congr i (fun j hj => h j (by omega)), h i (by omega)]
/-- The most bytes of a number. -/
def mst (bits : Nat) : Nat := (bits + 6) / 7
/-- The piece of seven bits that comes next. -/
theorem vl_or {l : List Int} {i : Nat} (hi : 7 * i ≤ 63) : (vl l i % 2 ^ 64 ||| ((l.getD i 0).toNat % 128) * 2 ^ (7 * i) % 2 ^ 64) = vl l (i + 1) % 2 ^ 64 := by
  have h1 := vl_lt l i
  rw [← Nat.or_mod_two_pow]
  congr 1
  show _ = vl l i + ((l.getD i 0).toNat % 128) * 2 ^ (7 * i)
  rw [Nat.or_comm, Nat.mul_comm, ← Nat.two_pow_add_eq_or_of_lt h1, Nat.add_comm]
theorem u8_and127 {x : Int} (h0 : 0 ≤ x) (h1 : x < 256) : Go.bits .and .u8 x 127 = x % 128 := by
  have := bits_mask .u8 8 (by decide) wraps_u8 7 (by decide) x h0 (by omega)
  exact this
theorem rd_nat (l : List Int) (i : Nat) : rd l (i : Int) = l.getD i 0 := by simp [rd]
theorem mod128 {x : Int} (h0 : 0 ≤ x) : x % 128 = ((x.toNat % 128 : Nat) : Int) := by omega
def rawSpec (l : List Int) (bits : Nat) : Int × Int × Int × Int :=
  if ends l < l.length ∧ ends l < mst bits then (((vl l (ends l + 1) % 2 ^ 64 : Nat) : Int), l.getD (ends l) 0, ((ends l + 1 : Nat) : Int), 0) else if mst bits ≤ ends l then (0, 0, 0, 2) else (0, 0, 0, 1)
theorem most_eq {bits : Nat} (h : bits ≤ 64) : leb_most.f (bits : Int) = some ((mst bits : Nat) : Int) := by
  unfold leb_most.f
  rw [wrap64_id ((bits : Int) + 6) (by omega) (by omega)]
  have : Int.tdiv ((bits : Int) + 6) 7 = ((mst bits : Nat) : Int) := by
    rw [Int.tdiv_eq_ediv_of_nonneg (by omega)]
    unfold mst
    omega
  rw [this, wrap64_id _ (by omega) (by unfold mst; omega)]
theorem raw_loop {l : List Int} (hb : Bytes l) (_hl : l.length ≤ 140737488351232) {bits : Nat} (_h0 : 1 ≤ bits) (h1 : bits ≤ 64) (d : Nat) :
    ∀ i, i + d = l.length → i < mst bits → (∀ j, j < i → 128 ≤ l.getD j 0) → Ev (fun k => leb_raw.l0 k (bits : Int) ((vl l i % 2 ^ 64 : Nat) : Int) l (l.length : Int) (i : Int)) (rawSpec l bits) := by
  have hm : mst bits ≤ 10 := by unfold mst; omega
  induction d with
  | zero =>
    intro i hi him hj
    have he : ends l = l.length := by have := ends_le l; have := ends_ge (i := i) (by omega) hj; omega
    refine Ev.step (f := fun _ => some (rawSpec l bits)) (fun k => ?_) (Ev.now _)
    simp only [leb_raw.l0]
    rw [if_neg (by omega)]
    unfold rawSpec
    rw [if_neg (by omega), if_neg (by omega)]
  | succ d ih =>
    intro i hi him hj
    have hx := hb.at i
    have hw : wrap64 (7 * (i : Int)) = ((7 * i : Nat) : Int) := by rw [wrap64_id _ (by omega) (by omega)]; omega
    replace hw := Aside0.mk hw
    have hu : IntKind.u64.wrap ((7 * i : Nat) : Int) = ((7 * i : Nat) : Int) := wraps_u64 _ (by omega) (by omega)
    replace hu := Aside0.mk hu
    have hn : Go.bits .or .u64 ((vl l i % 2 ^ 64 : Nat) : Int) (shl .u64 (IntKind.u64.wrap (Go.bits .and .u8 (l.getD i 0) 127)) ((7 * i : Nat) : Int)) = ((vl l (i + 1) % 2 ^ 64 : Nat) : Int) := by
      rw [u8_and127 hx.1 hx.2, mod128 hx.1, wraps_u64 _ (by omega) (by omega), shl_nat _ _ (by omega), bor (mod_lt_pow _ _) (mod_lt_pow _ _), vl_or (by omega)]
    replace hn := Aside0.mk hn
    have hs : wrap64 ((i : Int) + 1) = ((i + 1 : Nat) : Int) := by rw [wrap64_id _ (by omega) (by omega)]; omega
    replace hs := Aside0.mk hs
    by_cases hlt : l.getD i 0 < 128
    · have he := ends_eq (by omega) hj hlt
      refine Ev.step (f := fun _ => some (rawSpec l bits)) (fun k => ?_) (Ev.now _)
      simp only [leb_raw.l0]
      rw [if_pos (by omega), if_pos (by omega), if_pos (by omega), hw.out, hu.out, if_pos (by omega), rd_nat, if_pos hlt, hn.out, hs.out]
      unfold rawSpec
      rw [he, if_pos (by omega)]
    · have hj' : ∀ j, j < i + 1 → 128 ≤ l.getD j 0 := fun j hj2 => by
        by_cases e : j = i
        · subst e; omega
        · exact hj j (by omega)
      by_cases hmi : i + 1 = mst bits
      · have he := ends_ge (by omega) hj'
        refine Ev.step (f := fun _ => some (rawSpec l bits)) (fun k => ?_) (Ev.now _)
        simp only [leb_raw.l0]
        rw [if_pos (by omega), if_pos (by omega), if_pos (by omega), hw.out, hu.out, if_pos (by omega), rd_nat, if_neg hlt, most_eq h1, Option.bind_some, hs.out, if_pos (by omega)]
        unfold rawSpec
        rw [if_neg (by omega), if_pos (by omega)]
      · refine Ev.step (fun k => ?_) (ih (i + 1) (by omega) (by omega) hj')
        simp only [leb_raw.l0]
        rw [if_pos (by omega), if_pos (by omega), if_pos (by omega), hw.out, hu.out, if_pos (by omega), rd_nat, if_neg hlt, most_eq h1, Option.bind_some, hs.out, if_neg (by omega), hn.out]
theorem raw_eq {l : List Int} (hb : Bytes l) (hl : l.length ≤ 140737488351232) {bits : Nat} (h0 : 1 ≤ bits) (h1 : bits ≤ 64) : Ev (fun k => leb_raw.f k l (bits : Int)) (rawSpec l bits) := by
  refine Ev.congr (f := fun k => leb_raw.j0 k l (bits : Int) false) (fun k => by unfold leb_raw.f; rw [if_neg (by omega), decide_eq_false (by omega)]) ?_
  refine Ev.step (fun k => by simp only [leb_raw.j0]; rw [if_neg (by decide)]; rfl) (raw_loop hb hl h0 h1 l.length 0 (by omega) (by unfold mst; omega) (fun j hj => by omega))
theorem raw_arg {l : List Int} {bits : Int} (h : bits < 1 ∨ 64 < bits) : Ev (fun k => leb_raw.f k l bits) (0, 0, 0, 5) := by
  refine Ev.congr (f := fun k => leb_raw.j0 k l bits true) (fun k => ?_) (Ev.step (f := fun _ => some (0, 0, 0, 5)) (fun k => by simp only [leb_raw.j0]; rw [if_pos trivial]) (Ev.now _))
  unfold leb_raw.f
  by_cases h1 : bits < 1
  · rw [if_pos h1]
  · rw [if_neg h1, decide_eq_true (by omega)]
/-- P1.1: an unsigned number: its value, its bytes; or its error. -/
def USpec (l : List Int) (bits : Nat) : Int × Int × Int :=
  if ends l < l.length ∧ ends l < mst bits then (if vl l (ends l + 1) < 2 ^ bits then (((vl l (ends l + 1) : Nat) : Int), ((ends l + 1 : Nat) : Int), 0) else (0, 0, 2)) else if mst bits ≤ ends l then (0, 0, 2) else (0, 0, 1)
theorem vl_small (l : List Int) (s own : Nat) (hlt : l.getD s 0 < 128) (h0 : 0 ≤ l.getD s 0) : vl l (s + 1) < 2 ^ (7 * s + own) ↔ l.getD s 0 < 2 ^ own := by
  have h1 := vl_lt l s
  have h2 : (l.getD s 0).toNat % 128 = (l.getD s 0).toNat := Nat.mod_eq_of_lt (by omega)
  unfold vl
  rw [h2, Nat.pow_add]
  have hc : l.getD s 0 < 2 ^ own ↔ (l.getD s 0).toNat < 2 ^ own := by
    have e : ((2 ^ own : Nat) : Int) = (2 : Int) ^ own := by simp
    omega
  rw [hc]
  generalize (l.getD s 0).toNat = x
  generalize 2 ^ own = Q
  generalize hP : 2 ^ (7 * s) = P at h1 ⊢
  constructor
  · intro h
    rcases Nat.lt_or_ge x Q with h' | h'
    · exact h'
    · have := Nat.mul_le_mul_right P h'
      rw [Nat.mul_comm P Q] at h
      omega
  · intro h
    have := Nat.mul_le_mul_right P (Nat.succ_le_of_lt h)
    rw [Nat.mul_comm P Q]
    rw [Nat.succ_mul] at this
    omega
theorem U_eq {l : List Int} (hb : Bytes l) (hl : l.length ≤ 140737488351232) {bits : Nat} (h0 : 1 ≤ bits) (h1 : bits ≤ 64) : Ev (fun k => leb_U.f k l (bits : Int)) (USpec l bits) := by
  have hm : mst bits ≤ 10 := by unfold mst; omega
  refine Ev.bind (raw_eq hb hl h0 h1) (Ev.congr (f := fun _ => some (USpec l bits)) (fun k => ?_) (Ev.now _))
  unfold rawSpec USpec
  by_cases hc : ends l < l.length ∧ ends l < mst bits
  · rw [if_pos hc, if_pos hc]
    have hx := hb.at (ends l)
    have hlt := ends_at l hc.1
    generalize hs : ends l = s at *
    have hown : 1 ≤ (bits : Int) - 7 * (s : Int) := by unfold mst at hc; omega
    obtain ⟨own, ho⟩ : ∃ own : Nat, (bits : Int) - 7 * (s : Int) = own := ⟨((bits : Int) - 7 * (s : Int)).toNat, by omega⟩
    have e1 : wrap64 ((bits : Int) - wrap64 (7 * wrap64 (((s + 1 : Nat) : Int) - 1))) = (own : Int) := by
      rw [wrap64_id (((s + 1 : Nat) : Int) - 1) (by omega) (by omega), wrap64_id (7 * _) (by omega) (by omega), wrap64_id _ (by omega) (by omega)]
      omega
    replace e1 := Aside0.mk e1
    have hv := vl_small l s own hlt hx.1
    have hbits : 7 * s + own = bits := by omega
    rw [hbits] at hv
    have hv64 : vl l (s + 1) < 2 ^ bits → vl l (s + 1) % 2 ^ 64 = vl l (s + 1) := fun h => Nat.mod_eq_of_lt (Nat.lt_of_lt_of_le h (pow_le h1))
    show (if (0 : Int) = 0 then _ else _) = _
    rw [if_pos rfl]
    show (if wrap64 ((bits : Int) - wrap64 (7 * wrap64 (((s + 1 : Nat) : Int) - 1))) < 7 then _ else _) = _
    rw [e1.out]
    by_cases h7 : (own : Int) < 7
    · rw [if_pos h7]
      show (if 0 ≤ IntKind.u64.wrap (own : Int) then (if shr .u8 (l.getD s 0) (IntKind.u64.wrap (own : Int)) = 0 then some (((vl l (s + 1) % 2 ^ 64 : Nat) : Int), ((s + 1 : Nat) : Int), (0 : Int)) else some (0, 0, 2)) else none) = _
      rw [wraps_u64 _ (by omega) (by omega), if_pos (by omega)]
      have hshr : shr .u8 (l.getD s 0) (own : Int) = 0 ↔ l.getD s 0 < 2 ^ own := by
        unfold shr
        have e : min (Int.toNat (own : Int)) IntKind.u8.bits = own := by show min (Int.toNat (own : Int)) 8 = own; omega
        replace e := Aside0.mk e
        rw [e.out, ediv_zero_iff hx.1 (pow_int_pos _)]
      by_cases hq : l.getD s 0 < 2 ^ own
      · rw [if_pos (hshr.2 hq), if_pos (hv.2 hq), hv64 (hv.2 hq)]
      · rw [if_neg (fun h => hq (hshr.1 h)), if_neg (fun h => hq (hv.1 h))]
    · rw [if_neg h7]
      have hvl : vl l (s + 1) < 2 ^ bits := Nat.lt_of_lt_of_le (vl_lt l (s + 1)) (pow_le (by omega))
      rw [if_pos hvl, hv64 hvl]
  · rw [if_neg hc, if_neg hc]
    by_cases h2 : mst bits ≤ ends l
    · rw [if_pos h2, if_pos h2]; rfl
    · rw [if_neg h2, if_neg h2]; rfl
theorem U_arg {l : List Int} {bits : Int} (h : bits < 1 ∨ 64 < bits) : Ev (fun k => leb_U.f k l bits) (0, 0, 5) :=
  Ev.bind (raw_arg h) (Ev.congr (f := fun _ => some (0, 0, 5)) (fun k => rfl) (Ev.now _))
/-- The same, signed: the highest bit of the last piece counts down. -/
def sv (l : List Int) (s : Nat) : Int := if 2 ^ (7 * s + 6) ≤ vl l (s + 1) then ((vl l (s + 1) : Nat) : Int) - ((2 ^ (7 * s + 7) : Nat) : Int) else ((vl l (s + 1) : Nat) : Int)
/-- P1.1: a signed number. -/
def SSpec (l : List Int) (bits : Nat) : Int × Int × Int :=
  if ends l < l.length ∧ ends l < mst bits then (if -((2 ^ (bits - 1) : Nat) : Int) ≤ sv l (ends l) ∧ sv l (ends l) < ((2 ^ (bits - 1) : Nat) : Int) then (sv l (ends l), ((ends l + 1 : Nat) : Int), 0) else (0, 0, 2)) else if mst bits ≤ ends l then (0, 0, 2) else (0, 0, 1)
theorem vl_large (l : List Int) (s o : Nat) (ho : o ≤ 7) (hlt : l.getD s 0 < 128) (h0 : 0 ≤ l.getD s 0) : 2 ^ (7 * s + 7) - 2 ^ (7 * s + o) ≤ vl l (s + 1) ↔ 128 - 2 ^ o ≤ l.getD s 0 := by
  have h1 := vl_lt l s
  have h2 : (l.getD s 0).toNat % 128 = (l.getD s 0).toNat := Nat.mod_eq_of_lt (by omega)
  unfold vl
  rw [h2, Nat.pow_add, Nat.pow_add]
  have hq : 2 ^ o ≤ 2 ^ 7 := pow_le ho
  have hc : 128 - 2 ^ o ≤ l.getD s 0 ↔ 128 - 2 ^ o ≤ (l.getD s 0).toNat := by
    have e : ((2 ^ o : Nat) : Int) = (2 : Int) ^ o := by simp
    omega
  rw [hc]
  have hx : (l.getD s 0).toNat < 128 := by omega
  generalize (l.getD s 0).toNat = x at hx ⊢
  generalize 2 ^ o = Q at hq ⊢
  generalize hP : 2 ^ (7 * s) = P at h1 ⊢
  rw [← Nat.mul_sub]
  have e7 : (2 : Nat) ^ 7 = 128 := rfl
  rw [e7] at hq ⊢
  rw [Nat.mul_comm P]
  constructor
  · intro h
    rcases Nat.lt_or_ge x (128 - Q) with h' | h'
    · have := Nat.mul_le_mul_right P (Nat.succ_le_of_lt h')
      rw [Nat.succ_mul] at this
      omega
    · exact h'
  · intro h
    have := Nat.mul_le_mul_right P h
    omega
theorem shr8 {x : Int} (o : Nat) (ho : o ≤ 8) : shr .u8 x (o : Int) = x / 2 ^ o := by
  unfold shr
  have e : min (Int.toNat (o : Int)) IntKind.u8.bits = o := by show min (Int.toNat (o : Int)) 8 = o; omega
  replace e := Aside0.mk e
  rw [e.out]
theorem u8_and64 {x : Int} (h0 : 0 ≤ x) (h1 : x < 128) : Go.bits .and .u8 x 64 = 0 ↔ x < 64 := by
  obtain ⟨n, rfl⟩ := Int.eq_ofNat_of_zero_le h0
  have := (bits_nat .u8 8 (by decide) wraps_u8 n 64 (by omega) (by decide)).1
  rw [show ((64 : Int)) = ((64 : Nat) : Int) from rfl, this]
  have h2 := and_pow_eq_zero n 6
  rw [show (2 : Nat) ^ 6 = 64 from rfl] at h2
  constructor
  · intro h
    have h3 := h2.1 (by omega)
    rcases Nat.lt_or_ge n 64 with h' | h'
    · omega
    · exfalso
      have : n.testBit 6 = true := by
        rw [Nat.testBit_eq_decide_div_mod_eq]
        simp
        omega
      rw [this] at h3
      cases h3
  · intro h
    have : n.testBit 6 = false := Nat.testBit_lt_two_pow (by omega)
    have := h2.2 this
    omega
theorem or_high {v t : Nat} (hv : v < 2 ^ t) (ht : t ≤ 64) : v ||| (2 ^ 64 - 2 ^ t) = v + (2 ^ 64 - 2 ^ t) := by
  have e : 2 ^ 64 - 2 ^ t = 2 ^ t * (2 ^ (64 - t) - 1) := by
    rw [Nat.mul_sub, ← Nat.pow_add, Nat.mul_one]
    congr 2
    omega
  rw [e, Nat.or_comm, ← Nat.two_pow_add_eq_or_of_lt hv]
  omega
theorem S_tail {l : List Int} (hb : Bytes l) (s : Nat) (hlt : l.getD s 0 < 128) (hs : s ≤ 9) (h9 : s = 9 → -9223372036854775808 ≤ sv l s ∧ sv l s < 9223372036854775808) :
    Ev (fun k => leb_S.j0 k ((vl l (s + 1) % 2 ^ 64 : Nat) : Int) (l.getD s 0) ((s + 1 : Nat) : Int) false) (sv l s, ((s + 1 : Nat) : Int), 0) := by
  have hx := hb.at s
  have hV := vl_lt l (s + 1)
  have h6 := vl_small l s 6 hlt hx.1
  have e1 : wrap64 (7 * ((s + 1 : Nat) : Int)) = ((7 * s + 7 : Nat) : Int) := by rw [wrap64_id _ (by omega) (by omega)]; omega
  replace e1 := Aside0.mk e1
  have e2 : (2 : Int) ^ 6 = 64 := rfl
  rw [e2] at h6
  refine Ev.step (f := fun _ => some (sv l s, ((s + 1 : Nat) : Int), 0)) (fun k => ?_) (Ev.now _)
  simp only [leb_S.j0]
  rw [if_neg (by decide), e1.out]
  have hmul : 7 * (s + 1) = 7 * s + 7 := by omega
  rw [hmul] at hV
  have hpp : 2 ^ (7 * s + 7) = 2 * 2 ^ (7 * s + 6) := by rw [show 7 * s + 7 = (7 * s + 6) + 1 by omega, Nat.pow_succ]; omega
  by_cases h64 : ((7 * s + 7 : Nat) : Int) < 64
  · have hle : 2 ^ (7 * s + 7) ≤ 2 ^ 63 := pow_le (by omega)
    have hVs : vl l (s + 1) % 2 ^ 64 = vl l (s + 1) := Nat.mod_eq_of_lt (by omega)
    rw [if_pos h64, hVs]
    by_cases hn : Go.bits .and .u8 (l.getD s 0) 64 = 0
    · rw [if_pos hn]
      have hsm := h6.2 ((u8_and64 hx.1 hlt).1 hn)
      unfold sv
      rw [if_neg (by omega), wrap64_id _ (by omega) (by omega)]
    · have hsm : ¬ vl l (s + 1) < 2 ^ (7 * s + 6) := fun h => hn ((u8_and64 hx.1 hlt).2 (h6.1 h))
      rw [if_neg hn, wraps_u64 _ (by omega) (by omega), if_pos (by omega)]
      have hsh : shl .u64 18446744073709551615 ((7 * s + 7 : Nat) : Int) = ((2 ^ 64 - 2 ^ (7 * s + 7) : Nat) : Int) := by
        have := shl_nat 18446744073709551615 (7 * s + 7) (by omega)
        rw [show ((18446744073709551615 : Nat) : Int) = 18446744073709551615 from rfl] at this
        rw [this]
        congr 1
        have h2 : 18446744073709551615 * 2 ^ (7 * s + 7) = (2 ^ 64 - 2 ^ (7 * s + 7)) + 2 ^ 64 * (2 ^ (7 * s + 7) - 1) := by
          have h3 := pow_pos (7 * s + 7)
          generalize 2 ^ (7 * s + 7) = Q at hle h3 ⊢
          omega
        rw [h2, Nat.add_mul_mod_self_left, Nat.mod_eq_of_lt]
        have h3 := pow_pos (7 * s + 7)
        omega
      replace hsh := Aside0.mk hsh
      have hh : 2 ^ 64 - 2 ^ (7 * s + 7) < 2 ^ 64 := by have h3 := pow_pos (7 * s + 7); omega
      rw [hsh.out, bor (by omega) hh, or_high hV (by omega)]
      unfold sv
      rw [if_pos (by omega)]
      refine congrArg some (Prod.ext ?_ rfl)
      show wrap64 _ = _
      unfold wrap64
      have h3 := pow_pos (7 * s + 6)
      generalize 2 ^ (7 * s + 7) = Q at hle hV hpp ⊢
      omega
  · obtain rfl : s = 9 := by omega
    rw [if_neg h64]
    have h9' := h9 rfl
    refine congrArg some (Prod.ext ?_ rfl)
    show wrap64 _ = _
    unfold sv at h9' ⊢
    unfold wrap64
    simp only [Nat.reducePow, Nat.reduceMul, Nat.reduceAdd] at hV hpp h9' ⊢
    split at h9' <;> rename_i hh <;> simp only [hh, if_true, if_false] <;> omega
theorem S_eq {l : List Int} (hb : Bytes l) (hl : l.length ≤ 140737488351232) {bits : Nat} (h0 : 1 ≤ bits) (h1 : bits ≤ 64) : Ev (fun k => leb_S.f k l (bits : Int)) (SSpec l bits) := by
  have hm : mst bits ≤ 10 := by unfold mst; omega
  unfold leb_S.f
  refine Ev.bind (raw_eq hb hl h0 h1) ?_
  unfold rawSpec SSpec
  by_cases hc : ends l < l.length ∧ ends l < mst bits
  · rw [if_pos hc, if_pos hc]
    have hx := hb.at (ends l)
    have hlt := ends_at l hc.1
    generalize hs : ends l = s at *
    obtain ⟨own, ho⟩ : ∃ own : Nat, (bits : Int) - 7 * (s : Int) = own := ⟨((bits : Int) - 7 * (s : Int)).toNat, by unfold mst at hc; omega⟩
    have hown : 1 ≤ own := by unfold mst at hc; omega
    have e1 : wrap64 ((bits : Int) - wrap64 (7 * wrap64 (((s + 1 : Nat) : Int) - 1))) = (own : Int) := by
      rw [wrap64_id (((s + 1 : Nat) : Int) - 1) (by omega) (by omega), wrap64_id (7 * _) (by omega) (by omega), wrap64_id _ (by omega) (by omega)]
      omega
    replace e1 := Aside0.mk e1
    have hbits : 7 * s + own = bits := by omega
    have hV := vl_lt l (s + 1)
    rw [show 7 * (s + 1) = 7 * s + 7 by omega] at hV
    have hpp : 2 ^ (7 * s + 7) = 2 * 2 ^ (7 * s + 6) := by rw [show 7 * s + 7 = (7 * s + 6) + 1 by omega, Nat.pow_succ]; omega
    simp only [if_true, e1.out]
    by_cases h7 : (own : Int) < 7
    · simp only [if_pos h7]
      have e2 : wrap64 ((own : Int) - 1) = ((own - 1 : Nat) : Int) := by rw [wrap64_id _ (by omega) (by omega)]; omega
      replace e2 := Aside0.mk e2
      have e3 : IntKind.u64.wrap ((own - 1 : Nat) : Int) = ((own - 1 : Nat) : Int) := wraps_u64 _ (by omega) (by omega)
      replace e3 := Aside0.mk e3
      simp only [e2.out, e3.out]
      simp only [if_pos (show (0 : Int) ≤ ((own - 1 : Nat) : Int) by omega)]
      rw [shr8 _ (by omega), shr8 _ (by omega)]
      have hsm := vl_small l s (own - 1) hlt hx.1
      have hla := vl_large l s (own - 1) (by omega) hlt hx.1
      have hb1 : 7 * s + (own - 1) = bits - 1 := by omega
      rw [hb1] at hsm hla
      have hp6 : 2 ^ (bits - 1) ≤ 2 ^ (7 * s + 6) := pow_le (by omega)
      have hz : l.getD s 0 / 2 ^ (own - 1) = 0 ↔ l.getD s 0 < 2 ^ (own - 1) := by
        rw [ediv_zero_iff hx.1 (pow_int_pos _)]
      have ht : l.getD s 0 / 2 ^ (own - 1) = 127 / 2 ^ (own - 1) ↔ 128 - 2 ^ (own - 1) ≤ l.getD s 0 := by
        generalize l.getD s 0 = x at hx hlt ⊢
        have : own = 1 ∨ own = 2 ∨ own = 3 ∨ own = 4 ∨ own = 5 ∨ own = 6 := by omega
        rcases this with rfl | rfl | rfl | rfl | rfl | rfl <;> simp <;> omega
      have h9 : s = 9 → (-((2 ^ (bits - 1) : Nat) : Int) ≤ sv l s ∧ sv l s < ((2 ^ (bits - 1) : Nat) : Int)) → -9223372036854775808 ≤ sv l s ∧ sv l s < 9223372036854775808 := by
        rintro rfl hr
        have : bits = 64 := by omega
        subst this
        exact hr
      by_cases hq : l.getD s 0 / 2 ^ (own - 1) = 0
      · simp only [if_pos hq]
        have h5 := hsm.2 (hz.1 hq)
        have hr : -((2 ^ (bits - 1) : Nat) : Int) ≤ sv l s ∧ sv l s < ((2 ^ (bits - 1) : Nat) : Int) := by
          unfold sv
          rw [if_neg (by omega)]
          omega
        rw [if_pos hr]
        exact S_tail hb s hlt (by omega) (fun h => h9 h hr)
      · simp only [if_neg hq]
        have h5 : ¬ vl l (s + 1) < 2 ^ (bits - 1) := fun h => hq (hz.2 (hsm.1 h))
        by_cases hq2 : l.getD s 0 / 2 ^ (own - 1) = 127 / 2 ^ (own - 1)
        · have h6 := hla.2 (ht.1 hq2)
          have hr : -((2 ^ (bits - 1) : Nat) : Int) ≤ sv l s ∧ sv l s < ((2 ^ (bits - 1) : Nat) : Int) := by
            unfold sv
            rw [if_pos (by omega)]
            omega
          rw [if_pos hr, bne_eq_false_iff_eq.2 hq2]
          exact S_tail hb s hlt (by omega) (fun h => h9 h hr)
        · have h6 : ¬ 2 ^ (7 * s + 7) - 2 ^ (bits - 1) ≤ vl l (s + 1) := fun h => hq2 (ht.2 (hla.1 h))
          have hr : ¬ (-((2 ^ (bits - 1) : Nat) : Int) ≤ sv l s ∧ sv l s < ((2 ^ (bits - 1) : Nat) : Int)) := by
            unfold sv
            split <;> omega
          rw [if_neg hr, bne_iff_ne.2 hq2]
          exact Ev.step (f := fun _ => some (0, 0, 2)) (fun k => by simp only [leb_S.j0]; rw [if_pos trivial]) (Ev.now _)
    · have hp7 : 2 ^ (7 * s + 6) ≤ 2 ^ (bits - 1) := pow_le (by omega)
      have hr : -((2 ^ (bits - 1) : Nat) : Int) ≤ sv l s ∧ sv l s < ((2 ^ (bits - 1) : Nat) : Int) := by
        unfold sv
        split <;> omega
      rw [if_pos hr]
      simp only [if_neg h7]
      obtain ⟨K, hK⟩ := S_tail hb s hlt (by omega) (fun h => by omega)
      refine ⟨K, fun k hk => ?_⟩
      have := hK (k + 1) (by omega)
      simp only [leb_S.j0] at this
      rw [if_neg (by decide)] at this
      exact this
  · rw [if_neg hc, if_neg hc]
    by_cases h2 : mst bits ≤ ends l
    · rw [if_pos h2, if_pos h2]; exact Ev.now _
    · rw [if_neg h2, if_neg h2]; exact Ev.now _
theorem S_arg {l : List Int} {bits : Int} (h : bits < 1 ∨ 64 < bits) : Ev (fun k => leb_S.f k l bits) (0, 0, 5) :=
  Ev.bind (raw_arg h) (Ev.congr (f := fun _ => some (0, 0, 5)) (fun k => rfl) (Ev.now _))
theorem rmost_eq {bits : Nat} (h1 : bits ≤ 64) : Ev (fun k => trammelref01_most.f k (bits : Int)) ((mst bits : Nat) : Int) := by
  have go : ∀ d i, i + d = mst bits → Ev (fun k => trammelref01_most.l0 k (bits : Int) (i : Int)) ((mst bits : Nat) : Int) := fun d => by
    induction d with
    | zero =>
      intro i hi
      refine Ev.step (f := fun _ => some ((mst bits : Nat) : Int)) (fun k => ?_) (Ev.now _)
      simp only [trammelref01_most.l0]
      rw [wrap64_id _ (by unfold mst at hi; omega) (by unfold mst at hi; omega), if_neg (by unfold mst at hi; omega)]
      rw [← hi]; rfl
    | succ d ih =>
      intro i hi
      refine Ev.step (fun k => ?_) (ih (i + 1) (by omega))
      simp only [trammelref01_most.l0]
      rw [wrap64_id _ (by unfold mst at hi; omega) (by unfold mst at hi; omega), if_pos (by unfold mst at hi; omega), wrap64_id _ (by unfold mst at hi; omega) (by unfold mst at hi; omega)]
      rfl
  exact go (mst bits) 0 (by omega)
def bitsOf (V n : Nat) : List Bool := (List.range n).map (fun j => V.testBit j)
theorem bitsOf_length (V n : Nat) : (bitsOf V n).length = n := by simp [bitsOf]
theorem bitsOf_succ (V n : Nat) : bitsOf V n ++ [V.testBit n] = bitsOf V (n + 1) := by simp [bitsOf, List.range_succ]
theorem bitsOf_at (V : Nat) {n i : Nat} (h : i < n) : rdOf false (bitsOf V n) (i : Int) = V.testBit i := by
  unfold rdOf bitsOf
  rw [Int.toNat_natCast, List.getD_eq_getElem?_getD, List.getElem?_map, List.getElem?_range h]
  rfl
theorem vl_testBit (l : List Int) (i j : Nat) : (vl l (i + 1)).testBit j = if j < 7 * i then (vl l i).testBit j else ((l.getD i 0).toNat % 128).testBit (j - 7 * i) := by
  show (vl l i + ((l.getD i 0).toNat % 128) * 2 ^ (7 * i)).testBit j = _
  rw [Nat.add_comm, Nat.mul_comm, Nat.testBit_two_pow_mul_add _ (vl_lt l i)]
theorem bitsOf_vl (l : List Int) (i : Nat) : bitsOf (vl l (i + 1)) (7 * i) = bitsOf (vl l i) (7 * i) := by
  unfold bitsOf
  refine List.map_congr_left (fun j hj => ?_)
  rw [vl_testBit, if_pos (by simpa using hj)]
def RSpec (l : List Int) (bits : Nat) : List Bool × Int × Int :=
  if ends l < l.length ∧ ends l < mst bits then (bitsOf (vl l (ends l + 1)) (7 * (ends l + 1)), ((ends l + 1 : Nat) : Int), 0) else if mst bits ≤ ends l then ([], 0, 2) else ([], 0, 1)
theorem read_bit {x : Int} (h0 : 0 ≤ x) (k : Nat) (hk : k < 7) : ((Int.tmod (shr .u8 x (k : Int)) 2) == 1) = (x.toNat % 128).testBit k := by
  obtain ⟨n, rfl⟩ := Int.eq_ofNat_of_zero_le h0
  have e : shr .u8 (n : Int) (k : Int) = ((n / 2 ^ k : Nat) : Int) := by
    unfold shr
    have e : min (Int.toNat (k : Int)) IntKind.u8.bits = k := by show min (Int.toNat (k : Int)) 8 = k; omega
    rw [e]; simp
  replace e := Aside0.mk e
  rw [e.out, Int.tmod_eq_emod_of_nonneg (Int.natCast_nonneg _), Int.toNat_natCast, show (128 : Nat) = 2 ^ 7 from rfl, Nat.testBit_mod_two_pow, decide_eq_true hk, Bool.true_and, Nat.testBit_eq_decide_div_mod_eq, Bool.eq_iff_iff, beq_iff_eq, decide_eq_true_iff]
  generalize n / 2 ^ k = q
  omega
theorem read_loop {l : List Int} (hb : Bytes l) (_hl : l.length ≤ 140737488351232) {bits : Nat} (_h0 : 1 ≤ bits) (h1 : bits ≤ 64) (d : Nat) :
    ∀ i, i + d = mst bits → i ≤ l.length → (∀ j, j < i → 128 ≤ l.getD j 0) → Ev (fun k => trammelref01_Read.l0 k l (bits : Int) (bitsOf (vl l i) (7 * i)) (i : Int)) (RSpec l bits) := by
  have hm : mst bits ≤ 10 := by unfold mst; omega
  have hM := rmost_eq h1
  induction d with
  | zero =>
    intro i hi hil hj
    have he := ends_ge hil hj
    refine Ev.step (f := fun k => (trammelref01_most.f k (bits : Int)).bind _) (fun k => by simp only [trammelref01_Read.l0]; rfl) (Ev.bind hM ?_)
    refine Ev.congr (f := fun _ => some (RSpec l bits)) (fun k => ?_) (Ev.now _)
    rw [if_neg (by omega)]
    unfold RSpec
    rw [if_neg (by omega), if_pos (by omega)]
  | succ d ih =>
    intro i hi hil hj
    refine Ev.step (f := fun k => (trammelref01_most.f k (bits : Int)).bind _) (fun k => by simp only [trammelref01_Read.l0]; rfl) (Ev.bind hM ?_)
    by_cases hlen : i = l.length
    · have he := ends_ge hil hj
      have he2 := ends_le l
      refine Ev.congr (f := fun _ => some (RSpec l bits)) (fun k => ?_) (Ev.now _)
      rw [if_pos (by omega), if_pos (by omega)]
      unfold RSpec
      rw [if_neg (by omega), if_neg (by omega)]
    · refine Ev.congr (f := fun k => trammelref01_Read.l1 k l (bits : Int) (bitsOf (vl l i) (7 * i)) (i : Int) 0) (fun k => by rw [if_pos (by omega), if_neg (by omega)]) ?_
      have hx := hb.at i
      have inner : ∀ d' k', k' + d' = 7 → Ev (fun k => trammelref01_Read.l1 k l (bits : Int) (bitsOf (vl l (i + 1)) (7 * i + k')) (i : Int) (k' : Int)) (RSpec l bits) := fun d' => by
        induction d' with
        | zero =>
          intro k' hk'
          obtain rfl : k' = 7 := by omega
          by_cases hlt : l.getD i 0 < 128
          · have he := ends_eq (by omega) hj hlt
            refine Ev.step (f := fun _ => some (RSpec l bits)) (fun k => ?_) (Ev.now _)
            simp only [trammelref01_Read.l1]
            rw [if_neg (by omega), if_pos (by omega), if_pos (by omega), rd_nat, if_pos hlt, wrap64_id _ (by omega) (by omega)]
            unfold RSpec
            rw [he, if_pos (by omega)]
            rfl
          · refine Ev.step (fun k => ?_) (ih (i + 1) (by omega) (by omega) (fun j hj2 => ?_))
            · simp only [trammelref01_Read.l1]
              rw [if_neg (by omega), if_pos (by omega), if_pos (by omega), rd_nat, if_neg hlt, wrap64_id _ (by omega) (by omega)]
              rfl
            · by_cases e : j = i
              · subst e; omega
              · exact hj j (by omega)
        | succ d' ih' =>
          intro k' hk'
          refine Ev.step (fun k => ?_) (ih' (k' + 1) (by omega))
          simp only [trammelref01_Read.l1]
          rw [if_pos (by omega), if_pos (by omega), if_pos (by omega), wraps_u64 _ (by omega) (by omega), if_pos (by omega), bitsOf_length, if_pos (by omega), rd_nat, read_bit hx.1 k' (by omega), wrap64_id _ (by omega) (by omega)]
          have hbit : ((l.getD i 0).toNat % 128).testBit k' = (vl l (i + 1)).testBit (7 * i + k') := by
            rw [vl_testBit, if_neg (by omega)]
            congr 1
            omega
          rw [hbit, bitsOf_succ]
          rfl
      have := inner 7 0 (by omega)
      rw [show 7 * i + 0 = 7 * i from rfl, bitsOf_vl] at this
      exact this
theorem read_eq {l : List Int} (hb : Bytes l) (hl : l.length ≤ 140737488351232) {bits : Nat} (h0 : 1 ≤ bits) (h1 : bits ≤ 64) : Ev (fun k => trammelref01_Read.f k l (bits : Int)) (RSpec l bits) := by
  refine Ev.congr (f := fun k => trammelref01_Read.j0 k l (bits : Int) false) (fun k => by unfold trammelref01_Read.f; rw [if_neg (by omega), decide_eq_false (by omega)]) ?_
  refine Ev.step (fun k => by simp only [trammelref01_Read.j0]; rw [if_neg (by decide)]; rfl) (read_loop hb hl h0 h1 (mst bits) 0 (by omega) (by omega) (fun j hj => by omega))
theorem read_arg {l : List Int} {bits : Int} (h : bits < 1 ∨ 64 < bits) : Ev (fun k => trammelref01_Read.f k l bits) ([], 0, 5) := by
  refine Ev.congr (f := fun k => trammelref01_Read.j0 k l bits true) (fun k => ?_) (Ev.step (f := fun _ => some ([], 0, 5)) (fun k => by simp only [trammelref01_Read.j0]; rw [if_pos trivial]) (Ev.now _))
  unfold trammelref01_Read.f
  by_cases h1 : bits < 1
  · rw [if_pos h1]
  · rw [if_neg h1, decide_eq_true (by omega)]
/-- The 64 bits that a signed number's bits stand for. -/
def full (V n : Nat) : Nat := if n < 64 then (if V.testBit (n - 1) then V + (2 ^ 64 - 2 ^ n) else V) else V % 2 ^ 64
theorem full_lt {V n : Nat} (hV : V < 2 ^ n) : full V n < 2 ^ 64 := by
  unfold full
  split
  · rename_i h
    have h1 := pow_le (Nat.le_of_lt h)
    split <;> omega
  · exact mod_lt_pow _ _
theorem full_bit {V n i : Nat} (hV : V < 2 ^ n) (h0 : 1 ≤ n) (hi : i < 64) : (full V n).testBit i = if i < n then V.testBit i else V.testBit (n - 1) := by
  unfold full
  by_cases hn : n < 64
  · rw [if_pos hn]
    by_cases hs : V.testBit (n - 1) = true
    · rw [if_pos hs, ← or_high hV (Nat.le_of_lt hn), Nat.testBit_or]
      have e : 2 ^ 64 - 2 ^ n = 2 ^ n * (2 ^ (64 - n) - 1) := by
        rw [Nat.mul_sub, ← Nat.pow_add, Nat.mul_one]
        congr 2
        omega
      have e2 := Nat.testBit_two_pow_mul_add (2 ^ (64 - n) - 1) (pow_pos n) i
      rw [Nat.add_zero] at e2
      rw [e, e2]
      by_cases hin : i < n
      · rw [if_pos hin, if_pos hin]; simp
      · rw [if_neg hin, if_neg hin, Nat.testBit_two_pow_sub_one, hs, decide_eq_true (by omega)]; simp
    · rw [if_neg hs]
      by_cases hin : i < n
      · rw [if_pos hin]
      · rw [if_neg hin, Nat.testBit_lt_two_pow (Nat.lt_of_lt_of_le hV (pow_le (by omega)))]
        simpa using hs
  · rw [if_neg hn, Nat.testBit_mod_two_pow, decide_eq_true hi, Bool.true_and, if_pos (by omega)]
theorem step_num (q F : Nat) (b : Bool) (hq : q < 9223372036854775808) (hF : F = 2 * q + (if b = true then 1 else 0)) :
    (if b = true then wrap64 (wrap64 (wrap64 (q : Int) * 2) + 1) else wrap64 (wrap64 (q : Int) * 2)) = wrap64 (F : Int) := by
  subst hF
  cases b
  · simp only [Bool.false_eq_true, if_false]
    unfold wrap64
    omega
  · simp only [if_true]
    unfold wrap64
    omega
theorem dec_one {n : Nat} (h : 1 ≤ n) (h' : n ≤ 100) : wrap64 ((n : Int) - 1) = ((n - 1 : Nat) : Int) := by
  rw [wrap64_id _ (by omega) (by omega)]
  omega
theorem dec_int {n : Nat} (h' : n ≤ 100) : wrap64 ((n : Int) - 1) = (n : Int) - 1 := wrap64_id _ (by omega) (by omega)
theorem halves (F d : Nat) : F / 2 ^ d = 2 * (F / 2 ^ (d + 1)) + (if F.testBit d = true then 1 else 0) := by
  rw [Nat.testBit_eq_decide_div_mod_eq, Nat.pow_succ, ← Nat.div_div_eq_div_mul]
  generalize F / 2 ^ d = q
  by_cases h : q % 2 = 1
  · rw [if_pos (decide_eq_true h)]; omega
  · rw [if_neg (by simpa using h)]; omega
theorem half_lt {F d : Nat} (hF : F < 2 ^ 64) : F / 2 ^ (d + 1) < 9223372036854775808 := by
  rw [Nat.div_lt_iff_lt_mul (pow_pos _)]
  have h1 : 2 ^ 1 ≤ 2 ^ (d + 1) := pow_le (by omega)
  generalize 2 ^ (d + 1) = Q at h1 ⊢
  omega
theorem RS_tail (V n : Nat) (h0 : 1 ≤ n) (hn : n ≤ 70) (hV : V < 2 ^ n) (s : Int) (d : Nat) :
    ∀ i : Int, i + 1 = (d : Int) → d ≤ 64 → Ev (fun k => trammelref01_S.l1 k (bitsOf V n) s (wrap64 ((full V n / 2 ^ d : Nat) : Int)) i) (wrap64 ((full V n : Nat) : Int), s, 0) := by
  induction d with
  | zero =>
    intro i hi _
    refine Ev.step (f := fun _ => some (wrap64 ((full V n : Nat) : Int), s, 0)) (fun k => ?_) (Ev.now _)
    simp only [trammelref01_S.l1]
    rw [if_neg (by omega), Nat.pow_zero, Nat.div_one]
  | succ d ih =>
    intro i hi hd
    obtain rfl : i = (d : Int) := by omega
    refine Ev.step (fun k => ?_) (ih ((d : Int) - 1) (by omega) (by omega))
    have step := fun (b : Bool) (hb : (full V n).testBit d = b) => step_num (full V n / 2 ^ (d + 1)) (full V n / 2 ^ d) b (half_lt (full_lt hV)) ((halves (full V n) d).trans (by rw [hb]))
    clear ih
    simp only [trammelref01_S.l1]
    have hp : (d : Int) ≥ 0 := Int.natCast_nonneg _
    have hp2 : (0 : Int) ≤ ((n - 1 : Nat) : Int) := Int.natCast_nonneg _
    have hp3 : ((n - 1 : Nat) : Int) < (n : Int) := by omega
    rw [if_pos hp, bitsOf_length, dec_one h0 (by omega), if_pos hp2, if_pos hp3, bitsOf_at V (show n - 1 < n by omega), dec_int (show d ≤ 100 by omega)]
    have hfb := full_bit hV h0 (show d < 64 by omega)
    by_cases hdn : d < n
    · rw [if_pos hdn] at hfb
      have hdn' : (d : Int) < (n : Int) := by omega
      rw [if_pos hdn', if_pos hp, bitsOf_at V hdn, ← step _ hfb]
      cases V.testBit d
      · rw [if_neg (by decide), if_neg (by decide)]
      · rw [if_pos (rfl : true = true), if_pos (rfl : true = true)]
    · rw [if_neg hdn] at hfb
      have hdn' : ¬ (d : Int) < (n : Int) := by omega
      rw [if_neg hdn', ← step _ hfb]
      cases V.testBit (n - 1)
      · rw [if_neg (by decide), if_neg (by decide)]
      · rw [if_pos (rfl : true = true), if_pos (rfl : true = true)]
open Classical in
theorem RS_loop {bits : Nat} (hb0 : 1 ≤ bits) (hb1 : bits ≤ 64) (V n : Nat) (h0 : 1 ≤ n) (hn : n ≤ 70) (hV : V < 2 ^ n) (s : Int) (d : Nat) :
    ∀ i : Nat, bits ≤ i → (n ≤ i ∨ i + d = n) → (∀ j, bits ≤ j → j < i → j < n → V.testBit j = V.testBit (bits - 1)) →
      Ev (fun k => trammelref01_S.l0 k (bits : Int) (bitsOf V n) s (i : Int)) (if ∀ j, bits ≤ j → j < n → V.testBit j = V.testBit (bits - 1) then (wrap64 ((full V n : Nat) : Int), s, 0) else (0, 0, 2)) := by
  have hF := full_lt hV
  have last : ∀ i : Nat, n ≤ i → (∀ j, bits ≤ j → j < n → V.testBit j = V.testBit (bits - 1)) → Ev (fun k => trammelref01_S.l0 k (bits : Int) (bitsOf V n) s (i : Int)) (if ∀ j, bits ≤ j → j < n → V.testBit j = V.testBit (bits - 1) then (wrap64 ((full V n : Nat) : Int), s, 0) else (0, 0, 2)) := fun i hi hall => by
    rw [if_pos hall]
    have := RS_tail V n h0 hn hV s 64 63 (by omega) (by omega)
    rw [Nat.div_eq_of_lt hF, wrap64_id ((0 : Nat) : Int) (by decide) (by decide)] at this
    refine Ev.step (fun k => ?_) this
    simp only [trammelref01_S.l0]
    rw [bitsOf_length, if_neg (by omega)]
    rfl
  induction d with
  | zero =>
    intro i hi hin hj
    exact last i (by omega) (fun j h1 h2 => hj j h1 (by omega) h2)
  | succ d ih =>
    intro i hi hin hj
    by_cases hni : n ≤ i
    · exact last i hni (fun j h1 h2 => hj j h1 (by omega) h2)
    · have e1 : wrap64 ((bits : Int) - 1) = ((bits - 1 : Nat) : Int) := by rw [wrap64_id _ (by omega) (by omega)]; omega
      replace e1 := Aside0.mk e1
      by_cases hb : V.testBit i = V.testBit (bits - 1)
      · refine Ev.step (fun k => ?_) (ih (i + 1) (by omega) (by omega) (fun j h1 h2 h3 => ?_))
        · simp only [trammelref01_S.l0]
          rw [bitsOf_length, if_pos (by omega), if_pos (by omega), e1.out, if_pos (by omega), if_pos (by omega), bitsOf_at V (by omega), bitsOf_at V (by omega), hb, if_neg (by simp), wrap64_id _ (by omega) (by omega)]
          rfl
        · by_cases e : j = i
          · subst e; exact hb
          · exact hj j h1 (by omega) h3
      · rw [if_neg (fun h => hb (h i hi (by omega)))]
        refine Ev.step (f := fun _ => some (0, 0, 2)) (fun k => ?_) (Ev.now _)
        simp only [trammelref01_S.l0]
        rw [bitsOf_length, if_pos (by omega), if_pos (by omega), e1.out, if_pos (by omega), if_pos (by omega), bitsOf_at V (by omega), bitsOf_at V (by omega), if_pos (by simpa using hb)]
/-- All the bits from a place on are the same: the number lies near the one end or the other. -/
theorem same_bits {V n b : Nat} (hV : V < 2 ^ n) (hbn : b < n) : (∀ j, b + 1 ≤ j → j < n → V.testBit j = V.testBit b) ↔ V < 2 ^ b ∨ 2 ^ n - 2 ^ b ≤ V := by
  have hp := pow_le (Nat.le_of_lt hbn)
  constructor
  · intro h
    by_cases hs : V.testBit b = true
    · right
      have e : V = V % 2 ^ b + 2 ^ b * (V / 2 ^ b) := (Nat.mod_add_div V (2 ^ b)).symm
      have hq : V / 2 ^ b = 2 ^ (n - b) - 1 := by
        refine Nat.eq_of_testBit_eq (fun j => ?_)
        rw [Nat.testBit_two_pow_sub_one, Nat.testBit_div_two_pow]
        by_cases hj : j < n - b
        · rw [decide_eq_true hj]
          by_cases h0 : j = 0
          · subst h0; simpa using hs
          · rw [h (j + b) (by omega) (by omega)]; exact hs
        · rw [decide_eq_false hj, Nat.testBit_lt_two_pow (Nat.lt_of_lt_of_le hV (pow_le (by omega)))]
      rw [hq] at e
      have e2 : 2 ^ b * (2 ^ (n - b) - 1) = 2 ^ n - 2 ^ b := by
        rw [Nat.mul_sub, ← Nat.pow_add, Nat.mul_one]
        congr 2
        omega
      omega
    · left
      refine Nat.lt_pow_two_of_testBit V (fun j hj => ?_)
      by_cases hjn : j < n
      · by_cases e : j = b
        · subst e; simpa using hs
        · rw [h j (by omega) hjn]; simpa using hs
      · exact Nat.testBit_lt_two_pow (Nat.lt_of_lt_of_le hV (pow_le (by omega)))
  · rintro (h | h) j h1 h2
    · rw [Nat.testBit_lt_two_pow (Nat.lt_of_lt_of_le h (pow_le (by omega))), Nat.testBit_lt_two_pow h]
    · have hq : V / 2 ^ b = 2 ^ (n - b) - 1 := by
        have e2 : 2 ^ b * (2 ^ (n - b) - 1) = 2 ^ n - 2 ^ b := by
          rw [Nat.mul_sub, ← Nat.pow_add, Nat.mul_one]
          congr 2
          omega
        have hpb := pow_pos b
        have hpn := pow_pos (n - b)
        have e3 : 2 ^ b * (2 ^ (n - b) - 1 + 1) = 2 ^ n := by
          rw [Nat.sub_add_cancel hpn, ← Nat.pow_add]
          congr 1
          omega
        refine Nat.div_eq_of_lt_le ?_ ?_
        · rw [Nat.mul_comm, e2]; exact h
        · rw [Nat.mul_comm, e3]; exact hV
      have key : ∀ i, b ≤ i → i < n → V.testBit i = true := fun i hi hin => by
        have := (Nat.testBit_div_two_pow V (i - b) : (V / 2 ^ b).testBit (i - b) = V.testBit (i - b + b))
        rw [hq, Nat.testBit_two_pow_sub_one, decide_eq_true (by omega), Nat.sub_add_cancel hi] at this
        exact this.symm
      rw [key j (by omega) h2, key b (by omega) hbn]
theorem sv_full (l : List Int) (s : Nat) (hs : s ≤ 9) (h9 : s = 9 → -9223372036854775808 ≤ sv l s ∧ sv l s < 9223372036854775808) : wrap64 ((full (vl l (s + 1)) (7 * s + 7) : Nat) : Int) = sv l s := by
  have hV := vl_lt l (s + 1)
  rw [show 7 * (s + 1) = 7 * s + 7 by omega] at hV
  have hpp : 2 ^ (7 * s + 7) = 2 * 2 ^ (7 * s + 6) := by rw [show 7 * s + 7 = (7 * s + 6) + 1 by omega, Nat.pow_succ]; omega
  have hbit : (vl l (s + 1)).testBit (7 * s + 6) = decide (2 ^ (7 * s + 6) ≤ vl l (s + 1)) := by
    by_cases h : 2 ^ (7 * s + 6) ≤ vl l (s + 1)
    · rw [decide_eq_true h]
      have := same_bits (V := vl l (s + 1)) (n := 7 * s + 7) (b := 7 * s + 6) hV (by omega)
      rw [Nat.testBit_eq_decide_div_mod_eq]
      have hd : vl l (s + 1) / 2 ^ (7 * s + 6) = 1 := Nat.div_eq_of_lt_le (by omega) (by omega)
      rw [hd]; rfl
    · rw [decide_eq_false h, Nat.testBit_lt_two_pow (by omega)]
  by_cases h64 : 7 * s + 7 < 64
  · have hle : 2 ^ (7 * s + 7) ≤ 2 ^ 63 := pow_le (by omega)
    unfold full sv
    rw [if_pos h64, show 7 * s + 7 - 1 = 7 * s + 6 by omega, hbit]
    by_cases h : 2 ^ (7 * s + 6) ≤ vl l (s + 1)
    · rw [if_pos (decide_eq_true h), if_pos h]
      unfold wrap64
      generalize 2 ^ (7 * s + 7) = Q at hle hV hpp ⊢
      omega
    · rw [if_neg (by simpa using h), if_neg h, wrap64_id _ (by omega) (by omega)]
  · obtain rfl : s = 9 := by omega
    have h9' := h9 rfl
    unfold full
    rw [if_neg h64]
    unfold sv at h9' ⊢
    unfold wrap64
    simp only [Nat.reducePow, Nat.reduceMul, Nat.reduceAdd] at hV hpp h9' ⊢
    split at h9' <;> rename_i hh <;> simp only [hh, if_true, if_false] <;> omega
theorem RS_eq {l : List Int} (hb : Bytes l) (hl : l.length ≤ 140737488351232) {bits : Nat} (h0 : 1 ≤ bits) (h1 : bits ≤ 64) : Ev (fun k => trammelref01_S.f k l (bits : Int)) (SSpec l bits) := by
  have hm : mst bits ≤ 10 := by unfold mst; omega
  refine Ev.bind (read_eq hb hl h0 h1) ?_
  unfold RSpec SSpec
  by_cases hc : ends l < l.length ∧ ends l < mst bits
  · rw [if_pos hc, if_pos hc]
    generalize hs : ends l = s at *
    have hV := vl_lt l (s + 1)
    have hbm : 7 * s < bits := by unfold mst at hc; omega
    have hpp : 2 ^ (7 * s + 7) = 2 * 2 ^ (7 * s + 6) := by rw [show 7 * s + 7 = (7 * s + 6) + 1 by omega, Nat.pow_succ]; omega
    refine Ev.congr (f := fun k => trammelref01_S.l0 k (bits : Int) (bitsOf (vl l (s + 1)) (7 * (s + 1))) ((s + 1 : Nat) : Int) (bits : Int)) (fun k => by rw [if_pos rfl]) ?_
    have main := RS_loop h0 h1 (vl l (s + 1)) (7 * (s + 1)) (by omega) (by omega) hV ((s + 1 : Nat) : Int) (7 * (s + 1) - bits) bits (by omega) (by omega) (fun j h2 h3 => by omega)
    rw [show 7 * (s + 1) = 7 * s + 7 by omega] at main hV ⊢
    have hiff : (∀ j, bits ≤ j → j < 7 * s + 7 → (vl l (s + 1)).testBit j = (vl l (s + 1)).testBit (bits - 1)) ↔ (-((2 ^ (bits - 1) : Nat) : Int) ≤ sv l s ∧ sv l s < ((2 ^ (bits - 1) : Nat) : Int)) := by
      by_cases hsm : bits - 1 < 7 * s + 7
      · have hp6 : 2 ^ (bits - 1) ≤ 2 ^ (7 * s + 6) := pow_le (by omega)
        have := same_bits hV hsm
        rw [show bits - 1 + 1 = bits by omega] at this
        rw [this]
        unfold sv
        split <;> omega
      · have hp7 : 2 ^ (7 * s + 6) ≤ 2 ^ (bits - 1) := pow_le (by omega)
        constructor
        · intro _
          unfold sv
          split <;> omega
        · intro _ j h2 h3; omega
    by_cases hr : -((2 ^ (bits - 1) : Nat) : Int) ≤ sv l s ∧ sv l s < ((2 ^ (bits - 1) : Nat) : Int)
    · rw [if_pos (hiff.2 hr), sv_full l s (by omega) (fun h => by
        subst h
        have : bits = 64 := by omega
        subst this
        exact hr)] at main
      rw [if_pos hr]
      exact main
    · rw [if_neg (fun h => hr (hiff.1 h))] at main
      rw [if_neg hr]
      exact main
  · rw [if_neg hc, if_neg hc]
    by_cases h2 : mst bits ≤ ends l
    · rw [if_pos h2, if_pos h2]; exact Ev.now _
    · rw [if_neg h2, if_neg h2]; exact Ev.now _
theorem RS_arg {l : List Int} {bits : Int} (h : bits < 1 ∨ 64 < bits) : Ev (fun k => trammelref01_S.f k l bits) (0, 0, 5) :=
  Ev.bind (read_arg h) (Ev.congr (f := fun _ => some (0, 0, 5)) (fun k => rfl) (Ev.now _))
/-- P1.2: the fewest pieces of seven bits, each but the last with 128 more. -/
def uB : Nat → Nat → List Int
  | 0, n => [((n % 128 : Nat) : Int)]
  | f + 1, n => if n < 128 then [(n : Int)] else ((n % 128 + 128 : Nat) : Int) :: uB f (n / 128)
def uBytes (n : Nat) : List Int := uB 9 n
theorem or128 {m : Nat} (h : m < 256) : m ||| 128 = m % 128 + 128 := by
  revert m
  decide +kernel
theorem bor128 {n : Int} : Go.bits .or .u8 (n % 256) 128 = n % 128 + 128 := by
  obtain ⟨m, hm⟩ : ∃ m : Nat, n % 256 = m := ⟨(n % 256).toNat, by omega⟩
  have h1 := (bits_nat .u8 8 (by decide) wraps_u8 m 128 (by omega) (by decide)).2
  rw [hm, show (128 : Int) = ((128 : Nat) : Int) from rfl, h1, or128 (by omega)]
  omega
theorem uB_bytes : ∀ f n, n < 128 ^ (f + 1) → Bytes (uB f n)
  | 0, n, h => fun x hx => by simp [uB] at hx; omega
  | f + 1, n, h => fun x hx => by
    unfold uB at hx
    split at hx
    · simp at hx; omega
    · rcases List.mem_cons.1 hx with rfl | hx
      · omega
      · exact uB_bytes f (n / 128) (by rw [Nat.div_lt_iff_lt_mul (by decide), ← Nat.pow_succ]; exact h) x hx
theorem uB_len : ∀ f n s, n < 128 ^ (f + 1) → 1 ≤ s → ((uB f n).length ≤ s ↔ n < 128 ^ s)
  | 0, n, s, h, hs => by
    have h1 : 128 ^ 1 ≤ 128 ^ s := Nat.pow_le_pow_right (by decide) hs
    simp only [uB, List.length_singleton]
    omega
  | f + 1, n, s, h, hs => by
    have h1 : 128 ^ 1 ≤ 128 ^ s := Nat.pow_le_pow_right (by decide) hs
    unfold uB
    split
    · simp only [List.length_singleton]; omega
    · rename_i hn
      obtain ⟨t, rfl⟩ : ∃ t, s = t + 1 := ⟨s - 1, by omega⟩
      rw [List.length_cons, Nat.add_le_add_iff_right]
      have hd : n < 128 ^ (t + 1) ↔ n / 128 < 128 ^ t := by rw [Nat.div_lt_iff_lt_mul (by decide), ← Nat.pow_succ]
      rw [hd]
      by_cases ht : 1 ≤ t
      · exact uB_len f (n / 128) t (by rw [Nat.div_lt_iff_lt_mul (by decide), ← Nat.pow_succ]; exact h) ht
      · obtain rfl : t = 0 := by omega
        rw [Nat.pow_zero]
        have : 1 ≤ (uB f (n / 128)).length := by cases f <;> simp [uB] <;> split <;> simp
        omega
theorem uB_pos (f n : Nat) : 1 ≤ (uB f n).length := by cases f <;> simp [uB] <;> split <;> simp
theorem uB_ends : ∀ f n (m : List Int), n < 128 ^ (f + 1) → ends (uB f n ++ m) = (uB f n).length - 1
  | 0, n, m, h => by
    simp only [uB, List.cons_append, List.nil_append, ends]
    rw [if_pos (by omega)]
    rfl
  | f + 1, n, m, h => by
    unfold uB
    split
    · rename_i hn
      simp only [List.cons_append, List.nil_append, ends]
      rw [if_pos (by omega)]
      rfl
    · have h2 := uB_pos f (n / 128)
      simp only [List.cons_append, ends, List.length_cons]
      rw [if_neg (by omega), uB_ends f (n / 128) m (by rw [Nat.div_lt_iff_lt_mul (by decide), ← Nat.pow_succ]; exact h)]
      omega
theorem vl_cons (x : Int) (l : List Int) : ∀ i, vl (x :: l) (i + 1) = x.toNat % 128 + 128 * vl l i
  | 0 => by simp [vl]
  | i + 1 => by
    have h1 : vl (x :: l) (i + 1 + 1) = vl (x :: l) (i + 1) + (((x :: l).getD (i + 1) 0).toNat % 128) * 2 ^ (7 * (i + 1)) := rfl
    have h2 : vl l (i + 1) = vl l i + ((l.getD i 0).toNat % 128) * 2 ^ (7 * i) := rfl
    rw [h1, vl_cons x l i, h2, show (x :: l).getD (i + 1) 0 = l.getD i 0 from rfl, show 7 * (i + 1) = 7 * i + 7 by omega, Nat.pow_add, Nat.mul_add, Nat.add_assoc]
    congr 2
    rw [show (2 : Nat) ^ 7 = 128 from rfl, ← Nat.mul_assoc, Nat.mul_comm _ 128]
theorem uB_vl : ∀ f n (m : List Int), n < 128 ^ (f + 1) → vl (uB f n ++ m) (uB f n).length = n
  | 0, n, m, h => by
    simp only [uB, List.cons_append, List.nil_append, List.length_singleton]
    rw [vl_cons]
    simp only [vl]
    omega
  | f + 1, n, m, h => by
    unfold uB
    split
    · simp only [List.cons_append, List.nil_append, List.length_singleton]
      rw [vl_cons]
      simp only [vl]
      omega
    · simp only [List.cons_append, List.length_cons]
      rw [vl_cons, uB_vl f (n / 128) m (by rw [Nat.div_lt_iff_lt_mul (by decide), ← Nat.pow_succ]; exact h)]
      omega
theorem PutU_loop (f : Nat) : ∀ (n : Nat) (out : List Int), n < 128 ^ (f + 1) → out.length + f + 1 < 140737488355328 → Ev (fun k => leb_PutU.l0 k (n : Int) out) (out ++ uB f n) := by
  induction f with
  | zero =>
    intro n out h hl
    have hn : n < 128 := by simpa using h
    refine Ev.step (f := fun _ => some (out ++ uB 0 n)) (fun k => ?_) (Ev.now _)
    simp only [leb_PutU.l0]
    rw [if_neg (by omega), if_pos (by omega)]
    unfold uB
    congr 4
    omega
  | succ f ih =>
    intro n out h hl
    by_cases hn : n < 128
    · refine Ev.step (f := fun _ => some (out ++ uB (f + 1) n)) (fun k => ?_) (Ev.now _)
      simp only [leb_PutU.l0]
      rw [if_neg (by omega), if_pos (by omega)]
      unfold uB
      rw [if_pos hn]
      congr 4
      omega
    · have e : out ++ uB (f + 1) n = (out ++ [((n % 128 + 128 : Nat) : Int)]) ++ uB f (n / 128) := by
        conv => lhs; unfold uB
        rw [if_neg hn, List.append_assoc]
        rfl
      rw [e]
      refine Ev.step (fun k => ?_) (ih (n / 128) (out ++ [((n % 128 + 128 : Nat) : Int)]) (by rw [Nat.div_lt_iff_lt_mul (by decide), ← Nat.pow_succ]; exact h) (by simp; omega))
      simp only [leb_PutU.l0]
      rw [if_pos (by omega), if_pos (by omega), bor128]
      have e1 : (n : Int) / 128 = ((n / 128 : Nat) : Int) := by omega
      have e2 : (n : Int) % 128 + 128 = ((n % 128 + 128 : Nat) : Int) := by omega
      rw [e1, e2]
theorem PutU_eq {n : Nat} (hn : n < 2 ^ 64) {out : List Int} (hl : out.length ≤ 140737488351232) : Ev (fun k => leb_PutU.f k out (n : Int)) (out ++ uBytes n) := by
  have h := PutU_loop 9 n out (by omega) (by omega)
  unfold leb_PutU.f
  have e : slices_Clone_byte_byte.f out = some out := by unfold slices_Clone_byte_byte.f; rw [if_pos (by omega)]
  exact Ev.congr (fun k => by rw [e, Option.bind_some]) h
theorem uBytes_small {n : Nat} (hn : n < 2 ^ 64) : n < 128 ^ (9 + 1) := by omega
theorem uBytes_len {n s : Nat} (hn : n < 2 ^ 64) (hs : 1 ≤ s) : (uBytes n).length ≤ s ↔ n < 2 ^ (7 * s) := by
  have := uB_len 9 n s (uBytes_small hn) hs
  rw [show (128 : Nat) = 2 ^ 7 from rfl, ← Nat.pow_mul] at this
  exact this
theorem uBytes_pos (n : Nat) : 1 ≤ (uBytes n).length := uB_pos 9 n
theorem uBytes_ten {n : Nat} (hn : n < 2 ^ 64) : (uBytes n).length ≤ 10 := (uBytes_len hn (by decide)).2 (by omega)
theorem uBytes_bytes {n : Nat} (hn : n < 2 ^ 64) : Bytes (uBytes n) := uB_bytes 9 n (uBytes_small hn)
theorem U_back {n : Nat} (hn : n < 2 ^ 64) (m : List Int) {bits : Nat} (h0 : 1 ≤ bits) (hb : n < 2 ^ bits) : USpec (uBytes n ++ m) bits = ((n : Int), (((uBytes n).length : Nat) : Int), 0) := by
  have h1 := uB_ends 9 n m (uBytes_small hn)
  have h2 := uB_vl 9 n m (uBytes_small hn)
  have h3 := uB_pos 9 n
  have h4 : (uBytes n).length ≤ mst bits := (uBytes_len hn (by unfold mst; omega)).2 (Nat.lt_of_lt_of_le hb (pow_le (by unfold mst; omega)))
  unfold uBytes at h4 ⊢
  unfold USpec
  rw [h1, Nat.sub_add_cancel h3, h2, if_pos ⟨by rw [List.length_append]; omega, by omega⟩, if_pos hb]
/-- P1.2, signed. -/
def sB : Nat → Int → List Int
  | 0, n => [n % 128]
  | f + 1, n => if -64 ≤ n ∧ n ≤ 63 then [n % 128] else (n % 128 + 128) :: sB f (n / 128)
def sBytes (n : Int) : List Int := sB 9 n
def sR (s : Nat) (n : Int) : Prop := -((64 * 128 ^ s : Nat) : Int) ≤ n ∧ n < ((64 * 128 ^ s : Nat) : Int)
theorem sR_div {f : Nat} {n : Int} : sR (f + 1) n ↔ sR f (n / 128) := by
  unfold sR
  have e : 64 * 128 ^ (f + 1) = 128 * (64 * 128 ^ f) := by rw [Nat.pow_succ]; omega
  rw [e]
  generalize 64 * 128 ^ f = Q
  omega
theorem sB_pos (f : Nat) (n : Int) : 1 ≤ (sB f n).length := by cases f <;> simp [sB] <;> split <;> simp
theorem sB_bytes : ∀ f n, Bytes (sB f n)
  | 0, n => fun x hx => by simp [sB] at hx; omega
  | f + 1, n => fun x hx => by
    unfold sB at hx
    split at hx
    · simp at hx; omega
    · rcases List.mem_cons.1 hx with rfl | hx
      · omega
      · exact sB_bytes f (n / 128) x hx
theorem sR_zero {n : Int} : sR 0 n ↔ -64 ≤ n ∧ n ≤ 63 := by
  unfold sR
  simp only [Nat.pow_zero]
  omega
theorem sR_mono {a b : Nat} (h : a ≤ b) {n : Int} (hr : sR a n) : sR b n := by
  unfold sR at *
  have : 128 ^ a ≤ 128 ^ b := Nat.pow_le_pow_right (by decide) h
  omega
theorem sB_len : ∀ f n s, sR f n → ((sB f n).length ≤ s + 1 ↔ sR s n)
  | 0, n, s, h => by
    have := sR_mono (Nat.zero_le s) h
    simp only [sB, List.length_singleton]
    exact ⟨fun _ => this, fun _ => by omega⟩
  | f + 1, n, s, h => by
    unfold sB
    split
    · rename_i hn
      have := sR_mono (Nat.zero_le s) (sR_zero.2 hn)
      simp only [List.length_singleton]
      exact ⟨fun _ => this, fun _ => by omega⟩
    · rename_i hn
      rw [List.length_cons, Nat.add_le_add_iff_right]
      have h2 := sB_pos f (n / 128)
      cases s with
      | zero =>
        rw [sR_zero]
        constructor
        · intro h3; omega
        · intro h3; exact absurd h3 hn
      | succ t => rw [sR_div]; exact sB_len f (n / 128) t (sR_div.1 h)
theorem sB_ends : ∀ f n (m : List Int), ends (sB f n ++ m) = (sB f n).length - 1
  | 0, n, m => by
    simp only [sB, List.cons_append, List.nil_append, ends]
    rw [if_pos (by omega)]
    rfl
  | f + 1, n, m => by
    unfold sB
    split
    · simp only [List.cons_append, List.nil_append, ends]
      rw [if_pos (by omega)]
      rfl
    · have h2 := sB_pos f (n / 128)
      simp only [List.cons_append, ends, List.length_cons]
      rw [if_neg (by omega), sB_ends f (n / 128) m]
      omega
theorem emod_mul128 (n Q : Int) (hQ : 0 < Q) : n % (128 * Q) = n % 128 + 128 * (n / 128 % Q) := by
  have h1 := Int.emod_add_mul_ediv n 128
  have h2 := Int.emod_add_mul_ediv (n / 128) Q
  have h3 := Int.emod_nonneg (n / 128) (Int.ne_of_gt hQ)
  have h4 := Int.emod_lt_of_pos (n / 128) hQ
  have h5 := Int.emod_nonneg n (show (128 : Int) ≠ 0 by decide)
  have h6 := Int.emod_lt_of_pos n (show (0 : Int) < 128 by decide)
  generalize n / 128 % Q = r at *
  generalize n / 128 / Q = k at *
  generalize n % 128 = c at *
  have e : n = (c + 128 * r) + 128 * Q * k := by
    have : 128 * (n / 128) = 128 * r + 128 * Q * k := by rw [← h2, Int.mul_add, Int.mul_assoc]
    omega
  conv => lhs; rw [e, Int.add_mul_emod_self_left]
  exact Int.emod_eq_of_lt (by omega) (by omega)
theorem sB_vl : ∀ f n (m : List Int), ((vl (sB f n ++ m) (sB f n).length : Nat) : Int) = n % ((128 ^ (sB f n).length : Nat) : Int)
  | 0, n, m => by
    simp only [sB, List.cons_append, List.nil_append, List.length_singleton]
    rw [vl_cons]
    simp only [vl, Nat.pow_one]
    omega
  | f + 1, n, m => by
    unfold sB
    split
    · simp only [List.cons_append, List.nil_append, List.length_singleton]
      rw [vl_cons]
      simp only [vl, Nat.pow_one]
      omega
    · simp only [List.cons_append, List.length_cons]
      rw [vl_cons, Int.natCast_add, Int.natCast_mul, sB_vl f (n / 128) m, Nat.pow_succ]
      generalize hL : (sB f (n / 128)).length = L
      have e : n % (((128 ^ L * 128 : Nat)) : Int) = n % 128 + 128 * (n / 128 % ((128 ^ L : Nat) : Int)) := by
        rw [Nat.mul_comm, Int.natCast_mul]
        exact emod_mul128 n _ (by have := Nat.pow_pos (n := L) (show 0 < 128 by decide); omega)
      rw [e]
      have : (((n % 128 + 128).toNat % 128 : Nat) : Int) = n % 128 := by omega
      rw [this]
      rfl
theorem PutS_loop (f : Nat) : ∀ (n : Int) (out : List Int), sR f n → out.length + f + 1 < 140737488355328 → Ev (fun k => leb_PutS.l0 k n out) (out ++ sB f n) := by
  have hand : ∀ n : Int, Go.bits .and .u8 (n % 256) 127 = n % 128 := fun n => by
    rw [u8_and127 (by omega) (by omega)]; omega
  have stop : ∀ (n : Int) (out : List Int), -64 ≤ n ∧ n ≤ 63 → out.length < 140737488355328 → Ev (fun k => leb_PutS.l0 k n out) (out ++ [n % 128]) := fun n out h hl => by
    refine Ev.step (f := fun _ => some (out ++ [n % 128])) (fun k => ?_) (Ev.now _)
    simp only [leb_PutS.l0]
    rw [if_neg (by omega), if_neg (by omega), if_pos hl, hand]
  induction f with
  | zero =>
    intro n out h hl
    exact stop n out (sR_zero.1 h) (by omega)
  | succ f ih =>
    intro n out h hl
    by_cases hn : -64 ≤ n ∧ n ≤ 63
    · unfold sB
      rw [if_pos hn]
      exact stop n out hn (by omega)
    · have e : out ++ sB (f + 1) n = (out ++ [n % 128 + 128]) ++ sB f (n / 128) := by
        conv => lhs; unfold sB
        rw [if_neg hn, List.append_assoc]
        rfl
      rw [e]
      refine Ev.step (fun k => ?_) (ih (n / 128) (out ++ [n % 128 + 128]) (sR_div.1 h) (by simp; omega))
      simp only [leb_PutS.l0]
      rw [if_pos (show out.length < 140737488355328 by omega), bor128]
      by_cases h1 : n < -64
      · rw [if_pos h1]
      · rw [if_neg h1, if_pos (by omega)]
theorem sR_nine {n : Int} (h0 : -9223372036854775808 ≤ n) (h1 : n ≤ 9223372036854775807) : sR 9 n := by
  unfold sR
  simp only [Nat.reducePow, Nat.reduceMul]
  omega
theorem PutS_eq {n : Int} (h0 : -9223372036854775808 ≤ n) (h1 : n ≤ 9223372036854775807) {out : List Int} (hl : out.length ≤ 140737488351232) : Ev (fun k => leb_PutS.f k out n) (out ++ sBytes n) := by
  have h := PutS_loop 9 n out (sR_nine h0 h1) (by omega)
  unfold leb_PutS.f
  have e : slices_Clone_byte_byte.f out = some out := by unfold slices_Clone_byte_byte.f; rw [if_pos (by omega)]
  exact Ev.congr (fun k => by rw [e, Option.bind_some]) h
theorem sR_pow (s : Nat) (n : Int) : sR s n ↔ -((2 ^ (7 * s + 6) : Nat) : Int) ≤ n ∧ n < ((2 ^ (7 * s + 6) : Nat) : Int) := by
  unfold sR
  rw [show 64 * 128 ^ s = 2 ^ (7 * s + 6) by rw [show (128 : Nat) = 2 ^ 7 from rfl, ← Nat.pow_mul, Nat.pow_add]; omega]
theorem sBytes_len {n : Int} (h0 : -9223372036854775808 ≤ n) (h1 : n ≤ 9223372036854775807) (s : Nat) : (sBytes n).length ≤ s + 1 ↔ -((2 ^ (7 * s + 6) : Nat) : Int) ≤ n ∧ n < ((2 ^ (7 * s + 6) : Nat) : Int) :=
  (sB_len 9 n s (sR_nine h0 h1)).trans (sR_pow s n)
theorem sBytes_pos (n : Int) : 1 ≤ (sBytes n).length := sB_pos 9 n
theorem sBytes_bytes (n : Int) : Bytes (sBytes n) := sB_bytes 9 n
theorem sv_back {n : Int} (h0 : -9223372036854775808 ≤ n) (h1 : n ≤ 9223372036854775807) (m : List Int) : sv (sBytes n ++ m) (ends (sBytes n ++ m)) = n := by
  have h2 := sB_ends 9 n m
  have h3 := sB_vl 9 n m
  have h4 := sB_pos 9 n
  have h5 := (sBytes_len h0 h1 ((sBytes n).length - 1)).1 (by unfold sBytes; omega)
  unfold sBytes at h5 ⊢
  rw [h2]
  generalize hL : (sB 9 n).length = L at *
  obtain ⟨t, rfl⟩ : ∃ t, L = t + 1 := ⟨L - 1, by omega⟩
  rw [show t + 1 - 1 = t by omega] at h5 ⊢
  unfold sv
  have hpp : 2 ^ (7 * t + 7) = 2 * 2 ^ (7 * t + 6) := by rw [show 7 * t + 7 = (7 * t + 6) + 1 by omega, Nat.pow_succ]; omega
  rw [show (128 : Nat) = 2 ^ 7 from rfl, ← Nat.pow_mul, show 7 * (t + 1) = 7 * t + 7 by omega] at h3
  generalize vl (sB 9 n ++ m) (t + 1) = V at h3 ⊢
  have hp := pow_pos (7 * t + 6)
  generalize 2 ^ (7 * t + 7) = Q at hpp h3 ⊢
  generalize 2 ^ (7 * t + 6) = P at hpp h5 hp ⊢
  rcases Int.lt_or_le n 0 with hn | hn
  · have : n % (Q : Int) = n + Q := by
      rw [← Int.add_emod_right, Int.emod_eq_of_lt (by omega) (by omega)]
    rw [this] at h3
    rw [if_pos (by omega)]
    omega
  · rw [Int.emod_eq_of_lt hn (by omega)] at h3
    rw [if_neg (by omega)]
    omega
theorem S_back {n : Int} (h0 : -9223372036854775808 ≤ n) (h1 : n ≤ 9223372036854775807) (m : List Int) {bits : Nat} (hb0 : 1 ≤ bits) (hb : -((2 ^ (bits - 1) : Nat) : Int) ≤ n ∧ n < ((2 ^ (bits - 1) : Nat) : Int)) :
    SSpec (sBytes n ++ m) bits = (n, (((sBytes n).length : Nat) : Int), 0) := by
  have h2 := sv_back h0 h1 m
  have h3 := sB_ends 9 n m
  have h4 := sB_pos 9 n
  have hm : 1 ≤ mst bits := by unfold mst; omega
  have hp : 2 ^ (bits - 1) ≤ 2 ^ (7 * (mst bits - 1) + 6) := pow_le (by unfold mst; omega)
  have h5 := (sBytes_len h0 h1 (mst bits - 1)).2 (by omega)
  unfold SSpec
  rw [h2, if_pos hb]
  unfold sBytes at *
  rw [h3, if_pos ⟨by rw [List.length_append]; omega, by omega⟩, Nat.sub_add_cancel h4]
theorem nat_int_toNat (n : Nat) : ((n : Int)).toNat = n := Int.toNat_natCast n
theorem up_one (i : Nat) (hi : i ≤ 4611686018427387904) : wrap64 ((i : Int) + 1) = ((i + 1 : Nat) : Int) := by
  rw [wrap64_id _ (by omega) (by omega)]
  omega
theorem same_loop (l m : List Int) (hlen : l.length = m.length) (hb : l.length ≤ 4611686018427387904) : ∀ (d i : Nat), i + d = l.length →
    Ev (fun k => trammelref01_Same.l0 k l m i) (decide (l.drop i = m.drop i))
  | 0, i, hi => by
    refine Ev.step (f := fun _ => some (decide (l.drop i = m.drop i))) (fun k => ?_) (Ev.now _)
    simp only [trammelref01_Same.l0]
    rw [if_neg (by omega), List.drop_of_length_le (by omega), List.drop_of_length_le (by omega)]
    rfl
  | d + 1, i, hi => by
    have ih := same_loop l m hlen hb d (i + 1) (by omega)
    have e2 := up_one i (by omega)
    have hl : i < l.length := by omega
    have hm : i < m.length := by omega
    have e3 : rd l (i : Int) = l[i] := by
      unfold rd
      rw [nat_int_toNat, List.getD_eq_getElem?_getD, List.getElem?_eq_getElem hl]; rfl
    have e4 : rd m (i : Int) = m[i] := by
      unfold rd
      rw [nat_int_toNat, List.getD_eq_getElem?_getD, List.getElem?_eq_getElem hm]; rfl
    have e5 : l.drop i = l[i] :: l.drop (i + 1) := List.drop_eq_getElem_cons hl
    have e6 : m.drop i = m[i] :: m.drop (i + 1) := List.drop_eq_getElem_cons hm
    by_cases he : l[i] = m[i]
    · refine Ev.step (fun k => ?_) (show Ev (fun k => trammelref01_Same.l0 k l m ((i + 1 : Nat) : Int)) (decide (l.drop i = m.drop i)) from ?_)
      · simp only [trammelref01_Same.l0]
        rw [if_pos (by omega), if_pos (by omega), if_pos (by omega), e3, e4, if_pos he, e2]
      · have : decide (l.drop i = m.drop i) = decide (l.drop (i + 1) = m.drop (i + 1)) := by
          rw [e5, e6, he]
          refine decide_eq_decide.2 ⟨fun h => (List.cons.inj h).2, fun h => by rw [h]⟩
        rw [this]; exact ih
    · refine Ev.step (f := fun _ => some (decide (l.drop i = m.drop i))) (fun k => ?_) (Ev.now _)
      simp only [trammelref01_Same.l0]
      rw [if_pos (by omega), if_pos (by omega), if_pos (by omega), e3, e4, if_neg he, e5, e6]
      rw [decide_eq_false (fun h => he (List.cons.inj h).1)]
theorem same_ev (l m : List Int) (hb : l.length ≤ 4611686018427387904) : Ev (fun k => trammelref01_Same.f k l m) (decide (l = m)) := by
  unfold trammelref01_Same.f
  by_cases h : (l.length : Int) = (m.length : Int)
  · simp only [if_pos h]
    have := same_loop l m (by omega) hb l.length 0 (by omega)
    rw [List.drop_zero, List.drop_zero] at this
    exact this
  · simp only [if_neg h]
    rw [decide_eq_false (fun e => h (by rw [e]))]
    exact Ev.now _
theorem copy_eq {l : List Int} (h : l.length < 140737488355328) : trammelref01_Copy.f l = some l := by
  unfold trammelref01_Copy.f
  rw [Option.bind_some, if_pos (by simpa using h), List.nil_append]
theorem rPutU_loop (f : Nat) : ∀ (n : Nat) (out : List Int), n < 128 ^ (f + 1) → n < 2 ^ 64 → out.length + f + 1 < 140737488355328 → Ev (fun k => trammelref01_PutU.l0 k (n : Int) out) (out ++ uB f n) := by
  have low : ∀ n : Nat, Int.tmod (n : Int) 128 % 256 = ((n % 128 : Nat) : Int) := fun n => by rw [Int.tmod_eq_emod_of_nonneg (by omega)]; omega
  have low2 : ∀ n : Nat, (Int.tmod (n : Int) 128 + 128) % 256 = ((n % 128 + 128 : Nat) : Int) := fun n => by rw [Int.tmod_eq_emod_of_nonneg (by omega)]; omega
  have up_ : ∀ n : Nat, n < 2 ^ 64 → IntKind.u64.wrap (Int.tdiv (n : Int) 128) = ((n / 128 : Nat) : Int) := fun n h => by rw [Int.tdiv_eq_ediv_of_nonneg (by omega), wraps_u64 _ (by omega) (by omega)]; omega
  induction f with
  | zero =>
    intro n out h h64 hl
    have hn : n < 128 := by simpa using h
    refine Ev.step (f := fun _ => some (out ++ uB 0 n)) (fun k => ?_) (Ev.now _)
    simp only [trammelref01_PutU.l0]
    rw [up_ n h64, if_pos (by omega), if_pos (by omega), low]
    rfl
  | succ f ih =>
    intro n out h h64 hl
    by_cases hn : n < 128
    · refine Ev.step (f := fun _ => some (out ++ uB (f + 1) n)) (fun k => ?_) (Ev.now _)
      simp only [trammelref01_PutU.l0]
      rw [up_ n h64, if_pos (by omega), if_pos (by omega), low]
      conv => rhs; unfold uB
      rw [if_pos hn, Nat.mod_eq_of_lt hn]
    · have e : out ++ uB (f + 1) n = (out ++ [((n % 128 + 128 : Nat) : Int)]) ++ uB f (n / 128) := by
        conv => lhs; unfold uB
        rw [if_neg hn, List.append_assoc]
        rfl
      rw [e]
      refine Ev.step (fun k => ?_) (ih (n / 128) (out ++ [((n % 128 + 128 : Nat) : Int)]) (by rw [Nat.div_lt_iff_lt_mul (by decide), ← Nat.pow_succ]; exact h) (by omega) (by simp; omega))
      simp only [trammelref01_PutU.l0]
      rw [up_ n h64, if_neg (by omega), if_pos (by omega), low2]
theorem rPutU_eq {n : Nat} (hn : n < 2 ^ 64) : Ev (fun k => trammelref01_PutU.f k (n : Int)) (uBytes n) := by
  have h := rPutU_loop 9 n [] (by omega) hn (by simp)
  rw [List.nil_append] at h
  exact h
/-- The first pieces of a number, each with 128 more; and the whole form of some bytes. -/
def pre (n : Int) (i : Nat) : List Int := (List.range i).map fun j => n / 2 ^ (7 * j) % 128 + 128
def form (n : Int) (s : Nat) : List Int := pre n s ++ [n / 2 ^ (7 * s) % 128]
theorem pre_len (n : Int) (i : Nat) : (pre n i).length = i := by simp [pre]
theorem pre_succ (n : Int) (i : Nat) : pre n (i + 1) = pre n i ++ [n / 2 ^ (7 * i) % 128 + 128] := by simp [pre, List.range_succ]
theorem div_step (n : Int) (j : Nat) : n / 2 ^ (7 * (j + 1)) = n / 128 / 2 ^ (7 * j) := by
  rw [Int.ediv_ediv_of_nonneg (by decide), show (2 : Int) ^ (7 * (j + 1)) = 128 * 2 ^ (7 * j) from by rw [Nat.mul_add, Int.pow_add]; omega]
theorem form_cons (n : Int) (s : Nat) : form n (s + 1) = (n % 128 + 128) :: form (n / 128) s := by
  have e : pre n (s + 1) = (n % 128 + 128) :: pre (n / 128) s := by
    unfold pre
    rw [List.range_succ_eq_map, List.map_cons, List.map_map]
    refine congr (congrArg List.cons ?_) (List.map_congr_left (fun j _ => ?_))
    · simp
    · show n / 2 ^ (7 * (j + 1)) % 128 + 128 = _
      rw [div_step]
  unfold form
  rw [e, div_step]
  rfl
theorem sB_form : ∀ (f : Nat) (n : Int), sB f n = form n ((sB f n).length - 1)
  | 0, n => by simp [sB, form, pre]
  | f + 1, n => by
    unfold sB
    by_cases h : -64 ≤ n ∧ n ≤ 63
    · rw [if_pos h]; simp [form, pre]
    · rw [if_neg h]
      have hp := sB_pos f (n / 128)
      rw [List.length_cons, show (sB f (n / 128)).length + 1 - 1 = ((sB f (n / 128)).length - 1) + 1 by omega, form_cons, ← sB_form f (n / 128)]
theorem form_bytes (n : Int) (s : Nat) : Bytes (form n s) := fun x hx => by
  unfold form pre at hx
  rcases List.mem_append.1 hx with hx | hx
  · obtain ⟨j, _, rfl⟩ := List.mem_map.1 hx
    have := Int.emod_nonneg (n / 2 ^ (7 * j)) (show (128 : Int) ≠ 0 by decide)
    have := Int.emod_lt_of_pos (n / 2 ^ (7 * j)) (show (0 : Int) < 128 by decide)
    omega
  · rw [List.mem_singleton] at hx
    subst hx
    have := Int.emod_nonneg (n / 2 ^ (7 * s)) (show (128 : Int) ≠ 0 by decide)
    have := Int.emod_lt_of_pos (n / 2 ^ (7 * s)) (show (0 : Int) < 128 by decide)
    omega
theorem form_len (n : Int) (s : Nat) : (form n s).length = s + 1 := by simp [form, pre]
theorem form_ends (n : Int) (s : Nat) : ends (form n s) = s := by
  refine ends_eq (by rw [form_len]; omega) (fun j hj => ?_) ?_
  · have : (form n s).getD j 0 = n / 2 ^ (7 * j) % 128 + 128 := by
      rw [List.getD_eq_getElem?_getD]
      unfold form
      rw [List.getElem?_append_left (by rw [pre_len]; exact hj)]
      simp [pre, hj]
    rw [this]
    have := Int.emod_nonneg (n / 2 ^ (7 * j)) (show (128 : Int) ≠ 0 by decide)
    omega
  · have : (form n s).getD s 0 = n / 2 ^ (7 * s) % 128 := by
      rw [List.getD_eq_getElem?_getD]
      simp [form, pre]
    rw [this]
    exact Int.emod_lt_of_pos _ (by decide)
theorem piece (n : Int) (i : Nat) (hi : i ≤ 9) : Int.tmod (IntKind.u64.wrap (shr .i64 n (IntKind.u64.wrap (wrap64 (7 * (i : Int)))))) 128 = n / 2 ^ (7 * i) % 128 := by
  have e : IntKind.u64.wrap (wrap64 (7 * (i : Int))) = ((7 * i : Nat) : Int) := by rw [wrap64_id _ (by omega) (by omega), wraps_u64 _ (by omega) (by omega)]; omega
  rw [e, wrap_u64]
  have e2 : shr .i64 n ((7 * i : Nat) : Int) = n / 2 ^ (7 * i) := by
    unfold shr
    rw [show min (Int.toNat ((7 * i : Nat) : Int)) IntKind.i64.bits = 7 * i from by show min (Int.toNat ((7 * i : Nat) : Int)) 64 = 7 * i; omega]
  rw [e2]
  generalize n / 2 ^ (7 * i) = z
  rw [Int.tmod_eq_emod_of_nonneg (by omega)]
  omega
theorem rPutS_loop (n : Int) (s : Nat) (hs : s ≤ 9) (r : List Int) (h : Ev (fun k => (trammelref01_S.f k (form n s) 64).bind fun bt179 => (if bt179.2.2 = 0 then (if bt179.1 = n then (some (form n s)) else (trammelref01_PutS.l0 k n (wrap64 (((s + 1 : Nat) : Int) + 1)))) else (trammelref01_PutS.l0 k n (wrap64 (((s + 1 : Nat) : Int) + 1))))) r) :
    ∀ (d i : Nat), i + d = s → Ev (fun k => trammelref01_PutS.l1 k n ((s + 1 : Nat) : Int) (pre n i) i) r := by
  have hz : ∀ z : Int, (z % 128) % 256 = z % 128 := fun z => by omega
  have hz2 : ∀ z : Int, (z % 128 + 128) % 256 = z % 128 + 128 := fun z => by omega
  have h7 : ∀ i : Nat, i ≤ 9 → 0 ≤ IntKind.u64.wrap (wrap64 (7 * (i : Int))) := fun i hi => by rw [wrap64_id _ (by omega) (by omega), wraps_u64 _ (by omega) (by omega)]; omega
  have hd1 : wrap64 (((s + 1 : Nat) : Int) - 1) = (s : Int) := by rw [wrap64_id _ (by omega) (by omega)]; omega
  have hup : ∀ i : Nat, i ≤ 9 → wrap64 ((i : Int) + 1) = ((i + 1 : Nat) : Int) := fun i hi => by rw [wrap64_id _ (by omega) (by omega)]; omega
  have hend : Ev (fun k => trammelref01_PutS.l1 k n ((s + 1 : Nat) : Int) (form n s) ((s + 1 : Nat) : Int)) r :=
    Ev.step (fun k => by simp only [trammelref01_PutS.l1]; rw [if_neg (Int.lt_irrefl _)]) h
  intro d
  induction d with
  | zero =>
    intro i hi
    obtain rfl : i = s := by omega
    refine Ev.step (fun k => ?_) hend
    simp only [trammelref01_PutS.l1]
    rw [if_pos (Int.ofNat_lt.2 (Nat.lt_succ_self i)), if_pos (h7 i hs), hd1, if_neg (Int.lt_irrefl _), if_pos (by rw [pre_len]; clear hz hz2 h7 hd1 hup hend h; omega), piece n i hs, hz, hup i hs]
    rfl
  | succ d ih =>
    intro i hi
    have hi9 : i ≤ 9 := by clear hz hz2 h7 hd1 hup hend h; omega
    have his : i < s := by clear hz hz2 h7 hd1 hup hend h; omega
    refine Ev.step (fun k => ?_) (ih (i + 1) (by clear hz hz2 h7 hd1 hup hend h; omega))
    simp only [trammelref01_PutS.l1]
    rw [if_pos (Int.ofNat_lt.2 (Nat.lt_succ_of_lt his)), if_pos (h7 i hi9), hd1, if_pos (Int.ofNat_lt.2 his), if_pos (by rw [pre_len]; clear hz hz2 h7 hd1 hup hend h; omega), piece n i hi9, hz2, hup i hi9, pre_succ]
theorem rPutS_from {n : Int} (h0 : -9223372036854775808 ≤ n) (h1 : n ≤ 9223372036854775807) : ∀ (d s : Nat), s + 1 + d = (sBytes n).length → Ev (fun k => trammelref01_PutS.l0 k n ((s + 1 : Nat) : Int)) (sBytes n)
  | 0, s, hs => by
    have hlen : (sBytes n).length ≤ 10 := (sBytes_len h0 h1 9).2 (by omega)
    have hf : form n s = sBytes n := by
      have := sB_form 9 n
      unfold sBytes at *
      rw [show s = (sB 9 n).length - 1 by omega, ← this]
    have hS := RS_eq (form_bytes n s) (by rw [form_len]; omega) (bits := 64) (by decide) (by decide)
    have hb := S_back h0 h1 [] (bits := 64) (by decide) (by omega)
    rw [List.append_nil] at hb
    refine Ev.step (fun k => by simp only [trammelref01_PutS.l0]; rfl) (rPutS_loop n s (by omega) _ ?_ s 0 (by omega))
    refine Ev.bind hS ?_
    rw [hf, hb]
    simp only [if_true]
    exact Ev.now _
  | d + 1, s, hs => by
    have hlen : (sBytes n).length ≤ 10 := (sBytes_len h0 h1 9).2 (by omega)
    have ih := rPutS_from h0 h1 d (s + 1) (by omega)
    have hS := RS_eq (form_bytes n s) (by rw [form_len]; omega) (bits := 64) (by decide) (by decide)
    have hup : wrap64 (((s + 1 : Nat) : Int) + 1) = ((s + 1 + 1 : Nat) : Int) := by rw [wrap64_id _ (by omega) (by omega)]; omega
    refine Ev.step (fun k => by simp only [trammelref01_PutS.l0]; rfl) (rPutS_loop n s (by omega) _ ?_ s 0 (by omega))
    refine Ev.bind hS ?_
    rw [hup]
    unfold SSpec
    rw [form_ends]
    have hne : sv (form n s) s ≠ n := fun e => by
      have hV := vl_lt (form n s) (s + 1)
      have hpp : 2 ^ (7 * s + 7) = 2 * 2 ^ (7 * s + 6) := by rw [show 7 * s + 7 = (7 * s + 6) + 1 by omega, Nat.pow_succ]; omega
      rw [show 7 * (s + 1) = 7 * s + 7 by omega] at hV
      have hn := mt (sBytes_len h0 h1 s).2 (by omega)
      refine hn ?_
      rw [← e]
      unfold sv
      split <;> omega
    split
    · split
      · simp only [if_true, if_neg hne]
        exact ih
      · simp only [show ¬ ((2 : Int) = 0) by decide, if_false]
        exact ih
    · split
      · simp only [show ¬ ((2 : Int) = 0) by decide, if_false]
        exact ih
      · simp only [show ¬ ((1 : Int) = 0) by decide, if_false]
        exact ih
theorem rPutS_eq {n : Int} (h0 : -9223372036854775808 ≤ n) (h1 : n ≤ 9223372036854775807) : Ev (fun k => trammelref01_PutS.f k n) (sBytes n) := by
  have hp := sBytes_pos n
  exact rPutS_from h0 h1 ((sBytes n).length - 1) 0 (by omega)
end Go.Proofs.Ytnbfgcoggjghbaa.SLebPuts
