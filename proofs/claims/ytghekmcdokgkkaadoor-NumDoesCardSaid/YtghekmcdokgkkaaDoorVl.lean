/-
  Numbers in pieces of seven bits, in plain Lean.
-/
import Derived.Test.YtghekmcdokgkkaaDoorVd
import Derived.Test.YtghekmcdokgkkaaDoorVn
namespace Go.Proofs.YtghekmcdokgkkaaDoor.Vl
set_option linter.unusedVariables false
open Go.Proofs.YtghekmcdokgkkaaDoor.Vx Go.Proofs.YtghekmcdokgkkaaDoor.Vd Go.Proofs.YtghekmcdokgkkaaDoor.Vn
def Bytes (l : List Int) : Prop := ∀ x ∈ l, 0 ≤ x ∧ x < 256
theorem Bytes.take {l : List Int} (h : Bytes l) (n : Nat) : Bytes (l.take n) := fun x hx => h x (List.mem_of_mem_take hx)
theorem Bytes.drop {l : List Int} (h : Bytes l) (n : Nat) : Bytes (l.drop n) := fun x hx => h x (List.mem_of_mem_drop hx)
theorem Bytes.append {l m : List Int} (h : Bytes l) (h' : Bytes m) : Bytes (l ++ m) := fun x hx => by
  rcases List.mem_append.1 hx with hx | hx
  · exact h x hx
  · exact h' x hx
theorem Bytes.at {l : List Int} (h : Bytes l) (i : Nat) : 0 ≤ l.getD i 0 ∧ l.getD i 0 < 256 := by
  rw [List.getD_eq_getElem?_getD]
  by_cases hi : i < l.length
  · rw [List.getElem?_eq_getElem hi]; exact h _ (List.getElem_mem hi)
  · rw [List.getElem?_eq_none (by omega)]; simp
def ends : List Int → Nat
  | [] => 0
  | x :: xs => if x < 128 then 0 else ends xs + 1
theorem ends_le : ∀ l : List Int, ends l ≤ l.length
  | [] => Nat.le_refl _
  | x :: xs => by
    unfold ends
    split
    · exact Nat.zero_le _
    · have := ends_le xs
      simp; omega
theorem ends_at : ∀ l : List Int, ends l < l.length → l.getD (ends l) 0 < 128
  | [], h => by simp at h
  | x :: xs, h => by
    unfold ends at h ⊢
    by_cases hx : x < 128
    · rw [if_pos hx]; simpa using hx
    · rw [if_neg hx] at h ⊢
      have := ends_at xs (by simpa using h)
      simpa using this
theorem ends_before : ∀ (l : List Int) (j : Nat), j < ends l → 128 ≤ l.getD j 0
  | [], j, h => by simp [ends] at h
  | x :: xs, j, h => by
    unfold ends at h
    by_cases hx : x < 128
    · rw [if_pos hx] at h; omega
    · rw [if_neg hx] at h
      cases j with
      | zero => simp; omega
      | succ j =>
        have := ends_before xs j (by omega)
        simpa using this
theorem ends_ge {l : List Int} {i : Nat} (hi : i ≤ l.length) (h : ∀ j, j < i → 128 ≤ l.getD j 0) : i ≤ ends l := by
  rcases Nat.lt_or_ge (ends l) i with h' | h'
  · have h1 := ends_at l (by omega)
    have h2 := h _ h'
    omega
  · exact h'
theorem ends_eq {l : List Int} {i : Nat} (hi : i < l.length) (h : ∀ j, j < i → 128 ≤ l.getD j 0) (ha : l.getD i 0 < 128) : ends l = i := by
  have h1 := ends_ge (Nat.le_of_lt hi) h
  rcases Nat.lt_or_ge i (ends l) with h' | h'
  · have := ends_before l i h'
    omega
  · omega
def vl (l : List Int) : Nat → Nat
  | 0 => 0
  | i + 1 => vl l i + ((l.getD i 0).toNat % 128) * 2 ^ (7 * i)
theorem vl_lt (l : List Int) : ∀ i, vl l i < 2 ^ (7 * i)
  | 0 => by simp [vl]
  | i + 1 => by
    have h1 := vl_lt l i
    have h2 : (l.getD i 0).toNat % 128 ≤ 127 := by omega
    have h3 : 2 ^ (7 * (i + 1)) = 128 * 2 ^ (7 * i) := by rw [show 7 * (i + 1) = 7 * i + 7 by omega, Nat.pow_add]; omega
    have h4 := Nat.mul_le_mul_right (2 ^ (7 * i)) h2
    unfold vl
    omega
theorem vl_congr {l m : List Int} : ∀ i, (∀ j, j < i → l.getD j 0 = m.getD j 0) → vl l i = vl m i
  | 0, _ => rfl
  | i + 1, h => by
    unfold vl
    rw [vl_congr i (fun j hj => h j (by omega)), h i (by omega)]
def mst (bits : Nat) : Nat := (bits + 6) / 7
def uB : Nat → Nat → List Int
  | 0, n => [((n % 128 : Nat) : Int)]
  | f + 1, n => if n < 128 then [(n : Int)] else ((n % 128 + 128 : Nat) : Int) :: uB f (n / 128)
def uBytes (n : Nat) : List Int := uB 9 n
theorem or128 {m : Nat} (h : m < 256) : m ||| 128 = m % 128 + 128 := by
  revert m
  decide +kernel
theorem bor128 {n : Int} : Go.bits .or .u8 (n % 256) 128 = n % 128 + 128 := by
  obtain ⟨m, hm⟩ : ∃ m : Nat, n % 256 = m := ⟨(n % 256).toNat, by omega⟩
  have h : ∀ m : Nat, m < 256 → Go.bits .or .u8 (m : Int) 128 = ((m % 128 + 128 : Nat) : Int) := by decide +kernel
  rw [hm, h m (by omega)]
  omega
theorem u8_and127 {x : Int} (h0 : 0 ≤ x) (h1 : x < 256) : Go.bits .and .u8 x 127 = x % 128 := by
  obtain ⟨m, rfl⟩ := Int.eq_ofNat_of_zero_le h0
  have h : ∀ m : Nat, m < 256 → Go.bits .and .u8 (m : Int) 127 = ((m % 128 : Nat) : Int) := by decide +kernel
  rw [h m (by omega)]
  omega
theorem pow_le {i j : Nat} (h : i ≤ j) : 2 ^ i ≤ 2 ^ j := Nat.pow_le_pow_right (by decide) h
theorem uB_bytes : ∀ f n, n < 128 ^ (f + 1) → Bytes (uB f n)
  | 0, n, h => fun x hx => by simp [uB] at hx; omega
  | f + 1, n, h => fun x hx => by
    unfold uB at hx
    split at hx
    · simp at hx; omega
    · rcases List.mem_cons.1 hx with rfl | hx
      · omega
      · exact uB_bytes f (n / 128) (by rw [Nat.div_lt_iff_lt_mul (by decide), ← Nat.pow_succ]; exact h) x hx
theorem uB_len : ∀ f n s, n < 128 ^ (f + 1) → 1 ≤ s → ((uB f n).length ≤ s ↔ n < 128 ^ s)
  | 0, n, s, h, hs => by
    have h1 : 128 ^ 1 ≤ 128 ^ s := Nat.pow_le_pow_right (by decide) hs
    simp only [uB, List.length_singleton]
    omega
  | f + 1, n, s, h, hs => by
    have h1 : 128 ^ 1 ≤ 128 ^ s := Nat.pow_le_pow_right (by decide) hs
    unfold uB
    split
    · simp only [List.length_singleton]; omega
    · rename_i hn
      obtain ⟨t, rfl⟩ : ∃ t, s = t + 1 := ⟨s - 1, by omega⟩
      rw [List.length_cons, Nat.add_le_add_iff_right]
      have hd : n < 128 ^ (t + 1) ↔ n / 128 < 128 ^ t := by rw [Nat.div_lt_iff_lt_mul (by decide), ← Nat.pow_succ]
      rw [hd]
      by_cases ht : 1 ≤ t
      · exact uB_len f (n / 128) t (by rw [Nat.div_lt_iff_lt_mul (by decide), ← Nat.pow_succ]; exact h) ht
      · obtain rfl : t = 0 := by omega
        rw [Nat.pow_zero]
        have : 1 ≤ (uB f (n / 128)).length := by cases f <;> simp [uB] <;> split <;> simp
        omega
theorem uB_pos (f n : Nat) : 1 ≤ (uB f n).length := by cases f <;> simp [uB] <;> split <;> simp
theorem uB_ends : ∀ f n (m : List Int), n < 128 ^ (f + 1) → ends (uB f n ++ m) = (uB f n).length - 1
  | 0, n, m, h => by
    simp only [uB, List.cons_append, List.nil_append, ends]
    rw [if_pos (by omega)]
    rfl
  | f + 1, n, m, h => by
    unfold uB
    split
    · rename_i hn
      simp only [List.cons_append, List.nil_append, ends]
      rw [if_pos (by omega)]
      rfl
    · have h2 := uB_pos f (n / 128)
      simp only [List.cons_append, ends, List.length_cons]
      rw [if_neg (by omega), uB_ends f (n / 128) m (by rw [Nat.div_lt_iff_lt_mul (by decide), ← Nat.pow_succ]; exact h)]
      omega
theorem vl_cons (x : Int) (l : List Int) : ∀ i, vl (x :: l) (i + 1) = x.toNat % 128 + 128 * vl l i
  | 0 => by simp [vl]
  | i + 1 => by
    have h1 : vl (x :: l) (i + 1 + 1) = vl (x :: l) (i + 1) + (((x :: l).getD (i + 1) 0).toNat % 128) * 2 ^ (7 * (i + 1)) := rfl
    have h2 : vl l (i + 1) = vl l i + ((l.getD i 0).toNat % 128) * 2 ^ (7 * i) := rfl
    rw [h1, vl_cons x l i, h2, show (x :: l).getD (i + 1) 0 = l.getD i 0 from rfl, show 7 * (i + 1) = 7 * i + 7 by omega, Nat.pow_add, Nat.mul_add, Nat.add_assoc]
    congr 2
    rw [show (2 : Nat) ^ 7 = 128 from rfl, ← Nat.mul_assoc, Nat.mul_comm _ 128]
theorem uB_vl : ∀ f n (m : List Int), n < 128 ^ (f + 1) → vl (uB f n ++ m) (uB f n).length = n
  | 0, n, m, h => by
    simp only [uB, List.cons_append, List.nil_append, List.length_singleton]
    rw [vl_cons]
    simp only [vl]
    omega
  | f + 1, n, m, h => by
    unfold uB
    split
    · simp only [List.cons_append, List.nil_append, List.length_singleton]
      rw [vl_cons]
      simp only [vl]
      omega
    · simp only [List.cons_append, List.length_cons]
      rw [vl_cons, uB_vl f (n / 128) m (by rw [Nat.div_lt_iff_lt_mul (by decide), ← Nat.pow_succ]; exact h)]
      omega
theorem uBytes_small {n : Nat} (hn : n < 2 ^ 64) : n < 128 ^ (9 + 1) := by omega
theorem uBytes_len {n s : Nat} (hn : n < 2 ^ 64) (hs : 1 ≤ s) : (uBytes n).length ≤ s ↔ n < 2 ^ (7 * s) := by
  have := uB_len 9 n s (uBytes_small hn) hs
  rw [show (128 : Nat) = 2 ^ 7 from rfl, ← Nat.pow_mul] at this
  exact this
theorem uBytes_pos (n : Nat) : 1 ≤ (uBytes n).length := uB_pos 9 n
theorem uBytes_ten {n : Nat} (hn : n < 2 ^ 64) : (uBytes n).length ≤ 10 := (uBytes_len hn (by decide)).2 (by omega)
theorem uBytes_bytes {n : Nat} (hn : n < 2 ^ 64) : Bytes (uBytes n) := uB_bytes 9 n (uBytes_small hn)
def sB : Nat → Int → List Int
  | 0, n => [n % 128]
  | f + 1, n => if -64 ≤ n ∧ n ≤ 63 then [n % 128] else (n % 128 + 128) :: sB f (n / 128)
def sBytes (n : Int) : List Int := sB 9 n
def sR (s : Nat) (n : Int) : Prop := -((64 * 128 ^ s : Nat) : Int) ≤ n ∧ n < ((64 * 128 ^ s : Nat) : Int)
theorem sR_div {f : Nat} {n : Int} : sR (f + 1) n ↔ sR f (n / 128) := by
  unfold sR
  have e : 64 * 128 ^ (f + 1) = 128 * (64 * 128 ^ f) := by rw [Nat.pow_succ]; omega
  rw [e]
  generalize 64 * 128 ^ f = Q
  omega
theorem sB_pos (f : Nat) (n : Int) : 1 ≤ (sB f n).length := by cases f <;> simp [sB] <;> split <;> simp
theorem sB_bytes : ∀ f n, Bytes (sB f n)
  | 0, n => fun x hx => by simp [sB] at hx; omega
  | f + 1, n => fun x hx => by
    unfold sB at hx
    split at hx
    · simp at hx; omega
    · rcases List.mem_cons.1 hx with rfl | hx
      · omega
      · exact sB_bytes f (n / 128) x hx
theorem sR_zero {n : Int} : sR 0 n ↔ -64 ≤ n ∧ n ≤ 63 := by
  unfold sR
  simp only [Nat.pow_zero]
  omega
theorem sR_mono {a b : Nat} (h : a ≤ b) {n : Int} (hr : sR a n) : sR b n := by
  unfold sR at *
  have : 128 ^ a ≤ 128 ^ b := Nat.pow_le_pow_right (by decide) h
  omega
theorem sB_len : ∀ f n s, sR f n → ((sB f n).length ≤ s + 1 ↔ sR s n)
  | 0, n, s, h => by
    have := sR_mono (Nat.zero_le s) h
    simp only [sB, List.length_singleton]
    exact ⟨fun _ => this, fun _ => by omega⟩
  | f + 1, n, s, h => by
    unfold sB
    split
    · rename_i hn
      have := sR_mono (Nat.zero_le s) (sR_zero.2 hn)
      simp only [List.length_singleton]
      exact ⟨fun _ => this, fun _ => by omega⟩
    · rename_i hn
      rw [List.length_cons, Nat.add_le_add_iff_right]
      have h2 := sB_pos f (n / 128)
      cases s with
      | zero =>
        rw [sR_zero]
        constructor
        · intro h3; omega
        · intro h3; exact absurd h3 hn
      | succ t => rw [sR_div]; exact sB_len f (n / 128) t (sR_div.1 h)
theorem sB_ends : ∀ f n (m : List Int), ends (sB f n ++ m) = (sB f n).length - 1
  | 0, n, m => by
    simp only [sB, List.cons_append, List.nil_append, ends]
    rw [if_pos (by omega)]
    rfl
  | f + 1, n, m => by
    unfold sB
    split
    · simp only [List.cons_append, List.nil_append, ends]
      rw [if_pos (by omega)]
      rfl
    · have h2 := sB_pos f (n / 128)
      simp only [List.cons_append, ends, List.length_cons]
      rw [if_neg (by omega), sB_ends f (n / 128) m]
      omega
theorem emod_mul128 (n Q : Int) (hQ : 0 < Q) : n % (128 * Q) = n % 128 + 128 * (n / 128 % Q) := by
  have h1 := Int.emod_add_mul_ediv n 128
  have h2 := Int.emod_add_mul_ediv (n / 128) Q
  have h3 := Int.emod_nonneg (n / 128) (Int.ne_of_gt hQ)
  have h4 := Int.emod_lt_of_pos (n / 128) hQ
  have h5 := Int.emod_nonneg n (show (128 : Int) ≠ 0 by decide)
  have h6 := Int.emod_lt_of_pos n (show (0 : Int) < 128 by decide)
  generalize n / 128 % Q = r at *
  generalize n / 128 / Q = k at *
  generalize n % 128 = c at *
  have e : n = (c + 128 * r) + 128 * Q * k := by
    have : 128 * (n / 128) = 128 * r + 128 * Q * k := by rw [← h2, Int.mul_add, Int.mul_assoc]
    omega
  conv => lhs; rw [e, Int.add_mul_emod_self_left]
  exact Int.emod_eq_of_lt (by omega) (by omega)
theorem sB_vl : ∀ f n (m : List Int), ((vl (sB f n ++ m) (sB f n).length : Nat) : Int) = n % ((128 ^ (sB f n).length : Nat) : Int)
  | 0, n, m => by
    simp only [sB, List.cons_append, List.nil_append, List.length_singleton]
    rw [vl_cons]
    simp only [vl, Nat.pow_one]
    omega
  | f + 1, n, m => by
    unfold sB
    split
    · simp only [List.cons_append, List.nil_append, List.length_singleton]
      rw [vl_cons]
      simp only [vl, Nat.pow_one]
      omega
    · simp only [List.cons_append, List.length_cons]
      rw [vl_cons, Int.natCast_add, Int.natCast_mul, sB_vl f (n / 128) m, Nat.pow_succ]
      generalize hL : (sB f (n / 128)).length = L
      have e : n % (((128 ^ L * 128 : Nat)) : Int) = n % 128 + 128 * (n / 128 % ((128 ^ L : Nat) : Int)) := by
        rw [Nat.mul_comm, Int.natCast_mul]
        exact emod_mul128 n _ (by have := Nat.pow_pos (n := L) (show 0 < 128 by decide); omega)
      rw [e]
      have : (((n % 128 + 128).toNat % 128 : Nat) : Int) = n % 128 := by omega
      rw [this]
      rfl
theorem sR_nine {n : Int} (h0 : -9223372036854775808 ≤ n) (h1 : n ≤ 9223372036854775807) : sR 9 n := by
  unfold sR
  simp only [Nat.reducePow, Nat.reduceMul]
  omega
theorem sR_pow (s : Nat) (n : Int) : sR s n ↔ -((2 ^ (7 * s + 6) : Nat) : Int) ≤ n ∧ n < ((2 ^ (7 * s + 6) : Nat) : Int) := by
  unfold sR
  rw [show 64 * 128 ^ s = 2 ^ (7 * s + 6) by rw [show (128 : Nat) = 2 ^ 7 from rfl, ← Nat.pow_mul, Nat.pow_add]; omega]
theorem sBytes_len {n : Int} (h0 : -9223372036854775808 ≤ n) (h1 : n ≤ 9223372036854775807) (s : Nat) : (sBytes n).length ≤ s + 1 ↔ -((2 ^ (7 * s + 6) : Nat) : Int) ≤ n ∧ n < ((2 ^ (7 * s + 6) : Nat) : Int) :=
  (sB_len 9 n s (sR_nine h0 h1)).trans (sR_pow s n)
theorem sBytes_pos (n : Int) : 1 ≤ (sBytes n).length := sB_pos 9 n
theorem sBytes_bytes (n : Int) : Bytes (sBytes n) := sB_bytes 9 n
/-- Numbers as data. -/
def dl (l : List Int) : List D := l.map D.i
theorem dl_len (l : List Int) : (dl l).length = l.length := List.length_map _
theorem dl_app (l m : List Int) : dl (l ++ m) = dl l ++ dl m := List.map_append
theorem wrap_u8 (n : Int) : IntKind.u8.wrap n = n % 256 := by simp [IntKind.wrap, IntKind.bits, IntKind.signed]
theorem uB_le : ∀ f n, (uB f n).length ≤ f + 1
  | 0, n => by simp [uB]
  | f + 1, n => by
    have := uB_le f (n / 128)
    unfold uB
    split <;> simp <;> omega
theorem sB_le : ∀ f n, (sB f n).length ≤ f + 1
  | 0, n => by simp [sB]
  | f + 1, n => by
    have := sB_le f (n / 128)
    unfold sB
    split <;> simp <;> omega
end Go.Proofs.YtghekmcdokgkkaaDoor.Vl
