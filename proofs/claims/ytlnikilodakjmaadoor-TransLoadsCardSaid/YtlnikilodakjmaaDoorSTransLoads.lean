/-
  What the functions of layer 4 (loads and stores) answer, in natural numbers: no program in sight.
-/
import Derived.Test.YtlnikilodakjmaaDoorPTransLoadsx
import Derived.Test.YtlnikilodakjmaaDoorNums
namespace Go.Proofs.YtlnikilodakjmaaDoor.STransLoads
set_option linter.unusedVariables false
open Go.RowKit Go.Proofs.YtlnikilodakjmaaDoor.PTransLoads Go.Proofs.YtlnikilodakjmaaDoorW.PrintWords Go.Proofs.YtlnikilodakjmaaDoorW.PrintLast Go.Proofs.YtlnikilodakjmaaDoorW.PrintMore Go.Proofs.YtlnikilodakjmaaDoor.Nums
/-- Bytes. -/
def Bytes (l : List Int) : Prop := ∀ x ∈ l, 0 ≤ x ∧ x < 256
theorem bytes_wf {l : List Int} (h : ∀ x ∈ l, (Lit.int .u8 x).wf = true) : Bytes l := fun x hx => by
  obtain ⟨n, rfl, hn⟩ := wf_u8 (h x hx)
  omega
theorem Bytes.take {l : List Int} (h : Bytes l) (n : Nat) : Bytes (l.take n) := fun x hx => h x (List.mem_of_mem_take hx)
/-- What an instruction is: its type, its bytes, signed, a store, one at all. -/
def acc (a : Int) : Int × Int × Bool × Bool × Bool :=
  if a = 40 then (127, 4, false, false, true) else if a = 41 then (126, 8, false, false, true) else
  if a = 44 then (127, 1, true, false, true) else if a = 45 then (127, 1, false, false, true) else
  if a = 46 then (127, 2, true, false, true) else if a = 47 then (127, 2, false, false, true) else
  if a = 48 then (126, 1, true, false, true) else if a = 49 then (126, 1, false, false, true) else
  if a = 50 then (126, 2, true, false, true) else if a = 51 then (126, 2, false, false, true) else
  if a = 52 then (126, 4, true, false, true) else if a = 53 then (126, 4, false, false, true) else
  if a = 54 then (127, 4, false, true, true) else if a = 55 then (126, 8, false, true, true) else
  if a = 58 then (127, 1, false, true, true) else if a = 59 then (127, 2, false, true, true) else
  if a = 60 then (126, 1, false, true, true) else if a = 61 then (126, 2, false, true, true) else
  if a = 62 then (126, 4, false, true, true) else (0, 0, false, false, false)
def One (a : Int) : Prop := a = 40 ∨ a = 41 ∨ a = 44 ∨ a = 45 ∨ a = 46 ∨ a = 47 ∨ a = 48 ∨ a = 49 ∨ a = 50 ∨ a = 51 ∨ a = 52 ∨ a = 53 ∨ a = 54 ∨ a = 55 ∨ a = 58 ∨ a = 59 ∨ a = 60 ∨ a = 61 ∨ a = 62
theorem none_ne {a : Int} (h : ¬ One a) : a ≠ 40 ∧ a ≠ 41 ∧ a ≠ 44 ∧ a ≠ 45 ∧ a ≠ 46 ∧ a ≠ 47 ∧ a ≠ 48 ∧ a ≠ 49 ∧ a ≠ 50 ∧ a ≠ 51 ∧ a ≠ 52 ∧ a ≠ 53 ∧ a ≠ 54 ∧ a ≠ 55 ∧ a ≠ 58 ∧ a ≠ 59 ∧ a ≠ 60 ∧ a ≠ 61 ∧ a ≠ 62 := by
  unfold One at h
  omega
theorem acc_none {a : Int} (h : ¬ One a) : acc a = (0, 0, false, false, false) := by
  have hn := none_ne h
  simp [acc, hn]
theorem acc_one {a : Int} (h : One a) : (acc a).2.2.2.2 = true ∧ ((acc a).1 = 127 ∨ (acc a).1 = 126) ∧ ((acc a).2.1 = 1 ∨ (acc a).2.1 = 2 ∨ (acc a).2.1 = 4 ∨ (acc a).2.1 = 8) ∧ ((acc a).2.2.1 = true → (acc a).2.1 ≠ 8) := by
  rcases h with rfl | rfl | rfl | rfl | rfl | rfl | rfl | rfl | rfl | rfl | rfl | rfl | rfl | rfl | rfl | rfl | rfl | rfl | rfl <;> decide
theorem access_eq (a : Int) : pack_access.f 6 a = some (acc a) := by
  by_cases h : One a
  · rcases h with rfl | rfl | rfl | rfl | rfl | rfl | rfl | rfl | rfl | rfl | rfl | rfl | rfl | rfl | rfl | rfl | rfl | rfl | rfl <;> decide +kernel
  · have hn := none_ne h
    rw [acc_none h]
    simp [pack_access.f, pack_access.j0, pack_access.j1, pack_access.j2, pack_access.j3, pack_access.j4, hn]
theorem access_ev (a : Int) : Ev (fun k => pack_access.f k a) (acc a) := Ev.of (fun k => pack_access.mono a k) (k := 6) (access_eq a)
theorem nat_int_toNat (n : Nat) : ((n : Int)).toNat = n := Int.toNat_natCast n
theorem byte_step (i : Nat) (hi : i ≤ 8) : IntKind.u64.wrap (wrap64 (8 * (i : Int))) = ((8 * i : Nat) : Int) := by
  rw [wrap64_id _ (by omega) (by omega), wraps_u64 _ (by omega) (by omega)]
  omega
theorem up_one (i : Nat) (hi : i ≤ 4611686018427387904) : wrap64 ((i : Int) + 1) = ((i + 1 : Nat) : Int) := by
  rw [wrap64_id _ (by omega) (by omega)]
  omega
theorem cast_mod (n m : Nat) : ((n : Nat) : Int) % ((m : Nat) : Int) = ((n % m : Nat) : Int) := rfl
/-- The lowest bytes of a number. -/
def le (n v : Nat) : List Int := (List.range n).map fun j => ((v / 2 ^ (8 * j) % 256 : Nat) : Int)
theorem le_len (n v : Nat) : (le n v).length = n := by simp [le]
theorem le_succ (n v : Nat) : le (n + 1) v = le n v ++ [((v / 2 ^ (8 * n) % 256 : Nat) : Int)] := by simp [le, List.range_succ]
theorem le_cons (n v : Nat) : le (n + 1) v = ((v % 256 : Nat) : Int) :: le n (v / 256) := by
  unfold le
  rw [List.range_succ_eq_map, List.map_cons, List.map_map]
  refine congr (congrArg List.cons ?_) (List.map_congr_left (fun j _ => ?_))
  · simp
  · show ((v / 2 ^ (8 * (j + 1)) % 256 : Nat) : Int) = _
    rw [show 2 ^ (8 * (j + 1)) = 256 * 2 ^ (8 * j) from by rw [Nat.mul_add, Nat.pow_add]; omega, Nat.div_div_eq_div_mul]
theorem le_bytes (n v : Nat) : Bytes (le n v) := fun x hx => by
  obtain ⟨j, _, rfl⟩ := List.mem_map.1 hx
  omega
theorem le_take (n m v : Nat) (h : m ≤ n) : (le n v).take m = le m v := by
  simp [le, ← List.map_take, List.take_range, Nat.min_eq_left h]
theorem le_add (n m v : Nat) : le (n + m) v = le n v ++ le m (v / 2 ^ (8 * n)) := by
  induction m with
  | zero => simp [le]
  | succ m ih => rw [← Nat.add_assoc, le_succ, ih, le_succ, List.append_assoc, Nat.mul_add, Nat.pow_add, Nat.div_div_eq_div_mul]
theorem le_drop (n m v : Nat) : (le (n + m) v).drop n = le m (v / 2 ^ (8 * n)) := by
  rw [le_add, List.drop_append_of_le_length (by rw [le_len]; exact Nat.le_refl _), List.drop_of_length_le (by rw [le_len]; exact Nat.le_refl _), List.nil_append]
/-- What bytes make up. -/
def val : List Int → Nat
  | [] => 0
  | x :: xs => x.toNat + 256 * val xs
theorem val_le (n v : Nat) : val (le n v) = v % 2 ^ (8 * n) := by
  induction n generalizing v with
  | zero => simp [le, val, Nat.mod_one]
  | succ n ih =>
    rw [le_cons]
    show ((v % 256 : Nat) : Int).toNat + 256 * val (le n (v / 256)) = _
    rw [ih, nat_int_toNat, show 2 ^ (8 * (n + 1)) = 256 * 2 ^ (8 * n) from by rw [Nat.mul_add, Nat.pow_add]; omega, Nat.mod_mul]
theorem pow8 (n : Nat) : 256 ^ n = 2 ^ (8 * n) := by rw [show 256 = 2 ^ 8 from rfl, ← Nat.pow_mul]
theorem val_lt : ∀ {l : List Int}, Bytes l → val l < 2 ^ (8 * l.length)
  | [], _ => by simp [val]
  | x :: xs, h => by
    have h1 := h x (List.mem_cons_self ..)
    have h2 := val_lt (l := xs) (fun y hy => h y (List.mem_cons_of_mem _ hy))
    rw [List.length_cons, show 2 ^ (8 * (xs.length + 1)) = 256 * 2 ^ (8 * xs.length) from by rw [Nat.mul_add, Nat.pow_add]; omega]
    generalize 2 ^ (8 * xs.length) = P at *
    unfold val
    omega
theorem val_append (l m : List Int) : val (l ++ m) = val l + 2 ^ (8 * l.length) * val m := by
  induction l with
  | nil => simp [val]
  | cons x xs ih =>
    rw [List.cons_append, val, ih, val, List.length_cons, show 2 ^ (8 * (xs.length + 1)) = 256 * 2 ^ (8 * xs.length) from by rw [Nat.mul_add, Nat.pow_add]; omega, Nat.mul_add, Nat.mul_assoc]
    omega
theorem le_val : ∀ {l : List Int}, Bytes l → le l.length (val l) = l
  | [], _ => rfl
  | x :: xs, h => by
    have h1 := h x (List.mem_cons_self ..)
    have h2 := le_val (l := xs) (fun y hy => h y (List.mem_cons_of_mem _ hy))
    rw [List.length_cons, le_cons, val]
    rw [show (x.toNat + 256 * val xs) / 256 = val xs from by omega, h2, show (((x.toNat + 256 * val xs) % 256 : Nat) : Int) = x from by omega]
/-- A number of some bytes, its sign spread. -/
def sx (s v : Nat) : Nat := if v < 2 ^ (8 * s - 1) then v else v + 2 ^ 64 - 2 ^ (8 * s)
def fin (b : Int) (s : Nat) (sg : Bool) (v : Nat) : Nat := if b = 127 then (if sg then sx s v else v) % 4294967296 else if sg then sx s v else v
theorem sgn_eq (s v : Nat) (hs : s = 1 ∨ s = 2 ∨ s = 4) (hv : v < 2 ^ (8 * s)) :
    IntKind.u64.wrap (shr .i64 (wrap64 (shl .u64 (v : Int) (IntKind.u64.wrap (wrap64 (64 - (wrap64 (8 * (s : Int)))))))) (IntKind.u64.wrap (wrap64 (64 - (wrap64 (8 * (s : Int))))))) = ((sx s v : Nat) : Int) := by
  rw [wrap_u64]
  rcases hs with rfl | rfl | rfl
  · rw [show IntKind.u64.wrap (wrap64 (64 - (wrap64 (8 * ((1 : Nat) : Int))))) = ((56 : Nat) : Int) from by decide +kernel, shl_nat _ _ (by omega)]
    show (wrap64 ((v * 2 ^ 56 % 2 ^ 64 : Nat) : Int) / 2 ^ 56) % _ = _
    unfold wrap64 sx
    split <;> omega
  · rw [show IntKind.u64.wrap (wrap64 (64 - (wrap64 (8 * ((2 : Nat) : Int))))) = ((48 : Nat) : Int) from by decide +kernel, shl_nat _ _ (by omega)]
    show (wrap64 ((v * 2 ^ 48 % 2 ^ 64 : Nat) : Int) / 2 ^ 48) % _ = _
    unfold wrap64 sx
    split <;> omega
  · rw [show IntKind.u64.wrap (wrap64 (64 - (wrap64 (8 * ((4 : Nat) : Int))))) = ((32 : Nat) : Int) from by decide +kernel, shl_nat _ _ (by omega)]
    show (wrap64 ((v * 2 ^ 32 % 2 ^ 64 : Nat) : Int) / 2 ^ 32) % _ = _
    unfold wrap64 sx
    split <;> omega
theorem or_shl {a i b : Nat} (ha : a < 2 ^ i) : a ||| b * 2 ^ i = a + 2 ^ i * b := by
  rw [Nat.mul_comm b, Nat.or_comm, ← Nat.two_pow_add_eq_or_of_lt ha, Nat.add_comm]
theorem load_loop (b : Int) (s : Nat) (sg : Bool) (l : List Int) (hl : Bytes l) (hs : l.length ≤ 8) (he : sg = true → l.length = s ∧ (s = 1 ∨ s = 2 ∨ s = 4)) : ∀ (m i : Nat), i + m = l.length →
    Ev (fun k => pack_Load.l0 k b (s : Int) sg ((val (l.take i) : Nat) : Int) l ((l.length : Nat) : Int) i) (((fin b s sg (val l) : Nat) : Int), true)
  | 0, i, hi => by
    refine Ev.step (f := fun _ => some (((fin b s sg (val l) : Nat) : Int), true)) (fun k => ?_) (Ev.now _)
    simp only [pack_Load.l0]
    rw [if_neg (by omega), List.take_of_length_le (by omega)]
    unfold fin
    cases sg with
    | false =>
      rw [if_neg (by simp)]
      by_cases hb : b = 127
      · rw [if_pos hb, if_pos hb]; rfl
      · rw [if_neg hb, if_neg hb]; rfl
    | true =>
      obtain ⟨h1, h2⟩ := he rfl
      have hv := val_lt hl
      rw [h1] at hv
      have e := sgn_eq s (val l) h2 hv
      rw [if_pos (rfl : true = true), if_pos (by rcases h2 with rfl | rfl | rfl <;> decide +kernel), e]
      by_cases hb : b = 127
      · rw [if_pos hb, if_pos hb]; rfl
      · rw [if_neg hb, if_neg hb]; rfl
  | m + 1, i, hi => by
    have ih := load_loop b s sg l hl hs he m (i + 1) (by omega)
    have e1 := byte_step i (by omega)
    have e2 := up_one i (by omega)
    refine Ev.step (fun k => ?_) ih
    simp only [pack_Load.l0]
    have hx := hl (l[i]'(by omega)) (List.getElem_mem _)
    have e3 : rd l (i : Int) = ((l[i]'(by omega)).toNat : Int) := by
      unfold rd
      rw [nat_int_toNat, List.getD_eq_getElem?_getD, List.getElem?_eq_getElem (by omega)]
      show l[i] = _
      omega
    have hlt : (l[i]'(by omega)).toNat < 256 := by omega
    have ht : l.take (i + 1) = l.take i ++ [l[i]'(by omega)] := (List.take_append_getElem (by omega)).symm
    have hti : (l.take i).length = i := by rw [List.length_take]; omega
    have hv := val_lt (hl.take i)
    rw [hti] at hv
    have hp : 2 ^ (8 * i) * 256 ≤ 2 ^ 64 := by
      rw [show 256 = 2 ^ 8 from rfl, ← Nat.pow_add]
      exact Nat.pow_le_pow_right (by decide) (by omega)
    have hbig : (l[i]'(by omega)).toNat * 2 ^ (8 * i) < 2 ^ 64 := Nat.lt_of_lt_of_le (Nat.mul_lt_mul_of_pos_right hlt (pow_pos _)) (by rw [Nat.mul_comm]; exact hp)
    have hsm : val (l.take i) < 2 ^ 64 := Nat.lt_of_lt_of_le hv (Nat.le_trans (Nat.le_mul_of_pos_right _ (by decide)) hp)
    rw [e1, e2, e3, if_pos (by omega), if_pos (by omega), if_pos (by omega), if_pos (by omega), wraps_u64 _ (by omega) (by omega), shl_nat _ _ (by omega), Nat.mod_eq_of_lt hbig, bor hsm hbig, or_shl hv, ht, val_append, hti]
    rfl
/-- What a load answers. -/
def lod (a : Int) (l : List Int) : Int × Bool :=
  if (acc a).2.2.2.2 = true ∧ (acc a).2.2.2.1 = false ∧ (l.length : Int) = (acc a).2.1 then (((fin (acc a).1 (acc a).2.1.toNat (acc a).2.2.1 (val l) : Nat) : Int), true) else (0, false)
theorem acc_signed {a : Int} (h : One a) : (acc a).2.2.1 = true → (acc a).2.1 = 1 ∨ (acc a).2.1 = 2 ∨ (acc a).2.1 = 4 := by
  have := acc_one h
  intro hs
  have := this.2.2.2 hs
  omega
theorem load_ev (a : Int) (l : List Int) (hl : Bytes l) : Ev (fun k => pack_Load.f k a l) (lod a l) := by
  unfold pack_Load.f
  refine Ev.bind (access_ev a) ?_
  have none_ : ∀ x6 x7 x8, Ev (fun k => pack_Load.j0 k l x6 x7 x8 true) ((0, false) : Int × Bool) := fun x6 x7 x8 =>
    Ev.step (f := fun _ => some ((0, false) : Int × Bool)) (fun k => by simp only [pack_Load.j0]; rw [if_pos trivial]) (Ev.now _)
  by_cases h : One a
  · have h1 := acc_one h
    have h2 := acc_signed h
    unfold lod
    generalize acc a = q at *
    obtain ⟨b, s, sg, st, ok⟩ := q
    simp only at h1 h2 ⊢
    obtain ⟨rfl, hb, hs, _⟩ := h1
    simp only [if_true, true_and]
    cases st with
    | true =>
      simp only [if_true, Bool.true_eq_false, false_and, if_false]
      exact none_ b s sg
    | false =>
      simp only [Bool.false_eq_true, if_false, true_and]
      by_cases hlen : (l.length : Int) = s
      · rw [if_pos hlen, bne_eq_false_iff_eq.2 hlen]
        subst hlen
        have := load_loop b l.length sg l hl (by omega) (fun hsg => ⟨rfl, by have := h2 hsg; omega⟩) l.length 0 (by omega)
        refine Ev.step (fun k => ?_) (show Ev (fun k => pack_Load.l0 k b ((l.length : Nat) : Int) sg 0 l ((l.length : Nat) : Int) 0) (((fin b ((l.length : Int)).toNat sg (val l) : Nat) : Int), true) from this)
        simp only [pack_Load.j0]
        rw [if_neg (by simp)]
      · rw [if_neg hlen, bne_iff_ne.2 hlen]
        exact none_ b s sg
  · have e := acc_none h
    unfold lod
    rw [e]
    simp only [Bool.false_eq_true, if_false, false_and]
    exact none_ 0 0 false
theorem Access_ev (a : Int) : Ev (fun k => pack_Access.f k a) ((acc a).1, (acc a).2.1, (acc a).2.2.2.1, (acc a).2.2.2.2) := by
  unfold pack_Access.f
  exact Ev.bind (access_ev a) (Ev.now _)
end Go.Proofs.YtlnikilodakjmaaDoor.STransLoads
