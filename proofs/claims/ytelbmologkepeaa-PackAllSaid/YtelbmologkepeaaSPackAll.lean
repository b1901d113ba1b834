/-
  What the functions of layer 4 (loads and stores) answer, in natural numbers: no program in sight.
-/
import Derived.Test.YtelbmologkepeaaPPackAllx
import Derived.Test.YtelbmologkepeaaNums
namespace Go.Proofs.Ytelbmologkepeaa.SPackAll
set_option linter.unusedVariables false
open Go.RowKit Go.Proofs.Ytelbmologkepeaa.PPackAll Go.Proofs.YtelbmologkepeaaW.PrintWords Go.Proofs.YtelbmologkepeaaW.PrintLast Go.Proofs.YtelbmologkepeaaW.PrintMore Go.Proofs.Ytelbmologkepeaa.Nums
/-- Bytes. -/
def Bytes (l : List Int) : Prop := ∀ x ∈ l, 0 ≤ x ∧ x < 256
theorem bytes_wf {l : List Int} (h : ∀ x ∈ l, (Lit.int .u8 x).wf = true) : Bytes l := fun x hx => by
  obtain ⟨n, rfl, hn⟩ := wf_u8 (h x hx)
  omega
theorem Bytes.take {l : List Int} (h : Bytes l) (n : Nat) : Bytes (l.take n) := fun x hx => h x (List.mem_of_mem_take hx)
/-- What an instruction is: its type, its bytes, signed, a store, one at all. -/
def acc (a : Int) : Int × Int × Bool × Bool × Bool :=
  if a = 40 then (127, 4, false, false, true) else if a = 41 then (126, 8, false, false, true) else
  if a = 44 then (127, 1, true, false, true) else if a = 45 then (127, 1, false, false, true) else
  if a = 46 then (127, 2, true, false, true) else if a = 47 then (127, 2, false, false, true) else
  if a = 48 then (126, 1, true, false, true) else if a = 49 then (126, 1, false, false, true) else
  if a = 50 then (126, 2, true, false, true) else if a = 51 then (126, 2, false, false, true) else
  if a = 52 then (126, 4, true, false, true) else if a = 53 then (126, 4, false, false, true) else
  if a = 54 then (127, 4, false, true, true) else if a = 55 then (126, 8, false, true, true) else
  if a = 58 then (127, 1, false, true, true) else if a = 59 then (127, 2, false, true, true) else
  if a = 60 then (126, 1, false, true, true) else if a = 61 then (126, 2, false, true, true) else
  if a = 62 then (126, 4, false, true, true) else (0, 0, false, false, false)
def One (a : Int) : Prop := a = 40 ∨ a = 41 ∨ a = 44 ∨ a = 45 ∨ a = 46 ∨ a = 47 ∨ a = 48 ∨ a = 49 ∨ a = 50 ∨ a = 51 ∨ a = 52 ∨ a = 53 ∨ a = 54 ∨ a = 55 ∨ a = 58 ∨ a = 59 ∨ a = 60 ∨ a = 61 ∨ a = 62
theorem none_ne {a : Int} (h : ¬ One a) : a ≠ 40 ∧ a ≠ 41 ∧ a ≠ 44 ∧ a ≠ 45 ∧ a ≠ 46 ∧ a ≠ 47 ∧ a ≠ 48 ∧ a ≠ 49 ∧ a ≠ 50 ∧ a ≠ 51 ∧ a ≠ 52 ∧ a ≠ 53 ∧ a ≠ 54 ∧ a ≠ 55 ∧ a ≠ 58 ∧ a ≠ 59 ∧ a ≠ 60 ∧ a ≠ 61 ∧ a ≠ 62 := by
  unfold One at h
  omega
theorem acc_none {a : Int} (h : ¬ One a) : acc a = (0, 0, false, false, false) := by
  have hn := none_ne h
  simp [acc, hn]
theorem acc_one {a : Int} (h : One a) : (acc a).2.2.2.2 = true ∧ ((acc a).1 = 127 ∨ (acc a).1 = 126) ∧ ((acc a).2.1 = 1 ∨ (acc a).2.1 = 2 ∨ (acc a).2.1 = 4 ∨ (acc a).2.1 = 8) ∧ ((acc a).2.2.1 = true → (acc a).2.1 ≠ 8) := by
  rcases h with rfl | rfl | rfl | rfl | rfl | rfl | rfl | rfl | rfl | rfl | rfl | rfl | rfl | rfl | rfl | rfl | rfl | rfl | rfl <;> decide
theorem access_eq (a : Int) : pack_access.f 6 a = some (acc a) := by
  by_cases h : One a
  · rcases h with rfl | rfl | rfl | rfl | rfl | rfl | rfl | rfl | rfl | rfl | rfl | rfl | rfl | rfl | rfl | rfl | rfl | rfl | rfl <;> decide +kernel
  · have hn := none_ne h
    rw [acc_none h]
    simp [pack_access.f, pack_access.j0, pack_access.j1, pack_access.j2, pack_access.j3, pack_access.j4, hn]
theorem access_ev (a : Int) : Ev (fun k => pack_access.f k a) (acc a) := Ev.of (fun k => pack_access.mono a k) (k := 6) (access_eq a)
theorem nat_int_toNat (n : Nat) : ((n : Int)).toNat = n := Int.toNat_natCast n
theorem byte_step (i : Nat) (hi : i ≤ 8) : IntKind.u64.wrap (wrap64 (8 * (i : Int))) = ((8 * i : Nat) : Int) := by
  rw [wrap64_id _ (by omega) (by omega), wraps_u64 _ (by omega) (by omega)]
  omega
theorem up_one (i : Nat) (hi : i ≤ 4611686018427387904) : wrap64 ((i : Int) + 1) = ((i + 1 : Nat) : Int) := by
  rw [wrap64_id _ (by omega) (by omega)]
  omega
theorem cast_mod (n m : Nat) : ((n : Nat) : Int) % ((m : Nat) : Int) = ((n % m : Nat) : Int) := rfl
/-- The lowest bytes of a number. -/
def le (n v : Nat) : List Int := (List.range n).map fun j => ((v / 2 ^ (8 * j) % 256 : Nat) : Int)
theorem le_len (n v : Nat) : (le n v).length = n := by simp [le]
theorem le_succ (n v : Nat) : le (n + 1) v = le n v ++ [((v / 2 ^ (8 * n) % 256 : Nat) : Int)] := by simp [le, List.range_succ]
theorem le_cons (n v : Nat) : le (n + 1) v = ((v % 256 : Nat) : Int) :: le n (v / 256) := by
  unfold le
  rw [List.range_succ_eq_map, List.map_cons, List.map_map]
  refine congr (congrArg List.cons ?_) (List.map_congr_left (fun j _ => ?_))
  · simp
  · show ((v / 2 ^ (8 * (j + 1)) % 256 : Nat) : Int) = _
    rw [show 2 ^ (8 * (j + 1)) = 256 * 2 ^ (8 * j) from by rw [Nat.mul_add, Nat.pow_add]; omega, Nat.div_div_eq_div_mul]
theorem le_bytes (n v : Nat) : Bytes (le n v) := fun x hx => by
  obtain ⟨j, _, rfl⟩ := List.mem_map.1 hx
  omega
theorem le_take (n m v : Nat) (h : m ≤ n) : (le n v).take m = le m v := by
  simp [le, ← List.map_take, List.take_range, Nat.min_eq_left h]
theorem le_add (n m v : Nat) : le (n + m) v = le n v ++ le m (v / 2 ^ (8 * n)) := by
  induction m with
  | zero => simp [le]
  | succ m ih => rw [← Nat.add_assoc, le_succ, ih, le_succ, List.append_assoc, Nat.mul_add, Nat.pow_add, Nat.div_div_eq_div_mul]
theorem le_drop (n m v : Nat) : (le (n + m) v).drop n = le m (v / 2 ^ (8 * n)) := by
  rw [le_add, List.drop_append_of_le_length (by rw [le_len]; exact Nat.le_refl _), List.drop_of_length_le (by rw [le_len]; exact Nat.le_refl _), List.nil_append]
/-- What bytes make up. -/
def val : List Int → Nat
  | [] => 0
  | x :: xs => x.toNat + 256 * val xs
theorem val_le (n v : Nat) : val (le n v) = v % 2 ^ (8 * n) := by
  induction n generalizing v with
  | zero => simp [le, val, Nat.mod_one]
  | succ n ih =>
    rw [le_cons]
    show ((v % 256 : Nat) : Int).toNat + 256 * val (le n (v / 256)) = _
    rw [ih, nat_int_toNat, show 2 ^ (8 * (n + 1)) = 256 * 2 ^ (8 * n) from by rw [Nat.mul_add, Nat.pow_add]; omega, Nat.mod_mul]
theorem pow8 (n : Nat) : 256 ^ n = 2 ^ (8 * n) := by rw [show 256 = 2 ^ 8 from rfl, ← Nat.pow_mul]
theorem val_lt : ∀ {l : List Int}, Bytes l → val l < 2 ^ (8 * l.length)
  | [], _ => by simp [val]
  | x :: xs, h => by
    have h1 := h x (List.mem_cons_self ..)
    have h2 := val_lt (l := xs) (fun y hy => h y (List.mem_cons_of_mem _ hy))
    rw [List.length_cons, show 2 ^ (8 * (xs.length + 1)) = 256 * 2 ^ (8 * xs.length) from by rw [Nat.mul_add, Nat.pow_add]; omega]
    generalize 2 ^ (8 * xs.length) = P at *
    unfold val
    omega
theorem val_append (l m : List Int) : val (l ++ m) = val l + 2 ^ (8 * l.length) * val m := by
  induction l with
  | nil => simp [val]
  | cons x xs ih =>
    rw [List.cons_append, val, ih, val, List.length_cons, show 2 ^ (8 * (xs.length + 1)) = 256 * 2 ^ (8 * xs.length) from by rw [Nat.mul_add, Nat.pow_add]; omega, Nat.mul_add, Nat.mul_assoc]
    omega
theorem le_val : ∀ {l : List Int}, Bytes l → le l.length (val l) = l
  | [], _ => rfl
  | x :: xs, h => by
    have h1 := h x (List.mem_cons_self ..)
    have h2 := le_val (l := xs) (fun y hy => h y (List.mem_cons_of_mem _ hy))
    rw [List.length_cons, le_cons, val]
    rw [show (x.toNat + 256 * val xs) / 256 = val xs from by omega, h2, show (((x.toNat + 256 * val xs) % 256 : Nat) : Int) = x from by omega]
/-- What a store lays. -/
def sto (a : Int) (v : Nat) : List Int × Bool := if (acc a).2.2.2.1 = true then (le (acc a).2.1.toNat v, true) else ([], false)
theorem store_loop (v : Nat) : ∀ (m i : Nat), i + m ≤ 8 → Ev (fun k => pack_Store.l0 k v (le i v ++ List.replicate m 0) ((i + m : Nat) : Int) i) (le (i + m) v, true)
  | 0, i, hi => by
    refine Ev.step (f := fun _ => some (le (i + 0) v, true)) (fun k => ?_) (Ev.now _)
    simp only [pack_Store.l0]
    rw [if_neg (by omega), List.replicate_zero, List.append_nil]
    rfl
  | m + 1, i, hi => by
    have ih := store_loop v m (i + 1) (by omega)
    have e1 := byte_step i (by omega)
    have e2 := up_one i (by omega)
    refine Ev.step (fun k => ?_) (show Ev (fun k => pack_Store.l0 k v (le (i + 1) v ++ List.replicate m 0) ((i + 1 + m : Nat) : Int) ((i + 1 : Nat) : Int)) (le (i + (m + 1)) v, true) from by rw [show i + (m + 1) = i + 1 + m from by omega]; exact ih)
    simp only [pack_Store.l0]
    rw [e1, e2, if_pos (by omega), if_pos (by omega), if_pos (by omega), if_pos (by rw [List.length_append, le_len, List.length_replicate]; omega), shr_nat _ _ (by omega), nat_int_toNat]
    have e3 : (le i v ++ List.replicate (m + 1) (0 : Int)).set i (((v / 2 ^ (8 * i) : Nat) : Int) % 256) = le (i + 1) v ++ List.replicate m 0 := by
      rw [le_succ, List.set_append_right _ _ (by rw [le_len]; exact Nat.le_refl _), le_len, Nat.sub_self, List.replicate_succ, List.set_cons_zero, List.append_assoc]
      rfl
    rw [e3, show i + (m + 1) = i + 1 + m from by omega]
theorem store_ev (a : Int) (v : Nat) : Ev (fun k => pack_Store.f k a v) (sto a v) := by
  unfold pack_Store.f
  refine Ev.bind (access_ev a) ?_
  have none_ : ∀ x7, Ev (fun k => pack_Store.j0 k v x7 true) (([], false) : List Int × Bool) := fun x7 =>
    Ev.step (f := fun _ => some (([], false) : List Int × Bool)) (fun k => by simp only [pack_Store.j0]; rw [if_pos trivial]) (Ev.now _)
  by_cases h : One a
  · have h1 := acc_one h
    unfold sto
    generalize acc a = q at *
    obtain ⟨b, s, sg, st, ok⟩ := q
    simp only at h1 ⊢
    obtain ⟨rfl, hb, hs, _⟩ := h1
    simp only [if_true]
    cases st with
    | false => exact none_ s
    | true =>
      rw [if_pos rfl]
      obtain ⟨n, rfl, hn⟩ : ∃ n : Nat, s = (n : Int) ∧ n ≤ 8 := ⟨s.toNat, by omega, by omega⟩
      refine Ev.step (fun k => ?_) (show Ev (fun k => pack_Store.l0 k v (List.replicate n 0) (n : Int) 0) (le (n : Int).toNat v, true) from by
        have := store_loop v n 0 (by omega)
        rw [Nat.zero_add] at this
        exact this)
      simp only [pack_Store.j0]
      rw [if_neg (by simp), if_pos (by omega), nat_int_toNat, if_pos (by omega), Option.bind_some, List.length_replicate]
  · have e := acc_none h
    unfold sto
    rw [e]
    simp only [Bool.false_eq_true, if_false]
    exact none_ 0
/-- A number of some bytes, its sign spread. -/
def sx (s v : Nat) : Nat := if v < 2 ^ (8 * s - 1) then v else v + 2 ^ 64 - 2 ^ (8 * s)
def fin (b : Int) (s : Nat) (sg : Bool) (v : Nat) : Nat := if b = 127 then (if sg then sx s v else v) % 4294967296 else if sg then sx s v else v
theorem sgn_eq (s v : Nat) (hs : s = 1 ∨ s = 2 ∨ s = 4) (hv : v < 2 ^ (8 * s)) :
    IntKind.u64.wrap (shr .i64 (wrap64 (shl .u64 (v : Int) (IntKind.u64.wrap (wrap64 (64 - (wrap64 (8 * (s : Int)))))))) (IntKind.u64.wrap (wrap64 (64 - (wrap64 (8 * (s : Int))))))) = ((sx s v : Nat) : Int) := by
  rw [wrap_u64]
  rcases hs with rfl | rfl | rfl
  · rw [show IntKind.u64.wrap (wrap64 (64 - (wrap64 (8 * ((1 : Nat) : Int))))) = ((56 : Nat) : Int) from by decide +kernel, shl_nat _ _ (by omega)]
    show (wrap64 ((v * 2 ^ 56 % 2 ^ 64 : Nat) : Int) / 2 ^ 56) % _ = _
    unfold wrap64 sx
    split <;> omega
  · rw [show IntKind.u64.wrap (wrap64 (64 - (wrap64 (8 * ((2 : Nat) : Int))))) = ((48 : Nat) : Int) from by decide +kernel, shl_nat _ _ (by omega)]
    show (wrap64 ((v * 2 ^ 48 % 2 ^ 64 : Nat) : Int) / 2 ^ 48) % _ = _
    unfold wrap64 sx
    split <;> omega
  · rw [show IntKind.u64.wrap (wrap64 (64 - (wrap64 (8 * ((4 : Nat) : Int))))) = ((32 : Nat) : Int) from by decide +kernel, shl_nat _ _ (by omega)]
    show (wrap64 ((v * 2 ^ 32 % 2 ^ 64 : Nat) : Int) / 2 ^ 32) % _ = _
    unfold wrap64 sx
    split <;> omega
theorem or_shl {a i b : Nat} (ha : a < 2 ^ i) : a ||| b * 2 ^ i = a + 2 ^ i * b := by
  rw [Nat.mul_comm b, Nat.or_comm, ← Nat.two_pow_add_eq_or_of_lt ha, Nat.add_comm]
theorem load_loop (b : Int) (s : Nat) (sg : Bool) (l : List Int) (hl : Bytes l) (hs : l.length ≤ 8) (he : sg = true → l.length = s ∧ (s = 1 ∨ s = 2 ∨ s = 4)) : ∀ (m i : Nat), i + m = l.length →
    Ev (fun k => pack_Load.l0 k b (s : Int) sg ((val (l.take i) : Nat) : Int) l ((l.length : Nat) : Int) i) (((fin b s sg (val l) : Nat) : Int), true)
  | 0, i, hi => by
    refine Ev.step (f := fun _ => some (((fin b s sg (val l) : Nat) : Int), true)) (fun k => ?_) (Ev.now _)
    simp only [pack_Load.l0]
    rw [if_neg (by omega), List.take_of_length_le (by omega)]
    unfold fin
    cases sg with
    | false =>
      rw [if_neg (by simp)]
      by_cases hb : b = 127
      · rw [if_pos hb, if_pos hb]; rfl
      · rw [if_neg hb, if_neg hb]; rfl
    | true =>
      obtain ⟨h1, h2⟩ := he rfl
      have hv := val_lt hl
      rw [h1] at hv
      have e := sgn_eq s (val l) h2 hv
      rw [if_pos (rfl : true = true), if_pos (by rcases h2 with rfl | rfl | rfl <;> decide +kernel), e]
      by_cases hb : b = 127
      · rw [if_pos hb, if_pos hb]; rfl
      · rw [if_neg hb, if_neg hb]; rfl
  | m + 1, i, hi => by
    have ih := load_loop b s sg l hl hs he m (i + 1) (by omega)
    have e1 := byte_step i (by omega)
    have e2 := up_one i (by omega)
    refine Ev.step (fun k => ?_) ih
    simp only [pack_Load.l0]
    have hx := hl (l[i]'(by omega)) (List.getElem_mem _)
    have e3 : rd l (i : Int) = ((l[i]'(by omega)).toNat : Int) := by
      unfold rd
      rw [nat_int_toNat, List.getD_eq_getElem?_getD, List.getElem?_eq_getElem (by omega)]
      show l[i] = _
      omega
    have hlt : (l[i]'(by omega)).toNat < 256 := by omega
    have ht : l.take (i + 1) = l.take i ++ [l[i]'(by omega)] := (List.take_append_getElem (by omega)).symm
    have hti : (l.take i).length = i := by rw [List.length_take]; omega
    have hv := val_lt (hl.take i)
    rw [hti] at hv
    have hp : 2 ^ (8 * i) * 256 ≤ 2 ^ 64 := by
      rw [show 256 = 2 ^ 8 from rfl, ← Nat.pow_add]
      exact Nat.pow_le_pow_right (by decide) (by omega)
    have hbig : (l[i]'(by omega)).toNat * 2 ^ (8 * i) < 2 ^ 64 := Nat.lt_of_lt_of_le (Nat.mul_lt_mul_of_pos_right hlt (pow_pos _)) (by rw [Nat.mul_comm]; exact hp)
    have hsm : val (l.take i) < 2 ^ 64 := Nat.lt_of_lt_of_le hv (Nat.le_trans (Nat.le_mul_of_pos_right _ (by decide)) hp)
    rw [e1, e2, e3, if_pos (by omega), if_pos (by omega), if_pos (by omega), if_pos (by omega), wraps_u64 _ (by omega) (by omega), shl_nat _ _ (by omega), Nat.mod_eq_of_lt hbig, bor hsm hbig, or_shl hv, ht, val_append, hti]
    rfl
/-- What a load answers. -/
def lod (a : Int) (l : List Int) : Int × Bool :=
  if (acc a).2.2.2.2 = true ∧ (acc a).2.2.2.1 = false ∧ (l.length : Int) = (acc a).2.1 then (((fin (acc a).1 (acc a).2.1.toNat (acc a).2.2.1 (val l) : Nat) : Int), true) else (0, false)
theorem acc_signed {a : Int} (h : One a) : (acc a).2.2.1 = true → (acc a).2.1 = 1 ∨ (acc a).2.1 = 2 ∨ (acc a).2.1 = 4 := by
  have := acc_one h
  intro hs
  have := this.2.2.2 hs
  omega
theorem load_ev (a : Int) (l : List Int) (hl : Bytes l) : Ev (fun k => pack_Load.f k a l) (lod a l) := by
  unfold pack_Load.f
  refine Ev.bind (access_ev a) ?_
  have none_ : ∀ x6 x7 x8, Ev (fun k => pack_Load.j0 k l x6 x7 x8 true) ((0, false) : Int × Bool) := fun x6 x7 x8 =>
    Ev.step (f := fun _ => some ((0, false) : Int × Bool)) (fun k => by simp only [pack_Load.j0]; rw [if_pos trivial]) (Ev.now _)
  by_cases h : One a
  · have h1 := acc_one h
    have h2 := acc_signed h
    unfold lod
    generalize acc a = q at *
    obtain ⟨b, s, sg, st, ok⟩ := q
    simp only at h1 h2 ⊢
    obtain ⟨rfl, hb, hs, _⟩ := h1
    simp only [if_true, true_and]
    cases st with
    | true =>
      simp only [if_true, Bool.true_eq_false, false_and, if_false]
      exact none_ b s sg
    | false =>
      simp only [Bool.false_eq_true, if_false, true_and]
      by_cases hlen : (l.length : Int) = s
      · rw [if_pos hlen, bne_eq_false_iff_eq.2 hlen]
        subst hlen
        have := load_loop b l.length sg l hl (by omega) (fun hsg => ⟨rfl, by have := h2 hsg; omega⟩) l.length 0 (by omega)
        refine Ev.step (fun k => ?_) (show Ev (fun k => pack_Load.l0 k b ((l.length : Nat) : Int) sg 0 l ((l.length : Nat) : Int) 0) (((fin b ((l.length : Int)).toNat sg (val l) : Nat) : Int), true) from this)
        simp only [pack_Load.j0]
        rw [if_neg (by simp)]
      · rw [if_neg hlen, bne_iff_ne.2 hlen]
        exact none_ b s sg
  · have e := acc_none h
    unfold lod
    rw [e]
    simp only [Bool.false_eq_true, if_false, false_and]
    exact none_ 0 0 false
theorem Access_ev (a : Int) : Ev (fun k => pack_Access.f k a) ((acc a).1, (acc a).2.1, (acc a).2.2.2.1, (acc a).2.2.2.2) := by
  unfold pack_Access.f
  exact Ev.bind (access_ev a) (Ev.now _)
theorem same_loop (l m : List Int) (hlen : l.length = m.length) (hb : l.length ≤ 4611686018427387904) : ∀ (d i : Nat), i + d = l.length →
    Ev (fun k => trammelref01_Same.l0 k l m i) (decide (l.drop i = m.drop i))
  | 0, i, hi => by
    refine Ev.step (f := fun _ => some (decide (l.drop i = m.drop i))) (fun k => ?_) (Ev.now _)
    simp only [trammelref01_Same.l0]
    rw [if_neg (by omega), List.drop_of_length_le (by omega), List.drop_of_length_le (by omega)]
    rfl
  | d + 1, i, hi => by
    have ih := same_loop l m hlen hb d (i + 1) (by omega)
    have e2 := up_one i (by omega)
    have hl : i < l.length := by omega
    have hm : i < m.length := by omega
    have e3 : rd l (i : Int) = l[i] := by
      unfold rd
      rw [nat_int_toNat, List.getD_eq_getElem?_getD, List.getElem?_eq_getElem hl]; rfl
    have e4 : rd m (i : Int) = m[i] := by
      unfold rd
      rw [nat_int_toNat, List.getD_eq_getElem?_getD, List.getElem?_eq_getElem hm]; rfl
    have e5 : l.drop i = l[i] :: l.drop (i + 1) := List.drop_eq_getElem_cons hl
    have e6 : m.drop i = m[i] :: m.drop (i + 1) := List.drop_eq_getElem_cons hm
    by_cases he : l[i] = m[i]
    · refine Ev.step (fun k => ?_) (show Ev (fun k => trammelref01_Same.l0 k l m ((i + 1 : Nat) : Int)) (decide (l.drop i = m.drop i)) from ?_)
      · simp only [trammelref01_Same.l0]
        rw [if_pos (by omega), if_pos (by omega), if_pos (by omega), e3, e4, if_pos he, e2]
      · have : decide (l.drop i = m.drop i) = decide (l.drop (i + 1) = m.drop (i + 1)) := by
          rw [e5, e6, he]
          refine decide_eq_decide.2 ⟨fun h => (List.cons.inj h).2, fun h => by rw [h]⟩
        rw [this]; exact ih
    · refine Ev.step (f := fun _ => some (decide (l.drop i = m.drop i))) (fun k => ?_) (Ev.now _)
      simp only [trammelref01_Same.l0]
      rw [if_pos (by omega), if_pos (by omega), if_pos (by omega), e3, e4, if_neg he, e5, e6]
      rw [decide_eq_false (fun h => he (List.cons.inj h).1)]
theorem same_ev (l m : List Int) (hb : l.length ≤ 4611686018427387904) : Ev (fun k => trammelref01_Same.f k l m) (decide (l = m)) := by
  unfold trammelref01_Same.f
  by_cases h : (l.length : Int) = (m.length : Int)
  · simp only [if_pos h]
    have := same_loop l m (by omega) hb l.length 0 (by omega)
    rw [List.drop_zero, List.drop_zero] at this
    exact this
  · simp only [if_neg h]
    rw [decide_eq_false (fun e => h (by rw [e]))]
    exact Ev.now _
/-- What the reference's table says. -/
def ofs (a : Int) : Int × Int × Int × Bool × Bool × Bool :=
  if (acc a).2.2.2.2 = true then (a, (if (acc a).1 = 127 then 32 else 64), (acc a).2.1, (acc a).2.2.1, (acc a).2.2.2.1, true) else (0, 0, 0, false, false, false)
theorem of_loop (a : Int) (xs : List S33) (hx : xs.length ≤ 1000) : ∀ (d i : Nat), i + d = xs.length →
    Ev (fun k => trammelref04_Of.l0 k a xs i) (match (xs.drop i).find? (fun s => s.f0 == a) with | some s => (s.f0, s.f1, s.f2, s.f3, s.f4, true) | none => (0, 0, 0, false, false, false))
  | 0, i, hi => by
    rw [List.drop_of_length_le (by omega)]
    refine Ev.step (f := fun _ => some ((0, 0, 0, false, false, false) : Int × Int × Int × Bool × Bool × Bool)) (fun k => ?_) (Ev.now _)
    simp only [trammelref04_Of.l0]
    rw [if_neg (by omega)]
  | d + 1, i, hi => by
    have ih := of_loop a xs hx d (i + 1) (by omega)
    have e2 := up_one i (by omega)
    have hl : i < xs.length := by omega
    have e3 : rd_T33 xs (i : Int) = xs[i] := by
      unfold rd_T33
      rw [nat_int_toNat, List.getD_eq_getElem?_getD, List.getElem?_eq_getElem hl]; rfl
    rw [List.drop_eq_getElem_cons hl]
    by_cases he : (xs[i]).f0 = a
    · rw [List.find?_cons_of_pos (by rw [he]; exact beq_self_eq_true a)]
      refine Ev.step (f := fun _ => some ((xs[i]).f0, (xs[i]).f1, (xs[i]).f2, (xs[i]).f3, (xs[i]).f4, true)) (fun k => ?_) (Ev.now _)
      simp only [trammelref04_Of.l0]
      rw [if_pos (by omega), if_pos (by omega), e3, if_pos he]
    · rw [List.find?_cons_of_neg (by simpa using he)]
      refine Ev.step (fun k => ?_) ih
      simp only [trammelref04_Of.l0]
      rw [if_pos (by omega), if_pos (by omega), e3, if_neg he, e2]
theorem of_ev (a : Int) : Ev (fun k => trammelref04_Of.f k a) (ofs a) := by
  unfold trammelref04_Of.f
  have := of_loop a (([(⟨40, 32, 4, false, false⟩ : S33), (⟨41, 64, 8, false, false⟩ : S33), (⟨44, 32, 1, true, false⟩ : S33), (⟨45, 32, 1, false, false⟩ : S33), (⟨46, 32, 2, true, false⟩ : S33), (⟨47, 32, 2, false, false⟩ : S33), (⟨48, 64, 1, true, false⟩ : S33), (⟨49, 64, 1, false, false⟩ : S33), (⟨50, 64, 2, true, false⟩ : S33), (⟨51, 64, 2, false, false⟩ : S33), (⟨52, 64, 4, true, false⟩ : S33), (⟨53, 64, 4, false, false⟩ : S33), (⟨54, 32, 4, false, true⟩ : S33), (⟨55, 64, 8, false, true⟩ : S33), (⟨58, 32, 1, false, true⟩ : S33), (⟨59, 32, 2, false, true⟩ : S33), (⟨60, 64, 1, false, true⟩ : S33), (⟨61, 64, 2, false, true⟩ : S33), (⟨62, 64, 4, false, true⟩ : S33)] : List (S33))) (by decide) 19 0 rfl
  refine (show _ = ofs a from ?_) ▸ this
  by_cases h : One a
  · rcases h with rfl | rfl | rfl | rfl | rfl | rfl | rfl | rfl | rfl | rfl | rfl | rfl | rfl | rfl | rfl | rfl | rfl | rfl | rfl <;> rfl
  · have hn := none_ne h
    unfold ofs
    rw [acc_none h]
    simp only [List.drop_zero, List.find?_cons, List.find?_nil, beq_eq_false_iff_ne.2 hn.1.symm, beq_eq_false_iff_ne.2 hn.2.1.symm, beq_eq_false_iff_ne.2 hn.2.2.1.symm, beq_eq_false_iff_ne.2 hn.2.2.2.1.symm, beq_eq_false_iff_ne.2 hn.2.2.2.2.1.symm,
      beq_eq_false_iff_ne.2 hn.2.2.2.2.2.1.symm, beq_eq_false_iff_ne.2 hn.2.2.2.2.2.2.1.symm, beq_eq_false_iff_ne.2 hn.2.2.2.2.2.2.2.1.symm, beq_eq_false_iff_ne.2 hn.2.2.2.2.2.2.2.2.1.symm, beq_eq_false_iff_ne.2 hn.2.2.2.2.2.2.2.2.2.1.symm,
      beq_eq_false_iff_ne.2 hn.2.2.2.2.2.2.2.2.2.2.1.symm, beq_eq_false_iff_ne.2 hn.2.2.2.2.2.2.2.2.2.2.2.1.symm, beq_eq_false_iff_ne.2 hn.2.2.2.2.2.2.2.2.2.2.2.2.1.symm, beq_eq_false_iff_ne.2 hn.2.2.2.2.2.2.2.2.2.2.2.2.2.1.symm,
      beq_eq_false_iff_ne.2 hn.2.2.2.2.2.2.2.2.2.2.2.2.2.2.1.symm, beq_eq_false_iff_ne.2 hn.2.2.2.2.2.2.2.2.2.2.2.2.2.2.2.1.symm, beq_eq_false_iff_ne.2 hn.2.2.2.2.2.2.2.2.2.2.2.2.2.2.2.2.1.symm, beq_eq_false_iff_ne.2 hn.2.2.2.2.2.2.2.2.2.2.2.2.2.2.2.2.2.1.symm, beq_eq_false_iff_ne.2 hn.2.2.2.2.2.2.2.2.2.2.2.2.2.2.2.2.2.2.symm]
    rfl
theorem rstore_loop (p q : Int) (b1 b2 : Bool) (n : Nat) (v : Nat) (hv : v < 2 ^ 64) : ∀ (d i : Nat), i + d = n → n ≤ 8 →
    Ev (fun k => trammelref04_Store.l0 k ((v / 2 ^ (8 * i) : Nat) : Int) (le i v) i p q (n : Int) b1 b2) (le n v, true)
  | 0, i, hi, hn => by
    refine Ev.step (f := fun _ => some (le n v, true)) (fun k => ?_) (Ev.now _)
    simp only [trammelref04_Store.l0]
    rw [if_neg (by omega), show i = n from by omega]
  | d + 1, i, hi, hn => by
    have ih := rstore_loop p q b1 b2 n v hv d (i + 1) (by omega) hn
    have e2 := up_one i (by omega)
    refine Ev.step (fun k => ?_) ih
    simp only [trammelref04_Store.l0]
    rw [if_pos (by omega), if_pos (by rw [le_len]; omega), e2]
    have hd : v / 2 ^ (8 * i) ≤ v := Nat.div_le_self _ _
    have e3 : v / 2 ^ (8 * (i + 1)) = v / 2 ^ (8 * i) / 256 := by rw [Nat.div_div_eq_div_mul, show 2 ^ (8 * (i + 1)) = 2 ^ (8 * i) * 256 from by rw [Nat.mul_add, Nat.pow_add]]
    rw [le_succ, e3]
    generalize v / 2 ^ (8 * i) = z at *
    rw [Int.tdiv_eq_ediv_of_nonneg (by omega), Int.tmod_eq_emod_of_nonneg (by omega), wraps_u64 _ (by omega) (by omega), show (z : Int) % 256 % 256 = ((z % 256 : Nat) : Int) from by omega, show (z : Int) / 256 = ((z / 256 : Nat) : Int) from by omega]
theorem rstore_ev (a : Int) (v : Nat) (hv : v < 2 ^ 64) : Ev (fun k => trammelref04_Store.f k a v) (sto a v) := by
  unfold trammelref04_Store.f
  refine Ev.bind (of_ev a) ?_
  have none_ : ∀ p q r b1 b2, Ev (fun k => trammelref04_Store.j0 k v true p q r b1 b2) (([], false) : List Int × Bool) := fun p q r b1 b2 =>
    Ev.step (f := fun _ => some (([], false) : List Int × Bool)) (fun k => by simp only [trammelref04_Store.j0]; rw [if_pos trivial]) (Ev.now _)
  unfold ofs sto
  by_cases h : One a
  · have h1 := acc_one h
    generalize acc a = q at *
    obtain ⟨b, s, sg, st, ok⟩ := q
    simp only at h1 ⊢
    obtain ⟨rfl, hb, hs, _⟩ := h1
    simp only [if_true]
    cases st with
    | false =>
      simp only [Bool.false_eq_true, if_false]
      exact none_ _ _ _ _ _
    | true =>
      obtain ⟨n, rfl, hn⟩ : ∃ n : Nat, s = (n : Int) ∧ n ≤ 8 := ⟨s.toNat, by omega, by omega⟩
      rw [nat_int_toNat]
      simp only [if_true]
      refine Ev.step (fun k => ?_) (rstore_loop a (if b = 127 then 32 else 64) sg true n v hv n 0 (by omega) hn)
      simp only [trammelref04_Store.j0]
      rw [if_neg (by simp), Nat.mul_zero, Nat.pow_zero, Nat.div_one]
      rfl
  · rw [acc_none h]
    simp only [Bool.false_eq_true, if_false]
    exact none_ _ _ _ _ _
/-- The byte at a place, or what stands in its place behind the last. -/
def ext (l : List Int) (sg : Bool) (i : Nat) : Int := if i < l.length then l.getD i 0 else if sg = true then (if l.getD (l.length - 1) 0 > 127 then 255 else 0) else 0
theorem rload_loop (l : List Int) (hl : Bytes l) (hne : 1 ≤ l.length) (hle : l.length ≤ 8) (sg st : Bool) (p q r : Int) (V W : Nat) (hW : W ≤ 8) (hV : V < 2 ^ 64) (hb : ∀ i, i < W → ext l sg i = ((V / 2 ^ (8 * i) % 256 : Nat) : Int)) : ∀ i : Nat, i ≤ W →
    Ev (fun k => trammelref04_Load.l0 k l ((V / 2 ^ (8 * i) : Nat) : Int) ((i : Int) - 1) p q r sg st) ((V : Int), true)
  | 0, hi => by
    refine Ev.step (f := fun _ => some ((V : Int), true)) (fun k => ?_) (Ev.now _)
    simp only [trammelref04_Load.l0]
    rw [if_neg (by omega), Nat.mul_zero, Nat.pow_zero, Nat.div_one]
  | i + 1, hi => by
    have ih := rload_loop l hl hne hle sg st p q r V W hW hV hb i (by omega)
    have h := hb i (by omega)
    refine Ev.step (fun k => ?_) ih
    simp only [trammelref04_Load.l0]
    have hd : V / 2 ^ (8 * i) ≤ V := Nat.div_le_self _ _
    have e3 : V / 2 ^ (8 * (i + 1)) = V / 2 ^ (8 * i) / 256 := by rw [Nat.div_div_eq_div_mul, show 2 ^ (8 * (i + 1)) = 2 ^ (8 * i) * 256 from by rw [Nat.mul_add, Nat.pow_add]]
    rw [e3]
    generalize V / 2 ^ (8 * i) = z at *
    have e4 : ∀ x : Int, x = ((z % 256 : Nat) : Int) → IntKind.u64.wrap (IntKind.u64.wrap (((z / 256 : Nat) : Int) * 256) + x) = (z : Int) := by
      intro x hx
      rw [wraps_u64 (((z / 256 : Nat) : Int) * 256) (by omega) (by omega), hx, wraps_u64 _ (by omega) (by omega)]
      omega
    have e5 : wrap64 (((i + 1 : Nat) : Int) - 1 - 1) = (i : Int) - 1 := by rw [wrap64_id _ (by omega) (by omega)]; omega
    have e6 : ((i + 1 : Nat) : Int) - 1 = (i : Int) := by omega
    rw [e5, e6, if_pos (by omega)]
    unfold ext at h
    by_cases hi2 : i < l.length
    · rw [if_pos hi2] at h
      rw [if_pos (by omega), if_pos (by omega)]
      have hx : rd l (i : Int) = ((z % 256 : Nat) : Int) := by unfold rd; rw [nat_int_toNat]; exact h
      rw [hx, wraps_u64 ((z % 256 : Nat) : Int) (by omega) (by omega), e4 _ rfl]
    · rw [if_neg hi2] at h
      rw [if_neg (by omega)]
      cases sg with
      | false =>
        rw [if_neg (by simp)] at h
        rw [if_neg (by simp), e4 0 h]
      | true =>
        rw [if_pos (rfl : true = true)] at h
        rw [if_pos (rfl : true = true)]
        have e7 : wrap64 ((l.length : Int) - 1) = ((l.length - 1 : Nat) : Int) := by rw [wrap64_id _ (by omega) (by omega)]; omega
        have e8 : rd l ((l.length - 1 : Nat) : Int) = l.getD (l.length - 1) 0 := by unfold rd; rw [nat_int_toNat]
        rw [e7, if_pos (by omega), if_pos (by omega), e8]
        by_cases h7 : l.getD (l.length - 1) 0 > 127
        · rw [if_pos h7] at h
          rw [if_pos h7, e4 255 h]
        · rw [if_neg h7] at h
          rw [if_neg h7, e4 0 h]
theorem le_at (v : Nat) (n i : Nat) (h : i < n) : (le n v).getD i 0 = ((v / 2 ^ (8 * i) % 256 : Nat) : Int) := by
  rw [List.getD_eq_getElem?_getD]
  simp [le, h]
theorem ext_fin (l : List Int) (hl : Bytes l) (b : Int) (hb : b = 127 ∨ b = 126) (sg : Bool) (hs : l.length = 1 ∨ l.length = 2 ∨ l.length = 4 ∨ l.length = 8) (hg : sg = true → l.length ≠ 8) (hw : b = 127 → l.length ≠ 8) (hx : sg = true → b = 127 → l.length ≠ 4) :
    fin b l.length sg (val l) < 2 ^ 64 ∧ fin b l.length sg (val l) / 2 ^ (8 * (if b = 127 then 4 else 8)) = 0 ∧ ∀ i, i < (if b = 127 then 4 else 8) → ext l sg i = ((fin b l.length sg (val l) / 2 ^ (8 * i) % 256 : Nat) : Int) := by
  have hv := val_lt hl
  have e := le_val hl
  have hat : ∀ i, i < l.length → l.getD i 0 = ((val l / 2 ^ (8 * i) % 256 : Nat) : Int) := fun i hi => by
    have := le_at (val l) l.length i hi
    rw [e] at this
    exact this
  unfold ext
  have hlast := hat (l.length - 1) (by omega)
  rw [hlast]
  clear hlast e hl
  generalize hn : l.length = n at *
  generalize val l = v at *
  have hcase : ∀ i, (i < n → l.getD i 0 = ((v / 2 ^ (8 * i) % 256 : Nat) : Int)) := hat
  clear hat
  unfold fin sx
  rcases hb with rfl | rfl
  · simp only [if_true]
    have := hw rfl
    refine ⟨by omega, ?_, fun i hi => ?_⟩
    · exact Nat.div_eq_of_lt (Nat.lt_of_lt_of_le (Nat.mod_lt _ (by decide)) (by decide))
    · have hc := hcase i
      have hi' : i = 0 ∨ i = 1 ∨ i = 2 ∨ i = 3 := by omega
      cases sg with
      | false =>
        simp only [Bool.false_eq_true, if_false]
        rcases hs with rfl | rfl | rfl | rfl
        all_goals first | omega | (rcases hi' with rfl | rfl | rfl | rfl <;> (first | (rw [if_pos (by omega), hc (by omega)]; omega) | (rw [if_neg (by omega)]; omega)))
      | true =>
        have := hx rfl rfl
        simp only [if_true]
        rcases hs with rfl | rfl | rfl | rfl
        all_goals first | omega | (rcases hi' with rfl | rfl | rfl | rfl <;> (first | (rw [if_pos (by omega), hc (by omega)]; split <;> omega) | (rw [if_neg (by omega)]; split <;> split <;> omega)))
  · simp only [show ¬ ((126 : Int) = 127) from by decide, if_false]
    have h64 : v < 2 ^ 64 := Nat.lt_of_lt_of_le hv (pow_le (by omega))
    cases sg with
    | false =>
      simp only [Bool.false_eq_true, if_false]
      refine ⟨h64, Nat.div_eq_of_lt h64, fun i hi => ?_⟩
      have hc := hcase i
      have hi' : i = 0 ∨ i = 1 ∨ i = 2 ∨ i = 3 ∨ i = 4 ∨ i = 5 ∨ i = 6 ∨ i = 7 := by omega
      rcases hs with rfl | rfl | rfl | rfl
      all_goals (rcases hi' with rfl | rfl | rfl | rfl | rfl | rfl | rfl | rfl <;> (first | (rw [if_pos (by omega), hc (by omega)]; done) | (rw [if_neg (by omega)]; omega)))
    | true =>
      have := hg rfl
      simp only [if_true]
      have hlt : (if v < 2 ^ (8 * n - 1) then v else v + 2 ^ 64 - 2 ^ (8 * n)) < 2 ^ 64 := by
        split
        · exact h64
        · have := pow_pos (8 * n); omega
      refine ⟨hlt, Nat.div_eq_of_lt hlt, fun i hi => ?_⟩
      have hc := hcase i
      have hi' : i = 0 ∨ i = 1 ∨ i = 2 ∨ i = 3 ∨ i = 4 ∨ i = 5 ∨ i = 6 ∨ i = 7 := by omega
      rcases hs with rfl | rfl | rfl | rfl
      all_goals first | omega | (rcases hi' with rfl | rfl | rfl | rfl | rfl | rfl | rfl | rfl <;> (first | (rw [if_pos (by omega), hc (by omega)]; split <;> omega) | (rw [if_neg (by omega)]; split <;> split <;> omega)))
theorem acc_wide {a : Int} (h : One a) : ((acc a).1 = 127 → (acc a).2.1 ≠ 8) ∧ ((acc a).2.2.1 = true → (acc a).1 = 127 → (acc a).2.1 ≠ 4) := by
  rcases h with rfl | rfl | rfl | rfl | rfl | rfl | rfl | rfl | rfl | rfl | rfl | rfl | rfl | rfl | rfl | rfl | rfl | rfl | rfl <;> decide
theorem rload_ev (a : Int) (l : List Int) (hl : Bytes l) : Ev (fun k => trammelref04_Load.f k a l) (lod a l) := by
  unfold trammelref04_Load.f
  refine Ev.bind (of_ev a) ?_
  have none_ : ∀ p q r b1 b2, Ev (fun k => trammelref04_Load.j0 k l true p q r b1 b2) ((0, false) : Int × Bool) := fun p q r b1 b2 =>
    Ev.step (f := fun _ => some ((0, false) : Int × Bool)) (fun k => by simp only [trammelref04_Load.j0]; rw [if_pos trivial]) (Ev.now _)
  unfold ofs lod
  by_cases h : One a
  · have h1 := acc_one h
    have h2 := acc_wide h
    generalize acc a = q at *
    obtain ⟨b, s, sg, st, ok⟩ := q
    simp only at h1 h2 ⊢
    obtain ⟨rfl, hb, hs, hg⟩ := h1
    simp only [if_true]
    cases st with
    | true =>
      simp only [if_true, Bool.true_eq_false, false_and, and_false, if_false]
      exact none_ _ _ _ _ _
    | false =>
      simp only [Bool.false_eq_true, if_false, true_and]
      by_cases hlen : (l.length : Int) = s
      · rw [if_pos hlen, bne_eq_false_iff_eq.2 hlen.symm]
        subst hlen
        rw [nat_int_toNat]
        have hf := ext_fin l hl b hb sg (by omega) (fun h => by have := hg h; omega) (fun h => by have := h2.1 h; omega) (fun h h' => by have := h2.2 h h'; omega)
        have hloop := rload_loop l hl (by omega) (by omega) sg false a (if b = 127 then 32 else 64) (l.length : Int) (fin b l.length sg (val l)) (if b = 127 then 4 else 8) (by split <;> omega) hf.1 hf.2.2 (if b = 127 then 4 else 8) (Nat.le_refl _)
        rw [hf.2.1] at hloop
        refine Ev.step (fun k => ?_) hloop
        simp only [trammelref04_Load.j0]
        have e9 : wrap64 (wrap64 ((if b = 127 then (32 : Int) else 64).tdiv 8) - 1) = ((if b = 127 then 4 else 8 : Nat) : Int) - 1 := by rcases hb with rfl | rfl <;> decide +kernel
        rw [if_neg (by simp), e9]
        rfl
      · rw [if_neg hlen, bne_iff_ne.2 (fun h => hlen h.symm)]
        exact none_ _ _ _ _ _
  · rw [acc_none h]
    simp only [Bool.false_eq_true, if_false, false_and]
    exact none_ _ _ _ _ _
end Go.Proofs.Ytelbmologkepeaa.SPackAll
