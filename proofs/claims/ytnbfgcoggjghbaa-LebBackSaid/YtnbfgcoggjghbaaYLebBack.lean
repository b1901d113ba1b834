/-
  LebBack, of numbers alone: the law answers true.
-/
import Derived.Test.YtnbfgcoggjghbaaSLebBack
import Derived.Test.YtnbfgcoggjghbaaVr
namespace Go.Proofs.Ytnbfgcoggjghbaa.YLebBack
set_option linter.all false
open Go.Proofs.Ytnbfgcoggjghbaa.Vx Go.Proofs.Ytnbfgcoggjghbaa.XLebBack Go.Proofs.Ytnbfgcoggjghbaa.Vd Go.Proofs.Ytnbfgcoggjghbaa.Vn Go.Proofs.Ytnbfgcoggjghbaa.Vl Go.Proofs.Ytnbfgcoggjghbaa.SLebBack Go.Proofs.Ytnbfgcoggjghbaa.Vr
theorem bytes_of : ∀ {l : List D}, (∀ x ∈ l, ∃ ds, x = mkD ds ∧ CT.wfL [.i .u8] ds) → ∃ m, l = dl m ∧ Bytes m
  | [], _ => ⟨[], rfl, fun x hx => by cases hx⟩
  | x :: l, h => by
    obtain ⟨m, rfl, hm⟩ := bytes_of fun y hy => h y (List.mem_cons_of_mem _ hy)
    obtain ⟨ds, rfl, hd⟩ := h x List.mem_cons_self
    simp only [CT.wfL, CT.wf] at hd
    obtain ⟨d, r, rfl, ⟨n, rfl, hn⟩, rfl⟩ := hd
    refine ⟨n :: m, rfl, fun y hy => ?_⟩
    rcases List.mem_cons.1 hy with rfl | hy
    · simp [Lit.wf, IntKind.bits, IntKind.signed, IntKind.min, IntKind.max] at hn; omega
    · exact hm y hy
theorem wrap_range (n : Int) : -9223372036854775808 ≤ IntKind.i64.wrap n ∧ IntKind.i64.wrap n < 9223372036854775808 := by
  simp only [IntKind.wrap, IntKind.bits, IntKind.signed, Nat.reducePow, Nat.reduceSub, Int.reducePow, Bool.true_and, decide_eq_true_eq, ge_iff_le]
  split <;> omega
theorem fits {z : Int} {bits : Nat} (h0 : 1 ≤ bits) (h1 : bits ≤ 64) (h : arI .shr .i64 (arI .shl .i64 z ((64 - bits : Nat) : Int)) ((64 - bits : Nat) : Int) = z) :
    -((2 ^ (bits - 1) : Nat) : Int) ≤ z ∧ z < ((2 ^ (bits - 1) : Nat) : Int) := by
  have hw := wrap_range (z * 2 ^ (min (Int.toNat ((64 - bits : Nat) : Int)) 64))
  have e : (IntKind.i64.wrap (z * 2 ^ (min (Int.toNat ((64 - bits : Nat) : Int)) 64))).fdiv (2 ^ (min (Int.toNat ((64 - bits : Nat) : Int)) 64)) = z := h
  generalize IntKind.i64.wrap (z * 2 ^ (min (Int.toNat ((64 - bits : Nat) : Int)) 64)) = w at *
  rw [show min (Int.toNat ((64 - bits : Nat) : Int)) 64 = 64 - bits by omega, Int.fdiv_eq_ediv_of_nonneg _ (Int.pow_nonneg (by decide))] at e
  have hp : (2 : Int) ^ (bits - 1) * 2 ^ (64 - bits) = 9223372036854775808 := by
    rw [← Int.pow_add, show bits - 1 + (64 - bits) = 63 by omega]; rfl
  have hq : (0 : Int) < 2 ^ (64 - bits) := pow_int_pos _
  have ec : ((2 ^ (bits - 1) : Nat) : Int) = (2 : Int) ^ (bits - 1) := by simp
  rw [ec, ← e]
  constructor
  · exact Int.le_ediv_of_mul_le hq (by rw [Int.neg_mul, hp]; exact hw.1)
  · exact Int.ediv_lt_of_lt_mul hq (by rw [hp]; exact hw.2)
theorem sv_back {n : Int} (h0 : -9223372036854775808 ≤ n) (h1 : n ≤ 9223372036854775807) (m : List Int) : sv (sBytes n ++ m) (ends (sBytes n ++ m)) = n := by
  have h2 := sB_ends 9 n m
  have h3 := sB_vl 9 n m
  have h4 := sB_pos 9 n
  have h5 := (sBytes_len h0 h1 ((sBytes n).length - 1)).1 (by unfold sBytes; omega)
  unfold sBytes at h5 ⊢
  rw [h2]
  generalize hL : (sB 9 n).length = L at *
  obtain ⟨t, rfl⟩ : ∃ t, L = t + 1 := ⟨L - 1, by omega⟩
  rw [show t + 1 - 1 = t by omega] at h5 ⊢
  unfold sv
  have hpp : 2 ^ (7 * t + 7) = 2 * 2 ^ (7 * t + 6) := by rw [show 7 * t + 7 = (7 * t + 6) + 1 by omega, Nat.pow_succ]; omega
  rw [show (128 : Nat) = 2 ^ 7 from rfl, ← Nat.pow_mul, show 7 * (t + 1) = 7 * t + 7 by omega] at h3
  generalize vl (sB 9 n ++ m) (t + 1) = V at h3 ⊢
  have hp := pow_pos (7 * t + 6)
  generalize 2 ^ (7 * t + 7) = Q at hpp h3 ⊢
  generalize 2 ^ (7 * t + 6) = P at hpp h5 hp ⊢
  rcases Int.lt_or_le n 0 with hn | hn
  · have : n % (Q : Int) = n + Q := by
      rw [← Int.add_emod_right, Int.emod_eq_of_lt (by omega) (by omega)]
    rw [this] at h3
    rw [if_pos (by omega)]
    omega
  · rw [Int.emod_eq_of_lt hn (by omega)] at h3
    rw [if_neg (by omega)]
    omega
/-- The second half: a signed number is put and read. -/
theorem S_back {z : Int} (z0 : -9223372036854775808 ≤ z) (z1 : z ≤ 9223372036854775807) {m : List Int} (hm : Bytes m) (hml : m.length ≤ 1000) {bits : Nat} (h0 : 1 ≤ bits) (h1 : bits ≤ 64)
    (hr : -((2 ^ (bits - 1) : Nat) : Int) ≤ z ∧ z < ((2 ^ (bits - 1) : Nat) : Int)) : F12 [(bits : Int)] [] [dl (sBytes z ++ m)] = some ([z, (((sBytes z).length : Nat) : Int), 0], [], []) := by
  have h3 := sB_ends 9 z m
  have h4 := sB_pos 9 z
  have h2 := sv_back z0 z1 m
  have hp : 2 ^ (bits - 1) ≤ 2 ^ (7 * (mst bits - 1) + 6) := pow_le (by unfold mst; omega)
  have hmm : 1 ≤ mst bits := by unfold mst; omega
  have h5 := (sBytes_len z0 z1 (mst bits - 1)).2 (by omega)
  have h9 := sB_le 9 z
  unfold sBytes at *
  have h := q12 (l := sB 9 z ++ m) ((sB_bytes 9 z).append hm) h0 h1 (by rw [h3, List.length_append]; omega) (by rw [h3]; omega) (by rw [List.length_append]; omega) (by rw [h2]; exact hr)
  rw [h2, h3, Nat.sub_add_cancel h4] at h
  exact h
theorem U_back {n : Nat} (hn : n < 2 ^ 64) {m : List Int} (hm : Bytes m) (hml : m.length ≤ 1000) {bits : Nat} (h0 : 1 ≤ bits) (h1 : bits ≤ 64) (hb : n < 2 ^ bits) :
    F10 [(bits : Int)] [] [dl (uBytes n ++ m)] = some ([(n : Int), (((uBytes n).length : Nat) : Int), 0], [], []) := by
  have h3 := uB_ends 9 n m (uBytes_small hn)
  have h2 := uB_vl 9 n m (uBytes_small hn)
  have hp := uB_pos 9 n
  have h4 : (uBytes n).length ≤ mst bits := (uBytes_len hn (by unfold mst; omega)).2 (Nat.lt_of_lt_of_le hb (pow_le (by unfold mst; omega)))
  have h9 := uB_le 9 n
  unfold uBytes at *
  have h := q10 (l := uB 9 n ++ m) ((uB_bytes 9 n (uBytes_small hn)).append hm) h0 h1 (by rw [h3, List.length_append]; omega) (by rw [h3]; omega) (by rw [List.length_append]; omega) (by rw [h3, Nat.sub_add_cancel hp, h2]; exact hb)
  rw [h3, Nat.sub_add_cancel hp, h2] at h
  exact h
theorem law (x z b : Int) (l : List D) (hx : (Lit.int .u64 x).wf = true) (hz : (Lit.int .i64 z).wf = true) (hb : (Lit.int .i64 b).wf = true) (hl : CT.wf (.sl [.i .u8]) (.l l)) : F6 [x, z, b] [] [l] = some ([], [true], []) := by
  obtain ⟨x0, x1⟩ := wf_u64 hx
  obtain ⟨z0, z1⟩ := wf_i64 hz
  obtain ⟨b0, b1⟩ := wf_i64 hb
  obtain ⟨n, rfl⟩ := Int.eq_ofNat_of_zero_le x0
  simp only [CT.wf] at hl
  obtain ⟨xs, hxs, hlen, hds⟩ := hl
  cases hxs
  obtain ⟨m0, rfl, hm0⟩ := bytes_of hds
  refine of_ret ?_
  unfold t6
  refine d_callx [] [] [] ([], [true], []) e6_9 rfl rfl rfl q9 rfl ?_
  refine d_ite (fun h => by cases h) fun _ => ?_
  have emin : (if (1000 : Int) < (((dl m0).length : Nat) : Int) then (1000 : Int) else (((dl m0).length : Nat) : Int)) = ((min m0.length 1000 : Nat) : Int) := by rw [dl_len]; split <;> omega
  refine d_rq (by simp only [E.B, E.I, cmB, List.append_nil, List.getD_cons_zero, emin, dl_len, Bool.and_eq_true, decide_eq_true_eq]; omega) ?_
  have ecut : (Vx.LE.cut (.v 0) (.n 0) (.mn (.ln 0) (.n 1000))).L ([(n : Int), z, b] ++ []) ([] ++ [true]) ([dl m0] ++ []) = dl (m0.take 1000) := by
    simp only [Vx.LE.L, E.I, List.append_nil, List.getD_cons_zero, emin]
    simp [dl, List.map_take]
    omega
  show T.den _ _ _ _ ([dl m0] ++ [] ++ [_]) = _
  rw [ecut]
  generalize hm : m0.take 1000 = m
  have hmb : Bytes m := hm ▸ hm0.take 1000
  have hml : m.length ≤ 1000 := by rw [← hm, List.length_take]; omega
  show T.den _ _ _ ([true] ++ [_]) _ = _
  by_cases hbits : b < 1 ∨ 64 < b
  · have e : (E.oo (.cm .lss (.iv 2) (.n 1)) (.cm .gtr (.iv 2) (.n 64))).B ([(n : Int), z, b] ++ []) ([] ++ [true]) ([dl m0] ++ [] ++ [dl m]) = true := by
      simp only [E.B, E.I, cmB, List.append_nil, List.getD_cons_zero, List.getD_cons_succ, Bool.or_eq_true, decide_eq_true_eq, gt_iff_lt]; exact hbits
    rw [e]
    exact d_ite (fun _ => rfl) fun h => by cases h
  obtain ⟨bits, rfl⟩ := Int.eq_ofNat_of_zero_le (show 0 ≤ b by omega)
  have h0 : 1 ≤ bits := by omega
  have h1 : bits ≤ 64 := by omega
  have e : (E.oo (.cm .lss (.iv 2) (.n 1)) (.cm .gtr (.iv 2) (.n 64))).B ([(n : Int), z, (bits : Int)] ++ []) ([] ++ [true]) ([dl m0] ++ [] ++ [dl m]) = false := by
    simp only [E.B, E.I, cmB, List.append_nil, List.getD_cons_zero, List.getD_cons_succ, Bool.or_eq_false_iff, decide_eq_false_iff_not, gt_iff_lt]; omega
  rw [e]
  refine d_ite (fun h => by cases h) fun _ => ?_
  have ew : IntKind.u64.wrap (bits : Int) = bits := wu (by omega) (by omega)
  have esub : arI .sub .i64 64 (bits : Int) = ((64 - bits : Nat) : Int) := by show IntKind.i64.wrap (64 - (bits : Int)) = _; rw [wi (by omega) (by omega)]; omega
  have ewq : IntKind.u64.wrap ((64 - bits : Nat) : Int) = ((64 - bits : Nat) : Int) := wu (by omega) (by omega)
  have hq0 : (0 : Int) ≤ ((64 - bits : Nat) : Int) := by omega
  have hb0 : (0 : Int) ≤ (bits : Int) := by omega
  have s_len : ∀ y : Int, (dl (sBytes y)).length ≤ 10 := fun y => by rw [dl_len]; exact sB_le 9 y
  have u_len : ∀ y : Nat, (dl (uBytes y)).length ≤ 10 := fun y => by rw [dl_len]; exact uB_le 9 y
  refine d_rq (by simp only [E.B, E.I, cmB, List.append_nil, List.nil_append, List.cons_append, List.getD_cons_zero, List.getD_cons_succ, ew, ge_iff_le, hb0, decide_true, Bool.or_true]) ?_
  show T.den _ _ _ ([true, false] ++ [_]) _ = _
  refine d_ite (fun hBt => ?_) fun _ => ?_
  · have hB : (E.oo (.cm .eql (.iv 2) (.n 64)) (.cm .eql (.ar .shr .u64 (.iv 0) (.cv .u64 (.iv 2))) (.n 0))).B [(n : Int), z, (bits : Int)] [true, false] [dl m0, dl m] = true := hBt
    have hnb : n < 2 ^ bits := by
      simp only [E.B, E.I, cmB, List.append_nil, List.nil_append, List.cons_append, List.getD_cons_zero, List.getD_cons_succ, ew, Bool.or_eq_true, beq_iff_eq] at hB
      rcases hB with h | h
      · obtain rfl : bits = 64 := by omega
        omega
      · rw [arShr _ _ (by omega) (by omega), Int.toNat_natCast, ediv_zero_iff (by omega) (pow_int_pos _)] at h
        have ec : ((2 ^ bits : Nat) : Int) = (2 : Int) ^ bits := by simp
        omega
    refine d_callx [(n : Int)] [] [[]] ([], [], [dl (uBytes n)]) e6_15 rfl rfl rfl (q15 (by omega) [] (by simp)) rfl ?_
    refine d_rq (by simp [E.B, E.I, cmB, dl_len]; have := uB_le 9 n; unfold uBytes; omega) ?_
    show T.den _ _ _ _ (_ ++ [dl (uBytes n) ++ dl m]) = _
    rw [← dl_app]
    refine d_callx [(bits : Int)] [] [dl (uBytes n ++ m)] _ e6_10 rfl rfl rfl (U_back (by omega) hmb hml h0 h1 hnb) rfl ?_
    show T.den _ _ _ (_ ++ [_]) _ = _
    refine d_ite (fun h => ?_) fun _ => ?_
    · simp [E.B, E.I, cmB, dl_len] at h
    refine d_rq (by simp [E.B, E.I, cmB, esub, ewq]) ?_
    show T.den _ _ (_ ++ [arI .shr .i64 (arI .shl .i64 z (IntKind.u64.wrap (arI .sub .i64 64 (bits : Int)))) (IntKind.u64.wrap (arI .sub .i64 64 (bits : Int)))]) _ _ = _
    rw [esub, ewq]
    refine d_ite (fun h => ?_) fun _ => rfl
    have hr := fits h0 h1 (beq_iff_eq.1 (show (arI .shr .i64 (arI .shl .i64 z ((64 - bits : Nat) : Int)) ((64 - bits : Nat) : Int) == z) = true from h))
    refine d_callx [z] [] [[]] ([], [], [dl (sBytes z)]) e6_16 rfl rfl rfl (q16 z0 z1 [] (by simp)) rfl ?_
    refine d_rq (by simp [E.B, E.I, cmB, dl_len]; have := sB_le 9 z; unfold sBytes; omega) ?_
    show T.den _ _ _ _ (_ ++ [dl (sBytes z) ++ dl m]) = _
    rw [← dl_app]
    refine d_callx [(bits : Int)] [] [dl (sBytes z ++ m)] _ e6_12 rfl rfl rfl (S_back z0 z1 hmb hml h0 h1 hr) rfl ?_
    show T.den _ _ _ (_ ++ [_]) _ = _
    refine d_ite (fun h => ?_) fun _ => rfl
    simp [E.B, E.I, cmB, dl_len] at h
  · refine d_rq (by simp [E.B, E.I, cmB, esub, ewq]) ?_
    show T.den _ _ (_ ++ [arI .shr .i64 (arI .shl .i64 z (IntKind.u64.wrap (arI .sub .i64 64 (bits : Int)))) (IntKind.u64.wrap (arI .sub .i64 64 (bits : Int)))]) _ _ = _
    rw [esub, ewq]
    refine d_ite (fun h => ?_) fun _ => rfl
    have hr := fits h0 h1 (beq_iff_eq.1 (show (arI .shr .i64 (arI .shl .i64 z ((64 - bits : Nat) : Int)) ((64 - bits : Nat) : Int) == z) = true from h))
    refine d_callx [z] [] [[]] ([], [], [dl (sBytes z)]) e6_16 rfl rfl rfl (q16 z0 z1 [] (by simp)) rfl ?_
    refine d_rq (by simp [E.B, E.I, cmB, dl_len]; have := sB_le 9 z; unfold sBytes; omega) ?_
    show T.den _ _ _ _ (_ ++ [dl (sBytes z) ++ dl m]) = _
    rw [← dl_app]
    refine d_callx [(bits : Int)] [] [dl (sBytes z ++ m)] _ e6_12 rfl rfl rfl (S_back z0 z1 hmb hml h0 h1 hr) rfl ?_
    show T.den _ _ _ (_ ++ [_]) _ = _
    refine d_ite (fun h => ?_) fun _ => rfl
    simp [E.B, E.I, cmB, dl_len] at h
end Go.Proofs.Ytnbfgcoggjghbaa.YLebBack
