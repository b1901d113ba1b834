/-
  TypBack, of numbers and bytes alone: the law answers true.
-/
import Derived.Test.YthmiladfdndciaaSTypBack
import Derived.Test.YthmiladfdndciaaVr
namespace Go.Proofs.Ythmiladfdndciaa.YTypBack
set_option linter.all false
open Go.Proofs.Ythmiladfdndciaa.Vx Go.Proofs.Ythmiladfdndciaa.XTypBack Go.Proofs.Ythmiladfdndciaa.Vd Go.Proofs.Ythmiladfdndciaa.Vn Go.Proofs.Ythmiladfdndciaa.Vl Go.Proofs.Ythmiladfdndciaa.Vp Go.Proofs.Ythmiladfdndciaa.Vb Go.Proofs.Ythmiladfdndciaa.STypBack Go.Proofs.Ythmiladfdndciaa.Vr
theorem bytes_of : ∀ {l : List D}, (∀ x ∈ l, ∃ ds, x = mkD ds ∧ CT.wfL [.i .u8] ds) → ∃ m, l = dl m ∧ Bytes m
  | [], _ => ⟨[], rfl, fun x hx => by cases hx⟩
  | x :: l, h => by
    obtain ⟨m, rfl, hm⟩ := bytes_of fun y hy => h y (List.mem_cons_of_mem _ hy)
    obtain ⟨ds, rfl, hd⟩ := h x List.mem_cons_self
    simp only [CT.wfL, CT.wf] at hd
    obtain ⟨d, r, rfl, ⟨n, rfl, hn⟩, rfl⟩ := hd
    refine ⟨n :: m, rfl, fun y hy => ?_⟩
    rcases List.mem_cons.1 hy with rfl | hy
    · simp [Lit.wf, IntKind.bits, IntKind.signed, IntKind.min, IntKind.max] at hn; omega
    · exact hm y hy
theorem ints_of {k : IntKind} : ∀ {l : List D}, (∀ x ∈ l, ∃ ds, x = mkD ds ∧ CT.wfL [.i k] ds) → ∃ m, l = dl m
  | [], _ => ⟨[], rfl⟩
  | x :: l, h => by
    obtain ⟨m, rfl⟩ := ints_of fun y hy => h y (List.mem_cons_of_mem _ hy)
    obtain ⟨ds, rfl, hd⟩ := h x List.mem_cons_self
    simp only [CT.wfL, CT.wf] at hd
    obtain ⟨d, r, rfl, ⟨n, rfl, hn⟩, rfl⟩ := hd
    exact ⟨n :: m, rfl⟩
theorem funcBytes_len {p r : List Int} (h : okFn p r = true) : (funcBytes p r).length ≤ 40 ∧ Bytes (funcBytes p r) := by
  unfold okFn at h
  simp only [Bool.and_eq_true, decide_eq_true_eq] at h
  obtain ⟨⟨g1, l1⟩, g2, l2⟩ := h
  have u1 := uBytes_ten (n := p.length) (by omega)
  have u2 := uBytes_ten (n := r.length) (by omega)
  have gb : ∀ q : List Int, goodB q = true → Bytes q := fun q hq x hx => by
    have := List.all_eq_true.1 hq x hx
    simp only [Bool.or_eq_true, beq_iff_eq] at this
    omega
  refine ⟨by simp [funcBytes]; omega, ?_⟩
  have hu1 := uBytes_bytes (n := p.length) (by omega)
  have hu2 := uBytes_bytes (n := r.length) (by omega)
  unfold funcBytes
  exact fun x hx => by
    rcases List.mem_cons.1 hx with rfl | hx
    · omega
    · exact ((hu1.append (gb p g1)).append (hu2.append (gb r g2))) x hx
theorem limBytes_len {mn mx : Int} {c : Bool} (h : okLm mn mx c = true) : (limBytes mn mx c).length ≤ 40 ∧ Bytes (limBytes mn mx c) := by
  unfold okLm at h
  simp only [Bool.and_eq_true] at h
  obtain ⟨n, rfl, hn⟩ := right_iff.1 h.1.1
  obtain ⟨m, rfl, hm⟩ := right_iff.1 h.1.2
  have u1 := uBytes_ten (n := n) (by omega)
  have u2 := uBytes_ten (n := m) (by omega)
  have b1 := uBytes_bytes (n := n) (by omega)
  have b2 := uBytes_bytes (n := m) (by omega)
  unfold limBytes
  cases c
  · refine ⟨by simp; omega, fun x hx => ?_⟩
    simp only [Bool.false_eq_true, if_false, Int.toNat_natCast] at hx
    rcases List.mem_cons.1 hx with rfl | hx
    · omega
    · exact b1 x hx
  · refine ⟨by simp; omega, fun x hx => ?_⟩
    simp only [if_true, Int.toNat_natCast] at hx
    rcases List.mem_cons.1 hx with rfl | hx
    · omega
    · exact (b1.append b2) x hx
theorem q_awake : F7 [] [] [] = some ([], [true], []) := by kernel_rfl
theorem law (mn mx k : Int) (c : Bool) (l0 l1 l2 : List D) (h0 : CT.wf (.sl [.i .i64]) (.l l0)) (h1 : CT.wf (.sl [.i .i64]) (.l l1)) (hmn : (Lit.int .i64 mn).wf = true) (hmx : (Lit.int .i64 mx).wf = true) (hk : (Lit.int .i64 k).wf = true) (h2 : CT.wf (.sl [.i .u8]) (.l l2)) :
    F6 [mn, mx, k] [c] [l0, l1, l2] = some ([], [true], []) := by
  simp only [CT.wf] at h0 h1 h2
  obtain ⟨_, hxs, ⟨_, z0⟩, hds⟩ := h0
  cases hxs
  obtain ⟨p, rfl⟩ := ints_of hds
  obtain ⟨_, hxs, ⟨_, z1⟩, hds⟩ := h1
  cases hxs
  obtain ⟨r, rfl⟩ := ints_of hds
  obtain ⟨_, hxs, _, hds⟩ := h2
  cases hxs
  obtain ⟨m0, rfl, hm0⟩ := bytes_of hds
  have z0 : p.length ≤ 17592186043904 := by rw [dl_len] at z0; simp [wgtL, CT.wgt, IntKind.bits, reachBytes] at z0; omega
  have z1 : r.length ≤ 17592186043904 := by rw [dl_len] at z1; simp [wgtL, CT.wgt, IntKind.bits, reachBytes] at z1; omega
  refine of_ret ?_
  unfold t6
  refine d_callx [] [] [] ([], [true], []) e6_7 rfl rfl rfl q_awake rfl (d_itF rfl ?_)
  have emin : ∀ q : List Int, (if (300 : Int) < (((dl q).length : Nat) : Int) then (300 : Int) else (((dl q).length : Nat) : Int)) = ((min q.length 300 : Nat) : Int) := fun q => by rw [dl_len]; split <;> omega
  have ecut : ∀ q : List Int, ((dl q).take ((min q.length 300 : Nat) : Int).toNat).drop (0 : Int).toNat = dl (q.take 300) := fun q => by
    simp [dl, List.map_take]
    omega
  refine d_rq (by simp only [E.B, E.I, cmB, List.append_nil, List.cons_append, List.nil_append, List.getD_cons_zero, List.getD_cons_succ, emin, dl_len, Bool.and_eq_true, decide_eq_true_eq]; omega) ?_
  refine d_lst [dl (m0.take 300)] (congrArg (fun y => [y]) (by rw [← ecut, ← emin]; rfl)) ?_
  generalize hp : m0.take 300 = m
  have hmb : Bytes m := hp ▸ hm0.take 300
  have hml : m.length ≤ 300 := by rw [← hp, List.length_take]; omega
  clear hp
  have cap : ∀ b : List Int, b.length ≤ 40 → (decide ((((dl b).length : Nat) : Int) ≤ 17592186044416) && decide ((((dl m).length : Nat) : Int) ≤ 17592186044416)) = true := fun b hb => by rw [dl_len, dl_len]; simp; omega
  -- the function's type
  have hF := q_putFunc [] p r (by simp) z0 z1
  obtain ⟨e1, B1, hF, hok1⟩ : ∃ (e : Int) (B : List D), F18 [] [] [[], dl p, dl r] = some ([e], [], [B]) ∧ ((okFn p r = true ∧ e = 0 ∧ B = dl (funcBytes p r)) ∨ e = 2) := by
    by_cases hok : okFn p r = true
    · rw [if_pos hok] at hF; exact ⟨_, _, hF, .inl ⟨hok, rfl, rfl⟩⟩
    · rw [if_neg hok] at hF; exact ⟨_, _, hF, .inr rfl⟩
  refine d_callx [] [] [[], dl p, dl r] ([e1], [], [B1]) e6_18 rfl rfl rfl hF rfl ?_
  refine d_jn 0 ([], [false], []) ?_ rfl (d_rq rfl ?_)
  · rcases hok1 with ⟨hok, rfl, rfl⟩ | rfl
    · obtain ⟨fl, fb⟩ := funcBytes_len hok
      have hback := funcP_back (m := m) hok
      have hfu := q_func (l := funcBytes p r ++ m) (fb.append hmb) (by rw [List.length_append]; omega)
      rw [hback] at hfu
      refine d_itT rfl (d_rq (by have := cap (funcBytes p r) fl; exact this) (d_lst [dl (funcBytes p r ++ m)] (by rw [dl_app]; rfl) ?_))
      refine d_callx [] [] [dl (funcBytes p r ++ m)] _ e6_8 rfl rfl rfl (by exact hfu) rfl ?_
      refine d_lb false ?_ (d_itT rfl ?_)
      · show (((0 : Int) != 0) || (((funcBytes p r).length : Int) != (((dl (funcBytes p r)).length : Nat) : Int))) = false
        rw [dl_len]; simp
      refine d_callx [] [] [dl p, dl r, dl p, dl r] ([], [true], []) e6_10 rfl rfl rfl (q_same _ _ (by rw [dl_len]; omega) (by rw [dl_len]; omega)) rfl ?_
      exact d_itF rfl rfl
    · exact d_itF rfl rfl
  have hL := q_putLimits [] mn mx c (by simp)
  obtain ⟨e2, B2, hL, hok2⟩ : ∃ (e : Int) (B : List D), F22 [mn, mx] [c] [[]] = some ([e], [], [B]) ∧ ((okLm mn mx c = true ∧ e = 0 ∧ B = dl (limBytes mn mx c)) ∨ e = 2) := by
    by_cases hok : okLm mn mx c = true
    · rw [if_pos hok] at hL; exact ⟨_, _, hL, .inl ⟨hok, rfl, rfl⟩⟩
    · rw [if_neg hok] at hL; exact ⟨_, _, hL, .inr rfl⟩
  refine d_callx [mn, mx] [c] [[]] ([e2], [], [B2]) e6_22 rfl rfl rfl hL rfl ?_
  refine d_jn 0 ([], [false], []) ?_ rfl (d_rq rfl ?_)
  · rcases hok2 with ⟨hok, rfl, rfl⟩ | rfl
    · obtain ⟨fl, fb⟩ := limBytes_len hok
      have hback := limP_back (q := m) hok
      have hfu := q_limits (l := limBytes mn mx c ++ m) (fb.append hmb) (by rw [List.length_append]; omega)
      unfold limO at hfu
      rw [hback] at hfu
      refine d_itT rfl (d_rq (by have := cap (limBytes mn mx c) fl; exact this) (d_lst [dl (limBytes mn mx c ++ m)] (by rw [dl_app]; rfl) ?_))
      refine d_callx [] [] [dl (limBytes mn mx c ++ m)] _ e6_12 rfl rfl rfl (by exact hfu) rfl ?_
      refine d_lb false ?_ (d_lb false ?_ (d_itF rfl rfl))
      · show (((0 : Int) != 0) || (((limBytes mn mx c).length : Int) != (((dl (limBytes mn mx c)).length : Nat) : Int))) = false
        rw [dl_len]; simp
      · show (!((mn == mn) && ((c == c) && (mx == mx)))) = false
        simp
    · exact d_itF rfl rfl
  have hB := q_putBlock [] k (by simp)
  obtain ⟨e3, B3, hB, hok3⟩ : ∃ (e : Int) (B : List D), F25 [k] [] [[]] = some ([e], [], [B]) ∧ ((okBk k = true ∧ e = 0 ∧ B = dl (sBytes k)) ∨ e = 2) := by
    by_cases hok : okBk k = true
    · rw [if_pos hok] at hB; exact ⟨_, _, hB, .inl ⟨hok, rfl, rfl⟩⟩
    · rw [if_neg hok] at hB; exact ⟨_, _, hB, .inr rfl⟩
  refine d_callx [k] [] [[]] ([e3], [], [B3]) e6_25 rfl rfl rfl hB rfl ?_
  refine d_jn 0 ([], [false], []) ?_ rfl (d_rq rfl rfl)
  rcases hok3 with ⟨hok, rfl, rfl⟩ | rfl
  · have fb := sBytes_bytes k
    have fl : (sBytes k).length ≤ 40 := Nat.le_trans (sB_le 9 k) (by decide)
    have hback := blockP_back (q := m) hok
    have hfu := q_block (l := sBytes k ++ m) (fb.append hmb) (by rw [List.length_append]; omega)
    unfold blockO at hfu
    rw [hback] at hfu
    refine d_itT rfl (d_rq (by have := cap (sBytes k) fl; exact this) (d_lst [dl (sBytes k ++ m)] (by rw [dl_app]; rfl) ?_))
    refine d_callx [] [] [dl (sBytes k ++ m)] _ e6_14 rfl rfl rfl (by exact hfu) rfl ?_
    refine d_lb false ?_ (d_itF ?_ rfl)
    · show (((0 : Int) != 0) || (((sBytes k).length : Int) != (((dl (sBytes k)).length : Nat) : Int))) = false
      rw [dl_len]; simp
    · show (false || (k != k)) = false
      simp
  · exact d_itF rfl rfl
end Go.Proofs.Ythmiladfdndciaa.YTypBack
