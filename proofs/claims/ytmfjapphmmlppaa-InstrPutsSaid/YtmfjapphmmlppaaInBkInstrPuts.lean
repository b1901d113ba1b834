/-
  InstrPuts: any instruction, any list of them: formed, closed; read back.
-/
import Derived.Test.YtmfjapphmmlppaaInFmInstrPuts
namespace Go.Proofs.Ytmfjapphmmlppaa.KInstrPuts
set_option linter.all false
open Go.Proofs.Ytmfjapphmmlppaa.Vx Go.Proofs.Ytmfjapphmmlppaa.XInstrPuts Go.Proofs.Ytmfjapphmmlppaa.Vd Go.Proofs.Ytmfjapphmmlppaa.Vn Go.Proofs.Ytmfjapphmmlppaa.Vl Go.Proofs.Ytmfjapphmmlppaa.Vp Go.Proofs.Ytmfjapphmmlppaa.Vb Go.Proofs.Ytmfjapphmmlppaa.SInstrPuts Go.Proofs.Ytmfjapphmmlppaa.Vo Go.Proofs.Ytmfjapphmmlppaa.Vt Go.Proofs.Ytmfjapphmmlppaa.IInstrPuts Go.Proofs.Ytmfjapphmmlppaa.PInstrPuts Go.Proofs.Ytmfjapphmmlppaa.MInstrPuts
def badN (L : List D) (k : Nat) : Bool := decide (((L.getD k (.i 0)).cell 0).int < 0) || decide (((L.getD k (.i 0)).cell 0).int ≥ 4294967296)
theorem q_num {L : List D} (hl : L.length ≤ 1000000) : ∃ b, F36 [] [] [L] = some ([], [b], []) ∧ (b = true → ∀ k, k < L.length → 0 ≤ ((L.getD k (.i 0)).cell 0).int ∧ ((L.getD k (.i 0)).cell 0).int < 4294967296) := by
  by_cases hA : ∀ k, k < L.length → badN L k = false
  · have hn : ∀ k, k < L.length → 0 ≤ ((L.getD k (.i 0)).cell 0).int ∧ ((L.getD k (.i 0)).cell 0).int < 4294967296 := fun k hk => by
      have := hA k hk
      unfold badN at this
      rw [Bool.or_eq_false_iff, decide_eq_false_iff_not, decide_eq_false_iff_not] at this
      omega
    exact ⟨true, q_numT hl hn, fun _ => hn⟩
  · refine ⟨false, of_ret ?_, fun h => by cases h⟩
    unfold t36
    refine d_find (fun i => ([0, (i : Int)], [], [])) L.length (by omega) (badN L) rfl (fun j => (1, ([(j : Int), (j : Int)], [], []))) 2 ([0, (L.length : Int)], [], []) (fun i hi hp => ?_) (fun _ _ => rfl) (fun i hi hp => ⟨?_, rfl⟩) ?_ rfl (fun j hj hp _ => ?_) (fun hp => absurd hp hA)
    · show Vx.T.den _ l36_1 [0, (i : Int)] [] [L] = _
      unfold l36_1
      rw [← up1 i (by omega)]
      exact d_itT (lt_t (show (i : Int) < (L.length : Int) by omega)) (d_rq (ge_t (show (0 : Int) ≤ (i : Int) by omega)) (d_lb false hp (d_itF rfl rfl)))
    · show Vx.T.den _ l36_1 [0, (i : Int)] [] [L] = _
      unfold l36_1
      exact d_itT (lt_t (show (i : Int) < (L.length : Int) by omega)) (d_rq (ge_t (show (0 : Int) ≤ (i : Int) by omega)) (d_lb true hp (d_itT rfl rfl)))
    · unfold l36_1
      exact d_itF (lt_f (show (L.length : Int) ≤ (L.length : Int) by omega)) rfl
    · unfold k36_2
      refine d_itT rfl ?_
      show some (Out.ret ([], [!decide ((j : Int) ≥ 0)], [])) = _
      rw [ge_t (show (0 : Int) ≤ (j : Int) by omega)]; rfl
theorem q_num1 (a : Int) : ∃ b, F36 [] [] [[.i a]] = some ([], [b], []) ∧ (b = true → u32 a) := by
  obtain ⟨b, h1, h2⟩ := q_num (L := [.i a]) (by simp)
  exact ⟨b, h1, fun h => h2 h 0 (by simp)⟩
def bareB (ba bb bk bl : Bool) (a b k : Int) (n : Nat) : Bool := (((ba || (a == 0)) && (bb || (b == 0))) && (bk || (k == 0))) && (bl || ((n : Int) == 0))
theorem q_bare {op a b k : Int} {ba bb bk bl : Bool} {L : List D} : F34 [op, a, b, k] [ba, bb, bk, bl] [L] = some ([], [bareB ba bb bk bl a b k L.length], []) := by
  refine of_ret ?_
  unfold t34
  exact d_lb _ rfl (d_lb _ rfl (d_lb _ rfl rfl))
theorem bare_iff {ba bb bk bl : Bool} {a b k : Int} {n : Nat} (h : bareB ba bb bk bl a b k n = true) : (ba = false → a = 0) ∧ (bb = false → b = 0) ∧ (bk = false → k = 0) ∧ (bl = false → n = 0) := by
  unfold bareB at h
  simp only [Bool.and_eq_true, Bool.or_eq_true, beq_iff_eq] at h
  obtain ⟨⟨⟨h1, h2⟩, h3⟩, h4⟩ := h
  refine ⟨fun e => ?_, fun e => ?_, fun e => ?_, fun e => ?_⟩
  · rw [e] at h1; simpa using h1
  · rw [e] at h2; simpa using h2
  · rw [e] at h3; simpa using h3
  · rw [e] at h4; have : (n : Int) = 0 := by simpa using h4
    omega
theorem nil_of {L : List Int} (h : (dl L).length = 0) : L = [] := List.eq_nil_of_length_eq_zero (by rwa [dl_len] at h)
/-- Formed, of any instruction. -/
theorem q_formed {op a b k : Int} {L : List Int} (hk : -9223372036854775808 ≤ k ∧ k < 9223372036854775808) (hL : L.length ≤ 100000) : ∃ r : Bool, F16 [op, a, b, k] [] [dl L] = some ([], [r], []) ∧ (r = true → ∃ x : Ins, Gd x ∧ op = (x.op : Int) ∧ a = x.a ∧ b = x.b ∧ k = x.k ∧ L = x.L) := by
  have hf := q_formI op
  have hfl : (dl L).length = L.length := dl_len L
  have wrap : ∀ {r : Bool} {P : Prop}, t16.den (Tab.fn a16) [op, a, b, k] [] [dl L] = some (.ret ([], [r], [])) → (r = true → P) → ∃ r : Bool, F16 [op, a, b, k] [] [dl L] = some ([], [r], []) ∧ (r = true → P) := fun {r P} h1 h2 => ⟨r, of_ret h1, h2⟩
  have head : ∀ {o}, (∀ {t : Vx.T}, t16 = .call 33 [.iv 0] [] [] 1 0 0 t → t.den (Tab.fn a16) [op, a, b, k, fmI op] [] [dl L] = o) → t16.den (Tab.fn a16) [op, a, b, k] [] [dl L] = o := fun {o} h => by
    have h := h rfl
    unfold t16
    exact d_callx [op] [] [] ([fmI op], [], []) e16_33 rfl rfl rfl hf rfl h
  by_cases hout : op < 0 ∨ 512 ≤ op
  · have f0 := tot_out hout
    refine wrap (r := false) (head ?_) (fun h => by cases h)
    intro t ht
    cases ht
    rw [f0]
    refine d_itF rfl (d_itF rfl (d_itF rfl ?_))
    unfold b16_3
    refine d_itF rfl (d_itF rfl (d_itF rfl ?_))
    unfold b16_2
    exact d_itF rfl (d_itF rfl (d_itF rfl (d_itF rfl rfl)))
  obtain ⟨n, rfl⟩ : ∃ n : Nat, op = n := ⟨op.toNat, by omega⟩
  have h512 : n < 512 := by omega
  have hr := fm_range n
  have efm : fmI (n : Int) = fm n := rfl
  rw [efm] at head
  have mk : ∀ {P : Prop}, (∃ r : Bool, (∀ {t : Vx.T}, t16 = .call 33 [.iv 0] [] [] 1 0 0 t → t.den (Tab.fn a16) [(n : Int), a, b, k, fm n] [] [dl L] = some (.ret ([], [r], []))) ∧ (r = true → P)) → ∃ r : Bool, F16 [(n : Int), a, b, k] [] [dl L] = some ([], [r], []) ∧ (r = true → P) := by
    rintro P ⟨r, h1, h2⟩; exact wrap (head h1) h2
  refine mk ?_
  clear mk head wrap hf
  have bc : ∀ {ba bb bk bl : Bool} {is bs} {kk : Vx.T} {o}, kk.den (Tab.fn a16) is (bs ++ [bareB ba bb bk bl a b k (dl L).length]) [dl L] = o → True := fun _ => trivial
  by_cases f1 : fm n = 1 ∨ fm n = 6 ∨ fm n = 7
  · refine ⟨bareB false false false false a b k (dl L).length, fun {t} ht => ?_, fun h => ?_⟩
    · cases ht
      have go : ∀ {x : Vx.T}, x = .call 34 [.iv 0, .iv 1, .iv 2, .iv 3] [.t false, .t false, .t false, .t false] [.v 0] 0 1 0 (.ret [] [.bv 0] []) → x.den (Tab.fn a16) [(n : Int), a, b, k, fm n] [] [dl L] = some (.ret ([], [bareB false false false false a b k (dl L).length], [])) := fun {x} hx => by
        subst hx
        exact d_callx [(n : Int), a, b, k] [false, false, false, false] [dl L] _ e16_34 rfl rfl rfl q_bare rfl rfl
      rcases f1 with f | f | f
      · exact d_itT (eq_t f) (d_itT (eq_t f) (go rfl))
      · exact d_itF (eq_f (show fm n ≠ 1 by omega)) (d_itT (eq_t f) (d_itT (eq_t f) (go rfl)))
      · exact d_itF (eq_f (show fm n ≠ 1 by omega)) (d_itF (eq_f (show fm n ≠ 6 by omega)) (d_itT (eq_t f) (go rfl)))
    · obtain ⟨h1, h2, h3, h4⟩ := bare_iff h
      refine ⟨⟨n, a, b, k, L⟩, ⟨h512, fun v hv => ?_, ?_, ⟨by show fm n ≠ 0; omega, by show fm n ≠ 11; omega⟩, fun _ => ⟨h1 rfl, h2 rfl, h3 rfl, nil_of (h4 rfl)⟩, fun f => ?_, fun f => ?_, fun f => ?_, fun f => ?_, fun f => ?_, fun f => ?_⟩, rfl, rfl, rfl, rfl, rfl⟩
      · rw [nil_of (h4 rfl)] at hv; cases hv
      · show L.length ≤ 64; rw [nil_of (h4 rfl)]; simp
      all_goals (exfalso; simp only at f; omega)
  have n1 : fm n ≠ 1 := fun h => f1 (.inl h)
  have n6 : fm n ≠ 6 := fun h => f1 (.inr (.inl h))
  have n7 : fm n ≠ 7 := fun h => f1 (.inr (.inr h))
  have down : ∀ {r : Bool} {P : Prop}, b16_3.den (Tab.fn a16) [(n : Int), a, b, k, fm n] [] [dl L] = some (.ret ([], [r], [])) → (r = true → P) → ∃ r : Bool, (∀ {t : Vx.T}, t16 = .call 33 [.iv 0] [] [] 1 0 0 t → t.den (Tab.fn a16) [(n : Int), a, b, k, fm n] [] [dl L] = some (.ret ([], [r], []))) ∧ (r = true → P) := fun {r P} h1 h2 => ⟨r, fun {t} ht => by
    cases ht
    exact d_itF (eq_f n1) (d_itF (eq_f n6) (d_itF (eq_f n7) h1)), h2⟩
  by_cases f2 : fm n = 2
  · have hp := q_putBlock [] a (by simp)
    by_cases hok : okBk a = true
    · rw [if_pos hok] at hp
      refine down (r := bareB true false false false a b k (dl L).length) ?_ (fun h => ?_)
      · unfold b16_3
        refine d_itT (eq_t f2) (d_callx [a] [] [[]] _ e16_35 rfl rfl rfl hp rfl (d_itT rfl ?_))
        exact d_callx [(n : Int), a, b, k] [true, false, false, false] [dl L] _ e16_34 rfl rfl rfl q_bare rfl rfl
      · obtain ⟨h1, h2, h3, h4⟩ := bare_iff h
        refine ⟨⟨n, a, b, k, L⟩, ⟨h512, fun v hv => ?_, ?_, ⟨by show fm n ≠ 0; omega, by show fm n ≠ 11; omega⟩, fun f => ?_, fun _ => ⟨hok, h2 rfl, h3 rfl, nil_of (h4 rfl)⟩, fun f => ?_, fun f => ?_, fun f => ?_, fun f => ?_, fun f => ?_⟩, rfl, rfl, rfl, rfl, rfl⟩
        · rw [nil_of (h4 rfl)] at hv; cases hv
        · show L.length ≤ 64; rw [nil_of (h4 rfl)]; simp
        all_goals (exfalso; simp only at f; omega)
    · rw [if_neg hok] at hp
      refine down (r := false) ?_ (fun h => by cases h)
      unfold b16_3
      exact d_itT (eq_t f2) (d_callx [a] [] [[]] _ e16_35 rfl rfl rfl hp rfl (d_itF rfl rfl))
  obtain ⟨ra, hna, hna2⟩ := q_num1 a
  by_cases f3 : fm n = 3 ∨ fm n = 10
  · have bb1 : ∀ {r : Bool}, b16_1.den (Tab.fn a16) [(n : Int), a, b, k, fm n] [] [dl L] = some (.ret ([], [r], [])) → b16_3.den (Tab.fn a16) [(n : Int), a, b, k, fm n] [] [dl L] = some (.ret ([], [r], [])) := fun {r} h => by
      unfold b16_3
      rcases f3 with f | f
      · exact d_itF (eq_f f2) (d_itT (eq_t f) (d_itT (eq_t f) h))
      · exact d_itF (eq_f f2) (d_itF (eq_f (show fm n ≠ 3 by omega)) (d_itT (eq_t f) h))
    cases ra with
    | false =>
      refine down (r := false) (bb1 ?_) (fun h => by cases h)
      unfold b16_1
      exact d_lst [[.i a]] rfl (d_callx [] [] [[.i a]] ([], [false], []) e16_36 rfl rfl rfl hna rfl (d_itF rfl rfl))
    | true =>
      refine down (r := bareB true false false false a b k (dl L).length) (bb1 ?_) (fun h => ?_)
      · unfold b16_1
        refine d_lst [[.i a]] rfl (d_callx [] [] [[.i a]] ([], [true], []) e16_36 rfl rfl rfl hna rfl (d_itT rfl ?_))
        exact d_callx [(n : Int), a, b, k] [true, false, false, false] [dl L] _ e16_34 rfl rfl rfl q_bare rfl rfl
      · obtain ⟨h1, h2, h3, h4⟩ := bare_iff h
        refine ⟨⟨n, a, b, k, L⟩, ⟨h512, fun v hv => ?_, ?_, ⟨by show fm n ≠ 0; omega, by show fm n ≠ 11; omega⟩, fun f => ?_, fun f => ?_, fun _ => ⟨hna2 rfl, h2 rfl, h3 rfl, nil_of (h4 rfl)⟩, fun f => ?_, fun f => ?_, fun f => ?_, fun f => ?_⟩, rfl, rfl, rfl, rfl, rfl⟩
        · rw [nil_of (h4 rfl)] at hv; cases hv
        · show L.length ≤ 64; rw [nil_of (h4 rfl)]; simp
        all_goals (exfalso; simp only at f; omega)
  have n3 : fm n ≠ 3 := fun h => f3 (.inl h)
  have n10 : fm n ≠ 10 := fun h => f3 (.inr h)
  have down2 : ∀ {r : Bool} {P : Prop}, b16_2.den (Tab.fn a16) [(n : Int), a, b, k, fm n] [] [dl L] = some (.ret ([], [r], [])) → (r = true → P) → ∃ r : Bool, (∀ {t : Vx.T}, t16 = .call 33 [.iv 0] [] [] 1 0 0 t → t.den (Tab.fn a16) [(n : Int), a, b, k, fm n] [] [dl L] = some (.ret ([], [r], []))) ∧ (r = true → P) := fun {r P} h1 h2 => down (by
    unfold b16_3
    exact d_itF (eq_f f2) (d_itF (eq_f n3) (d_itF (eq_f n10) h1))) h2
  by_cases f4 : fm n = 4
  · obtain ⟨rl, hnl, hnl2⟩ := q_num (L := dl L) (by rw [dl_len]; omega)
    have start : ∀ {r : Bool}, ra = true → (Vx.T.ite (.an (.bv 1) (.cm .leq (.ln 0) (.n 64))) (.call 34 [.iv 0, .iv 1, .iv 2, .iv 3] [.t true, .t false, .t false, .t true] [.v 0] 0 1 0 (.ret [] [.bv 2] [])) (.ret [] [.t false] [])).den (Tab.fn a16) [(n : Int), a, b, k, fm n] [true, rl] [dl L, [.i a]] = some (.ret ([], [r], [])) → b16_2.den (Tab.fn a16) [(n : Int), a, b, k, fm n] [] [dl L] = some (.ret ([], [r], [])) := fun {r} hra h => by
      subst hra
      unfold b16_2
      exact d_itT (eq_t f4) (d_lst [[.i a]] rfl (d_callx [] [] [[.i a]] ([], [true], []) e16_36 rfl rfl rfl hna rfl (d_itT rfl (d_callx [] [] [dl L] ([], [rl], []) e16_36 rfl rfl rfl hnl rfl h))))
    by_cases hra : ra = true
    · by_cases h64 : (rl && decide (((dl L).length : Int) ≤ 64)) = true
      · refine down2 (r := bareB true false false true a b k (dl L).length) (start hra (d_itT h64 ?_)) (fun h => ?_)
        · exact d_callx [(n : Int), a, b, k] [true, false, false, true] [dl L] _ e16_34 rfl rfl rfl q_bare rfl rfl
        · obtain ⟨h1, h2, h3, h4⟩ := bare_iff h
          rw [Bool.and_eq_true, decide_eq_true_eq] at h64
          refine ⟨⟨n, a, b, k, L⟩, ⟨h512, fun v hv => ?_, show L.length ≤ 64 by omega, ⟨by show fm n ≠ 0; omega, by show fm n ≠ 11; omega⟩, fun f => ?_, fun f => ?_, fun f => ?_, fun _ => ⟨hna2 hra, h2 rfl, h3 rfl⟩, fun f => ?_, fun f => ?_, fun f => ?_⟩, rfl, rfl, rfl, rfl, rfl⟩
          · obtain ⟨j, hj, rfl⟩ := List.getElem_of_mem hv
            have := hnl2 h64.1 j (by rw [dl_len]; exact hj)
            rw [ix_dl, List.getD_eq_getElem?_getD, List.getElem?_eq_getElem hj] at this
            exact this
          all_goals (exfalso; simp only at f; omega)
      · exact down2 (r := false) (start hra (d_itF (Bool.eq_false_iff.2 h64) rfl)) (fun h => by cases h)
    · obtain rfl : ra = false := Bool.eq_false_iff.2 hra
      refine down2 (r := false) ?_ (fun h => by cases h)
      unfold b16_2
      exact d_itT (eq_t f4) (d_lst [[.i a]] rfl (d_callx [] [] [[.i a]] ([], [false], []) e16_36 rfl rfl rfl hna rfl (d_itF rfl rfl)))
  by_cases f5 : fm n = 5
  · obtain ⟨rl, hnl, hnl2⟩ := q_num (L := [.i a, .i b]) (by simp)
    cases rl with
    | false =>
      refine down2 (r := false) ?_ (fun h => by cases h)
      unfold b16_2
      exact d_itF (eq_f f4) (d_itT (eq_t f5) (d_lst [[.i a, .i b]] rfl (d_callx [] [] [[.i a, .i b]] ([], [false], []) e16_36 rfl rfl rfl hnl rfl (d_itF rfl rfl))))
    | true =>
      refine down2 (r := bareB true true false false a b k (dl L).length) ?_ (fun h => ?_)
      · unfold b16_2
        refine d_itF (eq_f f4) (d_itT (eq_t f5) (d_lst [[.i a, .i b]] rfl (d_callx [] [] [[.i a, .i b]] ([], [true], []) e16_36 rfl rfl rfl hnl rfl (d_itT rfl ?_))))
        exact d_callx [(n : Int), a, b, k] [true, true, false, false] [dl L] _ e16_34 rfl rfl rfl q_bare rfl rfl
      · obtain ⟨h1, h2, h3, h4⟩ := bare_iff h
        refine ⟨⟨n, a, b, k, L⟩, ⟨h512, fun v hv => ?_, ?_, ⟨by show fm n ≠ 0; omega, by show fm n ≠ 11; omega⟩, fun f => ?_, fun f => ?_, fun f => ?_, fun f => ?_, fun _ => ⟨hnl2 rfl 0 (by simp), hnl2 rfl 1 (by simp), h3 rfl, nil_of (h4 rfl)⟩, fun f => ?_, fun f => ?_⟩, rfl, rfl, rfl, rfl, rfl⟩
        · rw [nil_of (h4 rfl)] at hv; cases hv
        · show L.length ≤ 64; rw [nil_of (h4 rfl)]; simp
        all_goals (exfalso; simp only at f; omega)
  by_cases f8 : fm n = 8
  · by_cases hk8 : -2147483648 ≤ k ∧ k < 2147483648
    · refine down2 (r := bareB false false true false a b k (dl L).length) ?_ (fun h => ?_)
      · unfold b16_2
        refine d_itF (eq_f f4) (d_itF (eq_f f5) (d_itT (eq_t f8) (d_lb true (an_t (ge_t hk8.1) (lt_t hk8.2)) (d_itT rfl ?_))))
        exact d_callx [(n : Int), a, b, k] [false, false, true, false] [dl L] _ e16_34 rfl rfl rfl q_bare rfl rfl
      · obtain ⟨h1, h2, h3, h4⟩ := bare_iff h
        refine ⟨⟨n, a, b, k, L⟩, ⟨h512, fun v hv => ?_, ?_, ⟨by show fm n ≠ 0; omega, by show fm n ≠ 11; omega⟩, fun f => ?_, fun f => ?_, fun f => ?_, fun f => ?_, fun f => ?_, fun _ => ⟨hk8, h1 rfl, h2 rfl, nil_of (h4 rfl)⟩, fun f => ?_⟩, rfl, rfl, rfl, rfl, rfl⟩
        · rw [nil_of (h4 rfl)] at hv; cases hv
        · show L.length ≤ 64; rw [nil_of (h4 rfl)]; simp
        all_goals (exfalso; simp only at f; omega)
    · refine down2 (r := false) ?_ (fun h => by cases h)
      unfold b16_2
      refine d_itF (eq_f f4) (d_itF (eq_f f5) (d_itT (eq_t f8) (d_lb false ?_ (d_itF rfl rfl))))
      show (decide (k ≥ -2147483648) && decide (k < 2147483648)) = false
      rw [Bool.and_eq_false_iff, decide_eq_false_iff_not, decide_eq_false_iff_not]
      omega
  by_cases f9 : fm n = 9
  · refine down2 (r := bareB false false true false a b k (dl L).length) ?_ (fun h => ?_)
    · unfold b16_2
      refine d_itF (eq_f f4) (d_itF (eq_f f5) (d_itF (eq_f f8) (d_itT (eq_t f9) ?_)))
      exact d_callx [(n : Int), a, b, k] [false, false, true, false] [dl L] _ e16_34 rfl rfl rfl q_bare rfl rfl
    · obtain ⟨h1, h2, h3, h4⟩ := bare_iff h
      refine ⟨⟨n, a, b, k, L⟩, ⟨h512, fun v hv => ?_, ?_, ⟨by show fm n ≠ 0; omega, by show fm n ≠ 11; omega⟩, fun f => ?_, fun f => ?_, fun f => ?_, fun f => ?_, fun f => ?_, fun f => ?_, fun _ => ⟨hk, h1 rfl, h2 rfl, nil_of (h4 rfl)⟩⟩, rfl, rfl, rfl, rfl, rfl⟩
      · rw [nil_of (h4 rfl)] at hv; cases hv
      · show L.length ≤ 64; rw [nil_of (h4 rfl)]; simp
      all_goals (exfalso; simp only at f; omega)
  · refine down2 (r := false) ?_ (fun h => by cases h)
    unfold b16_2
    exact d_itF (eq_f f4) (d_itF (eq_f f5) (d_itF (eq_f f8) (d_itF (eq_f f9) rfl)))
/-! read back -/
theorem bind_app {α β : Type} {R : Rd α} {f : α → Rd β} {A B : List Int} {a : α} (h : R (A ++ B) = .ok a A.length) : R.bind f (A ++ B) = match f a B with | .err e => .err e | .ok b k => .ok b (A.length + k) := by
  rw [bind_of h, List.drop_left]
  cases f a B <;> rfl
theorem fm252 : fm 252 = 0 := by kernel_rfl
theorem code_back {op : Nat} (ho : op < 512) (h0 : fm op ≠ 0) (h11 : fm op ≠ 11) (m : List Int) : codeP (codeB op ++ m) = .ok op (codeB op).length := by
  have ck : ∀ (l : List Int), chk op l = .ok op 0 := fun l => by unfold chk; rw [if_neg h0, if_neg h11]
  unfold codeP codeB
  by_cases h : 256 ≤ op
  · rw [if_pos h]
    have hu := uP_back (n := op - 256) (by omega) m (bits := 32) (by decide) (by omega)
    generalize uBytes (op - 256) = U at *
    have h2 : ((uP 32).bind fun n => if 255 < n then fun _ => .err 2 else chk (256 + n) : Rd Nat) (U ++ m) = .ok op U.length := by
      rw [bind_app hu, if_neg (by omega), show 256 + (op - 256) = op by omega, ck]
      rfl
    show byteP.bind (fun x => if x = 252 then (uP 32).bind fun n => if 255 < n then fun _ => .err 2 else chk (256 + n) else chk x.toNat) ([252] ++ (U ++ m)) = _
    rw [bind_app (a := 252) rfl, if_pos rfl, h2]
    show Res.ok op (1 + _) = Res.ok op _
    rw [List.length_cons, Nat.add_comm]
  · rw [if_neg h, bind_app (a := (op : Int)) rfl]
    have hne : (op : Int) ≠ 252 := fun e => h0 (by rw [show op = 252 by omega]; exact fm252)
    rw [if_neg hne, Int.toNat_natCast, ck]
    rfl
theorem uB_back {a : Int} (h : u32 a) (m : List Int) : ∃ n : Nat, a = n ∧ uP 32 (uBytes a.toNat ++ m) = .ok n (uBytes a.toNat).length := by
  obtain ⟨n, h1, h2, h3, h4⟩ := u_wrap h
  refine ⟨n, h1, ?_⟩
  rw [h4]
  exact uP_back (by omega) m (by decide) (by omega)
theorem loopU_back : ∀ (L : List Int) (m : List Int), (∀ v ∈ L, u32 v) → Go.Proofs.Ytmfjapphmmlppaa.IInstrPuts.loopU L.length (lbB L ++ m) = .ok L (lbB L).length
  | [], m, h => rfl
  | v :: L, m, h => by
    obtain ⟨n, rfl, h1⟩ := uB_back (h v List.mem_cons_self) (lbB L ++ m)
    have h2 := loopU_back L m (fun x hx => h x (List.mem_cons_of_mem _ hx))
    show ((uP 32).bind fun v => (Go.Proofs.Ytmfjapphmmlppaa.IInstrPuts.loopU L.length).bind fun r => fun _ => .ok ((v : Int) :: r) 0) ((uBytes (n : Int).toNat ++ lbB L) ++ m) = .ok _ (uBytes (n : Int).toNat ++ lbB L).length
    rw [List.append_assoc, bind_app h1]
    have : ((Go.Proofs.Ytmfjapphmmlppaa.IInstrPuts.loopU L.length).bind fun r => fun _ => .ok ((n : Int) :: r) 0 : Rd (List Int)) (lbB L ++ m) = .ok ((n : Int) :: L) (lbB L).length := by
      rw [bind_app h2]; rfl
    rw [this, List.length_append]
theorem zero_back (m : List Int) : zeroP ([0] ++ m) = .ok () 1 := rfl
theorem arg_back {x : Ins} (g : Gd x) (m : List Int) : argP x.op (argB x ++ m) = .ok x (argB x).length := by
  obtain ⟨op, a, b, k, L⟩ := x
  have hr := fm_range op
  unfold argP argB
  simp only
  by_cases f2 : fm op = 2
  · rw [if_pos f2, if_pos f2]
    obtain ⟨h1, rfl, rfl, rfl⟩ := g.f2 f2
    rw [bind_app (blockP_back h1)]; rfl
  rw [if_neg f2, if_neg f2]
  by_cases f3 : fm op = 3
  · rw [if_pos f3, if_pos f3]
    obtain ⟨h1, rfl, rfl, rfl⟩ := g.f3 (.inl f3)
    obtain ⟨n, rfl, h2⟩ := uB_back h1 m
    rw [bind_app h2]; rfl
  rw [if_neg f3, if_neg f3]
  by_cases f4 : fm op = 4
  · rw [if_pos f4, if_pos f4]
    obtain ⟨h1, rfl, rfl⟩ := g.f4 f4
    obtain ⟨n, rfl, h2⟩ := uB_back h1 m
    have hll := g.Ll
    have hll : L.length ≤ 64 := hll
    have hlb : labelsP ((uBytes L.length ++ lbB L) ++ (uBytes (n : Int).toNat ++ m)) = .ok L (uBytes L.length ++ lbB L).length := by
      unfold labelsP
      rw [List.append_assoc, bind_app (uP_back (n := L.length) (by omega) _ (by decide) (by omega)), if_neg (by omega), loopU_back L _ g.L, List.length_append]
    rw [List.append_assoc, bind_app hlb]
    have : ((uP 32).bind fun (a : Nat) => fun _ => .ok (⟨op, (a : Int), 0, 0, L⟩ : Ins) 0 : Rd Ins) (uBytes (n : Int).toNat ++ m) = .ok ⟨op, n, 0, 0, L⟩ (uBytes (n : Int).toNat).length := by
      rw [bind_app h2]; rfl
    rw [this]
    simp only [List.length_append]
  rw [if_neg f4, if_neg f4]
  by_cases f5 : fm op = 5
  · rw [if_pos f5, if_pos f5]
    obtain ⟨h1, h2, rfl, rfl⟩ := g.f5 f5
    obtain ⟨n2, rfl, h4⟩ := uB_back h2 m
    obtain ⟨n, rfl, h3⟩ := uB_back h1 (uBytes (n2 : Int).toNat ++ m)
    rw [List.append_assoc, bind_app h3]
    have : ((uP 32).bind fun (b : Nat) => fun _ => .ok (⟨op, (n : Int), (b : Int), 0, []⟩ : Ins) 0 : Rd Ins) (uBytes (n2 : Int).toNat ++ m) = .ok ⟨op, n, n2, 0, []⟩ (uBytes (n2 : Int).toNat).length := by
      rw [bind_app h4]; rfl
    rw [this, List.length_append]
  rw [if_neg f5, if_neg f5]
  by_cases f6 : fm op = 6
  · rw [if_pos f6, if_pos f6]
    obtain ⟨rfl, rfl, rfl, rfl⟩ := g.f1 (.inr (.inl f6))
    rw [bind_app (zero_back m)]; rfl
  rw [if_neg f6, if_neg f6]
  by_cases f7 : fm op = 7
  · rw [if_pos f7, if_pos f7]
    obtain ⟨rfl, rfl, rfl, rfl⟩ := g.f1 (.inr (.inr f7))
    show (zeroP.bind fun _ => zeroP.bind fun _ _ => .ok (⟨op, 0, 0, 0, []⟩ : Ins) 0 : Rd Ins) ([0] ++ ([0] ++ m)) = _
    rw [bind_app (zero_back _)]
    have : (zeroP.bind fun _ _ => .ok (⟨op, 0, 0, 0, []⟩ : Ins) 0 : Rd Ins) ([0] ++ m) = .ok ⟨op, 0, 0, 0, []⟩ 1 := by
      rw [bind_app (zero_back _)]; rfl
    rw [this]; rfl
  rw [if_neg f7, if_neg f7]
  by_cases f8 : fm op = 8
  · rw [if_pos f8, if_pos f8]
    obtain ⟨h1, rfl, rfl, rfl⟩ := g.f8 f8
    have h1 : -2147483648 ≤ k ∧ k < 2147483648 := h1
    rw [bind_app (sP_back (by omega) (by omega) m (bits := 32) (by decide) h1)]; rfl
  rw [if_neg f8, if_neg f8]
  by_cases f9 : fm op = 9
  · rw [if_pos f9, if_pos f9]
    obtain ⟨h1, rfl, rfl, rfl⟩ := g.f9 f9
    have h1 : -9223372036854775808 ≤ k ∧ k < 9223372036854775808 := h1
    rw [bind_app (sP_back (by omega) (by omega) m (bits := 64) (by decide) h1)]; rfl
  rw [if_neg f9, if_neg f9]
  by_cases f10 : fm op = 10
  · rw [if_pos f10, if_pos f10]
    obtain ⟨h1, rfl, rfl, rfl⟩ := g.f3 (.inr f10)
    obtain ⟨n, rfl, h3⟩ := uB_back h1 ([0] ++ m)
    rw [List.append_assoc, bind_app h3]
    have : (zeroP.bind fun _ _ => .ok (⟨op, (n : Int), 0, 0, []⟩ : Ins) 0 : Rd Ins) ([0] ++ m) = .ok ⟨op, n, 0, 0, []⟩ 1 := by
      rw [bind_app (zero_back _)]; rfl
    rw [this, List.length_append]; rfl
  · rw [if_neg f10, if_neg f10]
    have f1 : fm op = 1 := by
      have h := g.nf
      have h : fm op ≠ 0 ∧ fm op ≠ 11 := h
      omega
    obtain ⟨rfl, rfl, rfl, rfl⟩ := g.f1 (.inl f1)
    rfl
theorem instr_back {x : Ins} (g : Gd x) (m : List Int) : instrP (insB x ++ m) = .ok x (insB x).length := by
  unfold instrP insB
  rw [List.append_assoc, bind_app (code_back g.op g.nf.1 g.nf.2 _), arg_back g, List.length_append]
theorem body_back : ∀ (xs : List Ins) (f : Nat) (out o : List D) (m : List Int), Run xs o → (∀ x ∈ xs, Gd x) → out.length + xs.length ≤ 2000 → xs.length ≤ f → bodyP f out o (bodyB xs ++ m) = .ok (out ++ xs.map Ins.D) (bodyB xs).length
  | [], f, out, o, m, hr, hg, hl, hf => hr.elim
  | x :: xs, 0, out, o, m, hr, hg, hl, hf => by simp at hf
  | x :: xs, f + 1, out, o, m, hr, hg, hl, hf => by
    rw [List.length_cons] at hl hf
    obtain ⟨h1, h2⟩ := hr
    have hb := instr_back (hg x List.mem_cons_self) (bodyB xs ++ m)
    show (instrP.bind _) ((insB x ++ bodyB xs) ++ m) = .ok _ (insB x ++ bodyB xs).length
    rw [List.append_assoc, bind_app hb, if_neg (by omega), if_neg (by rw [h1]; simp)]
    rcases h2 with ⟨h2, rfl⟩ | ⟨h2, h3⟩
    · rw [if_pos h2]
      show Res.ok (out ++ [x.D]) _ = Res.ok (out ++ [x.D]) _
      congr 1
      show _ = (insB x ++ []).length
      rw [List.append_nil]; rfl
    · rw [if_neg (by rw [h2]; decide)]
      have := body_back xs f (out ++ [x.D]) (stE x.op o).2.2 m h3 (fun y hy => hg y (List.mem_cons_of_mem _ hy)) (by rw [List.length_append, List.length_singleton]; omega) (by omega)
      rw [this, List.length_append]
      simp
/-! sizes -/
theorem sB10 {v : Int} (h : -9223372036854775808 ≤ v ∧ v < 9223372036854775808) : (sBytes v).length ≤ 10 := (sBytes_len (by omega) (by omega) 9).2 (by
  have : (2 : Nat) ^ (7 * 9 + 6) = 590295810358705651712 := by decide
  rw [this]; omega)
theorem uB10 {a : Int} (h : u32 a) : (uBytes a.toNat).length ≤ 10 := by
  obtain ⟨n, h1, h2, h3, h4⟩ := u_wrap h
  rw [h4]; exact uBl h2
theorem lbB_le : ∀ {L : List Int}, (∀ v ∈ L, u32 v) → (lbB L).length ≤ 10 * L.length
  | [], _ => Nat.le_refl _
  | v :: L, h => by
    have h1 := uB10 (h v List.mem_cons_self)
    have h2 := lbB_le (fun x hx => h x (List.mem_cons_of_mem _ hx))
    show (uBytes v.toNat ++ lbB L).length ≤ _
    rw [List.length_append, List.length_cons]; omega
theorem insB_le {x : Ins} (g : Gd x) : (insB x).length ≤ 700 := by
  have hop := g.op
  have hll := g.Ll
  have hr := fm_range x.op
  have cl : (codeB x.op).length ≤ 11 := by
    unfold codeB
    split
    · rw [List.length_cons]; have := uBl (n := x.op - 256) (by omega); omega
    · simp
  have al : (argB x).length ≤ 680 := by
    unfold argB
    split
    · rename_i f
      have := okB_range (g.f2 f).1
      have := sB10 (v := x.a) (by omega)
      omega
    split
    · rename_i f; have := uB10 (g.f3 (.inl f)).1; omega
    split
    · rename_i f
      have h1 := uB10 (g.f4 f).1
      have h2 := lbB_le g.L
      have h3 := uBl (n := x.L.length) (by omega)
      rw [List.length_append, List.length_append]; omega
    split
    · rename_i f
      have h1 := uB10 (g.f5 f).1
      have h2 := uB10 (g.f5 f).2.1
      rw [List.length_append]; omega
    split
    · simp
    split
    · simp
    split
    · rename_i f
      have := (g.f8 f).1
      have := sB10 (v := x.k) (by omega)
      omega
    split
    · rename_i f
      have := sB10 (v := x.k) (g.f9 f).1
      omega
    split
    · rename_i f
      have h1 := uB10 (g.f3 (.inr f)).1
      rw [List.length_append]; simp only [List.length_singleton]; omega
    · simp
  unfold insB
  rw [List.length_append]; omega
theorem bodyB_700 : ∀ {xs : List Ins}, (∀ x ∈ xs, Gd x) → (bodyB xs).length ≤ 700 * xs.length
  | [], _ => Nat.le_refl _
  | x :: xs, h => by
    have h1 := insB_le (h x List.mem_cons_self)
    have h2 := bodyB_700 (fun y hy => h y (List.mem_cons_of_mem _ hy))
    show (insB x ++ bodyB xs).length ≤ _
    rw [List.length_append, List.length_cons]; omega
/-! any list -/
structure Raw where
  op : Int
  a : Int
  b : Int
  k : Int
  L : List Int
def Raw.D (r : Raw) : Vx.D := .st [.i r.op, .i r.a, .i r.b, .i r.k, .l (dl r.L)]
def Raw.ok (r : Raw) : Prop := (-9223372036854775808 ≤ r.k ∧ r.k < 9223372036854775808) ∧ r.L.length ≤ 1000
theorem getD_R {rs : List Raw} {i : Nat} (hi : i < rs.length) : (rs.map Raw.D).getD i (.i 0) = (rs[i]).D := by
  rw [List.getD_eq_getElem?_getD, List.getElem?_map, List.getElem?_eq_getElem hi]; rfl
theorem q_PutX {op a b k : Int} {L : List Int} (hk : -9223372036854775808 ≤ k ∧ k < 9223372036854775808) (hL : L.length ≤ 100000) : F14 [op, a, b, k] [] [[], dl L] = some ([2], [], [[]]) ∨ ∃ x : Ins, Gd x ∧ op = (x.op : Int) ∧ a = x.a ∧ b = x.b ∧ k = x.k ∧ L = x.L ∧ F14 [op, a, b, k] [] [[], dl L] = some ([0], [], [dl (insB x)]) := by
  obtain ⟨r, h1, h2⟩ := q_formed (op := op) (a := a) (b := b) hk hL
  cases r with
  | false =>
    refine .inl (of_ret ?_)
    unfold t14
    exact d_callx [op, a, b, k] [] [dl L] ([], [false], []) e14_16 rfl rfl rfl h1 rfl (d_itT rfl rfl)
  | true =>
    obtain ⟨x, g, rfl, rfl, rfl, rfl, rfl⟩ := h2 rfl
    exact .inr ⟨x, g, rfl, rfl, rfl, rfl, rfl, q_Put g⟩
theorem q_closed {rs : List Raw} (hok : ∀ r ∈ rs, r.ok) (hlen : rs.length ≤ 100000) : ∃ b : Bool, F12 [] [] [rs.map Raw.D] = some ([], [b], []) ∧ (b = true → ∃ xs : List Ins, rs.map Raw.D = xs.map Ins.D ∧ Run xs [] ∧ (∀ x ∈ xs, Gd x) ∧ xs.length ≤ 2000) := by
  have hll : (rs.map Raw.D).length = rs.length := List.length_map _
  by_cases h2k : rs.length ≤ 2000
  case neg =>
    refine ⟨false, of_ret ?_, fun h => by cases h⟩
    unfold t12
    exact d_itT (gt_t (show (2000 : Int) < ((rs.map Raw.D).length : Int) by omega)) rfl
  have loop : ∀ (r pre : List Raw) (o : List D) (k : Nat), rs = pre ++ r → o.length ≤ 64 → ∃ w : Out, iterT 1 1 1 (fun r => l12_1.den (Tab.fn a12) ([] ++ r.1) ([] ++ r.2.1) ([rs.map Raw.D] ++ r.2.2)) (k + (r.length + 1)) ([(pre.length : Int)], [false], [o]) = some w ∧
      ((∃ i o', w = .brk 2 ([i], [false], [o'])) ∨ ∃ b : Bool, w = .ret ([], [b], []) ∧ (b = true → ∃ xs : List Ins, r.map Raw.D = xs.map Ins.D ∧ Run xs o ∧ (∀ x ∈ xs, Gd x))) := by
    intro r
    induction r with
    | nil =>
      intro pre o k h1 h3
      have hlp : rs.length = pre.length := by rw [h1, List.append_nil]
      refine ⟨.brk 2 ([(pre.length : Int)], [false], [o]), it_brk ?_, .inl ⟨_, _, rfl⟩⟩
      generalize rs.map Raw.D = M at *
      show Vx.T.den _ l12_1 [(pre.length : Int)] [false] [M, o] = _
      unfold l12_1
      exact d_itF (lt_f (show (M.length : Int) ≤ (pre.length : Int) by omega)) rfl
    | cons y r ih =>
      intro pre o k h1 h3
      have hi : pre.length < rs.length := by rw [h1, List.length_append, List.length_cons]; omega
      have hy : (rs.map Raw.D).getD pre.length (.i 0) = y.D := by
        rw [getD_R hi]
        congr 1
        have := h1
        subst this
        simp
      have oy := hok y (by rw [h1]; simp)
      obtain ⟨rb, hf, hf2⟩ := q_formed (op := y.op) (a := y.a) (b := y.b) (k := y.k) (L := y.L) oy.1 (by have := oy.2; omega)
      have hs := q_step (op := y.op) (a := y.a) (b := y.b) (k := y.k) (L := dl y.L) h3
      have hsl := stE_len (op := y.op) h3
      have hlx : rs.length = pre.length + (r.length + 1) := by rw [h1, List.length_append, List.length_cons]
      have hstart : ∀ {w : Out}, some w = (if rb = false then some (.ret ([], [false], [])) else if (stE y.op o).1 ≠ 0 then some (.ret ([], [false], [])) else if (stE y.op o).2.1 = true then some (.ret ([], [(pre.length : Int) == arI .sub .i64 (rs.map Raw.D).length 1], [])) else some (.nxt ([((pre.length + 1 : Nat) : Int)], [false], [(stE y.op o).2.2]))) → (fun r : Vx.R => l12_1.den (Tab.fn a12) ([] ++ r.1) ([] ++ r.2.1) ([rs.map Raw.D] ++ r.2.2)) ([(pre.length : Int)], [false], [o]) = some w := by
        intro w hw
        rw [hw]
        generalize rs.map Raw.D = M at *
        generalize stE y.op o = z at *
        obtain ⟨ze, zo, zn⟩ := z
        show Vx.T.den _ l12_1 [(pre.length : Int)] [false] [M, o] = _
        unfold l12_1
        refine d_itT (lt_t (show (pre.length : Int) < (M.length : Int) by omega)) (d_rq (ge_t (show (0 : Int) ≤ (pre.length : Int) by omega)) (d_lst [dl y.L] ?_ ?_))
        · show [((M.getD pre.length (.i 0)).cell 4).list] = _
          rw [hy]; rfl
        have ha : [((M.getD pre.length (.i 0)).cell 0).int, ((M.getD pre.length (.i 0)).cell 1).int, ((M.getD pre.length (.i 0)).cell 2).int, ((M.getD pre.length (.i 0)).cell 3).int] = [y.op, y.a, y.b, y.k] := by rw [hy]; rfl
        refine d_callx [y.op, y.a, y.b, y.k] [] [dl y.L] ([], [rb], []) e12_16 ha rfl rfl hf rfl ?_
        cases rb with
        | false => exact d_itT rfl (d_rt rfl)
        | true =>
        refine d_itF rfl ?_
        refine d_callx [y.op, y.a, y.b, y.k] [] [o, dl y.L] _ e12_27 ha rfl rfl hs rfl ?_
        by_cases hz : ze = 0
        · subst hz
          refine d_itF rfl ?_
          cases zo with
          | true => exact d_itT rfl (d_rt rfl)
          | false => rw [← up1 pre.length (by omega)]; exact d_itF rfl rfl
        · rw [if_neg (by decide), if_pos (by exact hz)]
          exact d_itT (ne_t hz) (d_rt rfl)
      by_cases hrb : rb = false
      · rw [if_pos hrb] at hstart
        exact ⟨_, it_ret (hstart rfl), .inr ⟨false, rfl, fun h => by cases h⟩⟩
      rw [if_neg hrb] at hstart
      obtain ⟨x, gx, e1, e2, e3, e4, e5⟩ := hf2 (by simpa using hrb)
      have hD : y.D = x.D := by unfold Raw.D Ins.D; rw [e1, e2, e3, e4, e5]
      by_cases hz : (stE y.op o).1 ≠ 0
      · rw [if_pos hz] at hstart
        exact ⟨_, it_ret (hstart rfl), .inr ⟨false, rfl, fun h => by cases h⟩⟩
      rw [if_neg hz] at hstart
      have hz0 : (stE y.op o).1 = 0 := Decidable.not_not.1 hz
      have hsub : arI .sub .i64 ((rs.map Raw.D).length : Int) 1 = (rs.length : Int) - 1 := by show IntKind.i64.wrap (((rs.map Raw.D).length : Int) - 1) = _; rw [wi (by omega) (by omega)]; omega
      by_cases hov : (stE y.op o).2.1 = true
      · rw [if_pos hov] at hstart
        refine ⟨_, it_ret (hstart rfl), .inr ⟨_, rfl, fun h => ?_⟩⟩
        rw [hsub] at h
        have hr0 : r = [] := by
          have : (pre.length : Int) = (rs.length : Int) - 1 := by simpa using h
          exact List.eq_nil_of_length_eq_zero (by omega)
        subst hr0
        refine ⟨[x], by show [y.D] = [x.D]; rw [hD], ⟨by rw [← e1]; exact hz0, .inl ⟨by rw [← e1]; exact hov, rfl⟩⟩, fun z hz => by rw [List.mem_singleton.1 hz]; exact gx⟩
      · rw [if_neg hov] at hstart
        obtain ⟨w, g1, g2⟩ := ih (pre ++ [y]) (stE y.op o).2.2 k (by rw [h1]; simp) hsl
        rw [List.length_append, List.length_singleton] at g1
        refine ⟨w, it_nxt (hstart rfl) rfl g1, ?_⟩
        rcases g2 with g2 | ⟨b, g2, g3⟩
        · exact .inl g2
        · refine .inr ⟨b, g2, fun h => ?_⟩
          obtain ⟨xs, x1, x2, x3⟩ := g3 h
          refine ⟨x :: xs, by rw [List.map_cons, List.map_cons, x1, hD], ⟨by rw [← e1]; exact hz0, .inr ⟨by rw [← e1]; exact Bool.eq_false_iff.2 hov, by rw [← e1]; exact x2⟩⟩, fun z hz => ?_⟩
          rcases List.mem_cons.1 hz with rfl | hz
          · exact gx
          · exact x3 z hz
  obtain ⟨m, hm⟩ := fuel_eq (rs.length + 1) (by omega)
  obtain ⟨w, g1, g2⟩ := loop rs [] [] m rfl (by simp)
  rw [← hm] at g1
  rcases g2 with ⟨i, o', rfl⟩ | ⟨b, rfl, g3⟩
  · refine ⟨false, of_ret ?_, fun h => by cases h⟩
    unfold t12
    refine d_itF (gt_f (show ((rs.map Raw.D).length : Int) ≤ 2000 by omega)) (d_lp _ g1 rfl ?_)
    unfold k12_2
    exact d_rq rfl rfl
  · refine ⟨b, of_ret ?_, fun h => ?_⟩
    · unfold t12
      exact d_itF (gt_f (show ((rs.map Raw.D).length : Int) ≤ 2000 by omega)) (d_lp_ret g1)
    · obtain ⟨xs, x1, x2, x3⟩ := g3 h
      refine ⟨xs, x1, x2, x3, ?_⟩
      have := congrArg List.length x1
      rw [List.length_map, List.length_map] at this
      omega
theorem q_PutBodyX {rs : List Raw} (hok : ∀ r ∈ rs, r.ok) (hlen : rs.length ≤ 100000) : F11 [] [] [[], rs.map Raw.D] = some ([2], [], [[]]) ∨ ∃ xs : List Ins, rs.map Raw.D = xs.map Ins.D ∧ Run xs [] ∧ (∀ x ∈ xs, Gd x) ∧ xs.length ≤ 2000 ∧ F11 [] [] [[], rs.map Raw.D] = some ([0], [], [dl (bodyB xs)]) := by
  obtain ⟨b, h1, h2⟩ := q_closed hok hlen
  cases b with
  | false =>
    refine .inl (of_ret ?_)
    unfold t11
    exact d_callx [] [] [rs.map Raw.D] ([], [false], []) e11_12 rfl rfl rfl h1 rfl (d_itT rfl rfl)
  | true =>
    obtain ⟨xs, x1, x2, x3, x4⟩ := h2 rfl
    refine .inr ⟨xs, x1, x2, x3, x4, ?_⟩
    rw [x1]
    exact q_PutBody x2 x3 x4 (by have := bodyB_700 x3; omega)
end Go.Proofs.Ytmfjapphmmlppaa.KInstrPuts
