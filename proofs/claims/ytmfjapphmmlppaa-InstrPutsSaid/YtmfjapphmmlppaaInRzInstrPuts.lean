/-
  InstrPuts: the reference of layer 6: what is formed.
-/
import Derived.Test.YtmfjapphmmlppaaInRyInstrPuts
import Derived.Test.YtmfjapphmmlppaaInRxInstrPuts
namespace Go.Proofs.Ytmfjapphmmlppaa.WInstrPuts
set_option linter.all false
open Go.Proofs.Ytmfjapphmmlppaa.Vx Go.Proofs.Ytmfjapphmmlppaa.XInstrPuts Go.Proofs.Ytmfjapphmmlppaa.Vd Go.Proofs.Ytmfjapphmmlppaa.Vn Go.Proofs.Ytmfjapphmmlppaa.Vl Go.Proofs.Ytmfjapphmmlppaa.Vp Go.Proofs.Ytmfjapphmmlppaa.Vb Go.Proofs.Ytmfjapphmmlppaa.SInstrPuts Go.Proofs.Ytmfjapphmmlppaa.Vo Go.Proofs.Ytmfjapphmmlppaa.Vt Go.Proofs.Ytmfjapphmmlppaa.IInstrPuts Go.Proofs.Ytmfjapphmmlppaa.PInstrPuts Go.Proofs.Ytmfjapphmmlppaa.MInstrPuts Go.Proofs.Ytmfjapphmmlppaa.KInstrPuts
def Raw.of (x : Ins) : Raw := ⟨x.op, x.a, x.b, x.k, x.L⟩
theorem of_D (x : Ins) : x.D = (Raw.of x).D := rfl
theorem of_inj {x y : Ins} (h : Raw.of x = Raw.of y) : x = y := by
  cases x; cases y
  simp only [Raw.of, Raw.mk.injEq, Int.natCast_inj] at h
  simp only [Ins.mk.injEq]
  exact h
theorem ext_getD {L M : List Int} (hl : L.length = M.length) (h : ∀ i, i < L.length → L.getD i 0 = M.getD i 0) : L = M := by
  apply List.ext_getElem hl
  intro i h1 h2
  have := h i h1
  rw [List.getD_eq_getElem?_getD, List.getD_eq_getElem?_getD, List.getElem?_eq_getElem h1, List.getElem?_eq_getElem h2] at this
  simpa using this
theorem q_sameG {L M : List Int} (hl : L.length ≤ 100000000) : F41 [] [] [dl L, dl M] = some ([], [decide (L = M)], []) := by
  refine of_ret ?_
  unfold t41
  by_cases hlen : L.length = M.length
  · refine d_itF (ne_f (show ((dl L).length : Int) = ((dl M).length : Int) by rw [dl_len, dl_len, hlen])) ?_
    refine d_findR (fun i => ([(i : Int)], [false], [])) L.length (by omega) (fun i => L.getD i 0 != M.getD i 0) rfl (fun _ => ([], [false], [])) 2 ([(L.length : Int)], [false], []) (fun i hi hp => ?_) (fun _ _ => rfl) (fun i hi hp => ?_) ?_ rfl (fun j hj hp _ => ?_) (fun h => ?_)
    · show Vx.T.den _ l41_1 [(i : Int)] [false] [dl L, dl M] = some (.nxt ([((i + 1 : Nat) : Int)], [false], []))
      unfold l41_1
      rw [← up1 i (by omega)]
      refine d_itT (lt_t (show (i : Int) < ((dl L).length : Int) by rw [dl_len]; omega)) (d_rq (ge_t (show (0 : Int) ≤ (i : Int) by omega)) (d_rq (lt_t (show (i : Int) < ((dl M).length : Int) by rw [dl_len]; omega)) (d_itF ?_ rfl)))
      show ((((dl L).getD ((i : Int)).toNat (.i 0)).cell 0).int != (((dl M).getD ((i : Int)).toNat (.i 0)).cell 0).int) = false
      rw [Int.toNat_natCast, ix_dl, ix_dl]; exact hp
    · show Vx.T.den _ l41_1 [(i : Int)] [false] [dl L, dl M] = some (.ret ([], [false], []))
      unfold l41_1
      refine d_itT (lt_t (show (i : Int) < ((dl L).length : Int) by rw [dl_len]; omega)) (d_rq (ge_t (show (0 : Int) ≤ (i : Int) by omega)) (d_rq (lt_t (show (i : Int) < ((dl M).length : Int) by rw [dl_len]; omega)) (d_itT ?_ (d_rt rfl))))
      show ((((dl L).getD ((i : Int)).toNat (.i 0)).cell 0).int != (((dl M).getD ((i : Int)).toNat (.i 0)).cell 0).int) = true
      rw [Int.toNat_natCast, ix_dl, ix_dl]; exact hp
    · show Vx.T.den _ l41_1 [(L.length : Int)] [false] [dl L, dl M] = _
      unfold l41_1
      exact d_itF (lt_f (show ((dl L).length : Int) ≤ (L.length : Int) by rw [dl_len]; omega)) rfl
    · have : ¬ L = M := fun e => by rw [e] at hp; simp at hp
      rw [decide_eq_false this]
    · have : L = M := ext_getD hlen fun i hi => by have := h i hi; simpa using this
      rw [decide_eq_true this]
      unfold k41_2
      exact d_rq rfl rfl
  · have : ¬ L = M := fun e => hlen (by rw [e])
    rw [decide_eq_false this]
    exact d_itT (ne_t (show ((dl L).length : Int) ≠ ((dl M).length : Int) by rw [dl_len, dl_len]; omega)) rfl
instance (r s : Raw) : Decidable (r = s) := decidable_of_iff (r.op = s.op ∧ r.a = s.a ∧ r.b = s.b ∧ r.k = s.k ∧ r.L = s.L) (by cases r; cases s; simp)
theorem q_sameR {r s : Raw} (hl : r.L.length ≤ 100000000) : F24 [r.op, r.a, r.b, r.k, s.op, s.a, s.b, s.k] [] [dl r.L, dl s.L] = some ([], [decide (r = s)], []) := by
  refine of_ret ?_
  unfold t24
  refine d_lb ((r.op == s.op) && (r.a == s.a)) rfl (d_lb (((r.op == s.op) && (r.a == s.a)) && (r.b == s.b) && (r.k == s.k)) rfl ?_)
  by_cases h : (((r.op == s.op) && (r.a == s.a)) && (r.b == s.b) && (r.k == s.k)) = true
  · refine d_itT h ?_
    refine d_callx [] [] [dl r.L, dl s.L] ([], [decide (r.L = s.L)], []) e24_41 rfl rfl rfl (q_sameG hl) rfl ?_
    simp only [Bool.and_eq_true, beq_iff_eq] at h
    have : decide (r = s) = decide (r.L = s.L) := by
      apply decide_eq_decide.2
      constructor
      · intro e; rw [e]
      · intro e
        cases r; cases s
        simp only at h e
        simp only [Raw.mk.injEq]
        exact ⟨h.1.1.1, h.1.1.2, h.1.2, h.2, e⟩
    rw [this]; rfl
  · have hn : ¬ r = s := fun e => by rw [e] at h; simp at h
    rw [decide_eq_false hn]
    exact d_itF (Bool.eq_false_iff.2 h) rfl
theorem map_R_inj : ∀ {rs ss : List Raw}, rs.map Raw.D = ss.map Raw.D → rs = ss
  | [], [], _ => rfl
  | [], _ :: _, h => by simp at h
  | _ :: _, [], h => by simp at h
  | r :: rs, s :: ss, h => by
    simp only [List.map_cons, List.cons.injEq] at h
    rw [map_R_inj h.2]
    congr 1
    have h1 := h.1
    cases r; cases s
    simp only [Raw.D, D.st.injEq, List.cons.injEq, D.i.injEq, D.l.injEq, and_true] at h1
    obtain ⟨rfl, rfl, rfl, rfl, h5⟩ := h1
    have inj : ∀ {L M : List Int}, dl L = dl M → L = M := by
      intro L M h
      have : ∀ i, L.getD i 0 = M.getD i 0 := fun i => by rw [← ix_dl, ← ix_dl, h]
      exact ext_getD (by have := congrArg List.length h; rwa [dl_len, dl_len] at this) fun i _ => this i
    rw [inj h5]
theorem q_sameAllR {rs ss : List Raw} (hr : rs.length ≤ 100000) (hL : ∀ r ∈ rs, r.L.length ≤ 1000000) (hS : ∀ s ∈ ss, s.L.length ≤ 1000000) : F22 [] [] [rs.map Raw.D, ss.map Raw.D] = some ([], [decide (rs = ss)], []) := by
  have lr : (rs.map Raw.D).length = rs.length := List.length_map _
  have ls : (ss.map Raw.D).length = ss.length := List.length_map _
  refine of_ret ?_
  unfold t22
  by_cases hlen : rs.length = ss.length
  · refine d_itF (ne_f (show ((rs.map Raw.D).length : Int) = ((ss.map Raw.D).length : Int) by rw [lr, ls, hlen])) ?_
    have body : ∀ i (h1 : i < rs.length) (h2 : i < ss.length) (o : Out), (if decide (rs[i] = ss[i]) = true then some (Out.nxt ([((i + 1 : Nat) : Int)], [false], [])) else some (Out.ret ([], [false], []))) = some o →
        Vx.T.den (Tab.fn a22) l22_1 [(i : Int)] [false] [rs.map Raw.D, ss.map Raw.D] = some o := by
      intro i h1 h2 o ho
      have g1 := getD_R h1
      have g2 := getD_R h2
      have hq := q_sameR (r := rs[i]) (s := ss[i]) (by have := hL _ (List.getElem_mem h1); omega)
      have hq2 := q_sameR (r := ss[i]) (s := rs[i]) (by have := hS _ (List.getElem_mem h2); omega)
      generalize rs[i] = r at *
      generalize ss[i] = s at *
      generalize rs.map Raw.D = M at *
      generalize ss.map Raw.D = K at *
      unfold l22_1
      refine d_itT (lt_t (show (i : Int) < (M.length : Int) by omega)) (d_rq (ge_t (show (0 : Int) ≤ (i : Int) by omega)) (d_rq (lt_t (show (i : Int) < (K.length : Int) by omega)) ?_))
      have ea : [((M.getD i (.i 0)).cell 0).int, ((M.getD i (.i 0)).cell 1).int, ((M.getD i (.i 0)).cell 2).int, ((M.getD i (.i 0)).cell 3).int, ((K.getD i (.i 0)).cell 0).int, ((K.getD i (.i 0)).cell 1).int, ((K.getD i (.i 0)).cell 2).int, ((K.getD i (.i 0)).cell 3).int] = [r.op, r.a, r.b, r.k, s.op, s.a, s.b, s.k] := by rw [g1, g2]; rfl
      have eM : ((M.getD i (.i 0)).cell 4).list = dl r.L := by rw [g1]; rfl
      have eK : ((K.getD i (.i 0)).cell 4).list = dl s.L := by rw [g2]; rfl
      refine d_both ?_ ?_
      · refine d_lst [dl r.L] (congrArg (fun z => [z]) eM) (d_lst [dl s.L] (congrArg (fun z => [z]) eK) ?_)
        refine d_callx [r.op, r.a, r.b, r.k, s.op, s.a, s.b, s.k] [] [dl r.L, dl s.L] ([], [decide (r = s)], []) e22_24 ea rfl rfl hq rfl ?_
        by_cases h : r = s
        · rw [decide_eq_true h] at ho ⊢
          rw [if_pos rfl, ← up1 i (by omega)] at ho
          exact d_itF rfl ho
        · rw [decide_eq_false h] at ho ⊢
          rw [if_neg (by decide)] at ho
          cases ho
          exact d_itT rfl (d_rt rfl)
      · refine d_lst [dl s.L] (congrArg (fun z => [z]) eK) (d_lst [dl r.L] (congrArg (fun z => [z]) eM) ?_)
        refine d_callx [r.op, r.a, r.b, r.k, s.op, s.a, s.b, s.k] [] [dl r.L, dl s.L] ([], [decide (r = s)], []) e22_24 ea rfl rfl hq rfl ?_
        by_cases h : r = s
        · rw [decide_eq_true h] at ho ⊢
          rw [if_pos rfl, ← up1 i (by omega)] at ho
          exact d_itF rfl ho
        · rw [decide_eq_false h] at ho ⊢
          rw [if_neg (by decide)] at ho
          cases ho
          exact d_itT rfl (d_rt rfl)
    refine d_findR (fun i => ([(i : Int)], [false], [])) rs.length (by omega) (fun i => if h : i < rs.length ∧ i < ss.length then !decide (rs[i]'h.1 = ss[i]'h.2) else false) rfl (fun _ => ([], [false], [])) 2 ([(rs.length : Int)], [false], []) (fun i hi hp => ?_) (fun _ _ => rfl) (fun i hi hp => ?_) ?_ rfl (fun j hj hp _ => ?_) (fun h => ?_)
    · rw [dif_pos ⟨hi, by omega⟩] at hp
      have hp : decide (rs[i] = ss[i]) = true := by simpa using hp
      exact body i hi (by omega) _ (by rw [if_pos hp])
    · rw [dif_pos ⟨hi, by omega⟩] at hp
      have hp : ¬ decide (rs[i] = ss[i]) = true := by simpa using hp
      exact body i hi (by omega) _ (by rw [if_neg hp])
    · show Vx.T.den _ l22_1 [(rs.length : Int)] [false] [rs.map Raw.D, ss.map Raw.D] = _
      unfold l22_1
      exact d_itF (lt_f (show ((rs.map Raw.D).length : Int) ≤ (rs.length : Int) by omega)) rfl
    · rw [dif_pos ⟨hj, by omega⟩] at hp
      have : ¬ rs = ss := fun e => by subst e; simp at hp
      rw [decide_eq_false this]
    · have : rs = ss := List.ext_getElem hlen fun i h1 h2 => by
        have := h i h1
        rw [dif_pos ⟨h1, h2⟩] at this
        simpa using this
      rw [decide_eq_true this]
      unfold k22_2
      exact d_rq rfl rfl
  · have : ¬ rs = ss := fun e => hlen (by rw [e])
    rw [decide_eq_false this]
    exact d_itT (ne_t (show ((rs.map Raw.D).length : Int) ≠ ((ss.map Raw.D).length : Int) by omega)) rfl
theorem lbB_bytes {L : List Int} (h : ∀ v ∈ L, u32 v) : Bytes (lbB L) := by
  intro z hz
  unfold lbB at hz
  rw [List.mem_flatten] at hz
  obtain ⟨q, hq, hz⟩ := hz
  rw [List.mem_map] at hq
  obtain ⟨v, hv, rfl⟩ := hq
  exact uBytes_bytes (n := v.toNat) (by have := (h v hv).2; omega) z hz
theorem insB_bytes {x : Ins} (ho : x.op < 512) (hx : Pre x) (ha : fm x.op ≠ 2 → u32 x.a) : Bytes (insB x) := by
  unfold insB
  refine Bytes.append ?_ ?_
  · unfold codeB
    split
    · intro z hz
      rcases List.mem_cons.1 hz with rfl | hz
      · omega
      · exact uBytes_bytes (n := x.op - 256) (by omega) z hz
    · intro z hz
      rw [List.mem_singleton] at hz
      omega
  · have hb : Bytes (uBytes x.b.toNat) := uBytes_bytes (by have := hx.b.2; omega)
    have hz0 : Bytes [0] := fun z hz => by rw [List.mem_singleton] at hz; omega
    unfold argB
    split
    · exact sBytes_bytes _
    rename_i h2
    have hA : Bytes (uBytes x.a.toNat) := uBytes_bytes (by have := (ha h2).2; omega)
    split
    · exact hA
    split
    · exact ((uBytes_bytes (by have := hx.Ll; omega)).append (lbB_bytes hx.L)).append hA
    split
    · exact hA.append hb
    split
    · exact hz0
    split
    · exact hz0.append hz0
    split
    · exact sBytes_bytes _
    split
    · exact sBytes_bytes _
    split
    · exact hA.append hz0
    · exact fun z hz => by cases hz
theorem insB_len {x : Ins} (ho : x.op < 512) (h0 : fm x.op ≠ 0) (h11 : fm x.op ≠ 11) (hx : Pre x) (ha : fm x.op ≠ 2 → u32 x.a) (ht : fm x.op = 2 → okBk x.a = true) : (insB x).length ≤ 20000 := by
  have hr := fm_range x.op
  obtain ⟨g1, _, g3, _, _⟩ := patL_ok hr.1 hr.2 h0 h11
  have hB := patB_arg h0 h11
  have g6 : ∀ c ∈ patL (fm x.op), c = 97 → u32 x.a := fun c hc e => ha fun h2 => by rw [h2] at hc; simp [patL] at hc; omega
  have g7 : ∀ c ∈ patL (fm x.op), c = 116 → okBk x.a = true := fun c hc e => ht (by
    have h : fm x.op = 1 ∨ fm x.op = 2 ∨ fm x.op = 3 ∨ fm x.op = 4 ∨ fm x.op = 5 ∨ fm x.op = 6 ∨ fm x.op = 7 ∨ fm x.op = 8 ∨ fm x.op = 9 ∨ fm x.op = 10 := by omega
    rcases h with h | h | h | h | h | h | h | h | h | h <;> rw [h] at hc ⊢ <;> simp [patL] at hc <;> omega)
  have hcl : (codeB x.op).length ≤ 20 := by
    unfold codeB
    split
    · rw [List.length_cons]; have := uBytes_ten (n := x.op - 256) (by omega); omega
    · simp
  have key : ∀ r : List Int, (∀ c ∈ r, letter c) → (∀ c ∈ r, c = 97 → u32 x.a) → (∀ c ∈ r, c = 116 → okBk x.a = true) → (patB r x).length ≤ 2000 * r.length := by
    intro r
    induction r with
    | nil => intro _ _ _; simp [patB]
    | cons c r ih =>
      intro h1 h2 h3
      have l1 := letB_len hx (h1 c List.mem_cons_self) (h2 c List.mem_cons_self) (h3 c List.mem_cons_self)
      have l2 := ih (fun c' hc' => h1 c' (List.mem_cons_of_mem _ hc')) (fun c' hc' => h2 c' (List.mem_cons_of_mem _ hc')) (fun c' hc' => h3 c' (List.mem_cons_of_mem _ hc'))
      show (letB c x ++ patB r x).length ≤ _
      rw [List.length_append, List.length_cons]; omega
  have := key _ g1 g6 g7
  unfold insB
  rw [List.length_append, ← hB]; omega
theorem gd_b32 {x : Ins} (g : Gd x) : u32 x.b := by
  have hr := fm_range x.op
  have nf := g.nf
  have z : u32 0 := ⟨by omega, by omega⟩
  have h : fm x.op = 1 ∨ fm x.op = 2 ∨ fm x.op = 3 ∨ fm x.op = 4 ∨ fm x.op = 5 ∨ fm x.op = 6 ∨ fm x.op = 7 ∨ fm x.op = 8 ∨ fm x.op = 9 ∨ fm x.op = 10 := by omega
  rcases h with h | h | h | h | h | h | h | h | h | h
  · rw [(g.f1 (.inl h)).2.1]; exact z
  · rw [(g.f2 h).2.1]; exact z
  · rw [(g.f3 (.inl h)).2.1]; exact z
  · rw [(g.f4 h).2.1]; exact z
  · exact (g.f5 h).2.1
  · rw [(g.f1 (.inr (.inl h))).2.1]; exact z
  · rw [(g.f1 (.inr (.inr h))).2.1]; exact z
  · rw [(g.f8 h).2.2.1]; exact z
  · rw [(g.f9 h).2.2.1]; exact z
  · rw [(g.f3 (.inr h)).2.1]; exact z
theorem gd_a32 {x : Ins} (g : Gd x) (h2 : fm x.op ≠ 2) : u32 x.a := by
  have hr := fm_range x.op
  have nf := g.nf
  have z : u32 0 := ⟨by omega, by omega⟩
  have h : fm x.op = 1 ∨ fm x.op = 3 ∨ fm x.op = 4 ∨ fm x.op = 5 ∨ fm x.op = 6 ∨ fm x.op = 7 ∨ fm x.op = 8 ∨ fm x.op = 9 ∨ fm x.op = 10 := by omega
  rcases h with h | h | h | h | h | h | h | h | h
  · rw [(g.f1 (.inl h)).1]; exact z
  · exact (g.f3 (.inl h)).1
  · exact (g.f4 h).1
  · exact (g.f5 h).1
  · rw [(g.f1 (.inr (.inl h))).1]; exact z
  · rw [(g.f1 (.inr (.inr h))).1]; exact z
  · rw [(g.f8 h).2.1]; exact z
  · rw [(g.f9 h).2.1]; exact z
  · exact (g.f3 (.inr h)).1
theorem gd_pre {x : Ins} (g : Gd x) : Pre x := by
  have hr := fm_range x.op
  have nf := g.nf
  refine ⟨g.L, by have := g.Ll; omega, gd_b32 g, ?_⟩
  have h : fm x.op = 1 ∨ fm x.op = 2 ∨ fm x.op = 3 ∨ fm x.op = 4 ∨ fm x.op = 5 ∨ fm x.op = 6 ∨ fm x.op = 7 ∨ fm x.op = 8 ∨ fm x.op = 9 ∨ fm x.op = 10 := by omega
  rcases h with h | h | h | h | h | h | h | h | h | h
  · rw [(g.f1 (.inl h)).2.2.1]; omega
  · rw [(g.f2 h).2.2.1]; omega
  · rw [(g.f3 (.inl h)).2.2.1]; omega
  · rw [(g.f4 h).2.2]; omega
  · rw [(g.f5 h).2.2.1]; omega
  · rw [(g.f1 (.inr (.inl h))).2.2.1]; omega
  · rw [(g.f1 (.inr (.inr h))).2.2.1]; omega
  · have := (g.f8 h).1; omega
  · have := (g.f9 h).1; omega
  · rw [(g.f3 (.inr h)).2.2.1]; omega
theorem q_rBytesG {x : Ins} (g : Gd x) : F19 [(x.op : Int), x.a, x.b, x.k] [] [dl x.L] = some ([], [], [dl (insB x)]) :=
  q_rBytes g.op g.nf.1 g.nf.2 (gd_pre g) (gd_a32 g) fun h => (g.f2 h).1
end Go.Proofs.Ytmfjapphmmlppaa.WInstrPuts
