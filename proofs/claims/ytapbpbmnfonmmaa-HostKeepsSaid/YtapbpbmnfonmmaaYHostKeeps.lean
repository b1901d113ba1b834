/-
  HostKeeps, of numbers and bytes alone: the law answers true.
-/
import Derived.Test.YtapbpbmnfonmmaaSHostKeeps
import Derived.Test.YtapbpbmnfonmmaaVr
namespace Go.Proofs.Ytapbpbmnfonmmaa.YHostKeeps
set_option linter.all false
open Go.Proofs.Ytapbpbmnfonmmaa.Vx Go.Proofs.Ytapbpbmnfonmmaa.XHostKeeps Go.Proofs.Ytapbpbmnfonmmaa.Vd Go.Proofs.Ytapbpbmnfonmmaa.Vn Go.Proofs.Ytapbpbmnfonmmaa.Vl Go.Proofs.Ytapbpbmnfonmmaa.SHostKeeps Go.Proofs.Ytapbpbmnfonmmaa.Vr
theorem bytesB_of : ∀ {l : List D}, (∀ x ∈ l, ∃ ds, x = mkD ds ∧ CT.wfL [.i .u8] ds) → D.bytesB l = true
  | [], h => rfl
  | x :: l, h => by
    have ih := bytesB_of fun y hy => h y (List.mem_cons_of_mem _ hy)
    obtain ⟨ds, rfl, hd⟩ := h x List.mem_cons_self
    simp only [CT.wfL, CT.wf] at hd
    obtain ⟨d, r, rfl, ⟨n, rfl, hn⟩, rfl⟩ := hd
    simp [Lit.wf, IntKind.bits, IntKind.signed, IntKind.min, IntKind.max] at hn
    simp only [mkD, D.bytesB, ih, Bool.and_true, decide_eq_true_eq]
    omega
theorem bytesB_get : ∀ {l : List D}, D.bytesB l = true ↔ ∀ j, j < l.length → ∃ n, l.getD j (.i 0) = .i n ∧ 0 ≤ n ∧ n < 256
  | [] => by simp [D.bytesB]
  | x :: l => by
    constructor
    · intro h j hj
      cases x <;> simp only [D.bytesB, Bool.and_eq_true, Bool.false_eq_true] at h
      cases j with
      | zero => exact ⟨_, rfl, by simpa using h.1⟩
      | succ j => exact bytesB_get.1 h.2 j (by simpa using hj)
    · intro h
      obtain ⟨n, h1, h2⟩ := h 0 (by simp)
      have h1 : x = .i n := h1
      subst h1
      simp only [D.bytesB, Bool.and_eq_true, decide_eq_true_eq]
      exact ⟨h2, bytesB_get.2 fun j hj => h (j + 1) (by simpa using hj)⟩
theorem bytesB_put {a : Int} {W M : List D} (hW : D.bytesB W = true) (hM : D.bytesB M = true) : D.bytesB (putD a W M) = true := by
  rw [bytesB_get] at *
  intro j hj
  rw [putD_len] at hj
  rw [putD_at hj]
  split
  · exact hW _ (by omega)
  · exact hM _ hj
theorem wf_int {n : Int} (h : (Lit.int .i64 n).wf = true) : -9223372036854775808 ≤ n ∧ n < 9223372036854775808 := by
  simp [Lit.wf, IntKind.bits, IntKind.signed, IntKind.min, IntKind.max] at h; omega
/-- So many of the first places differ. -/
def cnt (M X : List D) : Nat → Nat
  | 0 => 0
  | i + 1 => if (((M.getD i (.i 0)).cell 0).int != ((X.getD i (.i 0)).cell 0).int) = true then cnt M X i + 1 else cnt M X i
theorem cnt_same {M : List D} : ∀ i, cnt M M i = 0
  | 0 => rfl
  | i + 1 => by unfold cnt; rw [if_neg (by simp), cnt_same i]
theorem cnt_put {a : Int} {W M : List D} : ∀ i, i ≤ M.length → (cnt M (putD a W M) i : Int) ≤ max 0 (min (i : Int) (a + W.length) - a) ∧ (cnt M (putD a W M) i : Int) ≤ i
  | 0, _ => by simp [cnt]; omega
  | i + 1, h => by
    have ih := cnt_put (a := a) (W := W) (M := M) i (by omega)
    unfold cnt
    rw [putD_at (by omega)]
    by_cases hr : a ≤ (i : Int) ∧ (i : Int) < a + W.length
    · rw [if_pos hr]
      split <;> omega
    · rw [if_neg hr, if_neg (by simp)]
      omega
theorem cnt_le (M X : List D) : ∀ i, cnt M X i ≤ i
  | 0 => Nat.le_refl _
  | i + 1 => by
    have := cnt_le M X i
    unfold cnt
    split <;> omega
theorem loop {i0 i1 i2 i3 : Int} {bs : List Bool} {xA xB xC xD xE xF xG xH xI xJ xK xL xM xN M X : List D} (hM : M.length ≤ 3000) (hX : X.length = M.length) : ∀ (d i k : Nat), i + d = M.length →
    iterT 2 0 0 (fun r => l3_1.den (Tab.fn a3) ([i0, i1, i2, i3] ++ r.1) (bs ++ r.2.1) ([xA, xB, xC, xD, M, xF, xG, xH, xI, xJ, X, xK, xL, xM, xN, xE] ++ r.2.2)) (k + (d + 1)) ([(cnt M X i : Int), (i : Int)], [], []) = some (.brk 2 ([(cnt M X M.length : Int), (M.length : Int)], [], [])) := by
  intro d
  induction d with
  | zero =>
    intro i k hi
    obtain rfl : i = M.length := by omega
    refine it_brk ?_
    unfold l3_1
    exact d_itF (lt_f (Int.le_refl _)) rfl
  | succ d ih =>
    intro i k hi
    have hc := cnt_le M X i
    refine it_nxt (r' := ([(cnt M X (i + 1) : Int), ((i + 1 : Nat) : Int)], [], [])) ?_ rfl (ih (i + 1) k (by omega))
    have e1 : arI .add .i64 (i : Int) 1 = ((i + 1 : Nat) : Int) := by rw [addI (by omega) (by omega)]; omega
    have e2 : arI .add .i64 (cnt M X i : Int) 1 = ((cnt M X i + 1 : Nat) : Int) := by rw [addI (by omega) (by omega)]; omega
    unfold l3_1
    refine d_itT (lt_t (by show (i : Int) < (M.length : Nat); omega)) (d_rq (decide_eq_true (show (0 : Int) ≤ (i : Int) by omega)) (d_rq (lt_t (by show (i : Int) < (X.length : Nat); omega)) ?_))
    refine d_ite (fun h => ?_) fun h => ?_
    · have h : (((M.getD i (.i 0)).cell 0).int != ((X.getD i (.i 0)).cell 0).int) = true := h
      show some (Out.nxt ([arI .add .i64 (cnt M X i : Int) 1, arI .add .i64 (i : Int) 1], [], [])) = _
      rw [e1, e2, cnt, if_pos h]
    · have h : (((M.getD i (.i 0)).cell 0).int != ((X.getD i (.i 0)).cell 0).int) = false := h
      show some (Out.nxt ([(cnt M X i : Int), arI .add .i64 (i : Int) 1], [], [])) = _
      rw [e1, cnt, if_neg (by rw [h]; decide)]
theorem law (a cap : Int) (gr tr : Bool) (ps rs gs ws M T G Es Ds : List D) (hps : CT.wf (.sl [.i .i64]) (.l ps)) (hrs : CT.wf (.sl [.i .i64]) (.l rs)) (hgs : CT.wf (.sl [.i .u64]) (.l gs)) (ha : (Lit.int .i64 a).wf = true) (hws : CT.wf (.sl [.i .u8]) (.l ws))
    (hM : CT.wf (.sl [.i .u8]) (.l M)) (hcap : (Lit.int .i64 cap).wf = true) (hT : CT.wf (.sl [.i .i64]) (.l T)) (hG : CT.wf (.sl [.i .u64]) (.l G)) (hE : CT.wf (.sl [.b]) (.l Es)) (hD : CT.wf (.sl [.b]) (.l Ds)) :
    F3 [a, cap] [gr, tr] [ps, rs, gs, ws, M, T, G, Es, Ds] = some ([], [true], []) := by
  simp only [CT.wf] at hM
  obtain ⟨_, hxs, _, hM⟩ := hM
  cases hxs
  have bM := bytesB_of hM
  have ha := wf_int ha
  refine of_ret ?_
  unfold t3
  refine d_callx [] [] [] ([], [true], []) e3_5 rfl rfl rfl q5 rfl (d_itF rfl ?_)
  refine d_callx [cap] [] [M, T, G, Es, Ds] _ e3_6 rfl rfl rfl q6 rfl ?_
  refine d_ite (fun h => ?_) fun _ => rfl
  have h : (!(!((((decide ((M.length : Int) ≤ 3000) && decide ((T.length : Int) ≤ 100)) && decide ((G.length : Int) ≤ 100)) && decide ((Es.length : Int) ≤ 100)) && decide ((Ds.length : Int) ≤ 100)) || decide ((rs.length : Int) > 100))) = true := h
  simp only [Bool.not_eq_true', Bool.or_eq_false_iff, Bool.not_eq_false', Bool.and_eq_true, decide_eq_true_eq, decide_eq_false_iff_not] at h
  obtain ⟨⟨⟨⟨⟨h1, h2⟩, h3⟩, h4⟩, h5⟩, h6⟩ := h
  refine d_lst [[.st [.b gr, .b tr, .l gs, .i a, .l ws]]] rfl ?_
  refine d_callx [] [] [[.st [.b gr, .b tr, .l gs, .i a, .l ws]]] _ e3_7 rfl rfl rfl q7 rfl ?_
  refine d_ite (fun _ => rfl) fun h => ?_
  have h : (!decide (gs.length ≤ 20 ∧ ws.length ≤ 200)) = false := h
  simp only [Bool.not_eq_false', decide_eq_true_eq] at h
  obtain ⟨hg, hw⟩ := h
  obtain ⟨k, hk⟩ := fuel_eq (M.length + 1) (by omega)
  cases tr with
  | true =>
    refine d_callx [a, cap] [gr, true] [ps, rs, gs, ws, M, T, G, Es, Ds] ([cap, 9], [], [M, T, G, Es, Ds, []]) e3_8 rfl rfl rfl (q8t (by omega) (by omega) (by omega) (by omega) (by omega)) rfl ?_
    refine d_lb false ?_ (d_lb false rfl (d_itF rfl ?_))
    · show ((((M.length : Nat) : Int) != ((M.length : Nat) : Int)) || !(true == ((9 : Int) == 9))) = false
      simp
    have hl := fun bs xA xB xC xD xE xF xG xH xI xJ xK xL xM xN => loop (M := M) (X := M) (i0 := a) (i1 := cap) (i2 := cap) (i3 := 9) (bs := bs) (xA := xA) (xB := xB) (xC := xC) (xD := xD) (xE := xE) (xF := xF) (xG := xG) (xH := xH) (xI := xI) (xJ := xJ) (xK := xK) (xL := xL) (xM := xM) (xN := xN) (by omega) rfl M.length 0 k (by omega)
    rw [← hk] at hl
    refine d_lp _ (hl _ ps rs gs ws [] T G Es Ds [.st [.b gr, .b true, .l gs, .i a, .l ws]] T G Es Ds) rfl (d_rq rfl ?_)
    rw [cnt_same]
    refine d_lb false ?_ (d_lb false rfl (d_lb false rfl (d_itF rfl ?_)))
    · show (decide ((0 : Int) > ((ws.length : Nat) : Int)) || (true && decide ((0 : Int) > 0))) = false
      simp
    refine d_callx [cap, cap] [] [M, T, G, Es, Ds, M, T, G, Es, Ds] _ e3_9 rfl rfl rfl (q9 bM (by omega) (by omega) (by omega) (by omega)) rfl ?_
    rfl
  | false =>
    refine d_callx [a, cap] [gr, false] [ps, rs, gs, ws, M, T, G, Es, Ds] ([cap, 0], [], [putD a ws M, T, G, Es, Ds, outs gs rs rs.length]) e3_8 rfl rfl rfl (q8f (by omega) (by omega) (by omega) (by omega) (by omega) (by omega) (by omega) (by omega) hg hw) rfl ?_
    refine d_lb false ?_ (d_lb false rfl (d_itF rfl ?_))
    · show ((((putD a ws M).length : Nat) : Int) != ((M.length : Nat) : Int) || !(false == ((0 : Int) == 9))) = false
      rw [putD_len]
      simp
    have hl := fun bs xA xB xC xD xE xF xG xH xI xJ xK xL xM xN => loop (M := M) (X := putD a ws M) (i0 := a) (i1 := cap) (i2 := cap) (i3 := 0) (bs := bs) (xA := xA) (xB := xB) (xC := xC) (xD := xD) (xE := xE) (xF := xF) (xG := xG) (xH := xH) (xI := xI) (xJ := xJ) (xK := xK) (xL := xL) (xM := xM) (xN := xN) (by omega) (putD_len _ _ _) M.length 0 k (by omega)
    rw [← hk] at hl
    refine d_lp _ (hl _ ps rs gs ws (outs gs rs rs.length) T G Es Ds [.st [.b gr, .b false, .l gs, .i a, .l ws]] T G Es Ds) rfl (d_rq rfl ?_)
    have hc := (cnt_put (a := a) (W := ws) (M := M) M.length (Nat.le_refl _)).1
    refine d_lb false ?_ (d_lb false rfl (d_lb false ?_ (d_itF rfl ?_)))
    · show (decide ((cnt M (putD a ws M) M.length : Int) > ((ws.length : Nat) : Int)) || (false && decide ((cnt M (putD a ws M) M.length : Int) > 0))) = false
      rw [Bool.false_and, Bool.or_false]
      exact decide_eq_false (by omega)
    · show (false || (!false && ((((outs gs rs rs.length).length : Nat) : Int) != ((rs.length : Nat) : Int)))) = false
      rw [outs_len]
      simp
    refine d_callx [cap, cap] [] [M, T, G, Es, Ds, M, T, G, Es, Ds] _ e3_9 rfl rfl rfl (q9 bM (by omega) (by omega) (by omega) (by omega)) rfl ?_
    rfl
end Go.Proofs.Ytapbpbmnfonmmaa.YHostKeeps
