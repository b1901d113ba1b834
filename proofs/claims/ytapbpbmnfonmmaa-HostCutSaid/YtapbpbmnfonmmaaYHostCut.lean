/-
  HostCut, of numbers and bytes alone: the law answers true.
-/
import Derived.Test.YtapbpbmnfonmmaaSHostCut
import Derived.Test.YtapbpbmnfonmmaaVr
namespace Go.Proofs.Ytapbpbmnfonmmaa.YHostCut
set_option linter.all false
open Go.Proofs.Ytapbpbmnfonmmaa.Vx Go.Proofs.Ytapbpbmnfonmmaa.XHostCut Go.Proofs.Ytapbpbmnfonmmaa.Vd Go.Proofs.Ytapbpbmnfonmmaa.Vn Go.Proofs.Ytapbpbmnfonmmaa.Vl Go.Proofs.Ytapbpbmnfonmmaa.SHostCut Go.Proofs.Ytapbpbmnfonmmaa.Vr
theorem bytesB_of : ∀ {l : List D}, (∀ x ∈ l, ∃ ds, x = mkD ds ∧ CT.wfL [.i .u8] ds) → D.bytesB l = true
  | [], h => rfl
  | x :: l, h => by
    have ih := bytesB_of fun y hy => h y (List.mem_cons_of_mem _ hy)
    obtain ⟨ds, rfl, hd⟩ := h x List.mem_cons_self
    simp only [CT.wfL, CT.wf] at hd
    obtain ⟨d, r, rfl, ⟨n, rfl, hn⟩, rfl⟩ := hd
    simp [Lit.wf, IntKind.bits, IntKind.signed, IntKind.min, IntKind.max] at hn
    simp only [mkD, D.bytesB, ih, Bool.and_true, decide_eq_true_eq]
    omega
theorem bytesB_get : ∀ {l : List D}, D.bytesB l = true ↔ ∀ j, j < l.length → ∃ n, l.getD j (.i 0) = .i n ∧ 0 ≤ n ∧ n < 256
  | [] => by simp [D.bytesB]
  | x :: l => by
    constructor
    · intro h j hj
      cases x <;> simp only [D.bytesB, Bool.and_eq_true, Bool.false_eq_true] at h
      cases j with
      | zero => exact ⟨_, rfl, by simpa using h.1⟩
      | succ j => exact bytesB_get.1 h.2 j (by simpa using hj)
    · intro h
      obtain ⟨n, h1, h2⟩ := h 0 (by simp)
      have h1 : x = .i n := h1
      subst h1
      simp only [D.bytesB, Bool.and_eq_true, decide_eq_true_eq]
      exact ⟨h2, bytesB_get.2 fun j hj => h (j + 1) (by simpa using hj)⟩
theorem bytesB_put {a : Int} {W M : List D} (hW : D.bytesB W = true) (hM : D.bytesB M = true) : D.bytesB (putD a W M) = true := by
  rw [bytesB_get] at *
  intro j hj
  rw [putD_len] at hj
  rw [putD_at hj]
  split
  · exact hW _ (by omega)
  · exact hM _ hj
theorem wf_int {n : Int} (h : (Lit.int .i64 n).wf = true) : -9223372036854775808 ≤ n ∧ n < 9223372036854775808 := by
  simp [Lit.wf, IntKind.bits, IntKind.signed, IntKind.min, IntKind.max] at h; omega
theorem put_step {a : Int} {W M : List D} {i : Nat} (hi : i < W.length) : putD (a + i) [W.getD i (.i 0)] (putD a (W.take i) M) = putD a (W.take (i + 1)) M := by
  apply ext_at
  · simp [putD_len]
  · intro j hj
    have hj : j < M.length := by simpa [putD_len] using hj
    rw [putD_at (by rw [putD_len]; exact hj), putD_at hj, putD_at hj]
    have e1 : (W.take i).length = i := by rw [List.length_take]; omega
    have e2 : (W.take (i + 1)).length = i + 1 := by rw [List.length_take]; omega
    rw [e1, e2]
    by_cases h1 : (j : Int) = a + i
    · rw [if_pos (by simp; omega), if_pos (by omega), show ((j : Int) - (a + i)).toNat = 0 by omega, show ((j : Int) - a).toNat = i by omega]
      simp only [List.getD_eq_getElem?_getD, List.getElem?_take_of_lt (Nat.lt_succ_self i)]
      rfl
    · rw [if_neg (by simp; omega)]
      by_cases h2 : a ≤ (j : Int) ∧ (j : Int) < a + i
      · rw [if_pos (by omega), if_pos (by omega)]
        simp only [List.getD_eq_getElem?_getD, List.getElem?_take_of_lt (show ((j : Int) - a).toNat < i by omega), List.getElem?_take_of_lt (show ((j : Int) - a).toNat < i + 1 by omega)]
      · rw [if_neg (by omega), if_neg (by omega)]
theorem put_zero {a : Int} {M : List D} : putD a [] M = M := by
  apply ext_at (putD_len _ _ _)
  intro j hj
  have hj : j < M.length := by simpa [putD_len] using hj
  rw [putD_at hj, if_neg (by simp)]
theorem loop {a cap : Int} {gs ws M T G Es Ds xA xB xC xD xE xF xG : List D} {i2 i3 : Int} {bs : List Bool} (ha : -1099511627776 ≤ a) (ha' : a ≤ 1099511627776) (hM : M.length ≤ 3000) (hT : T.length ≤ 100) (hG : G.length ≤ 100) (hE : Es.length ≤ 100) (hD : Ds.length ≤ 100) (hw : ws.length ≤ 200) : ∀ (d i k : Nat), i + d = ws.length →
    iterT 2 0 5 (fun r => l4_1.den (Tab.fn a4) ([a, cap, i2, i3] ++ r.1) (bs ++ r.2.1) ([gs, ws, M, T, G, Es, Ds, xA, xB, xC, xD, xE, xF, xG] ++ r.2.2)) (k + (d + 1)) ([(i : Int), cap], [], [putD a (ws.take i) M, T, G, Es, Ds]) = some (.brk 2 ([(ws.length : Int), cap], [], [putD a ws M, T, G, Es, Ds])) := by
  intro d
  induction d with
  | zero =>
    intro i k hi
    obtain rfl : i = ws.length := by omega
    refine it_brk ?_
    unfold l4_1
    refine d_itF (lt_f (Int.le_refl _)) ?_
    rw [List.take_length]; rfl
  | succ d ih =>
    intro i k hi
    refine it_nxt (r' := ([((i + 1 : Nat) : Int), cap], [], [putD a (ws.take (i + 1)) M, T, G, Es, Ds])) ?_ rfl (ih (i + 1) k (by omega))
    have e1 : arI .add .i64 (i : Int) 1 = ((i + 1 : Nat) : Int) := by rw [addI (by omega) (by omega)]; omega
    have e2 : arI .add .i64 a (i : Int) = a + i := addI (by omega) (by omega)
    have ec : (ws.take (arI .add .i64 (i : Int) 1).toNat).drop ((i : Nat) : Int).toNat = [ws.getD i (.i 0)] := by
      rw [e1, Int.toNat_natCast, Int.toNat_natCast]
      apply ext_at
      · simp; omega
      · intro j hj
        obtain rfl : j = 0 := by simp at hj; omega
        simp only [List.getD_eq_getElem?_getD, List.getElem?_drop, Nat.add_zero, List.getElem?_take_of_lt (Nat.lt_succ_self i)]
        rfl
    unfold l4_1
    refine d_itT (lt_t (by show (i : Int) < (ws.length : Nat); omega)) (d_rq ?_ (d_lst [[ws.getD i (.i 0)]] (by rw [← ec]; rfl) ?_))
    · show (decide ((0 : Int) ≤ (i : Int)) && (decide ((i : Int) ≤ arI .add .i64 (i : Int) 1) && decide (arI .add .i64 (i : Int) 1 ≤ ((ws.length : Nat) : Int)))) = true
      rw [e1]
      simp; omega
    refine d_callx [arI .add .i64 a (i : Int), cap] [false, false] [[], [], [], [ws.getD i (.i 0)], putD a (ws.take i) M, T, G, Es, Ds] ([cap, 0], [], [putD a (ws.take (i + 1)) M, T, G, Es, Ds, []]) e4_8 rfl rfl rfl ?_ rfl ?_
    · rw [e2, q8f (by omega) (by omega) (by rw [putD_len]; exact hM) hT hG hE hD (by simp) (by simp) (by simp), put_step (by omega)]
      rfl
    have hfin : (some (Out.nxt ([arI .add .i64 (i : Int) 1, cap], [], [putD a (ws.take (i + 1)) M, T, G, Es, Ds])) : Option Out) = some (Out.nxt ([((i + 1 : Nat) : Int), cap], [], [putD a (ws.take (i + 1)) M, T, G, Es, Ds])) := by rw [e1]
    rw [← hfin]
    exact d_both (d_both rfl rfl) (d_both (d_both rfl rfl) (d_both rfl rfl))
theorem law (a cap : Int) (gr tr : Bool) (gs ws M T G Es Ds : List D) (hgs : CT.wf (.sl [.i .u64]) (.l gs)) (ha : (Lit.int .i64 a).wf = true) (hws : CT.wf (.sl [.i .u8]) (.l ws))
    (hM : CT.wf (.sl [.i .u8]) (.l M)) (hcap : (Lit.int .i64 cap).wf = true) (hT : CT.wf (.sl [.i .i64]) (.l T)) (hG : CT.wf (.sl [.i .u64]) (.l G)) (hE : CT.wf (.sl [.b]) (.l Es)) (hD : CT.wf (.sl [.b]) (.l Ds)) :
    F4 [a, cap] [gr, tr] [gs, ws, M, T, G, Es, Ds] = some ([], [true], []) := by
  simp only [CT.wf] at hM hws
  obtain ⟨_, hxs, _, hM⟩ := hM
  cases hxs
  obtain ⟨_, hxs, _, hws⟩ := hws
  cases hxs
  have bM := bytesB_of hM
  have bW := bytesB_of hws
  refine of_ret ?_
  unfold t4
  refine d_callx [] [] [] ([], [true], []) e4_5 rfl rfl rfl q5 rfl (d_itF rfl ?_)
  refine d_callx [cap] [] [M, T, G, Es, Ds] _ e4_6 rfl rfl rfl q6 rfl ?_
  refine d_ite (fun h => ?_) fun _ => rfl
  have h : ((((decide ((M.length : Int) ≤ 3000) && decide ((T.length : Int) ≤ 100)) && decide ((G.length : Int) ≤ 100)) && decide ((Es.length : Int) ≤ 100)) && decide ((Ds.length : Int) ≤ 100)) = true := h
  rw [h]
  simp only [Bool.and_eq_true, decide_eq_true_eq] at h
  obtain ⟨⟨⟨⟨h1, h2⟩, h3⟩, h4⟩, h5⟩ := h
  refine d_lst [[.st [.b gr, .b tr, .l gs, .i a, .l ws]]] rfl ?_
  refine d_callx [] [] [[.st [.b gr, .b tr, .l gs, .i a, .l ws]]] _ e4_7 rfl rfl rfl q7 rfl ?_
  refine d_lb ((!decide (gs.length ≤ 20 ∧ ws.length ≤ 200) || tr) || decide (a > 1099511627776)) rfl ?_
  refine d_ite (fun _ => rfl) fun h => ?_
  have h : (((!decide (gs.length ≤ 20 ∧ ws.length ≤ 200) || tr) || decide (a > 1099511627776)) || decide (a < -1099511627776)) = false := h
  simp only [Bool.or_eq_false_iff, Bool.not_eq_false', decide_eq_true_eq, decide_eq_false_iff_not] at h
  obtain ⟨⟨⟨⟨hg, hw⟩, rfl⟩, ha1⟩, ha2⟩ := h
  refine d_callx [a, cap] [gr, false] [[], [], gs, ws, M, T, G, Es, Ds] ([cap, 0], [], [putD a ws M, T, G, Es, Ds, []]) e4_8 rfl rfl rfl (q8f (by omega) (by omega) (by omega) (by omega) (by omega) (by omega) (by omega) (by simp) hg hw) rfl ?_
  obtain ⟨k, hk⟩ := fuel_eq (ws.length + 1) (by omega)
  have hl := fun bs i2 i3 xA xB xC xD xE xF xG => loop (a := a) (cap := cap) (gs := gs) (ws := ws) (M := M) (T := T) (G := G) (Es := Es) (Ds := Ds) (bs := bs) (i2 := i2) (i3 := i3) (xA := xA) (xB := xB) (xC := xC) (xD := xD) (xE := xE) (xF := xF) (xG := xG) (by omega) (by omega) (by omega) (by omega) (by omega) (by omega) (by omega) (by omega) ws.length 0 k (by omega)
  rw [← hk] at hl
  simp only [List.take_zero, put_zero] at hl
  refine d_lp _ (hl _ cap 0 [.st [.b gr, .b false, .l gs, .i a, .l ws]] (putD a ws M) T G Es Ds []) rfl (d_rq rfl ?_)
  refine d_callx [cap, cap] [] [putD a ws M, T, G, Es, Ds, putD a ws M, T, G, Es, Ds] _ e4_9 rfl rfl rfl (q9 (bytesB_put bW bM) (by omega) (by omega) (by omega) (by omega)) rfl ?_
  rfl
end Go.Proofs.Ytapbpbmnfonmmaa.YHostCut
