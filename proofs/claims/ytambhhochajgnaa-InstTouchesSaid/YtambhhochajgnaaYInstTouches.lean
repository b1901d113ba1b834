/-
  InstTouches, of numbers and lists alone: the law answers true.
-/
import Derived.Test.YtambhhochajgnaaAwInstInstTouches
import Derived.Test.YtambhhochajgnaaVr
namespace Go.Proofs.Ytambhhochajgnaa.YInstTouches
set_option linter.all false
open Go.Proofs.Ytambhhochajgnaa.Vx Go.Proofs.Ytambhhochajgnaa.XInstTouches Go.Proofs.Ytambhhochajgnaa.Vd Go.Proofs.Ytambhhochajgnaa.Vn Go.Proofs.Ytambhhochajgnaa.Vl Go.Proofs.Ytambhhochajgnaa.Vp Go.Proofs.Ytambhhochajgnaa.Vb Go.Proofs.Ytambhhochajgnaa.SInstTouches Go.Proofs.Ytambhhochajgnaa.Vo Go.Proofs.Ytambhhochajgnaa.IInstTouches Go.Proofs.Ytambhhochajgnaa.AInstTouches Go.Proofs.Ytambhhochajgnaa.Vr
theorem bytesB_of : ∀ {l : List D}, (∀ x ∈ l, ∃ ds, x = mkD ds ∧ CT.wfL [.i .u8] ds) → D.bytesB l = true
  | [], h => rfl
  | x :: l, h => by
    have ih := bytesB_of fun y hy => h y (List.mem_cons_of_mem _ hy)
    obtain ⟨ds, rfl, hd⟩ := h x List.mem_cons_self
    simp only [CT.wfL, CT.wf] at hd
    obtain ⟨d, r, rfl, ⟨n, rfl, hn⟩, rfl⟩ := hd
    simp [Lit.wf, IntKind.bits, IntKind.signed, IntKind.min, IntKind.max] at hn
    simp only [mkD, D.bytesB, ih, Bool.and_true, decide_eq_true_eq]
    omega
theorem wf_int {n : Int} (h : (Lit.int .i64 n).wf = true) : -9223372036854775808 ≤ n ∧ n < 9223372036854775808 := by
  simp [Lit.wf, IntKind.bits, IntKind.signed, IntKind.min, IntKind.max] at h; omega
theorem wf_u64 {n : Int} (h : (Lit.int .u64 n).wf = true) : 0 ≤ n ∧ n < 18446744073709551616 := by
  simp [Lit.wf, IntKind.bits, IntKind.signed, IntKind.min, IntKind.max] at h; omega
theorem rq3 {a b c : Int} (h : 0 ≤ a) (h1 : a ≤ b) (h2 : b ≤ c) : (decide ((0 : Int) ≤ a) && (decide (a ≤ b) && decide (b ≤ c))) = true := by simp; omega
theorem rq2 {a c : Int} (h : 0 ≤ a) (h1 : a ≤ c) : (decide ((0 : Int) ≤ a) && decide (a ≤ c)) = true := by simp; omega
theorem ix2 {a c : Int} (h : 0 ≤ a) (h1 : a < c) : (decide (a ≥ (0 : Int)) && decide (a < c)) = true := by simp; omega
set_option maxHeartbeats 4000000 in
theorem law (cap at_ n_ : Int) (M T G E' D' fl bl : List D) (hM : CT.wf (.sl [.i .u8]) (.l M)) (hcap : (Lit.int .i64 cap).wf = true) (hT : CT.wf (.sl [.i .i64]) (.l T)) (hG : CT.wf (.sl [.i .u64]) (.l G)) (hE : CT.wf (.sl [.b]) (.l E')) (hD : CT.wf (.sl [.b]) (.l D'))
    (hf : CT.wf (.sl [.i .i64]) (.l fl)) (hb : CT.wf (.sl [.i .u8]) (.l bl)) (hat : (Lit.int .u64 at_).wf = true) (hn : (Lit.int .u64 n_).wf = true) :
    F4 [cap, at_, n_] [] [M, T, G, E', D', fl, bl] = some ([], [true], []) := by
  simp only [CT.wf] at hM hb
  obtain ⟨_, hx, _, hM⟩ := hM
  cases hx
  obtain ⟨_, hx, _, hb⟩ := hb
  cases hx
  have bM := bytesB_of hM
  have bb := bytesB_of hb
  clear hM hb hT hG hE hD hf
  have hcap := wf_int hcap
  have hat := wf_u64 hat
  have hn := wf_u64 hn
  obtain ⟨a, rfl⟩ : ∃ a : Nat, at_ = (a : Int) := ⟨at_.toNat, by omega⟩
  obtain ⟨n, rfl⟩ : ∃ n : Nat, n_ = (n : Int) := ⟨n_.toNat, by omega⟩
  refine of_ret ?_
  unfold t4
  refine d_callx [] [] [] ([], [true], []) e4_5 rfl rfl rfl q_awake rfl (d_itF rfl ?_)
  refine d_callx [cap] [] [M, T, G, E', D'] ([], [smB M T G E' D'], []) e4_6 rfl rfl rfl q_small rfl ?_
  by_cases hg : (!(smB M T G E' D') || decide ((fl.length : Int) > 100) || decide ((bl.length : Int) > 1000)) = true
  · exact d_lb true hg (d_itT rfl rfl)
  have hg := Bool.eq_false_iff.2 hg
  refine d_lb false hg (d_itF rfl ?_)
  rw [Bool.or_eq_false_iff, Bool.or_eq_false_iff, decide_eq_false_iff_not, decide_eq_false_iff_not] at hg
  obtain ⟨⟨hs, hfl⟩, hbl⟩ := hg
  have sm : Sm M T G E' D' := smB_sm (by simpa using hs)
  have hsB : smB M T G E' D' = true := by simpa using hs
  rw [hsB]
  have lm := sm.m; have lt := sm.t; have lg := sm.g; have le := sm.e; have ld := sm.d
  have hP := q_Put (cap := cap) (a := a) (f := 0) (n := n) (b := bl) sm (by omega) (by omega) (by omega)
  have hL := q_Lay (cap := cap) (a := a) (f := 0) (n := n) (b := fl) sm (by omega) (by omega) (by omega)
  rw [Nat.zero_add, List.drop_zero] at hP hL
  have e1 : (a + n ≤ M.length ∨ a + n ≤ T.length) → arI .add .u64 (a : Int) (n : Int) = ((a + n : Nat) : Int) := fun h => by show IntKind.u64.wrap _ = _; rw [wu (by omega) (by omega)]; omega
  obtain ⟨c1, b1, x1, x2, x3, x4, x5, hP', hx⟩ : ∃ c1 b1 x1 x2 x3 x4 x5, F11 [cap, (a : Int), ((0 : Nat) : Int), (n : Int)] [] [M, T, G, E', D', bl] = some ([c1], [b1], [x1, x2, x3, x4, x5]) ∧
      ((b1 = true ∧ n ≤ bl.length ∧ a + n ≤ M.length ∧ c1 = cap ∧ x1 = ins a (bl.take n) M ∧ x2 = T ∧ x3 = G ∧ x4 = E' ∧ x5 = D') ∨ b1 = false) := by
    by_cases ho : okB a 0 n M bl = true
    · rw [if_pos ho] at hP
      unfold okB at ho
      simp only [Nat.zero_add, Bool.and_eq_true, decide_eq_true_eq] at ho
      exact ⟨_, _, _, _, _, _, _, hP, .inl ⟨rfl, ho.1, ho.2, rfl, rfl, rfl, rfl, rfl, rfl⟩⟩
    · rw [if_neg ho] at hP
      exact ⟨_, _, _, _, _, _, _, hP, .inr rfl⟩
  obtain ⟨c2, b2, y1, y2, y3, y4, y5, hL', hy⟩ : ∃ c1 b1 x1 x2 x3 x4 x5, F8 [cap, (a : Int), ((0 : Nat) : Int), (n : Int)] [] [M, T, G, E', D', fl] = some ([c1], [b1], [x1, x2, x3, x4, x5]) ∧
      ((b1 = true ∧ n ≤ fl.length ∧ a + n ≤ T.length ∧ x2 = ins a (fl.take n) T) ∨ b1 = false) := by
    by_cases ho : okB a 0 n T fl = true
    · rw [if_pos ho] at hL
      unfold okB at ho
      simp only [Nat.zero_add, Bool.and_eq_true, decide_eq_true_eq] at ho
      exact ⟨_, _, _, _, _, _, _, hL, .inl ⟨rfl, ho.1, ho.2, rfl⟩⟩
    · rw [if_neg ho] at hL
      exact ⟨_, _, _, _, _, _, _, hL, .inr rfl⟩
  refine d_callx [cap, (a : Int), ((0 : Nat) : Int), (n : Int)] [] [M, T, G, E', D', bl] ([c1], [b1], [x1, x2, x3, x4, x5]) e4_11 rfl rfl rfl hP' rfl ?_
  refine d_jn 0 ([], [false], [if b1 = true then M else x1]) ?_ rfl (d_rq rfl ?_)
  · rcases hx with ⟨rfl, h1, h2, rfl, rfl, rfl, rfl, rfl, rfl⟩ | rfl
    · rw [if_pos rfl]
      have e1 := e1 (.inl h2)
      obtain ⟨V, hV⟩ : ∃ V, V = bl.take n := ⟨_, rfl⟩
      have lV : V.length = n := by rw [hV, List.length_take]; omega
      have bV : D.bytesB V = true := by rw [hV]; exact bytesB_take bb n
      have hl : a + V.length ≤ M.length := by omega
      rw [← hV]
      have bI := bytesB_ins (a := a) bV bM
      have len := ins_len hl
      have mid := ins_mid hl
      have hd := ins_head hl
      have tl := ins_tail hl
      rw [lV] at mid tl
      have bA := bytesB_take bM a
      have bB := bytesB_drop bM (a + n)
      obtain ⟨A, hA⟩ : ∃ A, A = M.take a := ⟨_, rfl⟩
      obtain ⟨B, hB⟩ : ∃ B, B = M.drop (a + n) := ⟨_, rfl⟩
      rw [← hA] at hd bA
      rw [← hB] at tl bB
      generalize ins a V M = M' at *
      refine d_itT rfl (d_itT ?_ ?_)
      · show (!((M'.length : Int) != (M.length : Int))) = true
        rw [len]; simp
      have lI : (M'.length : Int) = (M.length : Int) := by omega
      refine d_rq (c := E.an _ _) (show (decide ((0 : Int) ≤ (a : Int)) && (decide ((a : Int) ≤ arI .add .u64 (a : Int) (n : Int)) && decide (arI .add .u64 (a : Int) (n : Int) ≤ (M'.length : Int)))) = true by rw [e1]; exact rq3 (by omega) (by omega) (by omega)) ?_
      refine d_lst [V] (by show [(M'.take (arI .add .u64 (a : Int) (n : Int)).toNat).drop ((a : Int)).toNat] = _; rw [e1, Int.toNat_natCast, Int.toNat_natCast, mid]) ?_
      refine d_rq bV (d_lst [V] rfl (d_rq (c := E.an _ _) (show (decide ((0 : Int) ≤ (n : Int)) && decide ((n : Int) ≤ (bl.length : Int))) = true from rq2 (by omega) (by omega)) ?_))
      refine d_lst [V] (by show [(bl.take ((n : Int)).toNat).drop ((0 : Int)).toNat] = _; rw [hV, Int.toNat_natCast]; rfl) ?_
      refine d_rq bV (d_lst [V] rfl (d_itT (D.sameL_refl V) ?_))
      refine d_rq (c := E.an _ _) (show (decide ((0 : Int) ≤ (a : Int)) && decide ((a : Int) ≤ (M'.length : Int))) = true from rq2 (by omega) (by omega)) ?_
      refine d_lst [A] (by show [(M'.take ((a : Int)).toNat).drop ((0 : Int)).toNat] = _; rw [Int.toNat_natCast, hd]; rfl) ?_
      refine d_rq bA (d_lst [A] rfl ?_)
      refine d_rq (c := E.an _ _) (show (decide ((0 : Int) ≤ (a : Int)) && decide ((a : Int) ≤ (M.length : Int))) = true from rq2 (by omega) (by omega)) ?_
      refine d_lst [A] (by show [(M.take ((a : Int)).toNat).drop ((0 : Int)).toNat] = _; rw [hA, Int.toNat_natCast]; rfl) ?_
      refine d_rq bA (d_lst [A] rfl (d_itT (D.sameL_refl A) ?_))
      refine d_rq (c := E.an _ _) (show (decide ((0 : Int) ≤ arI .add .u64 (a : Int) (n : Int)) && (decide (arI .add .u64 (a : Int) (n : Int) ≤ (M'.length : Int)) && decide ((M'.length : Int) ≤ (M'.length : Int)))) = true by rw [e1]; exact rq3 (by omega) (by omega) (by omega)) ?_
      refine d_lst [B] (by show [(M'.take ((M'.length : Int)).toNat).drop (arI .add .u64 (a : Int) (n : Int)).toNat] = _; rw [e1, Int.toNat_natCast, Int.toNat_natCast, List.take_length, tl]) ?_
      refine d_rq bB (d_lst [B] rfl ?_)
      refine d_rq (c := E.an _ _) (show (decide ((0 : Int) ≤ arI .add .u64 (a : Int) (n : Int)) && (decide (arI .add .u64 (a : Int) (n : Int) ≤ (M.length : Int)) && decide ((M.length : Int) ≤ (M.length : Int)))) = true by rw [e1]; exact rq3 (by omega) (by omega) (by omega)) ?_
      refine d_lst [B] (by show [(M.take ((M.length : Int)).toNat).drop (arI .add .u64 (a : Int) (n : Int)).toNat] = _; rw [hB, e1, Int.toNat_natCast, Int.toNat_natCast, List.take_length]) ?_
      refine d_rq bB (d_lst [B] rfl (d_itF ?_ ?_))
      · show (!(D.sameL B B)) = false
        rw [D.sameL_refl]; rfl
      refine d_callx [c1, c1] [] [M, x2, x3, x4, x5, M, x2, x3, x4, x5] ([], [true], []) e4_10 rfl rfl rfl (q_same13 bM (by omega) (by omega) (by omega) (by omega)) rfl (d_itF rfl rfl)
    · exact d_itF rfl rfl
  obtain ⟨x6, hx6⟩ : ∃ x6, x6 = if b1 = true then M else x1 := ⟨_, rfl⟩
  rw [← hx6]
  refine d_callx [cap, (a : Int), ((0 : Nat) : Int), (n : Int)] [] [M, T, G, E', D', fl] ([c2], [b2], [y1, y2, y3, y4, y5]) e4_8 rfl rfl rfl hL' rfl ?_
  rcases hy with ⟨rfl, h1, h2, rfl⟩ | rfl
  · have e1 := e1 (.inr h2)
    obtain ⟨V, hV⟩ : ∃ V, V = fl.take n := ⟨_, rfl⟩
    have lV : V.length = n := by rw [hV, List.length_take]; omega
    have hl : a + V.length ≤ T.length := by omega
    rw [← hV]
    have len := ins_len hl
    have get : ∀ i, i < T.length → (ins a V T).getD i (.i 0) = if a ≤ i ∧ i < a + n then fl.getD (i - a) (.i 0) else T.getD i (.i 0) := fun i hi => by
      rw [ins_at hl hi, lV]
      split
      · rename_i h
        rw [hV, List.getD_eq_getElem?_getD, List.getD_eq_getElem?_getD, List.getElem?_take_of_lt (by omega)]
      · rfl
    generalize ins a V T = T' at *
    refine d_itT rfl ?_
    refine d_loop (fun i => ([(i : Int)], [false], [])) T.length (by omega) 2 ([(T.length : Int)], [false], []) rfl (fun i hi => ?_) (fun _ _ => rfl) ?_ rfl ?_
    · show Vx.T.den _ l4_1 [cap, (a : Int), (n : Int), c1, 0, c2, (i : Int)] [true, true, false, b1, false, true, false] [M, T, G, E', D', fl, bl, x1, x2, x3, x4, x5, x6, y1, T', y3, y4, y5] = some (.nxt ([((i + 1 : Nat) : Int)], [false], []))
      have lI : (T'.length : Int) = (T.length : Int) := by omega
      have wi_ : IntKind.u64.wrap (i : Int) = (i : Int) := wu (by omega) (by omega)
      unfold l4_1
      refine d_itT (lt_t (show (i : Int) < (T.length : Int) by omega)) ?_
      have g := get i hi
      have nx : some (Out.nxt ([arI .add .i64 (i : Int) 1], [false], [])) = some (Out.nxt ([((i + 1 : Nat) : Int)], [false], [])) := by rw [up1 i (by omega)]
      by_cases hin : a ≤ i ∧ i < a + n
      · rw [if_pos hin] at g
        have sb : arI .sub .u64 (IntKind.u64.wrap (i : Int)) (a : Int) = ((i - a : Nat) : Int) := by
          rw [wi_]; show IntKind.u64.wrap _ = _; rw [wu (by omega) (by omega)]; omega
        refine d_lb true ?_ ?_
        · show (decide (IntKind.u64.wrap (i : Int) ≥ (a : Int)) && decide (IntKind.u64.wrap (i : Int) < arI .add .u64 (a : Int) (n : Int))) = true
          rw [wi_, e1]; simp; omega
        refine d_rq (c := E.oo _ _) ?_ (d_itT rfl ?_)
        · show (!true || (decide ((i : Int) ≥ (0 : Int)) && decide ((i : Int) < (T'.length : Int)))) = true
          rw [ix2 (by omega) (by omega)]; rfl
        have ri : (decide (arI .sub .u64 (IntKind.u64.wrap (i : Int)) (a : Int) ≥ (0 : Int)) && decide (arI .sub .u64 (IntKind.u64.wrap (i : Int)) (a : Int) < (fl.length : Int))) = true := by rw [sb]; exact ix2 (by omega) (by omega)
        refine d_rq (c := E.an _ _) (show (decide ((i : Int) ≥ (0 : Int)) && decide ((i : Int) < (T'.length : Int))) = true from ix2 (by omega) (by omega)) (d_rq (c := E.an _ _) ri (d_rq (c := E.an _ _) ri ?_))
        refine d_lb false ?_ (d_itF rfl nx)
        show (((T'.getD ((i : Int)).toNat (.i 0)).cell 0).int != ((fl.getD (arI .sub .u64 (IntKind.u64.wrap (i : Int)) (a : Int)).toNat (.i 0)).cell 0).int) = false
        rw [sb, Int.toNat_natCast, Int.toNat_natCast, g]
        exact ne_f rfl
      · rw [if_neg hin] at g
        refine d_lb false ?_ ?_
        · show (decide (IntKind.u64.wrap (i : Int) ≥ (a : Int)) && decide (IntKind.u64.wrap (i : Int) < arI .add .u64 (a : Int) (n : Int))) = false
          rw [wi_, e1]
          rw [Bool.and_eq_false_iff, decide_eq_false_iff_not, decide_eq_false_iff_not]
          omega
        refine d_rq (c := E.oo _ _) rfl (d_itF rfl ?_)
        have r1 : (decide ((i : Int) ≥ (0 : Int)) && decide ((i : Int) < (T'.length : Int))) = true := ix2 (by omega) (by omega)
        refine d_rq (c := E.an _ _) r1 (d_rq (c := E.an _ _) r1 (d_rq (ge_t (show (0 : Int) ≤ (i : Int) by omega)) (d_itF ?_ nx)))
        show (((T'.getD ((i : Int)).toNat (.i 0)).cell 0).int != ((T.getD ((i : Int)).toNat (.i 0)).cell 0).int) = false
        rw [Int.toNat_natCast, g]
        exact ne_f rfl
    · show Vx.T.den _ l4_1 [cap, (a : Int), (n : Int), c1, 0, c2, (T.length : Int)] [true, true, false, b1, false, true, false] [M, T, G, E', D', fl, bl, x1, x2, x3, x4, x5, x6, y1, T', y3, y4, y5] = _
      unfold l4_1
      exact d_itF (lt_f (show (T.length : Int) ≤ (T.length : Int) by omega)) rfl
    · unfold k4_2
      refine d_rq rfl ?_
      show some (Out.ret ([], [((T'.length : Int) == (T.length : Int))], [])) = _
      rw [eq_t (by omega)]
  · exact d_itF rfl rfl
end Go.Proofs.Ytambhhochajgnaa.YInstTouches
