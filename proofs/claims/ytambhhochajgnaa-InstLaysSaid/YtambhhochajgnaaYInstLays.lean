/-
  InstLays, of numbers and lists alone: the law answers true.
-/
import Derived.Test.YtambhhochajgnaaRefInstInstLays
import Derived.Test.YtambhhochajgnaaVr
namespace Go.Proofs.Ytambhhochajgnaa.YInstLays
set_option linter.all false
open Go.Proofs.Ytambhhochajgnaa.Vx Go.Proofs.Ytambhhochajgnaa.XInstLays Go.Proofs.Ytambhhochajgnaa.Vd Go.Proofs.Ytambhhochajgnaa.Vn Go.Proofs.Ytambhhochajgnaa.Vl Go.Proofs.Ytambhhochajgnaa.Vp Go.Proofs.Ytambhhochajgnaa.Vb Go.Proofs.Ytambhhochajgnaa.SInstLays Go.Proofs.Ytambhhochajgnaa.Vo Go.Proofs.Ytambhhochajgnaa.IInstLays Go.Proofs.Ytambhhochajgnaa.AInstLays Go.Proofs.Ytambhhochajgnaa.RInstLays Go.Proofs.Ytambhhochajgnaa.Vr
theorem bytesB_of : ∀ {l : List D}, (∀ x ∈ l, ∃ ds, x = mkD ds ∧ CT.wfL [.i .u8] ds) → D.bytesB l = true
  | [], h => rfl
  | x :: l, h => by
    have ih := bytesB_of fun y hy => h y (List.mem_cons_of_mem _ hy)
    obtain ⟨ds, rfl, hd⟩ := h x List.mem_cons_self
    simp only [CT.wfL, CT.wf] at hd
    obtain ⟨d, r, rfl, ⟨n, rfl, hn⟩, rfl⟩ := hd
    simp [Lit.wf, IntKind.bits, IntKind.signed, IntKind.min, IntKind.max] at hn
    simp only [mkD, D.bytesB, ih, Bool.and_true, decide_eq_true_eq]
    omega
theorem nums_of {l : List D} (h : ∀ x ∈ l, ∃ ds, x = mkD ds ∧ CT.wfL [.i .i64] ds) : numsB l := fun i hi => by
  obtain ⟨ds, e, hd⟩ := h l[i] (List.getElem_mem hi)
  simp only [CT.wfL, CT.wf] at hd
  obtain ⟨d, r, rfl, ⟨n, rfl, hn⟩, rfl⟩ := hd
  rw [List.getD_eq_getElem?_getD, List.getElem?_eq_getElem hi, Option.getD_some, e]; rfl
theorem wf_int {n : Int} (h : (Lit.int .i64 n).wf = true) : -9223372036854775808 ≤ n ∧ n < 9223372036854775808 := by
  simp [Lit.wf, IntKind.bits, IntKind.signed, IntKind.min, IntKind.max] at h; omega
theorem wf_u64 {n : Int} (h : (Lit.int .u64 n).wf = true) : 0 ≤ n ∧ n < 18446744073709551616 := by
  simp [Lit.wf, IntKind.bits, IntKind.signed, IntKind.min, IntKind.max] at h; omega
theorem bytesB_rep (n : Nat) : D.bytesB (List.replicate n (.i 0)) = true := by
  induction n with
  | zero => rfl
  | succ n ih => rw [List.replicate_succ]; simp only [D.bytesB, ih, Bool.and_true, decide_eq_true_eq]; omega
theorem be_t (b : Bool) : (b == b) = true := by simp
set_option maxHeartbeats 4000000 in
theorem law (cap at_ f_ n_ : Int) (ok : Bool) (M T G E' D' fl bl : List D) (hM : CT.wf (.sl [.i .u8]) (.l M)) (hcap : (Lit.int .i64 cap).wf = true) (hT : CT.wf (.sl [.i .i64]) (.l T)) (hG : CT.wf (.sl [.i .u64]) (.l G)) (hE : CT.wf (.sl [.b]) (.l E')) (hD : CT.wf (.sl [.b]) (.l D'))
    (hf : CT.wf (.sl [.i .i64]) (.l fl)) (hb : CT.wf (.sl [.i .u8]) (.l bl)) (hat : (Lit.int .u64 at_).wf = true) (hfr : (Lit.int .u64 f_).wf = true) (hn : (Lit.int .u64 n_).wf = true) :
    F3 [cap, at_, f_, n_] [ok] [M, T, G, E', D', fl, bl] = some ([], [true], []) := by
  simp only [CT.wf] at hM hb hT hf
  obtain ⟨_, hx, _, hM⟩ := hM
  cases hx
  obtain ⟨_, hx, _, hb⟩ := hb
  cases hx
  obtain ⟨_, hx, _, hT⟩ := hT
  cases hx
  obtain ⟨_, hx, _, hf⟩ := hf
  cases hx
  have bM := bytesB_of hM
  have bb := bytesB_of hb
  have nT := nums_of hT
  have nf := nums_of hf
  clear hM hb hT hG hE hD hf
  have hcap := wf_int hcap
  have hat := wf_u64 hat
  have hfr := wf_u64 hfr
  have hn := wf_u64 hn
  obtain ⟨a, rfl⟩ : ∃ a : Nat, at_ = (a : Int) := ⟨at_.toNat, by omega⟩
  obtain ⟨f, rfl⟩ : ∃ f : Nat, f_ = (f : Int) := ⟨f_.toNat, by omega⟩
  obtain ⟨n, rfl⟩ : ∃ n : Nat, n_ = (n : Int) := ⟨n_.toNat, by omega⟩
  refine of_ret ?_
  unfold t3
  refine d_callx [] [] [] ([], [true], []) e3_5 rfl rfl rfl q_awake rfl (d_itF rfl ?_)
  refine d_callx [cap] [] [M, T, G, E', D'] ([], [smB M T G E' D'], []) e3_6 rfl rfl rfl q_small rfl ?_
  by_cases hg : (!(smB M T G E' D') || decide ((fl.length : Int) > 100) || decide ((bl.length : Int) > 1000)) = true
  · exact d_lb true hg (d_itT rfl rfl)
  have hg := Bool.eq_false_iff.2 hg
  refine d_lb false hg (d_itF rfl ?_)
  rw [Bool.or_eq_false_iff, Bool.or_eq_false_iff, decide_eq_false_iff_not, decide_eq_false_iff_not] at hg
  obtain ⟨⟨hs, hfl⟩, hbl⟩ := hg
  have hsB : smB M T G E' D' = true := by simpa using hs
  have sm : Sm M T G E' D' := smB_sm hsB
  rw [hsB]
  have lm := sm.m; have lt := sm.t; have lg := sm.g; have le := sm.e; have ld := sm.d
  have hL := q_Lay (cap := cap) (a := a) (f := f) (n := n) (b := fl) sm (by omega) (by omega) (by omega)
  have hL2 := q_rLay (cap := cap) (a := a) (f := f) (n := n) (b := fl) sm (by omega) (by omega) (by omega) (by omega) nT nf
  have hP := q_Put (cap := cap) (a := a) (f := f) (n := n) (b := bl) sm (by omega) (by omega) (by omega)
  have hP2 := q_rPut (cap := cap) (a := a) (f := f) (n := n) (b := bl) sm (by omega) (by omega) (by omega) (by omega)
  have hG := q_Grow (cap := cap) (n := n) (ok := ok) sm (by omega) (by omega)
  have hG2 := q_rGrow (cap := cap) (n := n) (ok := ok) sm (by omega) (by omega)
  obtain ⟨c1, b1, x1, x2, x3, x4, x5, e1, s1⟩ : ∃ c1 b1 x1 x2 x3 x4 x5, (if okB a f n T fl = true then ([cap], [true], [M, ins a ((fl.take (f + n)).drop f) T, G, E', D']) else ([0], [false], [[], [], [], [], []])) = (([c1], [b1], [x1, x2, x3, x4, x5]) : Vx.R) ∧ F10 [c1, c1] [] [x1, x2, x3, x4, x5, x1, x2, x3, x4, x5] = some ([], [true], []) := by
    by_cases ho : okB a f n T fl = true
    · rw [if_pos ho]
      unfold okB at ho
      simp only [Bool.and_eq_true, decide_eq_true_eq] at ho
      have lV := cut_len (b := fl) ho.1
      have li := ins_len (a := a) (V := (fl.take (f + n)).drop f) (M := T) (by omega)
      exact ⟨_, _, _, _, _, _, _, rfl, q_same13 bM (by omega) (by omega) (by omega) (by omega)⟩
    · rw [if_neg ho]
      exact ⟨_, _, _, _, _, _, _, rfl, q_same13 rfl (by simp) (by simp) (by simp) (by simp)⟩
  obtain ⟨c2, b2, y1, y2, y3, y4, y5, e2, s2⟩ : ∃ c1 b1 x1 x2 x3 x4 x5, (if okB a f n M bl = true then ([cap], [true], [ins a ((bl.take (f + n)).drop f) M, T, G, E', D']) else ([0], [false], [[], [], [], [], []])) = (([c1], [b1], [x1, x2, x3, x4, x5]) : Vx.R) ∧ F10 [c1, c1] [] [x1, x2, x3, x4, x5, x1, x2, x3, x4, x5] = some ([], [true], []) := by
    by_cases ho : okB a f n M bl = true
    · rw [if_pos ho]
      exact ⟨_, _, _, _, _, _, _, rfl, q_same13 (bytesB_ins (bytesB_drop (bytesB_take bb _) _) bM) (by omega) (by omega) (by omega) (by omega)⟩
    · rw [if_neg ho]
      exact ⟨_, _, _, _, _, _, _, rfl, q_same13 rfl (by simp) (by simp) (by simp) (by simp)⟩
  obtain ⟨c3, o3, z1, z2, z3, z4, z5, e3, s3⟩ : ∃ c1 b1 x1 x2 x3 x4 x5, (if growB cap n ok M = true then ([cap, ((M.length / 65536 : Nat) : Int)], [], [M ++ List.replicate (65536 * n) (.i 0), T, G, E', D']) else ([cap, 4294967295], [], [M, T, G, E', D'])) = (([c1, b1], [], [x1, x2, x3, x4, x5]) : Vx.R) ∧ F10 [c1, c1] [] [x1, x2, x3, x4, x5, x1, x2, x3, x4, x5] = some ([], [true], []) := by
    by_cases ho : growB cap n ok M = true
    · rw [if_pos ho]
      exact ⟨_, _, _, _, _, _, _, rfl, q_same13 (bytesB_app bM (bytesB_rep _)) (by omega) (by omega) (by omega) (by omega)⟩
    · rw [if_neg ho]
      exact ⟨_, _, _, _, _, _, _, rfl, q_same13 bM (by omega) (by omega) (by omega) (by omega)⟩
  rw [e1] at hL hL2
  rw [e2] at hP hP2
  rw [e3] at hG hG2
  clear e1 e2 e3
  refine d_callx [cap] [] [M, T, G, E', D'] ([cap], [], [M, T, G, E', D']) e3_7 rfl rfl rfl (q_copy13 sm) rfl ?_
  refine d_callx [cap, (a : Int), (f : Int), (n : Int)] [] [M, T, G, E', D', fl] ([c1], [b1], [x1, x2, x3, x4, x5]) e3_8 rfl rfl rfl hL rfl ?_
  refine d_callx [cap, (a : Int), (f : Int), (n : Int)] [] [M, T, G, E', D', fl] ([c1], [b1], [x1, x2, x3, x4, x5]) e3_9 rfl rfl rfl hL2 rfl ?_
  refine d_itT (be_t b1) ?_
  refine d_callx [c1, c1] [] [x1, x2, x3, x4, x5, x1, x2, x3, x4, x5] ([], [true], []) e3_10 rfl rfl rfl s1 rfl (d_itF rfl ?_)
  refine d_callx [cap, (a : Int), (f : Int), (n : Int)] [] [M, T, G, E', D', bl] ([c2], [b2], [y1, y2, y3, y4, y5]) e3_11 rfl rfl rfl hP rfl ?_
  refine d_callx [cap, (a : Int), (f : Int), (n : Int)] [] [M, T, G, E', D', bl] ([c2], [b2], [y1, y2, y3, y4, y5]) e3_12 rfl rfl rfl hP2 rfl ?_
  refine d_itT (be_t b2) ?_
  refine d_callx [c2, c2] [] [y1, y2, y3, y4, y5, y1, y2, y3, y4, y5] ([], [true], []) e3_10 rfl rfl rfl s2 rfl (d_itF rfl ?_)
  refine d_callx [cap, (n : Int)] [ok] [M, T, G, E', D'] ([c3, o3], [], [z1, z2, z3, z4, z5]) e3_13 rfl rfl rfl hG rfl ?_
  refine d_callx [cap, (n : Int)] [ok] [M, T, G, E', D'] ([c3, o3], [], [z1, z2, z3, z4, z5]) e3_14 rfl rfl rfl hG2 rfl ?_
  refine d_itT (eq_t rfl) ?_
  refine d_callx [c3, c3] [] [z1, z2, z3, z4, z5, z1, z2, z3, z4, z5] ([], [true], []) e3_10 rfl rfl rfl s3 rfl (d_itT rfl ?_)
  exact d_callx [cap, cap] [] [M, T, G, E', D', M, T, G, E', D'] ([], [true], []) e3_10 rfl rfl rfl (q_same13 bM (by omega) (by omega) (by omega) (by omega)) rfl rfl
end Go.Proofs.Ytambhhochajgnaa.YInstLays
