/-
  TypReads, of numbers and bytes alone: the law answers true.
-/
import Derived.Test.YthmiladfdndciaaSTypReads
import Derived.Test.YthmiladfdndciaaVr
namespace Go.Proofs.Ythmiladfdndciaa.YTypReads
set_option linter.all false
open Go.Proofs.Ythmiladfdndciaa.Vx Go.Proofs.Ythmiladfdndciaa.XTypReads Go.Proofs.Ythmiladfdndciaa.Vd Go.Proofs.Ythmiladfdndciaa.Vn Go.Proofs.Ythmiladfdndciaa.Vl Go.Proofs.Ythmiladfdndciaa.Vp Go.Proofs.Ythmiladfdndciaa.Vb Go.Proofs.Ythmiladfdndciaa.STypReads Go.Proofs.Ythmiladfdndciaa.Vr
theorem bytes_of : ∀ {l : List D}, (∀ x ∈ l, ∃ ds, x = mkD ds ∧ CT.wfL [.i .u8] ds) → ∃ m, l = dl m ∧ Bytes m
  | [], _ => ⟨[], rfl, fun x hx => by cases hx⟩
  | x :: l, h => by
    obtain ⟨m, rfl, hm⟩ := bytes_of fun y hy => h y (List.mem_cons_of_mem _ hy)
    obtain ⟨ds, rfl, hd⟩ := h x List.mem_cons_self
    simp only [CT.wfL, CT.wf] at hd
    obtain ⟨d, r, rfl, ⟨n, rfl, hn⟩, rfl⟩ := hd
    refine ⟨n :: m, rfl, fun y hy => ?_⟩
    rcases List.mem_cons.1 hy with rfl | hy
    · simp [Lit.wf, IntKind.bits, IntKind.signed, IntKind.min, IntKind.max] at hn; omega
    · exact hm y hy
theorem q_awake : F7 [] [] [] = some ([], [true], []) := by kernel_rfl
theorem law (l0 : List D) (h0 : CT.wf (.sl [.i .u8]) (.l l0)) : F4 [] [] [l0] = some ([], [true], []) := by
  simp only [CT.wf] at h0
  obtain ⟨_, hxs, _, hds⟩ := h0
  cases hxs
  obtain ⟨p0, rfl, hp0⟩ := bytes_of hds
  refine of_ret ?_
  unfold t4
  refine d_callx [] [] [] ([], [true], []) e4_7 rfl rfl rfl q_awake rfl (d_itF rfl ?_)
  have emin : ∀ q : List Int, (if (300 : Int) < (((dl q).length : Nat) : Int) then (300 : Int) else (((dl q).length : Nat) : Int)) = ((min q.length 300 : Nat) : Int) := fun q => by rw [dl_len]; split <;> omega
  have ecut : ∀ q : List Int, ((dl q).take ((min q.length 300 : Nat) : Int).toNat).drop (0 : Int).toNat = dl (q.take 300) := fun q => by
    simp [dl, List.map_take]
    omega
  refine d_rq (by simp only [E.B, E.I, cmB, List.append_nil, List.getD_cons_zero, emin, dl_len, Bool.and_eq_true, decide_eq_true_eq]; omega) ?_
  refine d_lst [dl (p0.take 300)] (congrArg (fun y => [y]) (by rw [← ecut, ← emin]; rfl)) ?_
  generalize hp : p0.take 300 = p
  have hpb : Bytes p := hp ▸ hp0.take 300
  have hpl : p.length ≤ 300 := by rw [← hp, List.length_take]; omega
  have h8 := q_func hpb (by omega)
  have h11 := q_rfunc hpb (by omega)
  have hlen := fun a b n => funcP_len (l := p) (a := a) (b := b) (n := n)
  obtain ⟨a, b, n, e, ha, hb2, h8, h11⟩ : ∃ (a b : List Int) (n e : Int), a.length ≤ 8 ∧ b.length ≤ 8 ∧ F8 [] [] [dl p] = some ([n, e], [], [dl a, dl b]) ∧ F11 [] [] [dl p] = some ([n, e], [], [dl a, dl b]) := by
    generalize funcP p = V at h8 h11 hlen
    cases V with
    | err e => exact ⟨[], [], 0, e, by simp, by simp, h8, h11⟩
    | ok ab n =>
      obtain ⟨a, b⟩ := ab
      obtain ⟨la, lb⟩ := hlen a b n rfl
      exact ⟨a, b, n, 0, la, lb, h8, h11⟩
  refine d_callx [] [] [dl p] ([n, e], [], [dl a, dl b]) e4_8 rfl rfl rfl h8 rfl ?_
  refine d_callx [] [] [dl p] ([n, e], [], [dl a, dl b]) e4_11 rfl rfl rfl h11 rfl ?_
  refine d_callx [] [] [dl a, dl b, dl a, dl b] ([], [true], []) e4_10 rfl rfl rfl (q_same _ _ (by rw [dl_len]; omega) (by rw [dl_len]; omega)) rfl ?_
  refine d_lb false ?_ (d_itF rfl ?_)
  · show ((!true || (n != n)) || (e != e)) = false
    simp
  obtain ⟨rl, hrl⟩ : ∃ x, x = limO p := ⟨_, rfl⟩
  have h12 := q_limits hpb (by omega)
  have h13 := q_rlimits hpb (by omega)
  have hsh : ∃ a b c d x, limO p = ([a, b, c, d], [x], []) := by
    unfold limO
    split
    · exact ⟨_, _, _, _, _, rfl⟩
    · exact ⟨_, _, _, _, _, rfl⟩
  obtain ⟨la, lb, lc, ld, lx, hlim⟩ := hsh
  rw [hlim] at h12 h13
  refine d_callx [] [] [dl p] ([la, lb, lc, ld], [lx], []) e4_12 rfl rfl rfl h12 rfl ?_
  refine d_callx [] [] [dl p] ([la, lb, lc, ld], [lx], []) e4_13 rfl rfl rfl h13 rfl ?_
  refine d_lb false ?_ (d_lb false ?_ (d_itF rfl ?_))
  · show (!((la == la) && ((lx == lx) && (lb == lb)))) = false
    simp
  · show ((false || (lc != lc)) || (ld != ld)) = false
    simp
  have h14 := q_block hpb (by omega)
  have h15 := q_rblock hpb (by omega)
  have hsh : ∃ a b c, blockO p = ([a, b, c], [], []) := by
    unfold blockO
    split
    · exact ⟨_, _, _, rfl⟩
    · exact ⟨_, _, _, rfl⟩
  obtain ⟨ba, bb, bc, hbl⟩ := hsh
  rw [hbl] at h14 h15
  refine d_callx [] [] [dl p] ([ba, bb, bc], [], []) e4_14 rfl rfl rfl h14 rfl ?_
  refine d_callx [] [] [dl p] ([ba, bb, bc], [], []) e4_15 rfl rfl rfl h15 rfl ?_
  refine d_lb false ?_ (d_itF ?_ ?_)
  · show ((ba != ba) || (bb != bb)) = false
    simp
  · show (false || (bc != bc)) = false
    simp
  show Vx.T.den _ _ [n, e, n, e, la, lb, lc, ld, la, lb, lc, ld, ba, bb, bc, ba, bb, bc] [true, true, false, lx, lx, false, false, false] [dl p0, dl p, dl a, dl b, dl a, dl b] = _
  have hv := q_val hpb
  cases p with
  | nil =>
    refine d_callx [] [] [dl []] ([0, 0, 1], [], []) e4_16 rfl rfl rfl hv rfl ?_
    exact d_itT rfl (d_lb true rfl rfl)
  | cons x r =>
    have hx := hpb x List.mem_cons_self
    have el : (((dl (x :: r)).length : Nat) : Int) = (r.length : Int) + 1 := by simp [dl]
    rw [valP_cons] at hv
    have hrv := q_rval hx.1 hx.2
    by_cases hE : valE x = 0
    · simp only [if_pos hE] at hv hrv
      refine d_callx [] [] [dl (x :: r)] ([x, 1, 0], [], []) e4_16 rfl rfl rfl hv rfl ?_
      refine d_itF (show ((((dl (x :: r)).length : Nat) : Int) == 0) = false from eq_f (by rw [el]; omega)) (d_rq (show decide ((0 : Int) < (((dl (x :: r)).length : Nat) : Int)) = true from lt_t (by rw [el]; omega)) ?_)
      rw [hE] at hrv
      refine d_callx [x] [] [] ([x, 0], [], []) e4_17 rfl rfl rfl hrv rfl ?_
      refine d_lb true ?_ (d_lb true rfl rfl)
      show ((x == x) && ((0 : Int) == 0)) = true
      simp
    · simp only [if_neg hE] at hv hrv
      refine d_callx [] [] [dl (x :: r)] ([0, 0, valE x], [], []) e4_16 rfl rfl rfl hv rfl ?_
      refine d_itF (show ((((dl (x :: r)).length : Nat) : Int) == 0) = false from eq_f (by rw [el]; omega)) (d_rq (show decide ((0 : Int) < (((dl (x :: r)).length : Nat) : Int)) = true from lt_t (by rw [el]; omega)) ?_)
      refine d_callx [x] [] [] ([0, valE x], [], []) e4_17 rfl rfl rfl hrv rfl ?_
      refine d_lb true ?_ (d_lb true ?_ rfl)
      · show (((0 : Int) == 0) && (valE x == valE x)) = true
        simp
      · show (((0 : Int) == 1) == (valE x == 0)) = true
        rw [eq_f hE]; rfl
end Go.Proofs.Ythmiladfdndciaa.YTypReads
