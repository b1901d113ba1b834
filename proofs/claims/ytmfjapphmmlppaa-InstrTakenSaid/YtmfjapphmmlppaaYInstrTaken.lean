/-
  InstrTaken, of numbers and bytes alone: the law answers true.
-/
import Derived.Test.YtmfjapphmmlppaaInPtInstrTaken
import Derived.Test.YtmfjapphmmlppaaVr
namespace Go.Proofs.Ytmfjapphmmlppaa.YInstrTaken
set_option linter.all false
open Go.Proofs.Ytmfjapphmmlppaa.Vx Go.Proofs.Ytmfjapphmmlppaa.XInstrTaken Go.Proofs.Ytmfjapphmmlppaa.Vd Go.Proofs.Ytmfjapphmmlppaa.Vn Go.Proofs.Ytmfjapphmmlppaa.Vl Go.Proofs.Ytmfjapphmmlppaa.Vp Go.Proofs.Ytmfjapphmmlppaa.Vb Go.Proofs.Ytmfjapphmmlppaa.SInstrTaken Go.Proofs.Ytmfjapphmmlppaa.Vo Go.Proofs.Ytmfjapphmmlppaa.Vt Go.Proofs.Ytmfjapphmmlppaa.IInstrTaken Go.Proofs.Ytmfjapphmmlppaa.PInstrTaken Go.Proofs.Ytmfjapphmmlppaa.Vr
theorem bytes_of : ∀ {l : List D}, (∀ x ∈ l, ∃ ds, x = mkD ds ∧ CT.wfL [.i .u8] ds) → ∃ m, l = dl m ∧ Bytes m
  | [], _ => ⟨[], rfl, fun x hx => by cases hx⟩
  | x :: l, h => by
    obtain ⟨m, rfl, hm⟩ := bytes_of fun y hy => h y (List.mem_cons_of_mem _ hy)
    obtain ⟨ds, rfl, hd⟩ := h x List.mem_cons_self
    simp only [CT.wfL, CT.wf] at hd
    obtain ⟨d, r, rfl, ⟨n, rfl, hn⟩, rfl⟩ := hd
    refine ⟨n :: m, rfl, fun y hy => ?_⟩
    rcases List.mem_cons.1 hy with rfl | hy
    · simp [Lit.wf, IntKind.bits, IntKind.signed, IntKind.min, IntKind.max] at hn; omega
    · exact hm y hy
theorem q_awake : F8 [] [] [] = some ([], [true], []) := by kernel_rfl
theorem law (B : List D) (h0 : CT.wf (.sl [.i .u8]) (.l B)) : F7 [] [] [B] = some ([], [true], []) := by
  simp only [CT.wf] at h0
  obtain ⟨_, hxs, _, hds⟩ := h0
  cases hxs
  obtain ⟨m, rfl, hm⟩ := bytes_of hds
  refine of_ret ?_
  unfold t7
  refine d_callx [] [] [] ([], [true], []) e7_8 rfl rfl rfl q_awake rfl (d_itF rfl ?_)
  have emin : (if (4000 : Int) < ((dl m).length : Int) then (4000 : Int) else ((dl m).length : Int)) = ((min m.length 4000 : Nat) : Int) := by rw [dl_len]; split <;> omega
  have hq : (decide ((0 : Int) ≤ (if (4000 : Int) < ((dl m).length : Int) then (4000 : Int) else ((dl m).length : Int))) && decide ((if (4000 : Int) < ((dl m).length : Int) then (4000 : Int) else ((dl m).length : Int)) ≤ ((dl m).length : Int))) = true := by
    rw [emin, dl_len]; exact an_t (le_t (by omega)) (le_t (by omega))
  obtain ⟨l, hl⟩ : ∃ l, l = m.take 4000 := ⟨_, rfl⟩
  have hll : l.length ≤ 4000 := by rw [hl, List.length_take]; omega
  have hb : Bytes l := hl ▸ hm.take 4000
  have ecut : ((dl m).take (if (4000 : Int) < ((dl m).length : Int) then (4000 : Int) else ((dl m).length : Int)).toNat).drop (0 : Int).toNat = dl l := by
    rw [emin, hl]
    unfold dl
    rw [List.map_take, Int.toNat_natCast]
    show (m.map D.i).take (min m.length 4000) = _
    by_cases h : m.length ≤ 4000
    · rw [Nat.min_eq_left h, List.take_of_length_le (by simp), List.take_of_length_le (by simp; omega)]
    · rw [Nat.min_eq_right (by omega)]
  refine d_rq hq (d_lst [dl l] (congrArg (fun z => [z]) ecut) ?_)
  have hB := q_Body hb (by omega)
  have st := bodyP_stbl 2001 [] []
  have hle := st.le l
  have hnz := st.nz l
  have hrun := fun res n => body_run 2001 [] [] l res n hb
  generalize bodyP 2001 [] [] l = W at *
  clear ecut emin hq
  generalize dl m = M at *
  rcases q_One hb (by omega) with ⟨e, he, _, h1⟩ | ⟨x, n, hx, h1⟩
  · refine d_callx [] [] [dl l] _ e7_23 rfl rfl rfl h1 rfl (d_itF (eq_f he) ?_)
    cases W with
    | err y =>
      have hy := hnz y rfl
      refine d_callx [] [] [dl l] ([0, y], [], [[]]) e7_9 rfl rfl rfl hB rfl (d_itT (ne_t hy) (d_lb true rfl rfl))
    | ok out n =>
      obtain ⟨xs, rfl, r1, r2, r3, r4, r5⟩ := hrun out n rfl
      rw [List.nil_append] at hB
      have hn := hle _ n rfl
      have hn' : ((0 + n : Nat) : Int) = (n : Int) := by omega
      have r5 : xs.length ≤ 2000 := by simp at r5; omega
      have hc := q_closedT r1 r2 r5
      have hp := q_PutBody r1 r2 r5 (by omega)
      have hml : (xs.map Ins.D).length = xs.length := List.length_map _
      have hdl : (dl (bodyB xs)).length = (bodyB xs).length := dl_len _
      generalize xs.map Ins.D = Q at *
      generalize dl (bodyB xs) = Z at *
      refine d_callx [] [] [dl l] ([((0 + n : Nat) : Int), 0], [], [Q]) e7_9 rfl rfl rfl hB rfl (d_itF rfl ?_)
      refine d_callx [] [] [[], Q] _ e7_11 rfl rfl rfl hp rfl (d_itT rfl ?_)
      refine d_callx [] [] [Q] _ e7_12 rfl rfl rfl hc rfl (d_lb true ?_ rfl)
      show ((true && decide ((Z.length : Int) ≤ ((0 + n : Nat) : Int))) && decide ((Q.length : Int) ≤ ((0 + n : Nat) : Int))) = true
      rw [le_t (show (Z.length : Int) ≤ ((0 + n : Nat) : Int) by omega), le_t (show (Q.length : Int) ≤ ((0 + n : Nat) : Int) by omega)]; rfl
  · obtain ⟨g1, g2, g3⟩ := instr_min hb hx
    have hP := q_Put g1
    have hF := q_formedT g1
    have hbl : (dl (insB x)).length = (insB x).length := dl_len _
    generalize dl (insB x) = Y at *
    refine d_callx [] [] [dl l] _ e7_23 rfl rfl rfl h1 rfl (d_itT rfl ?_)
    refine d_callx [(x.op : Int), x.a, x.b, x.k] [] [[], dl x.L] _ e7_14 rfl rfl rfl hP rfl (d_itT rfl ?_)
    refine d_callx [(x.op : Int), x.a, x.b, x.k] [] [dl x.L] _ e7_16 rfl rfl rfl hF rfl (d_itF ?_ ?_)
    · show (!true || decide ((Y.length : Int) > (n : Int))) = false
      rw [gt_f (show (Y.length : Int) ≤ (n : Int) by omega)]; rfl
    cases W with
    | err y =>
      have hy := hnz y rfl
      refine d_callx [] [] [dl l] ([0, y], [], [[]]) e7_9 rfl rfl rfl hB rfl (d_itT (ne_t hy) (d_lb true rfl rfl))
    | ok out n =>
      obtain ⟨xs, rfl, r1, r2, r3, r4, r5⟩ := hrun out n rfl
      rw [List.nil_append] at hB
      have hn := hle _ n rfl
      have r5 : xs.length ≤ 2000 := by simp at r5; omega
      have hc := q_closedT r1 r2 r5
      have hp := q_PutBody r1 r2 r5 (by omega)
      have hml : (xs.map Ins.D).length = xs.length := List.length_map _
      have hdl : (dl (bodyB xs)).length = (bodyB xs).length := dl_len _
      generalize xs.map Ins.D = Q at *
      generalize dl (bodyB xs) = Z at *
      refine d_callx [] [] [dl l] ([((0 + n : Nat) : Int), 0], [], [Q]) e7_9 rfl rfl rfl hB rfl (d_itF rfl ?_)
      refine d_callx [] [] [[], Q] _ e7_11 rfl rfl rfl hp rfl (d_itT rfl ?_)
      refine d_callx [] [] [Q] _ e7_12 rfl rfl rfl hc rfl (d_lb true ?_ rfl)
      show ((true && decide ((Z.length : Int) ≤ ((0 + n : Nat) : Int))) && decide ((Q.length : Int) ≤ ((0 + n : Nat) : Int))) = true
      rw [le_t (show (Z.length : Int) ≤ ((0 + n : Nat) : Int) by omega), le_t (show (Q.length : Int) ≤ ((0 + n : Nat) : Int) by omega)]; rfl
end Go.Proofs.Ytmfjapphmmlppaa.YInstrTaken
