/-
  InstrCut, of numbers and bytes alone: the law answers true.
-/
import Derived.Test.YtmfjapphmmlppaaInRdInstrCut
import Derived.Test.YtmfjapphmmlppaaVr
namespace Go.Proofs.Ytmfjapphmmlppaa.YInstrCut
set_option linter.all false
open Go.Proofs.Ytmfjapphmmlppaa.Vx Go.Proofs.Ytmfjapphmmlppaa.XInstrCut Go.Proofs.Ytmfjapphmmlppaa.Vd Go.Proofs.Ytmfjapphmmlppaa.Vn Go.Proofs.Ytmfjapphmmlppaa.Vl Go.Proofs.Ytmfjapphmmlppaa.Vp Go.Proofs.Ytmfjapphmmlppaa.Vb Go.Proofs.Ytmfjapphmmlppaa.SInstrCut Go.Proofs.Ytmfjapphmmlppaa.Vo Go.Proofs.Ytmfjapphmmlppaa.Vt Go.Proofs.Ytmfjapphmmlppaa.IInstrCut Go.Proofs.Ytmfjapphmmlppaa.Vr
theorem bytes_of : ∀ {l : List D}, (∀ x ∈ l, ∃ ds, x = mkD ds ∧ CT.wfL [.i .u8] ds) → ∃ m, l = dl m ∧ Bytes m
  | [], _ => ⟨[], rfl, fun x hx => by cases hx⟩
  | x :: l, h => by
    obtain ⟨m, rfl, hm⟩ := bytes_of fun y hy => h y (List.mem_cons_of_mem _ hy)
    obtain ⟨ds, rfl, hd⟩ := h x List.mem_cons_self
    simp only [CT.wfL, CT.wf] at hd
    obtain ⟨d, r, rfl, ⟨n, rfl, hn⟩, rfl⟩ := hd
    refine ⟨n :: m, rfl, fun y hy => ?_⟩
    rcases List.mem_cons.1 hy with rfl | hy
    · simp [Lit.wf, IntKind.bits, IntKind.signed, IntKind.min, IntKind.max] at hn; omega
    · exact hm y hy
theorem q_awake : F8 [] [] [] = some ([], [true], []) := by kernel_rfl
theorem law (at_ : Int) (B : List D) (h0 : CT.wf (.sl [.i .u8]) (.l B)) (ha : (Lit.int .i64 at_).wf = true) : F3 [at_] [] [B] = some ([], [true], []) := by
  simp only [CT.wf] at h0
  obtain ⟨_, hxs, _, hds⟩ := h0
  cases hxs
  obtain ⟨m, rfl, hm⟩ := bytes_of hds
  refine of_ret ?_
  unfold t3
  refine d_callx [] [] [] ([], [true], []) e3_8 rfl rfl rfl q_awake rfl (d_itF rfl ?_)
  have emin : (if (4000 : Int) < ((dl m).length : Int) then (4000 : Int) else ((dl m).length : Int)) = ((min m.length 4000 : Nat) : Int) := by rw [dl_len]; split <;> omega
  have hq : (decide ((0 : Int) ≤ (if (4000 : Int) < ((dl m).length : Int) then (4000 : Int) else ((dl m).length : Int))) && decide ((if (4000 : Int) < ((dl m).length : Int) then (4000 : Int) else ((dl m).length : Int)) ≤ ((dl m).length : Int))) = true := by
    rw [emin, dl_len]; exact an_t (le_t (by omega)) (le_t (by omega))
  obtain ⟨l, hl⟩ : ∃ l, l = m.take 4000 := ⟨_, rfl⟩
  have hll : l.length ≤ 4000 := by rw [hl, List.length_take]; omega
  have hb : Bytes l := hl ▸ hm.take 4000
  have ecut : ((dl m).take (if (4000 : Int) < ((dl m).length : Int) then (4000 : Int) else ((dl m).length : Int)).toNat).drop (0 : Int).toNat = dl l := by
    rw [emin, hl]
    unfold dl
    rw [List.map_take, Int.toNat_natCast]
    show (m.map D.i).take (min m.length 4000) = _
    by_cases h : m.length ≤ 4000
    · rw [Nat.min_eq_left h, List.take_of_length_le (by simp), List.take_of_length_le (by simp; omega)]
    · rw [Nat.min_eq_right (by omega)]
  refine d_rq hq (d_lst [dl l] (congrArg (fun z => [z]) ecut) ?_)
  have hB := q_Body hb (by omega)
  have st := bodyP_stbl 2001 [] []
  have hle := st.le l
  have hcut := st.cut l
  have hnz := st.nz l
  cases e : bodyP 2001 [] [] l with
  | err x =>
    rw [e] at hB
    have hx := hnz x e
    refine d_callx [] [] [dl l] ([0, x], [], [[]]) e3_9 rfl rfl rfl hB rfl ?_
    refine d_lb true (by show ((x != 0) || decide (at_ < 0)) = true; rw [ne_t hx]; rfl) (d_itT rfl rfl)
  | ok out n =>
    rw [e] at hB
    have hn := hle out n e
    refine d_callx [] [] [dl l] ([((0 + n : Nat) : Int), 0], [], [out]) e3_9 rfl rfl rfl hB rfl ?_
    by_cases h1 : at_ < 0
    · exact d_lb true (by show (((0 : Int) != 0) || decide (at_ < 0)) = true; rw [lt_t h1]; rfl) (d_itT rfl rfl)
    refine d_lb false (by show (((0 : Int) != 0) || decide (at_ < 0)) = false; rw [lt_f (by omega)]; rfl) ?_
    by_cases h2 : at_ ≥ ((0 + n : Nat) : Int)
    · exact d_itT (by show (false || decide (at_ ≥ ((0 + n : Nat) : Int))) = true; rw [ge_t h2]; rfl) rfl
    refine d_itF (by show (false || decide (at_ ≥ ((0 + n : Nat) : Int))) = false; rw [ge_f (by omega)]; rfl) ?_
    obtain ⟨c, rfl⟩ : ∃ c : Nat, at_ = c := ⟨at_.toNat, by omega⟩
    have hc := hcut out n e c (by omega)
    have hB2 := q_Body (hb.take c) (by rw [List.length_take]; omega)
    rw [hc] at hB2
    have ec : ((dl l).take ((c : Int)).toNat).drop (0 : Int).toNat = dl (l.take c) := by
      unfold dl; rw [List.map_take, Int.toNat_natCast]; rfl
    refine d_rq (by show (decide ((0 : Int) ≤ (c : Int)) && decide ((c : Int) ≤ ((dl l).length : Int))) = true; rw [dl_len]; exact an_t (le_t (by omega)) (le_t (by omega))) (d_lst [dl (l.take c)] (congrArg (fun z => [z]) ec) ?_)
    exact d_callx [] [] [dl (l.take c)] ([0, 1], [], [[]]) e3_9 rfl rfl rfl hB2 rfl (d_lb true rfl rfl)
end Go.Proofs.Ytmfjapphmmlppaa.YInstrCut
