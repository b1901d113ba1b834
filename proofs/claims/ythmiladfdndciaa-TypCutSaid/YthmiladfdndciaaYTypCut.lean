/-
  TypCut, of numbers and bytes alone: the law answers true.
-/
import Derived.Test.YthmiladfdndciaaSTypCut
import Derived.Test.YthmiladfdndciaaVr
namespace Go.Proofs.Ythmiladfdndciaa.YTypCut
set_option linter.all false
open Go.Proofs.Ythmiladfdndciaa.Vx Go.Proofs.Ythmiladfdndciaa.XTypCut Go.Proofs.Ythmiladfdndciaa.Vd Go.Proofs.Ythmiladfdndciaa.Vn Go.Proofs.Ythmiladfdndciaa.Vl Go.Proofs.Ythmiladfdndciaa.Vp Go.Proofs.Ythmiladfdndciaa.STypCut Go.Proofs.Ythmiladfdndciaa.Vr
theorem bytes_of : ∀ {l : List D}, (∀ x ∈ l, ∃ ds, x = mkD ds ∧ CT.wfL [.i .u8] ds) → ∃ m, l = dl m ∧ Bytes m
  | [], _ => ⟨[], rfl, fun x hx => by cases hx⟩
  | x :: l, h => by
    obtain ⟨m, rfl, hm⟩ := bytes_of fun y hy => h y (List.mem_cons_of_mem _ hy)
    obtain ⟨ds, rfl, hd⟩ := h x List.mem_cons_self
    simp only [CT.wfL, CT.wf] at hd
    obtain ⟨d, r, rfl, ⟨n, rfl, hn⟩, rfl⟩ := hd
    refine ⟨n :: m, rfl, fun y hy => ?_⟩
    rcases List.mem_cons.1 hy with rfl | hy
    · simp [Lit.wf, IntKind.bits, IntKind.signed, IntKind.min, IntKind.max] at hn; omega
    · exact hm y hy
theorem law (c : Int) (l0 l1 : List D) (h0 : CT.wf (.sl [.i .u8]) (.l l0)) (h1 : CT.wf (.sl [.i .u8]) (.l l1)) (hc : (Lit.int .i64 c).wf = true) : F3 [c] [] [l0, l1] = some ([], [true], []) := by
  simp only [CT.wf] at h0 h1
  obtain ⟨_, hxs, _, hds⟩ := h0
  cases hxs
  obtain ⟨p0, rfl, hp0⟩ := bytes_of hds
  obtain ⟨_, hxs, _, hds⟩ := h1
  cases hxs
  obtain ⟨m0, rfl, hm0⟩ := bytes_of hds
  refine of_ret ?_
  unfold t3
  refine d_callx [] [] [] ([], [true], []) e3_7 rfl rfl rfl q7 rfl ?_
  refine d_ite (fun h => by cases h) fun _ => ?_
  have emin : ∀ q : List Int, (if (300 : Int) < (((dl q).length : Nat) : Int) then (300 : Int) else (((dl q).length : Nat) : Int)) = ((min q.length 300 : Nat) : Int) := fun q => by rw [dl_len]; split <;> omega
  have ecut : ∀ q : List Int, ((dl q).take ((min q.length 300 : Nat) : Int).toNat).drop (0 : Int).toNat = dl (q.take 300) := fun q => by
    simp [dl, List.map_take]
    omega
  refine d_rq (by simp only [E.B, E.I, cmB, List.append_nil, List.getD_cons_zero, emin, dl_len, Bool.and_eq_true, decide_eq_true_eq]; omega) ?_
  show T.den _ _ _ _ ([dl p0, dl m0] ++ [] ++ [((dl p0).take ((if (300 : Int) < (((dl p0).length : Nat) : Int) then (300 : Int) else (((dl p0).length : Nat) : Int))).toNat).drop (0 : Int).toNat]) = _
  rw [emin, ecut]
  refine d_rq (by simp only [E.B, E.I, cmB, List.append_nil, List.cons_append, List.nil_append, List.getD_cons_zero, List.getD_cons_succ, emin, dl_len, Bool.and_eq_true, decide_eq_true_eq]; omega) ?_
  show T.den _ _ _ _ ([dl p0, dl m0] ++ [] ++ [dl (p0.take 300)] ++ [((dl m0).take ((if (300 : Int) < (((dl m0).length : Nat) : Int) then (300 : Int) else (((dl m0).length : Nat) : Int))).toNat).drop (0 : Int).toNat]) = _
  rw [emin, ecut]
  generalize hp : p0.take 300 = p
  generalize hm : m0.take 300 = m
  have hpb : Bytes p := hp ▸ hp0.take 300
  have hmb : Bytes m := hm ▸ hm0.take 300
  have hpl : p.length ≤ 300 := by rw [← hp, List.length_take]; omega
  have hml : m.length ≤ 300 := by rw [← hm, List.length_take]; omega
  have h8 := q8 hpb (by omega)
  have st := funcP_stbl
  have hnz := st.nz p
  have hle := st.le p
  have hon := st.on p
  have hcut := st.cut p
  have hlen := fun a b n => funcP_len (l := p) (a := a) (b := b) (n := n)
  generalize funcP p = V at *
  cases V with
  | err e =>
    refine d_callx [] [] [dl p] _ e3_8 rfl rfl rfl h8 rfl ?_
    refine d_ite (fun _ => rfl) fun h => ?_
    have : (e != 0) = false := h
    rw [bne_iff_ne.2 (hnz e rfl)] at this; cases this
  | ok ab n =>
    obtain ⟨a, b⟩ := ab
    have hn := hle _ n rfl
    obtain ⟨la, lb⟩ := hlen a b n rfl
    refine d_callx [] [] [dl p] _ e3_8 rfl rfl rfl h8 rfl ?_
    refine d_ite (fun h => by cases h) fun _ => ?_
    refine d_callx [] [] [dl p] _ e3_9 rfl rfl rfl (q9 _ (by rw [dl_len]; omega)) rfl ?_
    refine d_rq (by simp [E.B, E.I, cmB, dl_len]; omega) ?_
    show T.den _ _ _ _ (_ ++ [dl p ++ dl m]) = _
    rw [← dl_app]
    have hq := hon _ n rfl (p.drop n ++ m)
    rw [← List.append_assoc, List.take_append_drop] at hq
    have h8q := q8 (l := p ++ m) (hpb.append hmb) (by rw [List.length_append]; omega)
    rw [hq] at h8q
    refine d_callx [] [] [dl (p ++ m)] _ e3_8 rfl rfl rfl h8q rfl ?_
    show T.den _ _ _ (_ ++ [((0 : Int) != 0 || ((n : Int) != (n : Int)))]) _ = _
    rw [bne_self_eq_false, bne_self_eq_false]
    refine d_ite (fun _ => ?_) fun h => by cases h
    refine d_callx [] [] [dl a, dl b, dl a, dl b] _ e3_10 rfl rfl rfl (q10 _ _ (by rw [dl_len]; omega) (by rw [dl_len]; omega)) rfl ?_
    refine d_ite (fun h => ?_) fun _ => ?_
    · have : (!true || decide ((n : Int) > (((dl p).length : Nat) : Int))) = true := h
      rw [dl_len] at this
      simp at this
      omega
    show T.den _ _ _ (_ ++ [(decide (c < 0) || decide (c ≥ (n : Int)))]) _ = _
    by_cases hcn : c < 0 ∨ (n : Int) ≤ c
    · have : (decide (c < 0) || decide (c ≥ (n : Int))) = true := by simpa using hcn
      rw [this]
      exact d_ite (fun _ => rfl) fun h => by cases h
    have hf : (decide (c < 0) || decide (c ≥ (n : Int))) = false := by simp; omega
    rw [hf]
    refine d_ite (fun h => by cases h) fun _ => ?_
    obtain ⟨k, rfl⟩ := Int.eq_ofNat_of_zero_le (show 0 ≤ c by omega)
    refine d_rq (by show (decide ((0 : Int) ≤ (k : Int)) && decide ((k : Int) ≤ (((dl p).length : Nat) : Int))) = true; rw [dl_len]; simp; omega) ?_
    have hck := hcut _ n rfl k (by omega)
    have h8c := q8 (l := p.take k) (hpb.take k) (by rw [List.length_take]; omega)
    rw [hck] at h8c
    have ek : ((dl p).take ((k : Nat) : Int).toNat).drop (0 : Int).toNat = dl (p.take k) := by
      rw [Int.toNat_natCast]; simp [dl, List.map_take]
    show T.den _ _ _ _ (_ ++ [((dl p).take ((k : Nat) : Int).toNat).drop (0 : Int).toNat]) = _
    rw [ek]
    refine d_callx [] [] [dl (p.take k)] _ e3_8 rfl rfl rfl h8c rfl ?_
    rfl
end Go.Proofs.Ythmiladfdndciaa.YTypCut
