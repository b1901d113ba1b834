/-
  InstrBack, of numbers and lists alone: the law answers true.
-/
import Derived.Test.YtmfjapphmmlppaaInBkInstrBack
import Derived.Test.YtmfjapphmmlppaaVr
namespace Go.Proofs.Ytmfjapphmmlppaa.YInstrBack
set_option linter.all false
open Go.Proofs.Ytmfjapphmmlppaa.Vx Go.Proofs.Ytmfjapphmmlppaa.XInstrBack Go.Proofs.Ytmfjapphmmlppaa.Vd Go.Proofs.Ytmfjapphmmlppaa.Vn Go.Proofs.Ytmfjapphmmlppaa.Vl Go.Proofs.Ytmfjapphmmlppaa.Vp Go.Proofs.Ytmfjapphmmlppaa.Vb Go.Proofs.Ytmfjapphmmlppaa.SInstrBack Go.Proofs.Ytmfjapphmmlppaa.Vo Go.Proofs.Ytmfjapphmmlppaa.Vt Go.Proofs.Ytmfjapphmmlppaa.IInstrBack Go.Proofs.Ytmfjapphmmlppaa.PInstrBack Go.Proofs.Ytmfjapphmmlppaa.MInstrBack Go.Proofs.Ytmfjapphmmlppaa.KInstrBack Go.Proofs.Ytmfjapphmmlppaa.Vr
theorem d_bothS {C : Nat → Vx.Fn} {a : Vx.T} {is bs ls} {o : Out} (h : a.den C is bs ls = some o) : (Vx.T.both a a).den C is bs ls = some o := d_both h h
theorem bytes_of : ∀ {l : List D}, (∀ x ∈ l, ∃ ds, x = mkD ds ∧ CT.wfL [.i .u8] ds) → ∃ m, l = dl m ∧ Bytes m
  | [], _ => ⟨[], rfl, fun x hx => by cases hx⟩
  | x :: l, h => by
    obtain ⟨m, rfl, hm⟩ := bytes_of fun y hy => h y (List.mem_cons_of_mem _ hy)
    obtain ⟨ds, rfl, hd⟩ := h x List.mem_cons_self
    simp only [CT.wfL, CT.wf] at hd
    obtain ⟨d, r, rfl, ⟨n, rfl, hn⟩, rfl⟩ := hd
    refine ⟨n :: m, rfl, fun y hy => ?_⟩
    rcases List.mem_cons.1 hy with rfl | hy
    · simp [Lit.wf, IntKind.bits, IntKind.signed, IntKind.min, IntKind.max] at hn; omega
    · exact hm y hy
theorem ints_of : ∀ {l : List D}, (∀ x ∈ l, ∃ ds, x = mkD ds ∧ CT.wfL [.i .i64] ds) → ∃ m, l = dl m
  | [], _ => ⟨[], rfl⟩
  | x :: l, h => by
    obtain ⟨m, rfl⟩ := ints_of fun y hy => h y (List.mem_cons_of_mem _ hy)
    obtain ⟨ds, rfl, hd⟩ := h x List.mem_cons_self
    simp only [CT.wfL, CT.wf] at hd
    obtain ⟨d, r, rfl, ⟨n, rfl, hn⟩, rfl⟩ := hd
    exact ⟨n :: m, rfl⟩
theorem i64_of {n : Int} (h : (Lit.int .i64 n).wf = true) : -9223372036854775808 ≤ n ∧ n < 9223372036854775808 := by
  simp [Lit.wf, IntKind.bits, IntKind.signed, IntKind.min, IntKind.max] at h; omega
theorem raws_of : ∀ {l : List D}, (∀ x ∈ l, ∃ ds, x = mkD ds ∧ CT.wfL [.i .i64, .i .i64, .i .i64, .i .i64, .sl [.i .i64]] ds) → ∃ rs : List Raw, l = rs.map Raw.D ∧ ∀ r ∈ rs, -9223372036854775808 ≤ r.k ∧ r.k < 9223372036854775808
  | [], _ => ⟨[], rfl, fun r hr => by cases hr⟩
  | x :: l, h => by
    obtain ⟨rs, rfl, hrs⟩ := raws_of fun y hy => h y (List.mem_cons_of_mem _ hy)
    obtain ⟨ds, rfl, hd⟩ := h x List.mem_cons_self
    simp only [CT.wfL, CT.wf] at hd
    obtain ⟨d0, r0, rfl, ⟨n0, rfl, h0⟩, d1, r1, rfl, ⟨n1, rfl, h1⟩, d2, r2, rfl, ⟨n2, rfl, h2⟩, d3, r3, rfl, ⟨n3, rfl, h3⟩, d4, r4, rfl, ⟨xs, rfl, _, hxs⟩, rfl⟩ := hd
    obtain ⟨L, rfl⟩ := ints_of (l := xs) (fun y hy => by
      obtain ⟨ds, e, hd⟩ := hxs y hy
      refine ⟨ds, e, ?_⟩
      simp only [CT.wfL, CT.wf]
      exact hd)
    refine ⟨⟨n0, n1, n2, n3, L⟩ :: rs, rfl, fun r hr => ?_⟩
    rcases List.mem_cons.1 hr with rfl | hr
    · exact i64_of h3
    · exact hrs r hr
theorem q_awake : F8 [] [] [] = some ([], [true], []) := by kernel_rfl
def sumL (M : List D) : Nat → Int
  | 0 => 0
  | n + 1 => arI .add .i64 (sumL M n) ((((M.getD n (.i 0)).cell 4).list.length : Nat) : Int)
theorem q_short {M : List D} : ∃ b, F10 [] [] [M] = some ([], [b], []) ∧ (b = true → M.length ≤ 2100 ∧ ∀ i, i < M.length → ((M.getD i (.i 0)).cell 4).list.length ≤ 100) := by
  by_cases h0 : M.length ≤ 2100
  case neg =>
    refine ⟨false, of_ret ?_, fun h => by cases h⟩
    unfold t10
    exact d_itT (gt_t (show (2100 : Int) < (M.length : Int) by omega)) rfl
  have hs : ∀ i : Nat, i < M.length → ((M.getD i (.i 0)).cell 4).list.length ≤ 100 → l10_1.den (Tab.fn a10) [sumL M i, (i : Int)] [false] [M] = some (.nxt ([sumL M (i + 1), ((i + 1 : Nat) : Int)], [false], [])) := fun i hi hl => by
    obtain ⟨Q, hQ⟩ : ∃ Q, Q = ((M.getD i (.i 0)).cell 4).list := ⟨_, rfl⟩
    simp only [sumL]
    rw [← hQ] at hl ⊢
    unfold l10_1
    rw [← up1 i (by omega)]
    exact d_itT (lt_t (show (i : Int) < (M.length : Int) by omega)) (d_rq (ge_t (show (0 : Int) ≤ (i : Int) by omega)) (d_lst [Q] (by rw [hQ]; rfl) (d_itF (gt_f (show (Q.length : Int) ≤ 100 by omega)) (d_lst [Q] (by rw [hQ]; rfl) rfl))))
  have he : l10_1.den (Tab.fn a10) [sumL M M.length, (M.length : Int)] [false] [M] = some (.brk 2 ([sumL M M.length, (M.length : Int)], [false], [])) := by
    unfold l10_1
    exact d_itF (lt_f (show (M.length : Int) ≤ (M.length : Int) by omega)) rfl
  by_cases hA : ∀ i, i < M.length → ((M.getD i (.i 0)).cell 4).list.length ≤ 100
  · refine ⟨decide (sumL M M.length ≤ 2000), of_ret ?_, fun _ => ⟨h0, hA⟩⟩
    unfold t10
    refine d_itF (gt_f (show (M.length : Int) ≤ 2100 by omega)) ?_
    refine d_loop (fun i => ([sumL M i, (i : Int)], [false], [])) M.length (by omega) 2 ([sumL M M.length, (M.length : Int)], [false], []) rfl (fun i hi => hs i hi (hA i hi)) (fun _ _ => rfl) he rfl ?_
    unfold k10_2
    exact d_rq rfl rfl
  · refine ⟨false, of_ret ?_, fun h => by cases h⟩
    unfold t10
    refine d_itF (gt_f (show (M.length : Int) ≤ 2100 by omega)) ?_
    refine d_findR (fun i => ([sumL M i, (i : Int)], [false], [])) M.length (by omega) (fun i => decide (((M.getD i (.i 0)).cell 4).list.length > 100)) rfl (fun _ => ([], [false], [])) 2 ([sumL M M.length, (M.length : Int)], [false], []) (fun i hi hp => hs i hi (by have := of_decide_eq_false hp; omega)) (fun _ _ => rfl) (fun i hi hp => ?_) he rfl (fun _ _ _ _ => rfl) (fun hp => ?_)
    · have hp := of_decide_eq_true hp
      obtain ⟨Q, hQ⟩ : ∃ Q, Q = ((M.getD i (.i 0)).cell 4).list := ⟨_, rfl⟩
      rw [← hQ] at hp
      show Vx.T.den _ l10_1 [sumL M i, (i : Int)] [false] [M] = _
      unfold l10_1
      exact d_itT (lt_t (show (i : Int) < (M.length : Int) by omega)) (d_rq (ge_t (show (0 : Int) ≤ (i : Int) by omega)) (d_lst [Q] (by rw [hQ]; rfl) (d_itT (gt_t (show (100 : Int) < (Q.length : Int) by omega)) (d_rt rfl))))
    · exact absurd (fun i hi => by have := of_decide_eq_false (hp i hi); omega) hA
theorem q_sameI {op a b k : Int} {L : List D} (hL : L.length ≤ 1000000) : F24 [op, a, b, k, op, a, b, k] [] [L, L] = some ([], [true], []) := by
  refine of_ret ?_
  unfold t24
  refine d_lb true (by show ((op == op) && (a == a)) = true; simp) (d_lb true (by show ((true && (b == b)) && (k == k)) = true; simp) (d_itT rfl ?_))
  exact d_callx [] [] [L, L] ([], [true], []) e24_41 rfl rfl rfl (q_sameints L (by omega)) rfl rfl
theorem q_sameAll {M : List D} (h0 : M.length ≤ 100000) (h1 : ∀ i, i < M.length → ((M.getD i (.i 0)).cell 4).list.length ≤ 1000000) : F22 [] [] [M, M] = some ([], [true], []) := by
  refine of_ret ?_
  unfold t22
  refine d_itF (ne_f rfl) ?_
  refine d_loop (fun i => ([(i : Int)], [false], [])) M.length (by omega) 2 ([(M.length : Int)], [false], []) rfl (fun i hi => ?_) (fun _ _ => rfl) ?_ rfl ?_
  · show Vx.T.den _ l22_1 [(i : Int)] [false] [M, M] = some (.nxt ([((i + 1 : Nat) : Int)], [false], []))
    have hq := h1 i hi
    obtain ⟨y, hy⟩ : ∃ y, y = M.getD i (.i 0) := ⟨_, rfl⟩
    rw [← hy] at hq
    have hsm := q_sameI (op := (y.cell 0).int) (a := (y.cell 1).int) (b := (y.cell 2).int) (k := (y.cell 3).int) hq
    unfold l22_1
    rw [← up1 i (by omega)]
    refine d_itT (lt_t (show (i : Int) < (M.length : Int) by omega)) (d_rq (ge_t (show (0 : Int) ≤ (i : Int) by omega)) (d_rq (lt_t (show (i : Int) < (M.length : Int) by omega)) ?_))
    refine d_both ?_ ?_
    all_goals
      refine d_lst [(y.cell 4).list] (by rw [hy]; rfl) (d_lst [(y.cell 4).list] (by rw [hy]; rfl) ?_)
      exact d_callx [(y.cell 0).int, (y.cell 1).int, (y.cell 2).int, (y.cell 3).int, (y.cell 0).int, (y.cell 1).int, (y.cell 2).int, (y.cell 3).int] [] [(y.cell 4).list, (y.cell 4).list] ([], [true], []) e22_24 (by rw [hy]; rfl) rfl rfl hsm rfl (d_itF rfl rfl)
  · unfold l22_1
    exact d_itF (lt_f (show (M.length : Int) ≤ (M.length : Int) by omega)) rfl
  · unfold k22_2
    exact d_rq rfl rfl
theorem insB_bytes_of {x : Ins} (g : Gd x) : Bytes (insB x) := by
  have ub : ∀ {a : Int}, u32 a → Bytes (uBytes a.toNat) := fun {a} h => by
    obtain ⟨n, h1, h2, h3, h4⟩ := u_wrap h
    rw [h4]; exact uBytes_bytes (by omega)
  have lb : ∀ {L : List Int}, (∀ v ∈ L, u32 v) → Bytes (lbB L) := fun {L} h y hy => by
    unfold lbB at hy
    obtain ⟨w, h1, h2⟩ := List.mem_flatten.1 hy
    obtain ⟨v, h3, rfl⟩ := List.mem_map.1 h1
    exact ub (h v h3) y h2
  have hop := g.op
  have hll := g.Ll
  have hcode : Bytes (codeB x.op) := by
    unfold codeB
    split
    · intro y hy
      rcases List.mem_cons.1 hy with rfl | hy
      · omega
      · exact uBytes_bytes (n := x.op - 256) (by omega) y hy
    · intro y hy
      rw [List.mem_singleton.1 hy]; omega
  have zero : ∀ {l : List Int}, (∀ y ∈ l, y = 0) → Bytes l := fun {l} h y hy => by rw [h y hy]; omega
  unfold insB
  refine hcode.append ?_
  unfold argB
  split
  · exact sBytes_bytes _
  split
  · rename_i f; exact ub (g.f3 (.inl f)).1
  split
  · rename_i f; exact ((uBytes_bytes (n := x.L.length) (by omega)).append (lb g.L)).append (ub (g.f4 f).1)
  split
  · rename_i f; exact (ub (g.f5 f).1).append (ub (g.f5 f).2.1)
  split
  · exact zero (by simp)
  split
  · exact zero (by simp)
  split
  · exact sBytes_bytes _
  split
  · exact sBytes_bytes _
  split
  · rename_i f; exact (ub (g.f3 (.inr f)).1).append (zero (by simp))
  · exact zero (by simp)
theorem bodyB_bytes_of : ∀ {xs : List Ins}, (∀ x ∈ xs, Gd x) → Bytes (bodyB xs)
  | [], _ => fun y hy => by cases hy
  | x :: xs, h => (insB_bytes_of (h x List.mem_cons_self)).append (bodyB_bytes_of fun y hy => h y (List.mem_cons_of_mem _ hy))
theorem law (op a b k : Int) (L l more : List D) (w0 : (Lit.int .i64 op).wf = true) (w1 : (Lit.int .i64 a).wf = true) (w2 : (Lit.int .i64 b).wf = true) (w3 : (Lit.int .i64 k).wf = true) (hL : CT.wf (.sl [.i .i64]) (.l L)) (hl : CT.wf (.sl [.i .i64, .i .i64, .i .i64, .i .i64, .sl [.i .i64]]) (.l l)) (hm : CT.wf (.sl [.i .u8]) (.l more)) :
    F6 [op, a, b, k] [] [L, l, more] = some ([], [true], []) := by
  have hk := i64_of w3
  clear w0 w1 w2 w3
  have eL : ∃ m, L = dl m := by
    simp only [CT.wf] at hL
    obtain ⟨_, hxs, _, hds⟩ := hL
    cases hxs
    exact ints_of hds
  have el : ∃ rs : List Raw, l = rs.map Raw.D ∧ ∀ r ∈ rs, -9223372036854775808 ≤ r.k ∧ r.k < 9223372036854775808 := by
    rw [CT.wf] at hl
    obtain ⟨_, hxs, _, hds⟩ := hl
    cases hxs
    exact raws_of hds
  have em : ∃ m, more = dl m ∧ Bytes m := by
    simp only [CT.wf] at hm
    obtain ⟨_, hxs, _, hds⟩ := hm
    cases hxs
    exact bytes_of hds
  obtain ⟨Li, rfl⟩ := eL
  obtain ⟨rs, rfl, hrs⟩ := el
  obtain ⟨m0, rfl, hm0⟩ := em
  clear hL hl hm
  refine of_ret ?_
  unfold t6
  refine d_callx [] [] [] ([], [true], []) e6_8 rfl rfl rfl q_awake rfl (d_itF rfl ?_)
  have emin : (if (1000 : Int) < ((dl m0).length : Int) then (1000 : Int) else ((dl m0).length : Int)) = ((min m0.length 1000 : Nat) : Int) := by rw [dl_len]; split <;> omega
  have hq : (decide ((0 : Int) ≤ (if (1000 : Int) < ((dl m0).length : Int) then (1000 : Int) else ((dl m0).length : Int))) && decide ((if (1000 : Int) < ((dl m0).length : Int) then (1000 : Int) else ((dl m0).length : Int)) ≤ ((dl m0).length : Int))) = true := by
    rw [emin, dl_len]; exact an_t (le_t (by omega)) (le_t (by omega))
  obtain ⟨m, hmd⟩ : ∃ m, m = m0.take 1000 := ⟨_, rfl⟩
  have hml : m.length ≤ 1000 := by rw [hmd, List.length_take]; omega
  have hmb : Bytes m := hmd ▸ hm0.take 1000
  have ecut : ((dl m0).take (if (1000 : Int) < ((dl m0).length : Int) then (1000 : Int) else ((dl m0).length : Int)).toNat).drop (0 : Int).toNat = dl m := by
    rw [emin, hmd]
    unfold dl
    rw [List.map_take, Int.toNat_natCast]
    show (m0.map D.i).take (min m0.length 1000) = _
    by_cases h : m0.length ≤ 1000
    · rw [Nat.min_eq_left h, List.take_of_length_le (by simp), List.take_of_length_le (by simp; omega)]
    · rw [Nat.min_eq_right (by omega)]
  refine d_rq hq (d_lst [dl m] (congrArg (fun z => [z]) ecut) ?_)
  clear hq ecut emin hmd hm0
  generalize dl m0 = M0 at *
  obtain ⟨bs, hsh, hsh2⟩ := q_short (M := rs.map Raw.D)
  refine d_callx [] [] [rs.map Raw.D] ([], [bs], []) e6_10 rfl rfl rfl hsh rfl ?_
  have hLl : (dl Li).length = Li.length := dl_len _
  have hrl : (rs.map Raw.D).length = rs.length := List.length_map _
  by_cases hg : (!bs || decide (((dl Li).length : Int) > 100)) = true
  · exact d_itT hg rfl
  have hg := Bool.eq_false_iff.2 hg
  refine d_itF hg ?_
  rw [Bool.or_eq_false_iff, decide_eq_false_iff_not] at hg
  obtain ⟨g1, g2⟩ := hg
  obtain rfl : bs = true := by simpa using g1
  obtain ⟨s1, s2⟩ := hsh2 rfl
  have hok : ∀ r ∈ rs, r.ok := fun r hr => ⟨hrs r hr, by
    obtain ⟨i, hi, rfl⟩ := List.getElem_of_mem hr
    have := s2 i (by omega)
    rw [getD_R hi] at this
    have this : (dl (rs[i]).L).length ≤ 100 := this
    rw [dl_len] at this; omega⟩
  have hmD : (dl m).length = m.length := dl_len _
  -- the body
  have body : ∀ {P : Prop}, (∀ z : Bool, z = true → P) → True := fun _ => trivial
  have hbody : F11 [] [] [[], rs.map Raw.D] = some ([2], [], [[]]) ∨ ∃ Z W : List D, ∃ n : Nat, F11 [] [] [[], rs.map Raw.D] = some ([0], [], [Z]) ∧ Z.length = n ∧ n ≤ 1400000 ∧ F9 [] [] [Z ++ dl m] = some ([(n : Int), 0], [], [rs.map Raw.D]) := by
    rcases q_PutBodyX hok (by omega) with h | ⟨xs, x1, x2, x3, x4, h⟩
    · exact .inl h
    · refine .inr ⟨dl (bodyB xs), [], (bodyB xs).length, h, dl_len _, by have := bodyB_700 x3; omega, ?_⟩
      have hbk := body_back xs 2001 [] [] m x2 x3 (by simp; omega) (by omega)
      have hB := q_Body (l := bodyB xs ++ m) ((bodyB_bytes_of x3).append hmb) (by rw [List.length_append]; have := bodyB_700 x3; omega)
      rw [hbk, dl_app] at hB
      rw [hB]
      show some ([((0 + (bodyB xs).length : Nat) : Int), 0], [], [[] ++ xs.map Ins.D]) = _
      rw [Nat.zero_add, List.nil_append, x1]
  have hall := q_sameAll (M := rs.map Raw.D) (by omega) (fun i hi => by have := s2 i hi; omega)
  generalize rs.map Raw.D = R at *
  rcases q_PutX (op := op) (a := a) (b := b) (L := Li) hk (by omega) with h | ⟨x, gx, e1, e2, e3, e4, e5, h⟩
  · generalize dl Li = LL at *
    generalize dl m = MM at *
    refine d_callx [op, a, b, k] [] [[], LL] ([2], [], [[]]) e6_14 rfl rfl rfl h rfl (d_itF rfl ?_)
    rcases hbody with hb | ⟨Z, W, n, hb, hz1, hz2, hz3⟩
    · exact d_callx [] [] [[], R] ([2], [], [[]]) e6_11 rfl rfl rfl hb rfl (d_itT rfl rfl)
    · refine d_callx [] [] [[], R] ([0], [], [Z]) e6_11 rfl rfl rfl hb rfl (d_itF rfl ?_)
      refine d_rq (an_t (le_t (show (Z.length : Int) ≤ 17592186044416 by omega)) (le_t (show (MM.length : Int) ≤ 17592186044416 by omega))) (d_lst [Z ++ MM] rfl ?_)
      refine d_callx [] [] [Z ++ MM] ([(n : Int), 0], [], [R]) e6_9 rfl rfl rfl hz3 rfl (d_lb true (an_t rfl (eq_t (show (n : Int) = (Z.length : Int) by omega))) (d_itT rfl ?_))
      exact d_callx [] [] [R, R] ([], [true], []) e6_22 rfl rfl rfl hall rfl rfl
  · have hone : F23 [] [] [dl (insB x) ++ dl m] = some ([(x.op : Int), x.a, x.b, x.k, ((insB x).length : Int), 0], [], [dl x.L]) := by
      have hbk := instr_back gx m
      have hlen := insB_le gx
      rcases q_One (l := insB x ++ m) ((insB_bytes_of gx).append hmb) (by rw [List.length_append]; omega) with ⟨e, _, h2, _⟩ | ⟨y, n, h2, h3⟩
      · rw [hbk] at h2; cases h2
      · rw [hbk] at h2; cases h2
        rw [dl_app] at h3; exact h3
    have hlen := insB_le gx
    have hil : (dl (insB x)).length = (insB x).length := dl_len _
    have hsm := q_sameI (op := op) (a := a) (b := b) (k := k) (L := dl Li) (by omega)
    rw [← e1, ← e2, ← e3, ← e4, ← e5] at hone
    generalize dl (insB x) = Y at *
    generalize (insB x).length = ny at *
    generalize dl Li = LL at *
    generalize dl m = MM at *
    refine d_callx [op, a, b, k] [] [[], LL] ([0], [], [Y]) e6_14 rfl rfl rfl h rfl (d_itT rfl ?_)
    refine d_rq (an_t (le_t (show (Y.length : Int) ≤ 17592186044416 by omega)) (le_t (show (MM.length : Int) ≤ 17592186044416 by omega))) (d_lst [Y ++ MM] rfl ?_)
    refine d_callx [] [] [Y ++ MM] ([op, a, b, k, (ny : Int), 0], [], [LL]) e6_23 rfl rfl rfl hone rfl ?_
    refine d_lb false (by show (((0 : Int) != 0) || ((ny : Int) != (Y.length : Int))) = false; rw [ne_f rfl, ne_f (by omega)]; rfl) (d_itT rfl ?_)
    refine d_callx [op, a, b, k, op, a, b, k] [] [LL, LL] ([], [true], []) e6_24 rfl rfl rfl hsm rfl (d_itF rfl ?_)
    rcases hbody with hb | ⟨Z, W, n, hb, hz1, hz2, hz3⟩
    · exact d_callx [] [] [[], R] ([2], [], [[]]) e6_11 rfl rfl rfl hb rfl (d_itT rfl rfl)
    · refine d_callx [] [] [[], R] ([0], [], [Z]) e6_11 rfl rfl rfl hb rfl (d_itF rfl ?_)
      refine d_rq (an_t (le_t (show (Z.length : Int) ≤ 17592186044416 by omega)) (le_t (show (MM.length : Int) ≤ 17592186044416 by omega))) (d_lst [Z ++ MM] rfl ?_)
      refine d_callx [] [] [Z ++ MM] ([(n : Int), 0], [], [R]) e6_9 rfl rfl rfl hz3 rfl (d_lb true (an_t rfl (eq_t (show (n : Int) = (Z.length : Int) by omega))) (d_itT rfl ?_))
      exact d_callx [] [] [R, R] ([], [true], []) e6_22 rfl rfl rfl hall rfl rfl
end Go.Proofs.Ytmfjapphmmlppaa.YInstrBack
