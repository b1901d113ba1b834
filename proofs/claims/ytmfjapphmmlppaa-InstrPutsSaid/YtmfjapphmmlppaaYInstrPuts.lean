/-
  InstrPuts, of numbers and lists alone: the law answers true.
-/
import Derived.Test.YtmfjapphmmlppaaInRvInstrPuts
import Derived.Test.YtmfjapphmmlppaaVr
namespace Go.Proofs.Ytmfjapphmmlppaa.YInstrPuts
set_option linter.all false
open Go.Proofs.Ytmfjapphmmlppaa.Vx Go.Proofs.Ytmfjapphmmlppaa.XInstrPuts Go.Proofs.Ytmfjapphmmlppaa.Vd Go.Proofs.Ytmfjapphmmlppaa.Vn Go.Proofs.Ytmfjapphmmlppaa.Vl Go.Proofs.Ytmfjapphmmlppaa.Vp Go.Proofs.Ytmfjapphmmlppaa.Vb Go.Proofs.Ytmfjapphmmlppaa.SInstrPuts Go.Proofs.Ytmfjapphmmlppaa.Vo Go.Proofs.Ytmfjapphmmlppaa.Vt Go.Proofs.Ytmfjapphmmlppaa.IInstrPuts Go.Proofs.Ytmfjapphmmlppaa.PInstrPuts Go.Proofs.Ytmfjapphmmlppaa.MInstrPuts Go.Proofs.Ytmfjapphmmlppaa.KInstrPuts Go.Proofs.Ytmfjapphmmlppaa.WInstrPuts Go.Proofs.Ytmfjapphmmlppaa.Vr
theorem ints_of : ∀ {l : List D}, (∀ x ∈ l, ∃ ds, x = mkD ds ∧ CT.wfL [.i .i64] ds) → ∃ m, l = dl m
  | [], _ => ⟨[], rfl⟩
  | x :: l, h => by
    obtain ⟨m, rfl⟩ := ints_of fun y hy => h y (List.mem_cons_of_mem _ hy)
    obtain ⟨ds, rfl, hd⟩ := h x List.mem_cons_self
    simp only [CT.wfL, CT.wf] at hd
    obtain ⟨d, r, rfl, ⟨n, rfl, hn⟩, rfl⟩ := hd
    exact ⟨n :: m, rfl⟩
theorem i64_of {n : Int} (h : (Lit.int .i64 n).wf = true) : -9223372036854775808 ≤ n ∧ n < 9223372036854775808 := by
  simp [Lit.wf, IntKind.bits, IntKind.signed, IntKind.min, IntKind.max] at h; omega
theorem raws_of : ∀ {l : List D}, (∀ x ∈ l, ∃ ds, x = mkD ds ∧ CT.wfL [.i .i64, .i .i64, .i .i64, .i .i64, .sl [.i .i64]] ds) → ∃ rs : List Raw, l = rs.map Raw.D ∧ ∀ r ∈ rs, -9223372036854775808 ≤ r.k ∧ r.k < 9223372036854775808
  | [], _ => ⟨[], rfl, fun r hr => by cases hr⟩
  | x :: l, h => by
    obtain ⟨rs, rfl, hrs⟩ := raws_of fun y hy => h y (List.mem_cons_of_mem _ hy)
    obtain ⟨ds, rfl, hd⟩ := h x List.mem_cons_self
    simp only [CT.wfL, CT.wf] at hd
    obtain ⟨d0, r0, rfl, ⟨n0, rfl, h0⟩, d1, r1, rfl, ⟨n1, rfl, h1⟩, d2, r2, rfl, ⟨n2, rfl, h2⟩, d3, r3, rfl, ⟨n3, rfl, h3⟩, d4, r4, rfl, ⟨xs, rfl, _, hxs⟩, rfl⟩ := hd
    obtain ⟨L, rfl⟩ := ints_of (l := xs) (fun y hy => by
      obtain ⟨ds, e, hd⟩ := hxs y hy
      refine ⟨ds, e, ?_⟩
      simp only [CT.wfL, CT.wf]
      exact hd)
    refine ⟨⟨n0, n1, n2, n3, L⟩ :: rs, rfl, fun r hr => ?_⟩
    rcases List.mem_cons.1 hr with rfl | hr
    · exact i64_of h3
    · exact hrs r hr
theorem q_awake : F8 [] [] [] = some ([], [true], []) := by kernel_rfl
def sumL (M : List D) : Nat → Int
  | 0 => 0
  | n + 1 => arI .add .i64 (sumL M n) ((((M.getD n (.i 0)).cell 4).list.length : Nat) : Int)
theorem q_short {M : List D} : ∃ b, F10 [] [] [M] = some ([], [b], []) ∧ (b = true → M.length ≤ 2100 ∧ ∀ i, i < M.length → ((M.getD i (.i 0)).cell 4).list.length ≤ 100) := by
  by_cases h0 : M.length ≤ 2100
  case neg =>
    refine ⟨false, of_ret ?_, fun h => (by cases h)⟩
    unfold t10
    exact d_itT (gt_t (show (2100 : Int) < (M.length : Int) by omega)) rfl
  have hs : ∀ i : Nat, i < M.length → ((M.getD i (.i 0)).cell 4).list.length ≤ 100 → l10_1.den (Tab.fn a10) [sumL M i, (i : Int)] [false] [M] = some (.nxt ([sumL M (i + 1), ((i + 1 : Nat) : Int)], [false], [])) := fun i hi hl => by
    obtain ⟨Q, hQ⟩ : ∃ Q, Q = ((M.getD i (.i 0)).cell 4).list := ⟨_, rfl⟩
    simp only [sumL]
    rw [← hQ] at hl ⊢
    unfold l10_1
    rw [← up1 i (by omega)]
    exact d_itT (lt_t (show (i : Int) < (M.length : Int) by omega)) (d_rq (ge_t (show (0 : Int) ≤ (i : Int) by omega)) (d_lst [Q] (by rw [hQ]; rfl) (d_itF (gt_f (show (Q.length : Int) ≤ 100 by omega)) (d_lst [Q] (by rw [hQ]; rfl) rfl))))
  have he : l10_1.den (Tab.fn a10) [sumL M M.length, (M.length : Int)] [false] [M] = some (.brk 2 ([sumL M M.length, (M.length : Int)], [false], [])) := by
    unfold l10_1
    exact d_itF (lt_f (show (M.length : Int) ≤ (M.length : Int) by omega)) rfl
  by_cases hA : ∀ i, i < M.length → ((M.getD i (.i 0)).cell 4).list.length ≤ 100
  · refine ⟨decide (sumL M M.length ≤ 2000), of_ret ?_, fun _ => ⟨h0, hA⟩⟩
    unfold t10
    refine d_itF (gt_f (show (M.length : Int) ≤ 2100 by omega)) ?_
    refine d_loop (fun i => ([sumL M i, (i : Int)], [false], [])) M.length (by omega) 2 ([sumL M M.length, (M.length : Int)], [false], []) rfl (fun i hi => hs i hi (hA i hi)) (fun _ _ => rfl) he rfl ?_
    unfold k10_2
    exact d_rq rfl rfl
  · refine ⟨false, of_ret ?_, fun h => (by cases h)⟩
    unfold t10
    refine d_itF (gt_f (show (M.length : Int) ≤ 2100 by omega)) ?_
    refine d_findR (fun i => ([sumL M i, (i : Int)], [false], [])) M.length (by omega) (fun i => decide (((M.getD i (.i 0)).cell 4).list.length > 100)) rfl (fun _ => ([], [false], [])) 2 ([sumL M M.length, (M.length : Int)], [false], []) (fun i hi hp => hs i hi (by have := of_decide_eq_false hp; omega)) (fun _ _ => rfl) (fun i hi hp => ?_) he rfl (fun _ _ _ _ => rfl) (fun hp => ?_)
    · have hp := of_decide_eq_true hp
      obtain ⟨Q, hQ⟩ : ∃ Q, Q = ((M.getD i (.i 0)).cell 4).list := ⟨_, rfl⟩
      rw [← hQ] at hp
      show Vx.T.den _ l10_1 [sumL M i, (i : Int)] [false] [M] = _
      unfold l10_1
      exact d_itT (lt_t (show (i : Int) < (M.length : Int) by omega)) (d_rq (ge_t (show (0 : Int) ≤ (i : Int) by omega)) (d_lst [Q] (by rw [hQ]; rfl) (d_itT (gt_t (show (100 : Int) < (Q.length : Int) by omega)) (d_rt rfl))))
    · exact absurd (fun i hi => by have := of_decide_eq_false (hp i hi); omega) hA
/-- All the bytes. -/
theorem q_all {xs : List Ins} (hg : ∀ x ∈ xs, Gd x) (hl : xs.length ≤ 2100) : F21 [] [] [xs.map Ins.D] = some ([], [], [dl (bodyB xs)]) := by
  have hll : (xs.map Ins.D).length = xs.length := List.length_map _
  have h700 := bodyB_700 hg
  refine of_ret ?_
  unfold t21
  refine d_loop (fun i => ([(i : Int)], [], [dl (bodyB (xs.take i))])) xs.length (by omega) 2 ([(xs.length : Int)], [], [dl (bodyB xs)]) rfl (fun i hi => ?_) (fun _ _ => rfl) ?_ rfl ?_
  · show Vx.T.den _ l21_1 [(i : Int)] [] [xs.map Ins.D, dl (bodyB (xs.take i))] = some (.nxt ([((i + 1 : Nat) : Int)], [], [dl (bodyB (xs.take (i + 1)))]))
    have hx := getD_D hi
    have gx : Gd xs[i] := hg _ (List.getElem_mem hi)
    rw [bodyB_take hi, dl_app]
    have hle := bodyB_le (xs := xs) i
    have hA : (dl (bodyB (xs.take i))).length ≤ 2000000 := by rw [dl_len]; omega
    have hp := q_rBytesG gx
    have hZ : (dl (insB xs[i])).length ≤ 700 := by rw [dl_len]; exact insB_le gx
    generalize dl (bodyB (xs.take i)) = A at *
    generalize xs.map Ins.D = M at *
    generalize xs[i] = x at *
    generalize dl (insB x) = Z at *
    unfold l21_1
    rw [← up1 i (by omega)]
    have ha : [((M.getD i (.i 0)).cell 0).int, ((M.getD i (.i 0)).cell 1).int, ((M.getD i (.i 0)).cell 2).int, ((M.getD i (.i 0)).cell 3).int] = [(x.op : Int), x.a, x.b, x.k] := by rw [hx]; rfl
    refine d_itT (lt_t (show (i : Int) < (M.length : Int) by omega)) (d_rq (ge_t (show (0 : Int) ≤ (i : Int) by omega)) (d_lst [dl x.L] ?_ ?_))
    · show [((M.getD i (.i 0)).cell 4).list] = _
      rw [hx]; rfl
    refine d_callx [(x.op : Int), x.a, x.b, x.k] [] [dl x.L] ([], [], [Z]) e21_19 ha rfl rfl hp rfl ?_
    exact d_rq (c := E.an _ _) (an_t (le_t (show (A.length : Int) ≤ 17592186044416 by omega)) (le_t (show (Z.length : Int) ≤ 17592186044416 by omega))) (d_lst [A ++ Z] rfl rfl)
  · show Vx.T.den _ l21_1 [(xs.length : Int)] [] [xs.map Ins.D, dl (bodyB (xs.take xs.length))] = _
    rw [List.take_length]
    unfold l21_1
    exact d_itF (lt_f (show ((xs.map Ins.D).length : Int) ≤ (xs.length : Int) by omega)) rfl
  · unfold k21_2
    exact d_rq rfl rfl
/-- The same in memory of its own. -/
theorem q_copyAll {rs : List Raw} (hl : rs.length ≤ 2100) (hL : ∀ r ∈ rs, r.L.length ≤ 100) : F13 [] [] [rs.map Raw.D] = some ([], [], [rs.map Raw.D]) := by
  have hll : (rs.map Raw.D).length = rs.length := List.length_map _
  refine of_ret ?_
  unfold t13
  refine d_loop (fun i => ([(i : Int)], [], [(rs.map Raw.D).take i])) rs.length (by omega) 2 ([(rs.length : Int)], [], [rs.map Raw.D]) rfl (fun i hi => ?_) (fun _ _ => rfl) ?_ rfl ?_
  · show Vx.T.den _ l13_1 [(i : Int)] [] [rs.map Raw.D, (rs.map Raw.D).take i] = some (.nxt ([((i + 1 : Nat) : Int)], [], [(rs.map Raw.D).take (i + 1)]))
    have hx := getD_R hi
    have hr := hL _ (List.getElem_mem hi)
    have ht : (rs.map Raw.D).take (i + 1) = (rs.map Raw.D).take i ++ [(rs[i]).D] := by
      rw [List.take_succ, List.getElem?_map, List.getElem?_eq_getElem hi]; rfl
    have hA : ((rs.map Raw.D).take i).length ≤ 2100 := by rw [List.length_take]; omega
    have hd : (dl (rs[i]).L).length ≤ 100 := by rw [dl_len]; exact hr
    rw [ht]
    clear ht
    generalize (rs.map Raw.D).take i = A at *
    generalize rs.map Raw.D = M at *
    generalize rs[i] = r at *
    have e0 : ((M.getD i (.i 0)).cell 0).int = r.op := by rw [hx]; rfl
    have e1 : ((M.getD i (.i 0)).cell 1).int = r.a := by rw [hx]; rfl
    have e2 : ((M.getD i (.i 0)).cell 2).int = r.b := by rw [hx]; rfl
    have e3 : ((M.getD i (.i 0)).cell 3).int = r.k := by rw [hx]; rfl
    have e4 : ((M.getD i (.i 0)).cell 4).list = dl r.L := by rw [hx]; rfl
    unfold l13_1
    rw [← up1 i (by omega)]
    refine d_itT (lt_t (show (i : Int) < (M.length : Int) by omega)) (d_rq (ge_t (show (0 : Int) ≤ (i : Int) by omega)) (d_lst [dl r.L] (congrArg (fun z => [z]) e4) ?_))
    have hD : r.D = .st [.i r.op, .i r.a, .i r.b, .i r.k, .l (dl r.L)] := rfl
    rw [hD]
    generalize dl r.L = Q at *
    refine d_lst [[]] rfl (d_rq (c := E.an _ _) (an_t rfl (le_t (show (Q.length : Int) ≤ 3909374676536 by omega))) (d_lst [Q] rfl ?_))
    refine d_lst [[.st [.i r.op, .i r.a, .i r.b, .i r.k, .l Q]]] ?_ (d_rq (c := E.an _ _) (an_t (le_t (show (A.length : Int) ≤ 617269685768 by omega)) rfl) (d_lst [A ++ [.st [.i r.op, .i r.a, .i r.b, .i r.k, .l Q]]] rfl rfl))
    show [[D.st [.i ((M.getD i (.i 0)).cell 0).int, .i ((M.getD i (.i 0)).cell 1).int, .i ((M.getD i (.i 0)).cell 2).int, .i ((M.getD i (.i 0)).cell 3).int, .l Q]]] = _
    rw [e0, e1, e2, e3]
  · show Vx.T.den _ l13_1 [(rs.length : Int)] [] [rs.map Raw.D, (rs.map Raw.D).take rs.length] = _
    rw [show (rs.map Raw.D).take rs.length = rs.map Raw.D from List.take_of_length_le (by omega)]
    unfold l13_1
    exact d_itF (lt_f (show ((rs.map Raw.D).length : Int) ≤ (rs.length : Int) by omega)) rfl
  · unfold k13_2
    exact d_rq rfl rfl
theorem all_wf : ∀ {rs : List Raw}, (∀ r ∈ rs, Wf r) → ∃ xs : List Ins, rs = xs.map Raw.of ∧ ∀ x ∈ xs, Gd x
  | [], _ => ⟨[], rfl, fun x hx => by cases hx⟩
  | r :: rs, h => by
    obtain ⟨x, g, rfl⟩ := h r List.mem_cons_self
    obtain ⟨xs, rfl, hx⟩ := all_wf fun s hs => h s (List.mem_cons_of_mem _ hs)
    refine ⟨x :: xs, rfl, fun y hy => ?_⟩
    rcases List.mem_cons.1 hy with rfl | hy
    · exact g
    · exact hx y hy
theorem map_of_inj : ∀ {xs ys : List Ins}, xs.map Raw.of = ys.map Raw.of → xs = ys
  | [], [], _ => rfl
  | [], _ :: _, h => by simp at h
  | _ :: _, [], h => by simp at h
  | x :: xs, y :: ys, h => by
    simp only [List.map_cons, List.cons.injEq] at h
    rw [of_inj h.1, map_of_inj h.2]
theorem map_of_D (xs : List Ins) : (xs.map Raw.of).map Raw.D = xs.map Ins.D := by rw [List.map_map]; rfl
/-- What is closed. -/
def Cl (rs : List Raw) : Prop := ∃ xs : List Ins, rs = xs.map Raw.of ∧ Run xs [] ∧ (∀ x ∈ xs, Gd x) ∧ xs.length ≤ 2000
theorem q_rClosed {rs : List Raw} (hok : ∀ r ∈ rs, (-9223372036854775808 ≤ r.k ∧ r.k < 9223372036854775808) ∧ r.L.length ≤ 100) (hlen : rs.length ≤ 2100) : ∃ b : Bool, F20 [] [] [rs.map Raw.D] = some ([], [b], []) ∧ (b = true ↔ Cl rs) := by
  have hll : (rs.map Raw.D).length = rs.length := List.length_map _
  have step : ∀ i (hi : i < rs.length), ∃ b : Bool, (b = true ↔ Wf rs[i]) ∧ Vx.T.den (Tab.fn a20) l20_1 [(i : Int)] [false] [rs.map Raw.D] = some (if b = true then .nxt ([((i + 1 : Nat) : Int)], [false], []) else .ret ([], [false], [])) := by
    intro i hi
    have hx := getD_R hi
    have hr := hok _ (List.getElem_mem hi)
    obtain ⟨b, hb1, hb2⟩ := q_rFormed hr.1 hr.2
    refine ⟨b, hb2, ?_⟩
    generalize rs.map Raw.D = M at *
    generalize rs[i] = r at *
    have ha : [((M.getD i (.i 0)).cell 0).int, ((M.getD i (.i 0)).cell 1).int, ((M.getD i (.i 0)).cell 2).int, ((M.getD i (.i 0)).cell 3).int] = [r.op, r.a, r.b, r.k] := by rw [hx]; rfl
    have e4 : ((M.getD i (.i 0)).cell 4).list = dl r.L := by rw [hx]; rfl
    unfold l20_1
    refine d_itT (lt_t (show (i : Int) < (M.length : Int) by omega)) (d_rq (ge_t (show (0 : Int) ≤ (i : Int) by omega)) (d_lst [dl r.L] (congrArg (fun z => [z]) e4) ?_))
    refine d_callx [r.op, r.a, r.b, r.k] [] [dl r.L] ([], [b], []) e20_15 ha rfl rfl hb1 rfl ?_
    cases b with
    | true => rw [← up1 i (by omega)]; exact d_itF rfl rfl
    | false => exact d_itT rfl (d_rt rfl)
  have stop : Vx.T.den (Tab.fn a20) l20_1 [(rs.length : Int)] [false] [rs.map Raw.D] = some (.brk 2 ([(rs.length : Int)], [false], [])) := by
    unfold l20_1
    exact d_itF (lt_f (show ((rs.map Raw.D).length : Int) ≤ (rs.length : Int) by omega)) rfl
  by_cases hall : ∀ r ∈ rs, Wf r
  case neg =>
    refine ⟨false, of_ret ?_, fun h => (by cases h), fun ⟨xs, e, _, hg, _⟩ => absurd (fun r hr => ?_) hall⟩
    · unfold t20
      refine d_findR (fun i => ([(i : Int)], [false], [])) rs.length (by omega) (fun i => if h : i < rs.length then !((step i h).choose) else false) rfl (fun _ => ([], [false], [])) 2 ([(rs.length : Int)], [false], []) (fun i hi hp => ?_) (fun _ _ => rfl) (fun i hi hp => ?_) stop rfl (fun _ _ _ _ => rfl) (fun h => absurd (fun r hr => ?_) hall)
      · rw [dif_pos hi] at hp
        have hc := (step i hi).choose_spec
        have hp : (step i hi).choose = true := by simpa using hp
        rw [if_pos hp] at hc
        exact hc.2
      · rw [dif_pos hi] at hp
        have hc := (step i hi).choose_spec
        have hp : ¬ (step i hi).choose = true := by simpa using hp
        rw [if_neg hp] at hc
        exact hc.2
      · obtain ⟨i, hi, rfl⟩ := List.getElem_of_mem hr
        have hp := h i hi
        rw [dif_pos hi] at hp
        exact (step i hi).choose_spec.1.1 (by simpa using hp)
    · rw [e, List.mem_map] at hr
      obtain ⟨x, hx, rfl⟩ := hr
      exact ⟨x, hg x hx, rfl⟩
  obtain ⟨xs, rfl, hg⟩ := all_wf hall
  have lxs : xs.length ≤ 2100 := by rwa [List.length_map] at hlen
  have h700 := bodyB_700 hg
  have hbb : Bytes (bodyB xs) := by
    intro z hz
    unfold bodyB at hz
    rw [List.mem_flatten] at hz
    obtain ⟨q, hq, hz⟩ := hz
    rw [List.mem_map] at hq
    obtain ⟨x, hx, rfl⟩ := hq
    have g := hg x hx
    exact insB_bytes g.op (gd_pre g) (gd_a32 g) z hz
  have hB := q_rBody hbb (by omega)
  have hA := q_all hg lxs
  rw [← map_of_D] at hA
  have hback : Run xs [] → xs.length ≤ 2000 → bodyP 2001 [] [] (bodyB xs) = .ok (xs.map Ins.D) (bodyB xs).length := fun hr hl => by
    have := body_back xs 2001 [] [] [] hr hg (by simp; omega) (by omega)
    rwa [List.append_nil, List.nil_append] at this
  have hCl : Cl (xs.map Raw.of) ↔ Run xs [] ∧ xs.length ≤ 2000 := by
    constructor
    · rintro ⟨ys, e, h1, h2, h3⟩
      rw [map_of_inj e]; exact ⟨h1, h3⟩
    · exact fun ⟨h1, h2⟩ => ⟨xs, rfl, h1, hg, h2⟩
  rw [hCl]
  have start : ∀ o : Out, Vx.T.den (Tab.fn a20) k20_2 [2, ((xs.map Raw.of).length : Int)] [false] [(xs.map Raw.of).map Raw.D] = some o → Vx.T.den (Tab.fn a20) t20 [] [] [(xs.map Raw.of).map Raw.D] = some o := by
    intro o ho
    unfold t20
    refine d_loop (fun i => ([(i : Int)], [false], [])) (xs.map Raw.of).length (by omega) 2 ([((xs.map Raw.of).length : Int)], [false], []) rfl (fun i hi => ?_) (fun _ _ => rfl) stop rfl ho
    obtain ⟨b, h1, h2⟩ := step i hi
    have hb : b = true := h1.2 (hall _ (List.getElem_mem hi))
    rw [if_pos hb] at h2
    exact h2
  clear step stop
  cases hP : bodyP 2001 [] [] (bodyB xs) with
  | err e =>
    rw [hP] at hB
    have he : e ≠ 0 := (bodyP_stbl 2001 [] []).nz _ _ hP
    refine ⟨false, of_ret (start _ ?_), fun h => (by cases h), fun h => by rw [hback h.1 h.2] at hP; cases hP⟩
    unfold k20_2
    refine d_rq rfl ?_
    refine d_callx [] [] [(xs.map Raw.of).map Raw.D] ([], [], [dl (bodyB xs)]) e20_21 rfl rfl rfl hA rfl ?_
    refine d_callx [] [] [dl (bodyB xs)] ([0, e], [], [[]]) e20_40 rfl rfl rfl hB rfl ?_
    refine d_lb false ?_ (d_itF rfl rfl)
    show ((e == 0) && ((0 : Int) == ((dl (bodyB xs)).length : Int))) = false
    rw [eq_f he]; rfl
  | ok res n =>
    rw [hP] at hB
    obtain ⟨ys, h1, h2, h3, h4, h5, h6⟩ := body_run 2001 [] [] (bodyB xs) res n hbb hP
    rw [List.nil_append] at h1
    by_cases hn : n = (bodyB xs).length
    · have hS := q_sameAllR (rs := xs.map Raw.of) (ss := ys.map Raw.of) (by omega) (fun r hr => by have := (hok r hr).2; omega) (fun s hs => by
        rw [List.mem_map] at hs
        obtain ⟨y, hy, rfl⟩ := hs
        have := (h3 y hy).Ll
        show y.L.length ≤ _
        omega)
      rw [map_of_D ys, ← h1] at hS
      refine ⟨decide (xs.map Raw.of = ys.map Raw.of), of_ret (start _ ?_), fun h => ?_, fun h => ?_⟩
      · unfold k20_2
        refine d_rq rfl ?_
        refine d_callx [] [] [(xs.map Raw.of).map Raw.D] ([], [], [dl (bodyB xs)]) e20_21 rfl rfl rfl hA rfl ?_
        refine d_callx [] [] [dl (bodyB xs)] ([((0 + n : Nat) : Int), 0], [], [res]) e20_40 rfl rfl rfl hB rfl ?_
        refine d_lb true ?_ (d_itT rfl ?_)
        · show (((0 : Int) == 0) && (((0 + n : Nat) : Int) == ((dl (bodyB xs)).length : Int))) = true
          rw [dl_len, eq_t (show ((0 + n : Nat) : Int) = ((bodyB xs).length : Int) by omega)]; rfl
        · exact d_callx [] [] [(xs.map Raw.of).map Raw.D, res] ([], [decide (xs.map Raw.of = ys.map Raw.of)], []) e20_22 rfl rfl rfl hS rfl rfl
      · have e := map_of_inj (of_decide_eq_true h)
        subst e
        exact ⟨h2, by simp at h6; omega⟩
      · have hb := hback h.1 h.2
        rw [hP] at hb
        cases hb
        refine decide_eq_true (map_R_inj ?_)
        rw [map_of_D, map_of_D]; exact h1
    · refine ⟨false, of_ret (start _ ?_), fun h => (by cases h), fun h => by rw [hback h.1 h.2] at hP; cases hP; exact absurd rfl hn⟩
      unfold k20_2
      refine d_rq rfl ?_
      refine d_callx [] [] [(xs.map Raw.of).map Raw.D] ([], [], [dl (bodyB xs)]) e20_21 rfl rfl rfl hA rfl ?_
      refine d_callx [] [] [dl (bodyB xs)] ([((0 + n : Nat) : Int), 0], [], [res]) e20_40 rfl rfl rfl hB rfl ?_
      refine d_lb false ?_ (d_itF rfl rfl)
      show (((0 : Int) == 0) && (((0 + n : Nat) : Int) == ((dl (bodyB xs)).length : Int))) = false
      rw [dl_len, eq_f (show ((0 + n : Nat) : Int) ≠ ((bodyB xs).length : Int) by omega)]; rfl
/-! the code, behind any bytes -/
theorem q_PutA {x : Ins} (g : Gd x) (B : List D) (hB : B.length ≤ 1000) : F14 [(x.op : Int), x.a, x.b, x.k] [] [B, dl x.L] = some ([0], [], [B ++ dl (insB x)]) := by
  refine of_ret ?_
  unfold t14
  refine d_callx [(x.op : Int), x.a, x.b, x.k] [] [dl x.L] ([], [true], []) e14_16 rfl rfl rfl (q_formedT g) rfl (d_itF rfl ?_)
  refine d_callx [] [] [B] ([], [], [B]) e14_28 rfl rfl rfl (q_clone B (by omega)) rfl ?_
  exact d_callx [(x.op : Int), x.a, x.b, x.k] [] [B, dl x.L] _ e14_29 rfl rfl rfl (q_put g B (by omega)) rfl rfl
theorem q_PutF {op a b k : Int} {L B : List D} (h : F16 [op, a, b, k] [] [L] = some ([], [false], [])) : F14 [op, a, b, k] [] [B, L] = some ([2], [], [[]]) := by
  refine of_ret ?_
  unfold t14
  exact d_callx [op, a, b, k] [] [L] ([], [false], []) e14_16 rfl rfl rfl h rfl (d_itT rfl rfl)
theorem q_PutBodyA {xs : List Ins} (hr : Run xs []) (hg : ∀ x ∈ xs, Gd x) (hl : xs.length ≤ 2000) (B : List D) (hB : B.length ≤ 1000) : F11 [] [] [B, xs.map Ins.D] = some ([0], [], [B ++ dl (bodyB xs)]) := by
  have hll : (xs.map Ins.D).length = xs.length := List.length_map _
  have h700 := bodyB_700 hg
  refine of_ret ?_
  unfold t11
  refine d_callx [] [] [xs.map Ins.D] ([], [true], []) e11_12 rfl rfl rfl (q_closedT hr hg hl) rfl (d_itF rfl ?_)
  refine d_callx [] [] [B] ([], [], [B]) e11_28 rfl rfl rfl (q_clone B (by omega)) rfl ?_
  refine d_loop (fun i => ([(i : Int)], [], [B ++ dl (bodyB (xs.take i))])) xs.length (by omega) 2 ([(xs.length : Int)], [], [B ++ dl (bodyB xs)]) (by show ([(0 : Int)], [], [B]) = ([((0 : Nat) : Int)], [], [B ++ dl (bodyB (xs.take 0))]); rw [List.take_zero, show dl (bodyB []) = [] from rfl, List.append_nil]; rfl) (fun i hi => ?_) (fun _ _ => rfl) ?_ rfl ?_
  · show Vx.T.den _ l11_1 [(i : Int)] [true] [B, xs.map Ins.D, B, B ++ dl (bodyB (xs.take i))] = some (.nxt ([((i + 1 : Nat) : Int)], [], [B ++ dl (bodyB (xs.take (i + 1)))]))
    have hx := getD_D hi
    have gx : Gd xs[i] := hg _ (List.getElem_mem hi)
    rw [bodyB_take hi, dl_app, ← List.append_assoc]
    have hle := bodyB_le (xs := xs) i
    have hp := q_put gx (B ++ dl (bodyB (xs.take i))) (by rw [List.length_append, dl_len]; omega)
    generalize B ++ dl (bodyB (xs.take i)) = A at *
    generalize xs.map Ins.D = M at *
    generalize xs[i] = x at *
    generalize dl (insB x) = Z at *
    unfold l11_1
    rw [← up1 i (by omega)]
    have ha : [((M.getD i (.i 0)).cell 0).int, ((M.getD i (.i 0)).cell 1).int, ((M.getD i (.i 0)).cell 2).int, ((M.getD i (.i 0)).cell 3).int] = [(x.op : Int), x.a, x.b, x.k] := by rw [hx]; rfl
    refine d_itT (lt_t (show (i : Int) < (M.length : Int) by omega)) (d_rq (ge_t (show (0 : Int) ≤ (i : Int) by omega)) (d_lst [dl x.L] ?_ ?_))
    · show [((M.getD i (.i 0)).cell 4).list] = _
      rw [hx]; rfl
    exact d_callx [(x.op : Int), x.a, x.b, x.k] [] [A, dl x.L] _ e11_29 ha rfl rfl hp rfl rfl
  · show Vx.T.den _ l11_1 [(xs.length : Int)] [true] [B, xs.map Ins.D, B, B ++ dl (bodyB (xs.take xs.length))] = _
    rw [List.take_length]
    unfold l11_1
    exact d_itF (lt_f (show ((xs.map Ins.D).length : Int) ≤ (xs.length : Int) by omega)) rfl
  · unfold k11_2
    exact d_rq rfl rfl
theorem q_PutBodyF {M B : List D} (h : F12 [] [] [M] = some ([], [false], [])) : F11 [] [] [B, M] = some ([2], [], [[]]) := by
  refine of_ret ?_
  unfold t11
  exact d_callx [] [] [M] ([], [false], []) e11_12 rfl rfl rfl h rfl (d_itT rfl rfl)
set_option maxHeartbeats 4000000 in
theorem law (op a b k : Int) (B L l : List D) (hB : CT.wf (.sl [.i .u8]) (.l B)) (w0 : (Lit.int .i64 op).wf = true) (w1 : (Lit.int .i64 a).wf = true) (w2 : (Lit.int .i64 b).wf = true) (w3 : (Lit.int .i64 k).wf = true) (hL : CT.wf (.sl [.i .i64]) (.l L)) (hl : CT.wf (.sl [.i .i64, .i .i64, .i .i64, .i .i64, .sl [.i .i64]]) (.l l)) :
    F5 [op, a, b, k] [] [B, L, l] = some ([], [true], []) := by
  have hk := i64_of w3
  clear w0 w1 w2 w3 hB
  have eL : ∃ m, L = dl m := by
    simp only [CT.wf] at hL
    obtain ⟨_, hxs, _, hds⟩ := hL
    cases hxs
    exact ints_of hds
  have el : ∃ rs : List Raw, l = rs.map Raw.D ∧ ∀ r ∈ rs, -9223372036854775808 ≤ r.k ∧ r.k < 9223372036854775808 := by
    rw [CT.wf] at hl
    obtain ⟨_, hxs, _, hds⟩ := hl
    cases hxs
    exact raws_of hds
  clear hL hl
  obtain ⟨Li, rfl⟩ := eL
  obtain ⟨rs, rfl, hrs⟩ := el
  have hrl : (rs.map Raw.D).length = rs.length := List.length_map _
  refine of_ret ?_
  unfold t5
  refine d_callx [] [] [] ([], [true], []) e5_8 rfl rfl rfl q_awake rfl (d_itF rfl ?_)
  obtain ⟨bs, hsh, hsh2⟩ := q_short (M := rs.map Raw.D)
  refine d_callx [] [] [rs.map Raw.D] ([], [bs], []) e5_10 rfl rfl rfl hsh rfl ?_
  by_cases hg : (!bs || decide (((dl Li).length : Int) > 100) || decide ((B.length : Int) > 1000)) = true
  · exact d_lb true hg (d_itT rfl rfl)
  have hg := Bool.eq_false_iff.2 hg
  refine d_lb false hg (d_itF rfl ?_)
  rw [Bool.or_eq_false_iff, Bool.or_eq_false_iff, decide_eq_false_iff_not, decide_eq_false_iff_not, dl_len] at hg
  obtain ⟨⟨hbs, hLi⟩, hBl⟩ := hg
  obtain ⟨hlen, hLs⟩ := hsh2 (by simpa using hbs)
  rw [hrl] at hlen hLs
  have hok : ∀ r ∈ rs, (-9223372036854775808 ≤ r.k ∧ r.k < 9223372036854775808) ∧ r.L.length ≤ 100 := fun r hr => by
    refine ⟨hrs r hr, ?_⟩
    obtain ⟨i, hi, rfl⟩ := List.getElem_of_mem hr
    have := hLs i hi
    rw [getD_R hi] at this
    rw [← dl_len]; exact this
  have hcopy := q_copyAll (rs := rs) hlen fun r hr => (hok r hr).2
  -- the instruction
  obtain ⟨b1, hRF, hWf⟩ := q_rFormed (r := ⟨op, a, b, k, Li⟩) hk (by show Li.length ≤ 100; omega)
  obtain ⟨b1', hF, hF2⟩ := q_formed (op := op) (a := a) (b := b) (L := Li) hk (by omega)
  obtain rfl : b1' = b1 := by
    cases b1' with
    | true =>
      obtain ⟨x, g, e1, e2, e3, e4, e5⟩ := hF2 rfl
      exact (hWf.2 ⟨x, g, by subst e1 e2 e3 e4 e5; rfl⟩).symm
    | false =>
      cases b1 with
      | false => rfl
      | true =>
        obtain ⟨x, g, e⟩ := hWf.1 rfl
        simp only [Raw.of, Raw.mk.injEq] at e
        obtain ⟨rfl, rfl, rfl, rfl, rfl⟩ := e
        rw [q_formedT g] at hF
        cases hF
  obtain ⟨e1, c1, hPut, he1, hTp, hFp⟩ : ∃ (e1 : Int) (c1 : List D), F14 [op, a, b, k] [] [B, dl Li] = some ([e1], [], [c1]) ∧ (e1 == 0) = b1' ∧ (b1' = true → ∃ Z : List D, c1 = B ++ Z ∧ F19 [op, a, b, k] [] [dl Li] = some ([], [], [Z]) ∧ Z.length ≤ 700) ∧ (b1' = false → e1 = 2 ∧ c1 = []) := by
    cases b1' with
    | false => exact ⟨2, [], q_PutF hF, rfl, fun h => (by cases h), fun _ => ⟨rfl, rfl⟩⟩
    | true =>
      obtain ⟨x, g, rfl, rfl, rfl, rfl, rfl⟩ := hF2 rfl
      exact ⟨0, _, q_PutA g B (by omega), rfl, fun _ => ⟨_, rfl, q_rBytesG g, by rw [dl_len]; exact insB_le g⟩, fun h => (by cases h)⟩
  -- the list
  obtain ⟨b2, hRC, hCl⟩ := q_rClosed hok hlen
  obtain ⟨b2', hC, hC2⟩ := q_closed (rs := rs) (fun r hr => ⟨(hok r hr).1, by have := (hok r hr).2; omega⟩) (by omega)
  obtain rfl : b2' = b2 := by
    cases b2' with
    | true =>
      obtain ⟨xs, x1, x2, x3, x4⟩ := hC2 rfl
      exact (hCl.2 ⟨xs, map_R_inj (by rw [map_of_D]; exact x1), x2, x3, x4⟩).symm
    | false =>
      cases b2 with
      | false => rfl
      | true =>
        obtain ⟨xs, e, x2, x3, x4⟩ := hCl.1 rfl
        rw [e, map_of_D, q_closedT x2 x3 x4] at hC
        cases hC
  obtain ⟨e2, c2, hPB, he2, hTb, hFb⟩ : ∃ (e2 : Int) (c2 : List D), F11 [] [] [B, rs.map Raw.D] = some ([e2], [], [c2]) ∧ (e2 == 0) = b2' ∧ (b2' = true → ∃ Z : List D, c2 = B ++ Z ∧ F21 [] [] [rs.map Raw.D] = some ([], [], [Z]) ∧ Z.length ≤ 1400000) ∧ (b2' = false → e2 = 2 ∧ c2 = []) := by
    cases b2' with
    | false => exact ⟨2, [], q_PutBodyF hC, rfl, fun h => (by cases h), fun _ => ⟨rfl, rfl⟩⟩
    | true =>
      obtain ⟨xs, x1, x2, x3, x4⟩ := hC2 rfl
      have h700 := bodyB_700 x3
      rw [x1]
      exact ⟨0, _, q_PutBodyA x2 x3 x4 B (by omega), rfl, fun _ => ⟨_, rfl, q_all x3 (by omega), by rw [dl_len]; omega⟩, fun h => (by cases h)⟩
  have hSA : F22 [] [] [rs.map Raw.D, rs.map Raw.D] = some ([], [true], []) := (q_sameAllR (rs := rs) (ss := rs) (by omega) (fun r hr => by have := (hok r hr).2; omega) (fun r hr => by have := (hok r hr).2; omega)).trans (by rw [decide_eq_true rfl])
  clear hF2 hC2 hCl hWf hok hrs hsh hsh2 hLs
  have hBl : B.length ≤ 1000 := by omega
  generalize rs.map Raw.D = M at *
  generalize dl Li = L at *
  refine d_callx [] [] [M] ([], [], [M]) e5_13 rfl rfl rfl hcopy rfl ?_
  refine d_callx [op, a, b, k] [] [B, L] ([e1], [], [c1]) e5_14 rfl rfl rfl hPut rfl ?_
  refine d_callx [op, a, b, k] [] [L] ([], [b1'], []) e5_15 rfl rfl rfl hRF rfl ?_
  refine d_callx [op, a, b, k] [] [L] ([], [b1'], []) e5_16 rfl rfl rfl hF rfl ?_
  refine d_lb false (by show (!(b1' == b1') || !(b1' == (e1 == 0))) = false; rw [he1]; simp) ?_
  have both : ∀ {t : Vx.T} {is bs ls} {o : Out}, t.den (Tab.fn a5) is bs ls = some o → (Vx.T.both t t).den (Tab.fn a5) is bs ls = some o := fun h => d_both h h
  refine both ?_
  show Vx.T.den _ b5_1 [op, a, b, k, e1] [true, bs, false, b1', b1', false] [B, L, M, M, c1] = _
  unfold b5_1
  cases b1' with
  | true =>
    obtain ⟨Y, hc1, hY, hYl⟩ := hTp rfl
    have hl1 : c1.length < 4611686018427387904 := by rw [hc1, List.length_append]; omega
    have hc1' : [B ++ Y] = [c1] := by rw [hc1]
    clear hc1
    refine d_itT rfl ?_
    refine d_callx [] [] [B] ([], [], [B]) e5_18 rfl rfl rfl (q_rcopy B (by omega)) rfl ?_
    refine d_callx [op, a, b, k] [] [L] ([], [], [Y]) e5_19 rfl rfl rfl hY rfl ?_
    refine d_rq (c := E.an _ _) (an_t (le_t (show (B.length : Int) ≤ 17592186044416 by omega)) (le_t (show (Y.length : Int) ≤ 17592186044416 by omega))) (d_lst [c1] hc1' ?_)
    refine d_callx [] [] [c1, c1] ([], [true], []) e5_17 rfl rfl rfl (q_rsame c1 hl1) rfl (d_itF rfl ?_)
    · show Vx.T.den _ _ [op, a, b, k, e1] [true, bs, false, true, true, false, true] [B, L, M, M, c1, B, Y, c1] = _
      -- the list
      refine d_callx [] [] [B, M] ([e2], [], [c2]) e5_11 rfl rfl rfl hPB rfl ?_
      refine d_callx [] [] [M] ([], [b2'], []) e5_20 rfl rfl rfl hRC rfl ?_
      refine d_callx [] [] [M] ([], [b2'], []) e5_12 rfl rfl rfl hC rfl ?_
      refine d_lb false (by show (!(b2' == b2') || !(b2' == (e2 == 0))) = false; rw [he2]; simp) ?_
      show Vx.T.den _ _ [op, a, b, k, e1, e2] [true, bs, false, true, true, false, true, b2', b2', false] [B, L, M, M, c1, B, Y, c1, c2] = _
      cases b2' with
      | true =>
        obtain ⟨Z, hc2, hallA, hallB⟩ := hTb rfl
        have hl2 : c2.length < 4611686018427387904 := by rw [hc2, List.length_append]; omega
        have hc2' : [B ++ Z] = [c2] := by rw [hc2]
        clear hc2
        refine d_itT rfl ?_
        refine d_callx [] [] [B] ([], [], [B]) e5_18 rfl rfl rfl (q_rcopy B (by omega)) rfl ?_
        refine d_callx [] [] [M] ([], [], [Z]) e5_21 rfl rfl rfl hallA rfl ?_
        refine d_rq (c := E.an _ _) (an_t (le_t (show (B.length : Int) ≤ 17592186044416 by omega)) (le_t (show (Z.length : Int) ≤ 17592186044416 by omega))) (d_lst [c2] hc2' ?_)
        refine d_callx [] [] [c2, c2] ([], [true], []) e5_17 rfl rfl rfl (q_rsame c2 hl2) rfl (d_itF rfl ?_)
        show Vx.T.den _ _ [op, a, b, k, e1, e2] [true, bs, false, true, true, false, true, true, true, false, true] [B, L, M, M, c1, B, Y, c1, c2, B, Z, c2] = _
        exact d_callx [] [] [M, M] ([], [true], []) e5_22 rfl rfl rfl hSA rfl rfl
      | false =>
        obtain ⟨rfl, rfl⟩ := hFb rfl
        refine d_itF rfl (d_lb false rfl ?_)
        show Vx.T.den _ _ [op, a, b, k, e1, 2] [true, bs, false, true, true, false, true, false, false, false, false] [B, L, M, M, c1, B, Y, c1, []] = _
        refine d_itF rfl ?_
        exact d_callx [] [] [M, M] ([], [true], []) e5_22 rfl rfl rfl hSA rfl rfl
  | false =>
    obtain ⟨rfl, rfl⟩ := hFp rfl
    refine d_itF rfl (d_lb false rfl (d_itF rfl ?_))
    · show Vx.T.den _ _ [op, a, b, k, 2] [true, bs, false, false, false, false, false] [B, L, M, M, []] = _
      -- the list
      refine d_callx [] [] [B, M] ([e2], [], [c2]) e5_11 rfl rfl rfl hPB rfl ?_
      refine d_callx [] [] [M] ([], [b2'], []) e5_20 rfl rfl rfl hRC rfl ?_
      refine d_callx [] [] [M] ([], [b2'], []) e5_12 rfl rfl rfl hC rfl ?_
      refine d_lb false (by show (!(b2' == b2') || !(b2' == (e2 == 0))) = false; rw [he2]; simp) ?_
      show Vx.T.den _ _ [op, a, b, k, 2, e2] [true, bs, false, false, false, false, false, b2', b2', false] [B, L, M, M, [], c2] = _
      cases b2' with
      | true =>
        obtain ⟨Z, hc2, hallA, hallB⟩ := hTb rfl
        have hl2 : c2.length < 4611686018427387904 := by rw [hc2, List.length_append]; omega
        have hc2' : [B ++ Z] = [c2] := by rw [hc2]
        clear hc2
        refine d_itT rfl ?_
        refine d_callx [] [] [B] ([], [], [B]) e5_18 rfl rfl rfl (q_rcopy B (by omega)) rfl ?_
        refine d_callx [] [] [M] ([], [], [Z]) e5_21 rfl rfl rfl hallA rfl ?_
        refine d_rq (c := E.an _ _) (an_t (le_t (show (B.length : Int) ≤ 17592186044416 by omega)) (le_t (show (Z.length : Int) ≤ 17592186044416 by omega))) (d_lst [c2] hc2' ?_)
        refine d_callx [] [] [c2, c2] ([], [true], []) e5_17 rfl rfl rfl (q_rsame c2 hl2) rfl (d_itF rfl ?_)
        show Vx.T.den _ _ [op, a, b, k, 2, e2] [true, bs, false, false, false, false, false, true, true, false, true] [B, L, M, M, [], c2, B, Z, c2] = _
        exact d_callx [] [] [M, M] ([], [true], []) e5_22 rfl rfl rfl hSA rfl rfl
      | false =>
        obtain ⟨rfl, rfl⟩ := hFb rfl
        refine d_itF rfl (d_lb false rfl ?_)
        show Vx.T.den _ _ [op, a, b, k, 2, 2] [true, bs, false, false, false, false, false, false, false, false, false] [B, L, M, M, [], []] = _
        refine d_itF rfl ?_
        exact d_callx [] [] [M, M] ([], [true], []) e5_22 rfl rfl rfl hSA rfl rfl
end Go.Proofs.Ytmfjapphmmlppaa.YInstrPuts
