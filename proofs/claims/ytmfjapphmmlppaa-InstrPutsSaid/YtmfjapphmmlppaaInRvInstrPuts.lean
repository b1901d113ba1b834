/-
  InstrPuts: the reference of layer 6: what is formed, what is closed.
-/
import Derived.Test.YtmfjapphmmlppaaInRzInstrPuts
namespace Go.Proofs.Ytmfjapphmmlppaa.WInstrPuts
set_option linter.all false
open Go.Proofs.Ytmfjapphmmlppaa.Vx Go.Proofs.Ytmfjapphmmlppaa.XInstrPuts Go.Proofs.Ytmfjapphmmlppaa.Vd Go.Proofs.Ytmfjapphmmlppaa.Vn Go.Proofs.Ytmfjapphmmlppaa.Vl Go.Proofs.Ytmfjapphmmlppaa.Vp Go.Proofs.Ytmfjapphmmlppaa.Vb Go.Proofs.Ytmfjapphmmlppaa.SInstrPuts Go.Proofs.Ytmfjapphmmlppaa.Vo Go.Proofs.Ytmfjapphmmlppaa.Vt Go.Proofs.Ytmfjapphmmlppaa.IInstrPuts Go.Proofs.Ytmfjapphmmlppaa.PInstrPuts Go.Proofs.Ytmfjapphmmlppaa.MInstrPuts Go.Proofs.Ytmfjapphmmlppaa.KInstrPuts
theorem q_rrightBk (k : Int) : F31 [k] [] [] = some ([], [okBk k], []) := by
  have e : (decide (k ≥ 0) && decide (k ≤ 4294967295)) = right k := by
    unfold right
    rw [show decide (k ≤ 4294967295) = decide (k < 4294967296) from decide_eq_decide.2 (by omega)]
  refine of_ret ?_
  unfold t31
  exact d_lb (k == -64 || k == -1) rfl (d_lb (right k) e (d_lb (okBk k) rfl rfl))
def Wf (r : Raw) : Prop := ∃ x : Ins, Gd x ∧ r = Raw.of x
/-- What comes last: the bytes are read again. -/
theorem formed_tail {x : Ins} (ho : x.op < 512) (h0 : fm x.op ≠ 0) (h11 : fm x.op ≠ 11) (hx : Pre x) (ha : fm x.op ≠ 2 → u32 x.a) (ht : fm x.op = 2 → okBk x.a = true) :
    ∃ b : Bool, (b = true ↔ Gd x) ∧ ∀ (is : List Int) (bs : List Bool) (pat l2 l3 : List D) (m : Nat), bs.length = m →
      Vx.T.den (Tab.fn a15) (Vx.T.call 19 [.iv 0, .iv 1, .iv 2, .iv 3] [] [.v 0] 0 0 1 (.call 32 [.n 0] [] [.v 4] 6 0 1 (.ite (.cm .eql (.iv 11) (.n 0)) (.call 24 [.iv 0, .iv 1, .iv 2, .iv 3, .iv 6, .iv 7, .iv 8, .iv 9] [] [.v 0, .v 5] 0 1 0 (.ret [] [.bv m] [])) (.ret [] [.t false] []))))
        [(x.op : Int), x.a, x.b, x.k, is.getD 0 0, is.getD 1 0] bs [dl x.L, pat, l2, l3] = some (.ret ([], [b], [])) := by
  have hB := q_rBytes ho h0 h11 hx ha ht
  have hb := insB_bytes ho hx ha
  have hl := insB_len ho h0 h11 hx ha ht
  have hO := q_rOne hb (by omega) (p := 0) (by omega)
  rw [List.drop_zero] at hO
  have hback : Gd x → instrP (insB x) = .ok x (insB x).length := fun g => by have := instr_back g []; rwa [List.append_nil] at this
  cases hi : instrP (insB x) with
  | err e =>
    rw [hi] at hO
    have he := instrP_stbl.nz _ _ hi
    refine ⟨false, ⟨fun h => (by cases h), fun g => by rw [hback g] at hi; cases hi⟩, fun is bs pat l2 l3 m hm => ?_⟩
    refine d_callx [(x.op : Int), x.a, x.b, x.k] [] [dl x.L] ([], [], [dl (insB x)]) e15_19 rfl rfl rfl hB rfl ?_
    refine d_callx [((0 : Nat) : Int)] [] [dl (insB x)] ([0, 0, 0, 0, 0, e], [], [[]]) e15_32 rfl rfl rfl hO rfl ?_
    exact d_itF (eq_f he) rfl
  | ok y n =>
    rw [hi] at hO
    have gy := (instr_min hb hi).1
    refine ⟨decide (Raw.of x = Raw.of y), ⟨fun h => ?_, fun g => ?_⟩, fun is bs pat l2 l3 m hm => ?_⟩
    · have := of_inj (of_decide_eq_true h)
      rw [this]; exact gy
    · rw [hback g] at hi
      cases hi
      exact decide_eq_true rfl
    refine d_callx [(x.op : Int), x.a, x.b, x.k] [] [dl x.L] ([], [], [dl (insB x)]) e15_19 rfl rfl rfl hB rfl ?_
    refine d_callx [((0 : Nat) : Int)] [] [dl (insB x)] ([(y.op : Int), y.a, y.b, y.k, ((0 + n : Nat) : Int), 0], [], [dl y.L]) e15_32 rfl rfl rfl hO rfl ?_
    refine d_itT rfl ?_
    refine d_callx [(x.op : Int), x.a, x.b, x.k, (y.op : Int), y.a, y.b, y.k] [] [dl x.L, dl y.L] ([], [decide (Raw.of x = Raw.of y)], []) e15_24 rfl rfl rfl (q_sameR (r := Raw.of x) (s := Raw.of y) (by have := hx.Ll; show x.L.length ≤ _; omega)) rfl ?_
    show some (Out.ret ([], [((bs ++ []) ++ [] ++ [decide (Raw.of x = Raw.of y)]).getD m false], [])) = _
    rw [List.append_nil, List.append_nil, ← hm]
    simp [List.getD_eq_getElem?_getD]
def badI (v : Int) : Bool := decide (v < 0) || decide (v > 4294967295)
theorem bad_u32 {v : Int} : badI v = false ↔ u32 v := by
  unfold badI u32
  rw [Bool.or_eq_false_iff, decide_eq_false_iff_not, decide_eq_false_iff_not]
  omega
theorem q_rFormed {r : Raw} (hk : -9223372036854775808 ≤ r.k ∧ r.k < 9223372036854775808) (hL : r.L.length ≤ 100) : ∃ b : Bool, F15 [r.op, r.a, r.b, r.k] [] [dl r.L] = some ([], [b], []) ∧ (b = true ↔ Wf r) := by
  by_cases hop : r.op < 0 ∨ 512 ≤ r.op
  · refine ⟨false, of_ret ?_, fun h => (by cases h), fun ⟨x, g, e⟩ => ?_⟩
    · unfold t15
      refine d_callx [r.op] [] [] ([], [], [[]]) e15_30 rfl rfl rfl (q_patOut hop) rfl (d_lb true rfl (d_itT rfl rfl))
    · have h1 : r.op = (x.op : Int) := by rw [e]; rfl
      have := g.op
      omega
  obtain ⟨op, hop2⟩ : ∃ op : Nat, r.op = (op : Int) := ⟨r.op.toNat, by omega⟩
  have ho : op < 512 := by omega
  obtain ⟨x, hxd⟩ : ∃ x : Ins, x = ⟨op, r.a, r.b, r.k, r.L⟩ := ⟨_, rfl⟩
  have hrx : r = Raw.of x := by subst hxd; cases r; simp only at hop2; subst hop2; rfl
  have hwf : Wf r ↔ Gd x := by
    constructor
    · rintro ⟨y, g, e⟩
      rw [hrx] at e
      rw [of_inj e]; exact g
    · exact fun g => ⟨x, g, hrx⟩
  have hxo : x.op = op := by rw [hxd]
  have hp := q_pat ho
  have hr := fm_range op
  rw [hwf]
  subst hrx
  have hk : -9223372036854775808 ≤ x.k ∧ x.k < 9223372036854775808 := hk
  have hL : x.L.length ≤ 100 := hL
  rw [← hxo] at hp hr ho
  clear hxd hop hop2 hxo hwf
  show ∃ b : Bool, F15 [(x.op : Int), x.a, x.b, x.k] [] [dl x.L] = some ([], [b], []) ∧ (b = true ↔ Gd x)
  by_cases h0 : fm x.op = 0
  · refine ⟨false, of_ret ?_, fun h => (by cases h), fun g => absurd h0 g.nf.1⟩
    rw [h0] at hp
    unfold t15
    refine d_callx [(x.op : Int)] [] [] ([], [], [dl (patL 0)]) e15_30 rfl rfl rfl hp rfl (d_lb true rfl (d_itT rfl rfl))
  by_cases h11 : fm x.op = 11
  · refine ⟨false, of_ret ?_, fun h => (by cases h), fun g => absurd h11 g.nf.2⟩
    rw [h11] at hp
    unfold t15
    refine d_callx [(x.op : Int)] [] [] ([], [], [dl (patL 11)]) e15_30 rfl rfl rfl hp rfl (d_lb true rfl (d_itT rfl rfl))
  obtain ⟨g1, g2, g3, g4, g5⟩ := patL_ok hr.1 hr.2 h0 h11
  have h116 : D.sameL (dl (patL (fm x.op))) [.i 116] = decide (fm x.op = 2) := by
    have h : fm x.op = 1 ∨ fm x.op = 2 ∨ fm x.op = 3 ∨ fm x.op = 4 ∨ fm x.op = 5 ∨ fm x.op = 6 ∨ fm x.op = 7 ∨ fm x.op = 8 ∨ fm x.op = 9 ∨ fm x.op = 10 := by omega
    rcases h with h | h | h | h | h | h | h | h | h | h <;> rw [h] <;> rfl
  -- what was asked of the numbers
  by_cases hall : ∀ i, i < (x.b :: x.L).length → badI ((x.b :: x.L).getD i 0) = false
  case neg =>
    refine ⟨false, of_ret ?_, fun h => (by cases h), fun g => absurd ?_ hall⟩
    · unfold t15
      refine d_callx [(x.op : Int)] [] [] ([], [], [dl (patL (fm x.op))]) e15_30 rfl rfl rfl hp rfl ?_
      generalize patL (fm x.op) = pat at *
      refine d_lb false ?_ (d_itF ?_ ?_)
      · show ((((dl pat).length : Int) == 0) || D.sameL (dl pat) [.i 63] || decide ((x.op : Int) < 0)) = false
        rw [eq_f (by rw [dl_len]; omega), g5, lt_f (by omega)]; rfl
      · show (false || decide ((x.op : Int) > 511)) = false
        rw [gt_f (by omega)]; rfl
      refine d_lst [[.i x.b]] rfl (d_rq (c := E.an _ _) (an_t rfl (le_t (show ((dl x.L).length : Int) ≤ 3909374676536 by rw [dl_len]; omega))) (d_lst [dl (x.b :: x.L)] rfl ?_))
      have hq : (dl (x.b :: x.L)).length = (x.b :: x.L).length := dl_len _
      refine d_findR (fun i => ([(i : Int)], [false], [])) (x.b :: x.L).length (by simp only [List.length_cons]; omega) (fun i => badI ((x.b :: x.L).getD i 0)) rfl (fun _ => ([], [false], [])) 2 ([((x.b :: x.L).length : Int)], [false], []) (fun i hi hp => ?_) (fun _ _ => rfl) (fun i hi hp => ?_) ?_ rfl (fun j hj hp _ => rfl) (fun h => absurd h hall)
      · show Vx.T.den _ l15_1 [(x.op : Int), x.a, x.b, x.k, (i : Int)] [false, false] [dl x.L, dl pat, [.i x.b], dl (x.b :: x.L)] = some (.nxt ([((i + 1 : Nat) : Int)], [false], []))
        unfold l15_1
        rw [← up1 i (by simp only [List.length_cons] at hi; omega)]
        refine d_itT (lt_t (show (i : Int) < ((dl (x.b :: x.L)).length : Int) by omega)) (d_rq (ge_t (show (0 : Int) ≤ (i : Int) by omega)) (d_lb false ?_ (d_itF rfl rfl)))
        show badI (((dl (x.b :: x.L)).getD ((i : Int)).toNat (.i 0)).cell 0).int = false
        rw [Int.toNat_natCast, ix_dl]; exact hp
      · show Vx.T.den _ l15_1 [(x.op : Int), x.a, x.b, x.k, (i : Int)] [false, false] [dl x.L, dl pat, [.i x.b], dl (x.b :: x.L)] = some (.ret ([], [false], []))
        unfold l15_1
        refine d_itT (lt_t (show (i : Int) < ((dl (x.b :: x.L)).length : Int) by omega)) (d_rq (ge_t (show (0 : Int) ≤ (i : Int) by omega)) (d_lb true ?_ (d_itT rfl (d_rt rfl))))
        show badI (((dl (x.b :: x.L)).getD ((i : Int)).toNat (.i 0)).cell 0).int = true
        rw [Int.toNat_natCast, ix_dl]; exact hp
      · show Vx.T.den _ l15_1 [(x.op : Int), x.a, x.b, x.k, ((x.b :: x.L).length : Int)] [false, false] [dl x.L, dl pat, [.i x.b], dl (x.b :: x.L)] = _
        unfold l15_1
        exact d_itF (lt_f (show ((dl (x.b :: x.L)).length : Int) ≤ ((x.b :: x.L).length : Int) by omega)) rfl
    · intro i hi
      rw [bad_u32]
      cases i with
      | zero => exact gd_b32 g
      | succ i =>
        rw [List.getD_cons_succ]
        simp only [List.length_cons] at hi
        rw [List.getD_eq_getElem?_getD, List.getElem?_eq_getElem (by omega)]
        exact g.L _ (List.getElem_mem _)
  have hb32 : u32 x.b := bad_u32.1 (hall 0 (by simp))
  have hL32 : ∀ v ∈ x.L, u32 v := fun v hv => by
    obtain ⟨i, hi, rfl⟩ := List.getElem_of_mem hv
    have := hall (i + 1) (by simp only [List.length_cons]; omega)
    rw [List.getD_cons_succ, List.getD_eq_getElem?_getD, List.getElem?_eq_getElem hi] at this
    exact bad_u32.1 this
  have pre : Pre x := ⟨hL32, hL, hb32, hk⟩
  -- the code up to what comes last
  have start : ∀ o : Out, Vx.T.den (Tab.fn a15) k15_2 [(x.op : Int), x.a, x.b, x.k, 2, ((x.b :: x.L).length : Int)] [false, false] [dl x.L, dl (patL (fm x.op)), [.i x.b], dl (x.b :: x.L)] = some o → Vx.T.den (Tab.fn a15) t15 [(x.op : Int), x.a, x.b, x.k] [] [dl x.L] = some o := by
    intro o ho'
    unfold t15
    refine d_callx [(x.op : Int)] [] [] ([], [], [dl (patL (fm x.op))]) e15_30 rfl rfl rfl hp rfl ?_
    generalize patL (fm x.op) = pat at *
    refine d_lb false ?_ (d_itF ?_ ?_)
    · show ((((dl pat).length : Int) == 0) || D.sameL (dl pat) [.i 63] || decide ((x.op : Int) < 0)) = false
      rw [eq_f (by rw [dl_len]; omega), g5, lt_f (by omega)]; rfl
    · show (false || decide ((x.op : Int) > 511)) = false
      rw [gt_f (by omega)]; rfl
    refine d_lst [[.i x.b]] rfl (d_rq (c := E.an _ _) (an_t rfl (le_t (show ((dl x.L).length : Int) ≤ 3909374676536 by rw [dl_len]; omega))) (d_lst [dl (x.b :: x.L)] rfl ?_))
    have hq : (dl (x.b :: x.L)).length = (x.b :: x.L).length := dl_len _
    refine d_loop (fun i => ([(i : Int)], [false], [])) (x.b :: x.L).length (by simp only [List.length_cons]; omega) 2 ([((x.b :: x.L).length : Int)], [false], []) rfl (fun i hi => ?_) (fun _ _ => rfl) ?_ rfl ho'
    · show Vx.T.den _ l15_1 [(x.op : Int), x.a, x.b, x.k, (i : Int)] [false, false] [dl x.L, dl pat, [.i x.b], dl (x.b :: x.L)] = some (.nxt ([((i + 1 : Nat) : Int)], [false], []))
      unfold l15_1
      rw [← up1 i (by simp only [List.length_cons] at hi; omega)]
      refine d_itT (lt_t (show (i : Int) < ((dl (x.b :: x.L)).length : Int) by omega)) (d_rq (ge_t (show (0 : Int) ≤ (i : Int) by omega)) (d_lb false ?_ (d_itF rfl rfl)))
      show badI (((dl (x.b :: x.L)).getD ((i : Int)).toNat (.i 0)).cell 0).int = false
      rw [Int.toNat_natCast, ix_dl]; exact hall i hi
    · show Vx.T.den _ l15_1 [(x.op : Int), x.a, x.b, x.k, ((x.b :: x.L).length : Int)] [false, false] [dl x.L, dl pat, [.i x.b], dl (x.b :: x.L)] = _
      unfold l15_1
      exact d_itF (lt_f (show ((dl (x.b :: x.L)).length : Int) ≤ ((x.b :: x.L).length : Int) by omega)) rfl
  by_cases h2 : fm x.op = 2
  · have hs : D.sameL (dl (patL (fm x.op))) [.i 116] = true := by rw [h116, decide_eq_true h2]
    by_cases hok : okBk x.a = true
    · obtain ⟨b, hb1, hb2⟩ := formed_tail ho h0 h11 pre (fun h => absurd h2 h) (fun _ => hok)
      refine ⟨b, of_ret (start _ ?_), hb1⟩
      unfold k15_2
      refine d_rq rfl (d_lb (badI x.a) rfl (d_itT ?_ ?_))
      · show (!((!(D.sameL (dl (patL (fm x.op))) [.i 116])) && badI x.a) && D.sameL (dl (patL (fm x.op))) [.i 116]) = true
        rw [hs]; rfl
      refine d_callx [x.a] [] [] ([], [true], []) e15_31 rfl rfl rfl ((q_rrightBk x.a).trans (by rw [hok])) rfl (d_itF rfl ?_)
      exact hb2 [2, ((x.b :: x.L).length : Int)] [false, false, badI x.a, true] _ _ _ 4 rfl
    · refine ⟨false, of_ret (start _ ?_), fun h => (by cases h), fun g => absurd (g.f2 h2).1 hok⟩
      unfold k15_2
      refine d_rq rfl (d_lb (badI x.a) rfl (d_itT ?_ ?_))
      · show (!((!(D.sameL (dl (patL (fm x.op))) [.i 116])) && badI x.a) && D.sameL (dl (patL (fm x.op))) [.i 116]) = true
        rw [hs]; rfl
      have hok : okBk x.a = false := by simpa using hok
      exact d_callx [x.a] [] [] ([], [false], []) e15_31 rfl rfl rfl ((q_rrightBk x.a).trans (by rw [hok])) rfl (d_itT rfl rfl)
  · have hs : D.sameL (dl (patL (fm x.op))) [.i 116] = false := by rw [h116, decide_eq_false h2]
    by_cases hbad : badI x.a = true
    · refine ⟨false, of_ret (start _ ?_), fun h => (by cases h), fun g => absurd (gd_a32 g h2) fun h => by rw [bad_u32.2 h] at hbad; cases hbad⟩
      unfold k15_2
      refine d_rq rfl (d_lb true hbad (d_itF ?_ (d_itT ?_ rfl)))
      · show (!((!(D.sameL (dl (patL (fm x.op))) [.i 116])) && true) && D.sameL (dl (patL (fm x.op))) [.i 116]) = false
        rw [hs]; rfl
      · show ((!(D.sameL (dl (patL (fm x.op))) [.i 116])) && true) = true
        rw [hs]; rfl
    · have hbad : badI x.a = false := by simpa using hbad
      obtain ⟨b, hb1, hb2⟩ := formed_tail ho h0 h11 pre (fun _ => bad_u32.1 hbad) (fun h => absurd h h2)
      refine ⟨b, of_ret (start _ ?_), hb1⟩
      unfold k15_2
      refine d_rq rfl (d_lb false hbad (d_itF ?_ (d_itF ?_ ?_)))
      · show (!((!(D.sameL (dl (patL (fm x.op))) [.i 116])) && false) && D.sameL (dl (patL (fm x.op))) [.i 116]) = false
        rw [hs]; rfl
      · show ((!(D.sameL (dl (patL (fm x.op))) [.i 116])) && false) = false
        rw [Bool.and_false]
      exact hb2 [2, ((x.b :: x.L).length : Int)] [false, false, false] _ _ _ 3 rfl
end Go.Proofs.Ytmfjapphmmlppaa.WInstrPuts
