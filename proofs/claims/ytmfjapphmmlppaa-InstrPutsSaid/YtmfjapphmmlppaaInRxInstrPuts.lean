/-
  InstrPuts: the reference of layer 6: a code that is none.
-/
import Derived.Test.YtmfjapphmmlppaaInRfaInstrPuts
namespace Go.Proofs.Ytmfjapphmmlppaa.WInstrPuts
set_option linter.all false
open Go.Proofs.Ytmfjapphmmlppaa.Vx Go.Proofs.Ytmfjapphmmlppaa.XInstrPuts Go.Proofs.Ytmfjapphmmlppaa.Vd Go.Proofs.Ytmfjapphmmlppaa.Vn Go.Proofs.Ytmfjapphmmlppaa.Vl Go.Proofs.Ytmfjapphmmlppaa.Vp Go.Proofs.Ytmfjapphmmlppaa.Vb Go.Proofs.Ytmfjapphmmlppaa.SInstrPuts Go.Proofs.Ytmfjapphmmlppaa.Vo Go.Proofs.Ytmfjapphmmlppaa.Vt Go.Proofs.Ytmfjapphmmlppaa.IInstrPuts Go.Proofs.Ytmfjapphmmlppaa.PInstrPuts Go.Proofs.Ytmfjapphmmlppaa.MInstrPuts Go.Proofs.Ytmfjapphmmlppaa.KInstrPuts
set_option maxRecDepth 100000
/-- A test of a code that is none. -/
def tw (hi : Bool) (bs : List Bool) : E → Option Bool
  | .oo x y => match tw hi bs x, tw hi bs y with | some a, some b => some (a || b) | _, _ => none
  | .an x y => match tw hi bs x, tw hi bs y with | some a, some b => some (a && b) | _, _ => none
  | .nt x => match tw hi bs x with | some a => some (!a) | _ => none
  | .bv i => bs[i]?
  | .t v => some v
  | .cm o x y => tc hi o x y
  | _ => none
theorem tw_ok {hi : Bool} {op : Int} (h : if hi = true then 512 ≤ op else op < 0) {bs : List Bool} {is : List Int} {ls : LL} : ∀ (e : E) {v : Bool}, tw hi bs e = some v → e.B (op :: is) bs ls = v := by
  intro e
  induction e with
  | oo x y ihx ihy =>
    intro v hv
    simp only [tw] at hv
    split at hv
    · rename_i a b h1 h2
      cases hv
      simp only [E.B, ihx h1, ihy h2]
    · cases hv
  | an x y ihx ihy =>
    intro v hv
    simp only [tw] at hv
    split at hv
    · rename_i a b h1 h2
      cases hv
      simp only [E.B, ihx h1, ihy h2]
    · cases hv
  | nt x ih =>
    intro v hv
    simp only [tw] at hv
    split at hv
    · rename_i a h1
      cases hv
      simp only [E.B, ih h1]
    · cases hv
  | bv i =>
    intro v hv
    simp only [tw] at hv
    show bs.getD i false = v
    rw [List.getD_eq_getElem?_getD, hv]; rfl
  | t b => intro v hv; simp only [tw] at hv; cases hv; rfl
  | cm o x y _ _ => intro v hv; simp only [tw] at hv; exact tc_ok h hv
  | _ => intro v hv; simp [tw] at hv
def red (hi : Bool) (bs : List Bool) : Vx.T → Vx.T
  | .ite e a b => match tw hi bs e with
    | some true => red hi bs a
    | some false => red hi bs b
    | none => .ite e a b
  | t => t
theorem red_ok {hi : Bool} {op : Int} (h : if hi = true then 512 ≤ op else op < 0) {C : Nat → Vx.Fn} {bs : List Bool} {is : List Int} {ls : LL} : ∀ (t : Vx.T), (red hi bs t).den C (op :: is) bs ls = t.den C (op :: is) bs ls := by
  intro t
  induction t with
  | ite e a b iha ihb =>
    simp only [red]
    cases hv : tw hi bs e with
    | none => rfl
    | some v =>
      have hb := tw_ok h (is := is) (ls := ls) e hv
      cases v with
      | true => dsimp only; rw [iha]; exact (d_itT hb rfl).symm
      | false => dsimp only; rw [ihb]; exact (d_itF hb rfl).symm
  | _ => rfl
theorem d_red {hi : Bool} {op : Int} (h : if hi = true then 512 ≤ op else op < 0) {C : Nat → Vx.Fn} {bs : List Bool} {is : List Int} {ls : LL} {t t' : Vx.T} {o : Option Out} (e : red hi bs t = t') (k : t'.den C (op :: is) bs ls = o) : t.den C (op :: is) bs ls = o := by
  rw [← red_ok h, e]; exact k
theorem d_lbw {hi : Bool} {op : Int} (h : if hi = true then 512 ≤ op else op < 0) {C : Nat → Vx.Fn} {bs : List Bool} {is : List Int} {ls : LL} {e : E} {t : Vx.T} {o : Option Out} (v : Bool) (hv : tw hi bs e = some v) (k : t.den C (op :: is) (bs ++ [v]) ls = o) : (Vx.T.lb e t).den C (op :: is) bs ls = o := d_lb v (tw_ok h e hv) k
theorem d_itw {hi : Bool} {op : Int} (h : if hi = true then 512 ≤ op else op < 0) {C : Nat → Vx.Fn} {bs : List Bool} {is : List Int} {ls : LL} {e : E} {a b : Vx.T} {o : Option Out} (hv : tw hi bs e = some false) (k : b.den C (op :: is) bs ls = o) : (Vx.T.ite e a b).den C (op :: is) bs ls = o := d_itF (tw_ok h e hv) k
/-- A group of codes. -/
theorem d_grp {hi : Bool} {op : Int} (h : if hi = true then 512 ≤ op else op < 0) {C : Nat → Vx.Fn} {bs : List Bool} {is : List Int} {ls : LL} {t k : Vx.T} {e : E} {n : Nat} {o : Option Out} (hg : go hi nA false n bs t = some ([false], [])) (hn : is.length + 1 = n) (ht : isTag e n = true)
    (hk : k.den C (op :: (is ++ [0])) (bs ++ [false]) ls = o) : (Vx.T.jn t 0 1 0 (.rq e k)).den C (op :: is) bs ls = o := by
  obtain ⟨r, g1, g2, g3, _⟩ := go_sound h (C := C) (nA_ok (op := op)) t false n is bs ls [false] [] hg hn
  obtain ⟨g4, g5⟩ := g3 rfl
  have hr : r = ([], [false], []) := by
    obtain ⟨a, b, c⟩ := r
    simp only at g2 g4 g5
    rw [g2, g4, g5]
  rw [hr] at g1
  refine d_jn 0 ([], [false], []) g1 rfl (d_rq (isTag_ok ht ?_) ?_)
  · rw [List.getD_eq_getElem?_getD, List.getElem?_append_right (by rw [List.length_cons]; omega), List.length_cons, hn]
    simp
  · simpa using hk
section
variable {hi : Bool} {op : Int}
theorem out_func32 (h : if hi = true then 512 ≤ op else op < 0) : F65 [op] [] [] = some ([127], [], []) := by
  refine of_ret ?_
  unfold t65
  refine d_lbw h false (by cases hi <;> rfl) (d_lbw h false (by cases hi <;> rfl) (d_lbw h false (by cases hi <;> rfl) (d_lbw h false (by cases hi <;> rfl) (d_itw h (by cases hi <;> rfl) rfl))))
theorem out_Un (h : if hi = true then 512 ≤ op else op < 0) : F66 [op, 0] [] [] = some ([0], [false], []) := by
  refine of_ret ?_
  unfold t66
  refine d_lbw h false (by cases hi <;> rfl) (d_itw h (by cases hi <;> rfl) ?_)
  refine d_callx [0, 32] [] [] ([0], [], []) e66_74 rfl rfl rfl (by kernel_rfl) rfl ?_
  refine d_red (is := [0, 0]) h (t' := .ret [.n 0] [.t false] []) (by cases hi <;> kernel_rfl) rfl
theorem out_Bin (h : if hi = true then 512 ≤ op else op < 0) : F67 [op, 0, 1] [] [] = some ([0, 0], [false], []) := by
  refine of_ret ?_
  unfold t67
  refine d_lbw h false (by cases hi <;> rfl) (d_jn_ret (d_itw h (by cases hi <;> rfl) ?_))
  refine d_lbw h false (by cases hi <;> rfl) (d_jn_ret (d_itw h (by cases hi <;> rfl) ?_))
  refine d_lbw h false (by cases hi <;> rfl) (d_jn_ret (d_itw h (by cases hi <;> rfl) ?_))
  exact d_lbw h false (by cases hi <;> rfl) (d_itw h (by cases hi <;> rfl) (d_rt (d_rt (d_rt rfl))))
theorem out_Types (h : if hi = true then 512 ≤ op else op < 0) : F51 [op] [] [] = some ([0], [false], [[]]) := by
  refine of_ret ?_
  unfold t51
  refine d_callx [op] [] [] ([127], [], []) e51_65 rfl rfl rfl (out_func32 h) rfl ?_
  refine d_callx [op, 0] [] [] ([0], [false], []) e51_66 rfl rfl rfl (out_Un h) rfl (d_itF rfl ?_)
  exact d_callx [op, 0, 1] [] [] ([0, 0], [false], []) e51_67 rfl rfl rfl (out_Bin h) rfl (d_itF rfl rfl)
def lOf : List D := match t50 with | .lst [x] _ => x.L [] [] [] | _ => []
theorem lOf_len : lOf.length = 19 := by kernel_rfl
theorem lOf_in : (List.range 19).all (fun i => decide (0 ≤ ((lOf.getD i (.i 0)).cell 0).int ∧ ((lOf.getD i (.i 0)).cell 0).int < 512)) = true := by kernel_rfl
theorem out_Of (h : op < 0 ∨ 512 ≤ op) : F50 [op] [] [] = some ([0, 0, 0], [false, false, false], []) := by
  refine of_ret ?_
  unfold t50
  refine d_lst [lOf] (by rfl) ?_
  have hl := lOf_len
  have hin := lOf_in
  rw [List.all_eq_true] at hin
  generalize lOf = Q at *
  refine d_loop (fun i => ([(i : Int)], [false], [])) 19 (by omega) 2 ([19], [false], []) rfl (fun i hi => ?_) (fun _ _ => rfl) ?_ rfl ?_
  · show Vx.T.den _ l50_1 [op, (i : Int)] [false] [Q] = some (.nxt ([((i + 1 : Nat) : Int)], [false], []))
    have := of_decide_eq_true (hin i (List.mem_range.2 hi))
    unfold l50_1
    rw [← up1 i (by omega)]
    refine d_itT (lt_t (show (i : Int) < (Q.length : Int) by omega)) (d_rq (ge_t (show (0 : Int) ≤ (i : Int) by omega)) (d_itF (eq_f (by show ((Q.getD ((i : Int)).toNat (.i 0)).cell 0).int ≠ op; rw [Int.toNat_natCast]; omega)) rfl))
  · show Vx.T.den _ l50_1 [op, ((19 : Nat) : Int)] [false] [Q] = _
    unfold l50_1
    exact d_itF (lt_f (show (Q.length : Int) ≤ ((19 : Nat) : Int) by omega)) rfl
  · unfold k50_2
    exact d_rq rfl rfl
/-- The ranges of Pattern. -/
def findL : Vx.T → Option Vx.LE
  | .lst [x] _ => some x
  | .ite _ _ b => findL b
  | .jn _ _ _ _ k => findL k
  | .rq _ k => findL k
  | _ => none
def lPat : List D := match findL t30 with | some x => x.L [] [] [] | none => []
theorem lPat_len : lPat.length = 13 := by kernel_rfl
theorem lPat_in : (List.range 13).all (fun i => decide (0 ≤ ((lPat.getD i (.i 0)).cell 0).int ∧ ((lPat.getD i (.i 0)).cell 1).int < 512)) = true := by kernel_rfl
theorem q_patOut (h : op < 0 ∨ 512 ≤ op) : F30 [op] [] [] = some ([], [], [[]]) := by
  obtain ⟨hi, hh⟩ : ∃ hi : Bool, if hi = true then 512 ≤ op else op < 0 := by
    rcases h with h | h
    · exact ⟨false, h⟩
    · exact ⟨true, h⟩
  refine of_ret ?_
  unfold t30
  refine d_grp hh (n := 1) (is := []) (by cases hi <;> rfl) rfl rfl (d_itF rfl ?_)
  refine d_grp hh (n := 2) (is := [0]) (by cases hi <;> rfl) rfl rfl (d_itF rfl ?_)
  refine d_grp hh (n := 3) (is := [0, 0]) (by cases hi <;> rfl) rfl rfl (d_itF rfl ?_)
  refine d_itw hh (by cases hi <;> rfl) ?_
  refine d_grp hh (n := 4) (is := [0, 0, 0]) (by cases hi <;> rfl) rfl rfl (d_itF rfl ?_)
  refine d_grp hh (n := 5) (is := [0, 0, 0, 0]) (by cases hi <;> rfl) rfl rfl (d_itF rfl ?_)
  refine d_itw hh (by cases hi <;> rfl) (d_itw hh (by cases hi <;> rfl) (d_itw hh (by cases hi <;> rfl) (d_itw hh (by cases hi <;> rfl) ?_)))
  refine d_lst [lPat] (by rfl) ?_
  have hl := lPat_len
  have hin := lPat_in
  rw [List.all_eq_true] at hin
  generalize lPat = Q at *
  refine d_loop (fun i => ([(i : Int)], [], [[]])) 13 (by omega) 3 ([13], [], [[]]) rfl (fun i hi => ?_) (fun _ _ => rfl) ?_ rfl ?_
  · show Vx.T.den _ l30_1 [op, 0, 0, 0, 0, 0, (i : Int)] [false, false, false, false, false] [Q, []] = some (.nxt ([((i + 1 : Nat) : Int)], [], [[]]))
    have := of_decide_eq_true (hin i (List.mem_range.2 hi))
    unfold l30_1
    rw [← up1 i (by omega)]
    refine d_itT (lt_t (show (i : Int) < (Q.length : Int) by omega)) (d_rq (ge_t (show (0 : Int) ≤ (i : Int) by omega)) (d_lb false ?_ (d_itF rfl rfl)))
    show (decide (op ≥ ((Q.getD ((i : Int)).toNat (.i 0)).cell 0).int) && decide (op ≤ ((Q.getD ((i : Int)).toNat (.i 0)).cell 1).int)) = false
    rw [Int.toNat_natCast, Bool.and_eq_false_iff, decide_eq_false_iff_not, decide_eq_false_iff_not]
    omega
  · show Vx.T.den _ l30_1 [op, 0, 0, 0, 0, 0, ((13 : Nat) : Int)] [false, false, false, false, false] [Q, []] = _
    unfold l30_1
    exact d_itF (lt_f (show (Q.length : Int) ≤ ((13 : Nat) : Int) by omega)) rfl
  · unfold k30_2
    refine d_rq rfl ?_
    refine d_callx [op] [] [] ([0, 0, 0], [false, false, false], []) e30_50 rfl rfl rfl (out_Of h) rfl (d_itF rfl ?_)
    exact d_callx [op] [] [] ([0], [false], [[]]) e30_51 rfl rfl rfl (out_Types hh) rfl (d_itF rfl rfl)
end
end Go.Proofs.Ytmfjapphmmlppaa.WInstrPuts
