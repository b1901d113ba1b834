/-
  InstrPuts: instructions and bodies as they are read.
-/
import Derived.Test.YtmfjapphmmlppaaSInstrPuts
import Derived.Test.YtmfjapphmmlppaaVt
namespace Go.Proofs.Ytmfjapphmmlppaa.IInstrPuts
set_option linter.all false
open Go.Proofs.Ytmfjapphmmlppaa.Vx Go.Proofs.Ytmfjapphmmlppaa.XInstrPuts Go.Proofs.Ytmfjapphmmlppaa.Vd Go.Proofs.Ytmfjapphmmlppaa.Vn Go.Proofs.Ytmfjapphmmlppaa.Vl Go.Proofs.Ytmfjapphmmlppaa.Vp Go.Proofs.Ytmfjapphmmlppaa.Vb Go.Proofs.Ytmfjapphmmlppaa.SInstrPuts Go.Proofs.Ytmfjapphmmlppaa.Vo Go.Proofs.Ytmfjapphmmlppaa.Vt
theorem Stbl.first {α : Type} {P : Int → Rd α} (h : ∀ x, Stbl (P x)) (h1 : ∀ x l a n, P x l = .ok a n → 1 ≤ n) : Stbl (fun l => match l with | [] => .err 1 | x :: r => P x (x :: r)) := by
  refine ⟨fun l a n e => ?_, fun l a n e m => ?_, fun l a n e c hc => ?_, fun l e he => ?_⟩
  · cases l with
    | nil => cases e
    | cons x r => exact (h x).le _ _ _ e
  · cases l with
    | nil => cases e
    | cons x r =>
      have e : P x (x :: r) = .ok a n := e
      have := h1 _ _ _ _ e
      obtain ⟨k, rfl⟩ : ∃ k, n = k + 1 := ⟨n - 1, by omega⟩
      have g := (h x).on _ _ _ e m
      exact g
  · cases l with
    | nil => cases e
    | cons x r =>
      have e : P x (x :: r) = .ok a n := e
      cases c with
      | zero => rfl
      | succ c =>
        have g := (h x).cut _ _ _ e (c + 1) hc
        exact g
  · cases l with
    | nil => cases he; decide
    | cons x r => exact (h x).nz _ _ he
theorem sP_pos {bits : Nat} {l : List Int} {a : Int} {n : Nat} (h : sP bits l = .ok a n) : 1 ≤ n := by
  unfold sP at h
  split at h
  · split at h
    · cases h; omega
    · cases h
  · split at h <;> cases h
theorem uP_pos {bits : Nat} {l : List Int} {a : Nat} {n : Nat} (h : uP bits l = .ok a n) : 1 ≤ n := by
  unfold uP at h
  split at h
  · split at h
    · cases h; omega
    · cases h
  · split at h <;> cases h
theorem uP_ltI {bits : Nat} {l : List Int} {a n : Nat} (h : uP bits l = .ok a n) : a < 2 ^ bits := by
  unfold uP at h
  split at h
  · split at h
    · cases h; assumption
    · cases h
  · split at h <;> cases h
theorem bind_ok {α β : Type} {R : Rd α} {f : α → Rd β} {l : List Int} {b : β} {t : Nat} (h : R.bind f l = .ok b t) : ∃ a n k, R l = .ok a n ∧ f a (l.drop n) = .ok b k ∧ t = n + k := by
  unfold Rd.bind at h
  split at h
  · cases h
  · rename_i a n h1
    split at h
    · cases h
    · rename_i b' k h2
      cases h
      exact ⟨a, n, k, h1, h2, rfl⟩
theorem bind_of {α β : Type} {R : Rd α} {f : α → Rd β} {l : List Int} {a : α} {n : Nat} (h : R l = .ok a n) : R.bind f l = match f a (l.drop n) with | .err e => .err e | .ok b k => .ok b (n + k) := by
  simp only [Rd.bind, h]
  cases f a (List.drop n l) <;> rfl
theorem bind_er {α β : Type} {R : Rd α} {f : α → Rd β} {l : List Int} {e : Int} (h : R l = .err e) : R.bind f l = .err e := by
  simp only [Rd.bind, h]
theorem blockP_stbl : Stbl blockP := by
  have hP : blockP = fun l => match l with
      | [] => .err 1
      | x :: r => (if x = 64 then byteP.bind (fun _ _ => .ok (-64) 0) else if valE x = 0 then byteP.bind (fun _ _ => .ok (x - 128) 0) else if valE x ≠ 2 then fun _ => .err (valE x) else (sP 33).bind fun n => if n < 0 then fun _ => .err 2 else fun _ => .ok n 0) (x :: r) := by
    funext l
    cases l with
    | nil => rfl
    | cons x r =>
      have hv := valP_cons x r
      show (if x = 64 then Res.ok (-64) 1 else match valP (x :: r) with | .ok v _ => .ok (v - 128) 1 | .err e => if e ≠ 2 then .err e else match sP 33 (x :: r) with | .err e => .err e | .ok n k => if n < 0 then .err 2 else .ok n k) =
        (if x = 64 then byteP.bind (fun _ _ => .ok (-64) 0) else if valE x = 0 then byteP.bind (fun _ _ => .ok (x - 128) 0) else if valE x ≠ 2 then fun _ => .err (valE x) else (sP 33).bind fun n => if n < 0 then fun _ => .err 2 else fun _ => .ok n 0) (x :: r)
      by_cases h1 : x = 64
      · rw [if_pos h1, if_pos h1]; rfl
      rw [if_neg h1, if_neg h1]
      by_cases h2 : valE x = 0
      · rw [if_pos h2] at hv
        rw [if_pos h2]
        simp only [hv]; rfl
      rw [if_neg h2] at hv
      rw [if_neg h2]
      simp only [hv]
      by_cases h3 : valE x ≠ 2
      · rw [if_pos h3, if_pos h3]
      · rw [if_neg h3, if_neg h3]
        cases h : sP 33 (x :: r) with
        | err e => rw [bind_er h]
        | ok n k =>
          rw [bind_of h]
          by_cases h4 : n < 0
          · simp only [h4, if_true]
          · simp only [h4, if_false]; rfl
  rw [hP]
  refine Stbl.first (P := fun x => if x = 64 then byteP.bind (fun _ _ => .ok (-64) 0) else if valE x = 0 then byteP.bind (fun _ _ => .ok (x - 128) 0) else if valE x ≠ 2 then fun _ => .err (valE x) else (sP 33).bind fun n => if n < 0 then fun _ => .err 2 else fun _ => .ok n 0) (fun x => ?_) (fun x l a n h => ?_)
  · show Stbl (if x = 64 then _ else _)
    split
    · exact byteP_stbl.bind fun _ => Stbl.pure _
    split
    · exact byteP_stbl.bind fun _ => Stbl.pure _
    split
    · rename_i h1 h2 h3
      exact Stbl.fail _ h2
    · refine (sP_stbl 33).bind fun n => ?_
      split
      · exact Stbl.fail _ (by decide)
      · exact Stbl.pure _
  · have h : (if x = 64 then _ else _ : Rd Int) l = .ok a n := h
    have byte1 : ∀ {c : Int} {l : List Int} {a : Int} {n : Nat}, byteP.bind (fun _ _ => Res.ok c 0) l = .ok a n → 1 ≤ n := fun {c l a n} h => by
      obtain ⟨x, k, q, e1, e2, rfl⟩ := bind_ok h
      cases l with
      | nil => cases e1
      | cons y r => cases e1; omega
    split at h
    · exact byte1 h
    split at h
    · exact byte1 h
    split at h
    · cases h
    · obtain ⟨y, k, q, e1, e2, rfl⟩ := bind_ok h
      have := sP_pos e1
      omega
/-! the reader's own steps -/
theorem q_fail (a e f : Int) (b : List D) : F26 [a, e, f] [] [b] = some ([a, if e = 0 then f else e], [], [b]) := by
  refine of_ret ?_
  unfold t26
  by_cases h : e = 0
  · rw [if_pos h]; exact d_itT (eq_t h) rfl
  · rw [if_neg h]; exact d_itF (eq_f h) rfl
theorem y_st {a e : Int} (he : e ≠ 0) (b : List D) : F61 [a, e] [] [b] = some ([0, a, e], [], [b]) := by
  refine of_ret ?_
  unfold t61
  exact d_itT (ne_t he) rfl
theorem y_go {l : List Int} (hb : Bytes l) (hl : l.length ≤ 100000000) (p : Nat) : F61 [(p : Int), 0] [] [dl l] = some (match byteP (l.drop p) with | .ok v n => ([v, ((p + n : Nat) : Int), 0], [], [dl l]) | .err e => ([0, (p : Int), e], [], [dl l])) := by
  refine of_ret ?_
  unfold t61
  refine d_itF rfl ?_
  by_cases h : p < l.length
  · rw [drop_cons h]
    have hx := hb.at p
    have e1 : arI .add .i64 (p : Int) 1 = ((p + 1 : Nat) : Int) := up1 p (by omega)
    have e2 : arI .sub .i64 ((p + 1 : Nat) : Int) 1 = (p : Int) := by show IntKind.i64.wrap (((p + 1 : Nat) : Int) - 1) = _; rw [wi (by omega) (by omega)]; omega
    refine d_itF (ge_f (show (p : Int) < ((dl l).length : Int) by rw [dl_len]; omega)) ?_
    have hq : (decide (arI .sub .i64 (arI .add .i64 (p : Int) 1) 1 ≥ 0) && decide (arI .sub .i64 (arI .add .i64 (p : Int) 1) 1 < ((dl l).length : Int))) = true := by
      rw [e1, e2, dl_len]; exact an_t (ge_t (by omega)) (lt_t (by omega))
    refine d_rq hq (d_rq hq (d_li (l.getD p 0) ?_ ?_))
    · show IntKind.i64.wrap (((dl l).getD (arI .sub .i64 (arI .add .i64 (p : Int) 1) 1).toNat (.i 0)).cell 0).int = _
      rw [e1, e2, Int.toNat_natCast, ix_dl, wi (by omega) (by omega)]
    · show _ = some (Out.ret ([l.getD p 0, ((p + 1 : Nat) : Int), 0], [], [dl l]))
      rw [← e1]; rfl
  · have hd : l.drop p = [] := List.drop_eq_nil_of_le (by omega)
    rw [hd]
    refine d_itT (ge_t (show ((dl l).length : Int) ≤ (p : Int) by rw [dl_len]; omega)) ?_
    exact d_callx [(p : Int), 0, 1] [] [dl l] _ e61_26 rfl rfl rfl (q_fail _ _ _ _) rfl rfl
theorem cut_dl (l : List Int) (p : Nat) : ((dl l).take ((dl l).length : Int).toNat).drop (p : Int).toNat = dl (l.drop p) := by
  rw [Int.toNat_natCast, Int.toNat_natCast, List.take_length]
  unfold dl; rw [List.map_drop]
theorem u_st {a e : Int} (he : e ≠ 0) (b : List D) : F44 [a, e] [] [b] = some ([0, a, e], [], [b]) := by
  refine of_ret ?_
  unfold t44
  exact d_itT (ne_t he) rfl
theorem rq_cut {l : List Int} {p : Nat} (hp : p ≤ l.length) : (decide ((0 : Int) ≤ (p : Int)) && (decide ((p : Int) ≤ ((dl l).length : Int)) && decide (((dl l).length : Int) ≤ ((dl l).length : Int)))) = true := by
  rw [dl_len]; exact an_t (le_t (by omega)) (an_t (le_t (by omega)) (le_t (by omega)))
theorem u_go {l : List Int} (hb : Bytes l) (hl : l.length ≤ 100000000) {p : Nat} (hp : p ≤ l.length) : F44 [(p : Int), 0] [] [dl l] = some (match uP 32 (l.drop p) with | .ok v n => ([(v : Int), ((p + n : Nat) : Int), 0], [], [dl l]) | .err e => ([0, (p : Int), e], [], [dl l])) := by
  refine of_ret ?_
  unfold t44
  refine d_itF rfl (d_rq (rq_cut hp) (d_lst [dl (l.drop p)] (congrArg (fun z => [z]) (cut_dl l p)) ?_))
  have hU := q_U (hb.drop p) (bits := 32) (by decide) (by decide) (by rw [List.length_drop]; omega)
  have hle := (uP_stbl 32).le (l.drop p)
  have hlt := fun a n => uP_ltI (bits := 32) (l := l.drop p) (a := a) (n := n)
  rw [List.length_drop] at hle
  cases h : uP 32 (l.drop p) with
  | err e =>
    rw [h] at hU
    refine d_callx [32] [] [dl (l.drop p)] ([0, 0, e], [], []) e44_63 rfl rfl rfl hU rfl ?_
    refine d_callx [(p : Int), 0, e] [] [dl l] _ e44_26 rfl rfl rfl (q_fail _ _ _ _) rfl ?_
    have e0 : arI .add .i64 (p : Int) 0 = (p : Int) := by rw [addI (by omega) (by omega)]; omega
    show some (Out.ret ([IntKind.i64.wrap 0, arI .add .i64 (p : Int) 0, e], [], [dl l])) = _
    rw [e0]; rfl
  | ok v n =>
    rw [h] at hU
    have h1 := hle v n h
    have h2 := hlt v n h
    refine d_callx [32] [] [dl (l.drop p)] ([(v : Int), (n : Int), 0], [], []) e44_63 rfl rfl rfl hU rfl ?_
    refine d_callx [(p : Int), 0, 0] [] [dl l] _ e44_26 rfl rfl rfl (q_fail _ _ _ _) rfl ?_
    have e0 : arI .add .i64 (p : Int) (n : Int) = ((p + n : Nat) : Int) := by rw [addI (by omega) (by omega)]; omega
    show some (Out.ret ([IntKind.i64.wrap (v : Int), arI .add .i64 (p : Int) (n : Int), 0], [], [dl l])) = _
    rw [e0, wi (by omega) (by omega)]
theorem s_go {l : List Int} (hb : Bytes l) (hl : l.length ≤ 100000000) {p : Nat} (hp : p ≤ l.length) {bits : Nat} (b0 : 1 ≤ bits) (b1 : bits ≤ 64) : F47 [(p : Int), 0, (bits : Int)] [] [dl l] = some (match sP bits (l.drop p) with | .ok v n => ([v, ((p + n : Nat) : Int), 0], [], [dl l]) | .err e => ([0, (p : Int), e], [], [dl l])) := by
  refine of_ret ?_
  unfold t47
  refine d_itF rfl (d_rq (rq_cut hp) (d_lst [dl (l.drop p)] (congrArg (fun z => [z]) (cut_dl l p)) ?_))
  have hU := q_S (hb.drop p) (bits := bits) b0 b1 (by rw [List.length_drop]; omega)
  have hle := (sP_stbl bits).le (l.drop p)
  rw [List.length_drop] at hle
  cases h : sP bits (l.drop p) with
  | err e =>
    rw [h] at hU
    refine d_callx [(bits : Int)] [] [dl (l.drop p)] ([0, 0, e], [], []) e47_64 rfl rfl rfl hU rfl ?_
    refine d_callx [(p : Int), 0, e] [] [dl l] _ e47_26 rfl rfl rfl (q_fail _ _ _ _) rfl ?_
    have e0 : arI .add .i64 (p : Int) 0 = (p : Int) := by rw [addI (by omega) (by omega)]; omega
    show some (Out.ret ([0, arI .add .i64 (p : Int) 0, e], [], [dl l])) = _
    rw [e0]
  | ok v n =>
    rw [h] at hU
    have h1 := hle v n h
    refine d_callx [(bits : Int)] [] [dl (l.drop p)] ([v, (n : Int), 0], [], []) e47_64 rfl rfl rfl hU rfl ?_
    refine d_callx [(p : Int), 0, 0] [] [dl l] _ e47_26 rfl rfl rfl (q_fail _ _ _ _) rfl ?_
    have e0 : arI .add .i64 (p : Int) (n : Int) = ((p + n : Nat) : Int) := by rw [addI (by omega) (by omega)]; omega
    show some (Out.ret ([v, arI .add .i64 (p : Int) (n : Int), 0], [], [dl l])) = _
    rw [e0]
theorem b_go {l : List Int} (hb : Bytes l) (hl : l.length ≤ 100000000) {p : Nat} (hp : p ≤ l.length) : F43 [(p : Int), 0] [] [dl l] = some (match blockP (l.drop p) with | .ok v n => ([v, ((p + n : Nat) : Int), 0], [], [dl l]) | .err e => ([0, (p : Int), e], [], [dl l])) := by
  refine of_ret ?_
  unfold t43
  refine d_itF rfl (d_rq (rq_cut hp) (d_lst [dl (l.drop p)] (congrArg (fun z => [z]) (cut_dl l p)) ?_))
  have hU := q_block (hb.drop p) (by rw [List.length_drop]; omega)
  have hle := blockP_stbl.le (l.drop p)
  rw [List.length_drop] at hle
  unfold blockO at hU
  cases h : blockP (l.drop p) with
  | err e =>
    rw [h] at hU
    refine d_callx [] [] [dl (l.drop p)] ([0, 0, e], [], []) e43_62 rfl rfl rfl hU rfl ?_
    refine d_callx [(p : Int), 0, e] [] [dl l] _ e43_26 rfl rfl rfl (q_fail _ _ _ _) rfl ?_
    have e0 : arI .add .i64 (p : Int) 0 = (p : Int) := by rw [addI (by omega) (by omega)]; omega
    show some (Out.ret ([0, arI .add .i64 (p : Int) 0, e], [], [dl l])) = _
    rw [e0]
  | ok v n =>
    rw [h] at hU
    have h1 := hle v n h
    refine d_callx [] [] [dl (l.drop p)] ([v, (n : Int), 0], [], []) e43_62 rfl rfl rfl hU rfl ?_
    refine d_callx [(p : Int), 0, 0] [] [dl l] _ e43_26 rfl rfl rfl (q_fail _ _ _ _) rfl ?_
    have e0 : arI .add .i64 (p : Int) (n : Int) = ((p + n : Nat) : Int) := by rw [addI (by omega) (by omega)]; omega
    show some (Out.ret ([v, arI .add .i64 (p : Int) (n : Int), 0], [], [dl l])) = _
    rw [e0]
/-- A byte that is 0. -/
def zeroP : Rd Unit := byteP.bind fun x => if x = 0 then fun _ => .ok () 0 else fun _ => .err 2
theorem zeroP_stbl : Stbl zeroP := byteP_stbl.bind fun x => by
  show Stbl (if x = 0 then _ else _)
  split
  · exact Stbl.pure _
  · exact Stbl.fail _ (by decide)
theorem z_st {a e : Int} (he : e ≠ 0) (b : List D) : F46 [a, e] [] [b] = some ([a, e], [], [b]) := by
  refine of_ret ?_
  unfold t46
  refine d_callx [a, e] [] [b] _ e46_61 rfl rfl rfl (y_st he b) rfl ?_
  refine d_jn 0 ([a, e], [], [b]) (d_itF rfl rfl) rfl (d_rq rfl rfl)
theorem z_go {l : List Int} (hb : Bytes l) (hl : l.length ≤ 100000000) (p : Nat) : ∃ p' : Int, F46 [(p : Int), 0] [] [dl l] = some ([p', match zeroP (l.drop p) with | .ok _ _ => 0 | .err e => e], [], [dl l]) ∧ ∀ u n, zeroP (l.drop p) = .ok u n → p' = ((p + n : Nat) : Int) := by
  have hy := y_go hb hl p
  cases h : byteP (l.drop p) with
  | err e =>
    rw [h] at hy
    have hz : zeroP (l.drop p) = .err e := bind_er h
    rw [hz]
    refine ⟨(p : Int), of_ret ?_, fun u n h => by cases h⟩
    unfold t46
    refine d_callx [(p : Int), 0] [] [dl l] _ e46_61 rfl rfl rfl hy rfl ?_
    exact d_jn 0 ([(p : Int), e], [], [dl l]) (d_itF rfl rfl) rfl (d_rq rfl rfl)
  | ok x n =>
    rw [h] at hy
    by_cases hx : x = 0
    · have hz : zeroP (l.drop p) = .ok () (n + 0) := by unfold zeroP; rw [bind_of h, if_pos hx]
      rw [hz]
      refine ⟨((p + n : Nat) : Int), of_ret ?_, fun u k h => by cases h; rfl⟩
      unfold t46
      refine d_callx [(p : Int), 0] [] [dl l] _ e46_61 rfl rfl rfl hy rfl ?_
      exact d_jn 0 ([((p + n : Nat) : Int), 0], [], [dl l]) (d_itF (ne_f hx) rfl) rfl (d_rq rfl rfl)
    · have hz : zeroP (l.drop p) = .err 2 := by unfold zeroP; rw [bind_of h, if_neg hx]
      rw [hz]
      refine ⟨((p + n : Nat) : Int), of_ret ?_, fun u k h => by cases h⟩
      unfold t46
      refine d_callx [(p : Int), 0] [] [dl l] _ e46_61 rfl rfl rfl hy rfl ?_
      refine d_jn 0 ([((p + n : Nat) : Int), 2], [], [dl l]) (d_itT (ne_t hx) ?_) rfl (d_rq rfl rfl)
      exact d_callx [((p + n : Nat) : Int), 0, 2] [] [dl l] _ e46_26 rfl rfl rfl (q_fail _ _ _ _) rfl rfl
/-! codes -/
theorem tot_access : ∀ is bs ls, is.length = 1 → ∃ r, F70 is bs ls = some r ∧ r.fits 2 3 0 = true := tot c0_ok (show ok c0 true 2 3 0 1 1000000000 t70 = true by kernel_rfl) (by decide)
theorem tot_Access : ∀ is bs ls, is.length = 1 → ∃ r, F55 is bs ls = some r ∧ r.fits 2 2 0 = true := tot (c1_ok e55_70 tot_access) (show ok (c1 70 1 2 3 0) true 2 2 0 1 1000000000 t55 = true by kernel_rfl) (by decide)
theorem tot_Types : ∀ is bs ls, is.length = 1 → ∃ r, F56 is bs ls = some r ∧ r.fits 1 1 1 = true := tot c0_ok (show ok c0 true 1 1 1 1 1000000000 t56 = true by kernel_rfl) (by decide)
theorem tot_between : ∀ is bs ls, is.length = 3 → ∃ r, F57 is bs ls = some r ∧ r.fits 0 1 0 = true := tot c0_ok (show ok c0 true 0 1 0 3 1000000000 t57 = true by kernel_rfl) (by decide)
theorem tot_form : ∀ is bs ls, is.length = 1 → ∃ r, F33 is bs ls = some r ∧ r.fits 1 0 0 = true :=
  tot (cOr_ok (c1_ok e33_55 tot_Access) (cOr_ok (c1_ok e33_56 tot_Types) (c1_ok e33_57 tot_between)))
    (show ok (cOr (c1 55 1 2 2 0) (cOr (c1 56 1 1 1 1) (c1 57 3 0 1 0))) true 1 0 0 1 1000000000 t33 = true by kernel_rfl) (by decide)
/-- What form a code has. -/
def fmI (n : Int) : Int := match F33 [n] [] [] with | some ([x], _, _) => x | _ => -1
theorem q_formI (n : Int) : F33 [n] [] [] = some ([fmI n], [], []) := by
  obtain ⟨r, h1, h2⟩ := tot_form [n] [] [] rfl
  obtain ⟨g1, g2, g3⟩ := R.fits_ok h2
  obtain ⟨i, b, l⟩ := r
  obtain ⟨x, rfl⟩ : ∃ x, i = [x] := by
    match i, g1 with
    | [x], _ => exact ⟨x, rfl⟩
  obtain rfl : b = [] := List.eq_nil_of_length_eq_zero g2
  obtain rfl : l = [] := List.eq_nil_of_length_eq_zero g3
  unfold fmI
  rw [h1]
def fm (n : Nat) : Int := fmI n
theorem q_form {n : Nat} (h : n < 512) : F33 [(n : Int)] [] [] = some ([fm n], [], []) := q_formI n
def chk (op : Nat) : Rd Nat := if fm op = 0 then fun _ => .err 2 else if fm op = 11 then fun _ => .err 3 else fun _ => .ok op 0
theorem chk_stbl (op : Nat) : Stbl (chk op) := by
  unfold chk
  split
  · exact Stbl.fail _ (by decide)
  split
  · exact Stbl.fail _ (by decide)
  · exact Stbl.pure _
def codeP : Rd Nat := byteP.bind fun x => if x = 252 then (uP 32).bind fun n => if 255 < n then fun _ => .err 2 else chk (256 + n) else chk x.toNat
theorem codeP_stbl : Stbl codeP := byteP_stbl.bind fun x => by
  show Stbl (if x = 252 then _ else _)
  split
  · refine (uP_stbl 32).bind fun n => ?_
    split
    · exact Stbl.fail _ (by decide)
    · exact chk_stbl _
  · exact chk_stbl _
def errO {α : Type} : Res α → Int | .ok _ _ => 0 | .err e => e
theorem q_code {l : List Int} (hb : Bytes l) (hl : l.length ≤ 100000000) (p : Nat) : ∃ op' p' : Int, F42 [(p : Int), 0] [] [dl l] = some ([op', p', errO (codeP (l.drop p))], [], [dl l]) ∧ ∀ v n, codeP (l.drop p) = .ok v n → op' = (v : Int) ∧ p' = ((p + n : Nat) : Int) ∧ v < 512 := by
  have hy := y_go hb hl p
  have chkd : ∀ (op : Nat) (m : List Int), (fm op = 0 ∧ chk op m = .err 2) ∨ (fm op = 11 ∧ chk op m = .err 3) ∨ (fm op ≠ 0 ∧ fm op ≠ 11 ∧ chk op m = .ok op 0) := fun op m => by
    unfold chk
    by_cases h1 : fm op = 0
    · rw [if_pos h1]; exact .inl ⟨h1, rfl⟩
    by_cases h2 : fm op = 11
    · rw [if_neg h1, if_pos h2]; exact .inr (.inl ⟨h2, rfl⟩)
    · rw [if_neg h1, if_neg h2]; exact .inr (.inr ⟨h1, h2, rfl⟩)
  cases h : byteP (l.drop p) with
  | err e =>
    rw [h] at hy
    have hc : codeP (l.drop p) = .err e := bind_er h
    have he : e ≠ 0 := byteP_stbl.nz _ _ h
    rw [hc]
    refine ⟨0, (p : Int), of_ret ?_, fun v n h => by cases h⟩
    unfold t42
    refine d_callx [(p : Int), 0] [] [dl l] _ e42_61 rfl rfl rfl hy rfl ?_
    exact d_lb false rfl (d_itF rfl (d_itT (ne_t he) rfl))
  | ok x n =>
    rw [h] at hy
    have hpn : p + n ≤ l.length := by have := byteP_stbl.le _ _ _ h; rw [List.length_drop] at this; cases hd : l.drop p with
      | nil => rw [hd] at h; cases h
      | cons y r =>
        rw [hd] at h; cases h
        have : p < l.length := by
          by_cases hp : p < l.length
          · exact hp
          · rw [List.drop_eq_nil_of_le (by omega)] at hd; cases hd
        omega
    have hdd : (l.drop p).drop n = l.drop (p + n) := List.drop_drop
    have hx : 0 ≤ x ∧ x < 256 := by
      cases hd : l.drop p with
      | nil => rw [hd] at h; cases h
      | cons y r =>
        rw [hd] at h; cases h
        exact (hb.drop p) _ (by rw [hd]; exact List.mem_cons_self)
    have hcode : codeP (l.drop p) = match (if x = 252 then (uP 32).bind (fun n => if 255 < n then fun _ => .err 2 else chk (256 + n)) else chk x.toNat : Rd Nat) (l.drop (p + n)) with | .err e => .err e | .ok b k => .ok b (n + k) := by
      unfold codeP; rw [bind_of h, hdd]
      generalize (if x = 252 then (uP 32).bind (fun n => if 255 < n then fun _ => .err 2 else chk (256 + n)) else chk x.toNat : Rd Nat) (l.drop (p + n)) = z
      cases z <;> rfl
    by_cases h252 : x = 252
    · rw [if_pos h252] at hcode
      have hu := u_go hb hl hpn
      have hst := (uP_stbl 32).nz (l.drop (p + n))
      cases h2 : uP 32 (l.drop (p + n)) with
      | err e =>
        rw [h2] at hu
        rw [bind_er h2] at hcode
        rw [hcode]
        refine ⟨0, ((p + n : Nat) : Int), of_ret ?_, fun v k h => by cases h⟩
        unfold t42
        refine d_callx [(p : Int), 0] [] [dl l] _ e42_61 rfl rfl rfl hy rfl ?_
        refine d_lb true (by show ((x == 252) && ((0 : Int) == 0)) = true; rw [eq_t h252]; rfl) (d_itT rfl ?_)
        refine d_callx [((p + n : Nat) : Int), 0] [] [dl l] _ e42_44 rfl rfl rfl hu rfl ?_
        exact d_itF rfl (d_itT (ne_t (hst e h2)) rfl)
      | ok v m =>
        rw [h2] at hu
        rw [bind_of h2] at hcode
        by_cases hv : 255 < v
        · rw [if_pos hv] at hcode
          have hcode : codeP (l.drop p) = .err 2 := hcode
          rw [hcode]
          refine ⟨0, ((p + n + m : Nat) : Int), of_ret ?_, fun v k h => by cases h⟩
          unfold t42
          refine d_callx [(p : Int), 0] [] [dl l] _ e42_61 rfl rfl rfl hy rfl ?_
          refine d_lb true (by show ((x == 252) && ((0 : Int) == 0)) = true; rw [eq_t h252]; rfl) (d_itT rfl ?_)
          refine d_callx [((p + n : Nat) : Int), 0] [] [dl l] _ e42_44 rfl rfl rfl hu rfl ?_
          refine d_itT (gt_t (show (255 : Int) < (v : Int) by omega)) ?_
          refine d_callx [((p + n + m : Nat) : Int), 0, 2] [] [dl l] _ e42_26 rfl rfl rfl (q_fail _ _ _ _) rfl ?_
          exact d_itT rfl rfl
        · rw [if_neg hv] at hcode
          have hop : arI .add .i64 256 (v : Int) = ((256 + v : Nat) : Int) := by rw [addI (by omega) (by omega)]; omega
          have hf := q_form (n := 256 + v) (by omega)
          have pre : ∀ {o}, (Vx.T.call 33 [.ar .add .i64 (.n 256) (.iv 5)] [] [] 1 0 0 (.ite (.cm .eql (.iv 8) (.n 0)) (.call 26 [.iv 6, .iv 7, .n 2] [] [.v 2] 2 0 1 (.ret [.ar .add .i64 (.n 256) (.iv 5), .iv 9, .iv 10] [] [.v 3])) (.ite (.cm .eql (.iv 8) (.n 11)) (.call 26 [.iv 6, .iv 7, .n 3] [] [.v 2] 2 0 1 (.ret [.ar .add .i64 (.n 256) (.iv 5), .iv 9, .iv 10] [] [.v 3])) (.ret [.ar .add .i64 (.n 256) (.iv 5), .iv 6, .iv 7] [] [.v 2])))).den (Tab.fn a42) [(p : Int), 0, x, ((p + n : Nat) : Int), 0, (v : Int), ((p + n + m : Nat) : Int), 0] [true] [dl l, dl l, dl l] = some (.ret o) →
              F42 [(p : Int), 0] [] [dl l] = some o := by
            intro o ho
            refine of_ret ?_
            unfold t42
            refine d_callx [(p : Int), 0] [] [dl l] _ e42_61 rfl rfl rfl hy rfl ?_
            refine d_lb true (by show ((x == 252) && ((0 : Int) == 0)) = true; rw [eq_t h252]; rfl) (d_itT rfl ?_)
            refine d_callx [((p + n : Nat) : Int), 0] [] [dl l] _ e42_44 rfl rfl rfl hu rfl ?_
            refine d_itF (gt_f (show (v : Int) ≤ (255 : Int) by omega)) (d_itF rfl ?_)
            exact ho
          rcases chkd (256 + v) ((l.drop (p + n)).drop m) with ⟨g1, g2⟩ | ⟨g1, g2⟩ | ⟨g1, g2, g3⟩
          · rw [g2] at hcode
            have hcode : codeP (l.drop p) = .err 2 := hcode
            rw [hcode]
            refine ⟨arI .add .i64 256 (v : Int), ((p + n + m : Nat) : Int), pre ?_, fun v k h => by cases h⟩
            refine d_callx [((256 + v : Nat) : Int)] [] [] _ e42_33 (congrArg (fun z => [z]) hop) rfl rfl hf rfl ?_
            refine d_itT (eq_t g1) ?_
            exact d_callx [((p + n + m : Nat) : Int), 0, 2] [] [dl l] _ e42_26 rfl rfl rfl (q_fail _ _ _ _) rfl rfl
          · rw [g2] at hcode
            have hcode : codeP (l.drop p) = .err 3 := hcode
            rw [hcode]
            refine ⟨arI .add .i64 256 (v : Int), ((p + n + m : Nat) : Int), pre ?_, fun v k h => by cases h⟩
            refine d_callx [((256 + v : Nat) : Int)] [] [] _ e42_33 (congrArg (fun z => [z]) hop) rfl rfl hf rfl ?_
            refine d_itF (eq_f (by show fm (256 + v) ≠ 0; rw [g1]; decide)) (d_itT (eq_t g1) ?_)
            exact d_callx [((p + n + m : Nat) : Int), 0, 3] [] [dl l] _ e42_26 rfl rfl rfl (q_fail _ _ _ _) rfl rfl
          · rw [g3] at hcode
            have hcode : codeP (l.drop p) = .ok (256 + v) (n + (m + 0)) := hcode
            rw [hcode]
            refine ⟨arI .add .i64 256 (v : Int), ((p + n + m : Nat) : Int), pre ?_, fun v' k h => ?_⟩
            · refine d_callx [((256 + v : Nat) : Int)] [] [] _ e42_33 (congrArg (fun z => [z]) hop) rfl rfl hf rfl ?_
              exact d_itF (eq_f g1) (d_itF (eq_f g2) rfl)
            · cases h
              exact ⟨hop, by congr 1; omega, by omega⟩
    · rw [if_neg h252] at hcode
      obtain ⟨op, rfl⟩ : ∃ op : Nat, x = op := ⟨x.toNat, by omega⟩
      rw [Int.toNat_natCast] at hcode
      have hf := q_form (n := op) (by omega)
      have pre : ∀ {o}, (Vx.T.call 33 [.iv 2] [] [] 1 0 0 (.ite (.cm .eql (.iv 5) (.n 0)) (.call 26 [.iv 3, .iv 4, .n 2] [] [.v 1] 2 0 1 (.ret [.iv 2, .iv 6, .iv 7] [] [.v 2])) (.ite (.cm .eql (.iv 5) (.n 11)) (.call 26 [.iv 3, .iv 4, .n 3] [] [.v 1] 2 0 1 (.ret [.iv 2, .iv 6, .iv 7] [] [.v 2])) (.ret [.iv 2, .iv 3, .iv 4] [] [.v 1])))).den (Tab.fn a42) [(p : Int), 0, (op : Int), ((p + n : Nat) : Int), 0] [false] [dl l, dl l] = some (.ret o) →
          F42 [(p : Int), 0] [] [dl l] = some o := by
        intro o ho
        refine of_ret ?_
        unfold t42
        refine d_callx [(p : Int), 0] [] [dl l] _ e42_61 rfl rfl rfl hy rfl ?_
        exact d_lb false (by show (((op : Int) == 252) && ((0 : Int) == 0)) = false; rw [eq_f h252]; rfl) (d_itF rfl (d_itF rfl ho))
      rcases chkd op (l.drop (p + n)) with ⟨g1, g2⟩ | ⟨g1, g2⟩ | ⟨g1, g2, g3⟩
      · rw [g2] at hcode
        have hcode : codeP (l.drop p) = .err 2 := hcode
        rw [hcode]
        refine ⟨(op : Int), ((p + n : Nat) : Int), pre ?_, fun v k h => by cases h⟩
        refine d_callx [(op : Int)] [] [] _ e42_33 rfl rfl rfl hf rfl ?_
        refine d_itT (eq_t g1) ?_
        exact d_callx [((p + n : Nat) : Int), 0, 2] [] [dl l] _ e42_26 rfl rfl rfl (q_fail _ _ _ _) rfl rfl
      · rw [g2] at hcode
        have hcode : codeP (l.drop p) = .err 3 := hcode
        rw [hcode]
        refine ⟨(op : Int), ((p + n : Nat) : Int), pre ?_, fun v k h => by cases h⟩
        refine d_callx [(op : Int)] [] [] _ e42_33 rfl rfl rfl hf rfl ?_
        refine d_itF (eq_f (by show fm op ≠ 0; rw [g1]; decide)) (d_itT (eq_t g1) ?_)
        exact d_callx [((p + n : Nat) : Int), 0, 3] [] [dl l] _ e42_26 rfl rfl rfl (q_fail _ _ _ _) rfl rfl
      · rw [g3] at hcode
        have hcode : codeP (l.drop p) = .ok op (n + 0) := hcode
        rw [hcode]
        refine ⟨(op : Int), ((p + n : Nat) : Int), pre ?_, fun v' k h => ?_⟩
        · refine d_callx [(op : Int)] [] [] _ e42_33 rfl rfl rfl hf rfl ?_
          exact d_itF (eq_f g1) (d_itF (eq_f g2) rfl)
        · cases h
          exact ⟨rfl, rfl, by omega⟩
/-! labels -/
def loopU : Nat → Rd (List Int)
  | 0 => fun _ => .ok [] 0
  | d + 1 => (uP 32).bind fun v => (loopU d).bind fun r => fun _ => .ok ((v : Int) :: r) 0
theorem loopU_stbl : ∀ d, Stbl (loopU d)
  | 0 => Stbl.pure _
  | d + 1 => (uP_stbl 32).bind fun v => (loopU_stbl d).bind fun r => Stbl.pure _
def labelsP : Rd (List Int) := (uP 32).bind fun n => if 64 < n then fun _ => .err 4 else loopU n
theorem labelsP_stbl : Stbl labelsP := (uP_stbl 32).bind fun n => by
  show Stbl (if 64 < n then _ else _)
  split
  · exact Stbl.fail _ (by decide)
  · exact loopU_stbl n
theorem lp_labels {l : List Int} (hb : Bytes l) (hl : l.length ≤ 100000000) {cnt : Nat} (hc : cnt ≤ 64) (a0 a1 a3 a4 : Int) : ∀ (d i q k : Nat) (acc : List Int), i + d = cnt → acc.length = i → q ≤ l.length →
    ∃ (x p' : Int) (L : List D), iterT 3 0 2 (fun r => l45_3.den (Tab.fn a45) ([a0, a1, (cnt : Int), a3, a4] ++ r.1) ([false] ++ r.2.1) ([dl l, dl l] ++ r.2.2)) (k + (d + 1)) ([(i : Int), (q : Int), 0], [], [dl acc, dl l]) = some (.brk 2 ([x, p', errO (loopU d (l.drop q))], [], [L, dl l])) ∧
      ∀ vs n, loopU d (l.drop q) = .ok vs n → p' = ((q + n : Nat) : Int) ∧ L = dl (acc ++ vs) := by
  have stop : ∀ (i k : Nat) (q e : Int) (L : List D), (¬ (i : Int) < cnt ∨ e ≠ 0) → iterT 3 0 2 (fun r => l45_3.den (Tab.fn a45) ([a0, a1, (cnt : Int), a3, a4] ++ r.1) ([false] ++ r.2.1) ([dl l, dl l] ++ r.2.2)) (k + 1) ([(i : Int), q, e], [], [L, dl l]) = some (.brk 2 ([(i : Int), q, e], [], [L, dl l])) := by
    intro i k q e L h
    refine it_brk ?_
    show Vx.T.den _ l45_3 [a0, a1, (cnt : Int), a3, a4, (i : Int), q, e] [false] [dl l, dl l, L, dl l] = _
    unfold l45_3
    refine d_lb false ?_ (d_itF rfl rfl)
    show (decide ((i : Int) < (cnt : Int)) && (e == 0)) = false
    rcases h with h | h
    · rw [decide_eq_false h]; rfl
    · rw [eq_f h, Bool.and_false]
  intro d
  induction d with
  | zero =>
    intro i q k acc h1 h2 h3
    refine ⟨(i : Int), (q : Int), dl acc, stop i k _ _ _ (.inl (by omega)), fun vs n h => ?_⟩
    cases h
    exact ⟨rfl, by rw [List.append_nil]⟩
  | succ d ih =>
    intro i q k acc h1 h2 h3
    have hu := u_go hb hl h3
    have hle := (uP_stbl 32).le (l.drop q)
    rw [List.length_drop] at hle
    have body : ∀ (v q' e : Int), F44 [(q : Int), 0] [] [dl l] = some ([v, q', e], [], [dl l]) → (fun r : Vx.R => l45_3.den (Tab.fn a45) ([a0, a1, (cnt : Int), a3, a4] ++ r.1) ([false] ++ r.2.1) ([dl l, dl l] ++ r.2.2)) ([(i : Int), (q : Int), 0], [], [dl acc, dl l]) = some (.nxt ([((i + 1 : Nat) : Int), q', e], [], [dl (acc ++ [v]), dl l])) := by
      intro v q' e hq
      show Vx.T.den _ l45_3 [a0, a1, (cnt : Int), a3, a4, (i : Int), (q : Int), 0] [false] [dl l, dl l, dl acc, dl l] = _
      unfold l45_3
      refine d_lb true (an_t (lt_t (show (i : Int) < (cnt : Int) by omega)) rfl) (d_itT rfl ?_)
      refine d_callx [(q : Int), 0] [] [dl l] _ e45_44 rfl rfl rfl hq rfl ?_
      rw [dl_app, ← up1 i (by omega)]
      have hla : (dl acc).length = i := by rw [dl_len]; exact h2
      generalize dl acc = A at *
      exact d_lst [[.i v]] rfl (d_rq (an_t (le_t (show (A.length : Int) ≤ 3909374676536 by omega)) rfl) (d_lst [A ++ [.i v]] rfl rfl))
    cases h : uP 32 (l.drop q) with
    | err e =>
      rw [h] at hu
      have he := (uP_stbl 32).nz _ _ h
      have hL : loopU (d + 1) (l.drop q) = .err e := bind_er h
      rw [hL]
      exact ⟨((i + 1 : Nat) : Int), (q : Int), dl (acc ++ [0]), it_nxt (body _ _ _ hu) rfl (stop (i + 1) (k + d) _ _ _ (.inr he)), fun vs n h => by cases h⟩
    | ok v n =>
      rw [h] at hu
      have hn := hle v n h
      have hdd : (l.drop q).drop n = l.drop (q + n) := List.drop_drop
      obtain ⟨x, p', L, g1, g2⟩ := ih (i + 1) (q + n) k (acc ++ [(v : Int)]) (by omega) (by rw [List.length_append, h2]; rfl) (by omega)
      have hL : loopU (d + 1) (l.drop q) = match loopU d (l.drop (q + n)) with | .err e => .err e | .ok r m => .ok ((v : Int) :: r) (n + m) := by
        show ((uP 32).bind _) _ = _
        rw [bind_of h, hdd]
        cases h2 : loopU d (l.drop (q + n)) with
        | err e => simp only [bind_er h2]
        | ok r m => simp only [bind_of h2]; rfl
      refine ⟨x, p', L, ?_, fun vs m h => ?_⟩
      · refine it_nxt (body _ _ _ hu) rfl ?_
        rw [show errO (loopU (d + 1) (l.drop q)) = errO (loopU d (l.drop (q + n))) by rw [hL]; cases loopU d (l.drop (q + n)) <;> rfl]
        exact g1
      · rw [hL] at h
        cases h2 : loopU d (l.drop (q + n)) with
        | err e => rw [h2] at h; cases h
        | ok r t =>
          rw [h2] at h; cases h
          obtain ⟨g3, g4⟩ := g2 r t h2
          refine ⟨by rw [g3]; congr 1; omega, by rw [g4, List.append_assoc]; rfl⟩
theorem q_labels {l : List Int} (hb : Bytes l) (hl : l.length ≤ 100000000) {p : Nat} (hp : p ≤ l.length) : ∃ (p' : Int) (L : List D), F45 [(p : Int), 0] [] [dl l] = some ([p', errO (labelsP (l.drop p))], [], [L, dl l]) ∧ ∀ vs n, labelsP (l.drop p) = .ok vs n → p' = ((p + n : Nat) : Int) ∧ L = dl vs := by
  have hu := u_go hb hl hp
  have hle := (uP_stbl 32).le (l.drop p)
  rw [List.length_drop] at hle
  cases h : uP 32 (l.drop p) with
  | err e =>
    rw [h] at hu
    have he := (uP_stbl 32).nz _ _ h
    have hL : labelsP (l.drop p) = .err e := bind_er h
    rw [hL]
    refine ⟨(p : Int), [], of_ret ?_, fun vs n h => by cases h⟩
    unfold t45
    refine d_callx [(p : Int), 0] [] [dl l] _ e45_44 rfl rfl rfl hu rfl ?_
    refine d_lb false (by show ((e == 0) && decide ((0 : Int) > 64)) = false; rw [eq_f he]; rfl) (d_itF rfl ?_)
    refine d_loop (fun i => ([(i : Int), (p : Int), e], [], [[], dl l])) 0 (by omega) 2 ([0, (p : Int), e], [], [[], dl l]) rfl (fun i hi => by omega) (fun _ _ => rfl) ?_ rfl ?_
    · unfold l45_3
      exact d_lb false (by show (decide ((0 : Int) < 0) && (e == 0)) = false; rfl) (d_itF rfl rfl)
    · unfold k45_4
      exact d_rq rfl rfl
  | ok v n =>
    rw [h] at hu
    have hn := hle v n h
    have hv := uP_ltI h
    have hdd : (l.drop p).drop n = l.drop (p + n) := List.drop_drop
    by_cases h64 : 64 < v
    · have hL : labelsP (l.drop p) = .err 4 := by unfold labelsP; rw [bind_of h, if_pos h64]
      rw [hL]
      refine ⟨((p + n : Nat) : Int), [], of_ret ?_, fun vs n h => by cases h⟩
      unfold t45
      refine d_callx [(p : Int), 0] [] [dl l] _ e45_44 rfl rfl rfl hu rfl ?_
      refine d_lb true (by show (((0 : Int) == 0) && decide ((v : Int) > 64)) = true; rw [gt_t (by omega)]; rfl) (d_itT rfl ?_)
      refine d_callx [((p + n : Nat) : Int), 0, 4] [] [dl l] _ e45_26 rfl rfl rfl (q_fail _ _ _ _) rfl ?_
      refine d_loop (fun i => ([(i : Int), ((p + n : Nat) : Int), 4], [], [[], dl l])) 0 (by omega) 2 ([0, ((p + n : Nat) : Int), 4], [], [[], dl l]) rfl (fun i hi => by omega) (fun _ _ => rfl) ?_ rfl ?_
      · unfold l45_1
        exact d_lb false (by show (decide ((0 : Int) < (v : Int)) && ((4 : Int) == 0)) = false; rw [Bool.and_eq_false_iff]; exact .inr rfl) (d_itF rfl rfl)
      · unfold k45_2
        exact d_rq rfl rfl
    · obtain ⟨m, hm⟩ := fuel_eq (v + 1) (by omega)
      obtain ⟨x, p', L, g1, g2⟩ := lp_labels hb hl (cnt := v) (by omega) (p : Int) 0 ((p + n : Nat) : Int) 0 v 0 (p + n) m [] (by omega) rfl (by omega)
      have hL : labelsP (l.drop p) = match loopU v (l.drop (p + n)) with | .err e => .err e | .ok r m => .ok r (n + m) := by
        unfold labelsP; rw [bind_of h, if_neg h64, hdd]
        cases loopU v (l.drop (p + n)) <;> rfl
      refine ⟨p', L, of_ret ?_, fun vs t h => ?_⟩
      · rw [show errO (labelsP (l.drop p)) = errO (loopU v (l.drop (p + n))) by rw [hL]; cases loopU v (l.drop (p + n)) <;> rfl]
        unfold t45
        refine d_callx [(p : Int), 0] [] [dl l] _ e45_44 rfl rfl rfl hu rfl ?_
        refine d_lb false (by show (((0 : Int) == 0) && decide ((v : Int) > 64)) = false; rw [gt_f (by omega)]; rfl) (d_itF rfl ?_)
        rw [← hm] at g1
        refine d_lp _ g1 rfl ?_
        unfold k45_4
        exact d_rq rfl rfl
      · rw [hL] at h
        cases h2 : loopU v (l.drop (p + n)) with
        | err e => rw [h2] at h; cases h
        | ok r t =>
          rw [h2] at h; cases h
          obtain ⟨g3, g4⟩ := g2 _ _ h2
          exact ⟨by rw [g3]; congr 1; omega, g4⟩
/-! instructions -/
structure Ins where
  op : Nat
  a : Int
  b : Int
  k : Int
  L : List Int
def Ins.D (x : Ins) : Vx.D := .st [.i x.op, .i x.a, .i x.b, .i x.k, .l (dl x.L)]
def argP (op : Nat) : Rd Ins :=
  if fm op = 2 then blockP.bind fun a _ => .ok ⟨op, a, 0, 0, []⟩ 0
  else if fm op = 3 then (uP 32).bind fun a _ => .ok ⟨op, a, 0, 0, []⟩ 0
  else if fm op = 4 then labelsP.bind fun L => (uP 32).bind fun a _ => .ok ⟨op, a, 0, 0, L⟩ 0
  else if fm op = 5 then (uP 32).bind fun a => (uP 32).bind fun b _ => .ok ⟨op, a, b, 0, []⟩ 0
  else if fm op = 6 then zeroP.bind fun _ _ => .ok ⟨op, 0, 0, 0, []⟩ 0
  else if fm op = 7 then zeroP.bind fun _ => zeroP.bind fun _ _ => .ok ⟨op, 0, 0, 0, []⟩ 0
  else if fm op = 8 then (sP 32).bind fun k _ => .ok ⟨op, 0, 0, k, []⟩ 0
  else if fm op = 9 then (sP 64).bind fun k _ => .ok ⟨op, 0, 0, k, []⟩ 0
  else if fm op = 10 then (uP 32).bind fun a => zeroP.bind fun _ _ => .ok ⟨op, a, 0, 0, []⟩ 0
  else fun _ => .ok ⟨op, 0, 0, 0, []⟩ 0
theorem argP_stbl (op : Nat) : Stbl (argP op) := by
  unfold argP
  split
  · exact blockP_stbl.bind fun _ => Stbl.pure _
  split
  · exact (uP_stbl 32).bind fun _ => Stbl.pure _
  split
  · exact labelsP_stbl.bind fun _ => (uP_stbl 32).bind fun _ => Stbl.pure _
  split
  · exact (uP_stbl 32).bind fun _ => (uP_stbl 32).bind fun _ => Stbl.pure _
  split
  · exact zeroP_stbl.bind fun _ => Stbl.pure _
  split
  · exact zeroP_stbl.bind fun _ => zeroP_stbl.bind fun _ => Stbl.pure _
  split
  · exact (sP_stbl 32).bind fun _ => Stbl.pure _
  split
  · exact (sP_stbl 64).bind fun _ => Stbl.pure _
  split
  · exact (uP_stbl 32).bind fun _ => zeroP_stbl.bind fun _ => Stbl.pure _
  · exact Stbl.pure _
def instrP : Rd Ins := codeP.bind argP
theorem instrP_stbl : Stbl instrP := codeP_stbl.bind argP_stbl
theorem u_ex {l : List Int} (hb : Bytes l) (hl : l.length ≤ 100000000) {p : Nat} (hp : p ≤ l.length) : ∃ v q : Int, F44 [(p : Int), 0] [] [dl l] = some ([v, q, errO (uP 32 (l.drop p))], [], [dl l]) ∧ ∀ v' n, uP 32 (l.drop p) = .ok v' n → v = (v' : Int) ∧ q = ((p + n : Nat) : Int) := by
  have h := u_go hb hl hp
  cases e : uP 32 (l.drop p) with
  | err x => rw [e] at h; exact ⟨_, _, h, fun v' n h => by cases h⟩
  | ok v n => rw [e] at h; exact ⟨_, _, h, fun v' n h => by cases h; exact ⟨rfl, rfl⟩⟩
theorem q_arg {l : List Int} (hb : Bytes l) (hl : l.length ≤ 100000000) {p : Nat} (hp : p ≤ l.length) (op : Nat) {j0 j1 : Int} {b0 : List D} {t : Vx.T} (ht : t = (.ite (.cm .eql (.iv 5) (.n 2)) (.call 43 [.iv 3, .iv 4] [] [.v 1] 3 0 1 (.ret [.iv 2, .iv 6, .n 0, .n 0, .iv 7, .iv 8] [] [.nil, .v 2]))
      (.ite (.cm .eql (.iv 5) (.n 3)) (.call 44 [.iv 3, .iv 4] [] [.v 1] 3 0 1 (.ret [.iv 2, .iv 6, .n 0, .n 0, .iv 7, .iv 8] [] [.nil, .v 2]))
      (.ite (.cm .eql (.iv 5) (.n 4)) (.call 45 [.iv 3, .iv 4] [] [.v 1] 2 0 2 (.call 44 [.iv 6, .iv 7] [] [.v 3] 3 0 1 (.ret [.iv 2, .iv 8, .n 0, .n 0, .iv 9, .iv 10] [] [.v 2, .v 4])))
      (.ite (.cm .eql (.iv 5) (.n 5)) (.call 44 [.iv 3, .iv 4] [] [.v 1] 3 0 1 (.call 44 [.iv 7, .iv 8] [] [.v 2] 3 0 1 (.ret [.iv 2, .iv 6, .iv 9, .n 0, .iv 10, .iv 11] [] [.nil, .v 3])))
      (.ite (.cm .eql (.iv 5) (.n 6)) (.call 46 [.iv 3, .iv 4] [] [.v 1] 2 0 1 (.ret [.iv 2, .n 0, .n 0, .n 0, .iv 6, .iv 7] [] [.nil, .v 2]))
      (.ite (.cm .eql (.iv 5) (.n 7)) (.call 46 [.iv 3, .iv 4] [] [.v 1] 2 0 1 (.call 46 [.iv 6, .iv 7] [] [.v 2] 2 0 1 (.ret [.iv 2, .n 0, .n 0, .n 0, .iv 8, .iv 9] [] [.nil, .v 3])))
      (.ite (.cm .eql (.iv 5) (.n 8)) (.call 47 [.iv 3, .iv 4, .n 32] [] [.v 1] 3 0 1 (.ret [.iv 2, .n 0, .n 0, .iv 6, .iv 7, .iv 8] [] [.nil, .v 2]))
      (.ite (.cm .eql (.iv 5) (.n 9)) (.call 47 [.iv 3, .iv 4, .n 64] [] [.v 1] 3 0 1 (.ret [.iv 2, .n 0, .n 0, .iv 6, .iv 7, .iv 8] [] [.nil, .v 2]))
      (.ite (.cm .eql (.iv 5) (.n 10)) (.call 44 [.iv 3, .iv 4] [] [.v 1] 3 0 1 (.call 46 [.iv 7, .iv 8] [] [.v 2] 2 0 1 (.ret [.iv 2, .iv 6, .n 0, .n 0, .iv 9, .iv 10] [] [.nil, .v 3])))
      (.ret [.iv 2, .n 0, .n 0, .n 0, .iv 3, .iv 4] [] [.nil, .v 1]))))))))))) :
    ∃ (a b k p' : Int) (L : List D), t.den (Tab.fn a25) [j0, j1, (op : Int), (p : Int), 0, fm op] [] [b0, dl l] = some (.ret ([(op : Int), a, b, k, p', errO (argP op (l.drop p))], [], [L, dl l])) ∧
      ∀ x n, argP op (l.drop p) = .ok x n → x.op = op ∧ a = x.a ∧ b = x.b ∧ k = x.k ∧ L = dl x.L ∧ p' = ((p + n : Nat) : Int) := by
  subst ht
  unfold argP
  generalize fm op = f
  have dd : ∀ n, (l.drop p).drop n = l.drop (p + n) := fun n => List.drop_drop
  have le : ∀ {α : Type} {R : Rd α}, Stbl R → ∀ {a n}, R (l.drop p) = .ok a n → p + n ≤ l.length := fun {α R} hs {a n} h => by
    have := hs.le _ _ _ h
    rw [List.length_drop] at this; omega
  obtain ⟨v, q, hu, hu2⟩ := u_ex hb hl hp
  by_cases f2 : f = 2
  · rw [if_pos f2]
    have h := b_go hb hl hp
    cases e : blockP (l.drop p) with
    | err x =>
      rw [e] at h
      rw [bind_er e]
      exact ⟨0, 0, 0, (p : Int), [], d_itT (eq_t f2) (d_callx [(p : Int), 0] [] [dl l] _ e25_43 rfl rfl rfl h rfl rfl), fun x n h => by cases h⟩
    | ok v n =>
      rw [e] at h
      rw [bind_of e]
      exact ⟨v, 0, 0, ((p + n : Nat) : Int), [], d_itT (eq_t f2) (d_callx [(p : Int), 0] [] [dl l] _ e25_43 rfl rfl rfl h rfl rfl), fun x n h => by cases h; exact ⟨rfl, rfl, rfl, rfl, rfl, rfl⟩⟩
  rw [if_neg f2]
  by_cases f3 : f = 3
  · rw [if_pos f3]
    refine ⟨v, 0, 0, q, [], d_itF (eq_f f2) (d_itT (eq_t f3) (d_callx [(p : Int), 0] [] [dl l] _ e25_44 rfl rfl rfl hu rfl ?_)), fun x n h => ?_⟩
    · cases e2 : uP 32 (l.drop p) with
      | err y => rw [bind_er e2]; rfl
      | ok y m => rw [bind_of e2]; rfl
    · obtain ⟨a, n1, k, e1, e2, rfl⟩ := bind_ok h
      cases e2
      obtain ⟨rfl, rfl⟩ := hu2 _ _ e1
      exact ⟨rfl, rfl, rfl, rfl, rfl, rfl⟩
  rw [if_neg f3]
  by_cases f4 : f = 4
  · rw [if_pos f4]
    obtain ⟨p1, L, hL, hL2⟩ := q_labels hb hl hp
    cases e : labelsP (l.drop p) with
    | err x =>
      rw [e] at hL
      rw [bind_er e]
      have hx := labelsP_stbl.nz _ _ e
      exact ⟨0, 0, 0, p1, L, d_itF (eq_f f2) (d_itF (eq_f f3) (d_itT (eq_t f4) (d_callx [(p : Int), 0] [] [dl l] _ e25_45 rfl rfl rfl hL rfl (d_callx [p1, x] [] [dl l] _ e25_44 rfl rfl rfl (u_st hx _) rfl rfl)))), fun x n h => by cases h⟩
    | ok vs n =>
      obtain ⟨rfl, rfl⟩ := hL2 vs n e
      rw [e] at hL
      have hpn := le labelsP_stbl e
      obtain ⟨v2, q2, hv, hv2⟩ := u_ex hb hl hpn
      rw [bind_of e, dd]
      refine ⟨v2, 0, 0, q2, dl vs, d_itF (eq_f f2) (d_itF (eq_f f3) (d_itT (eq_t f4) (d_callx [(p : Int), 0] [] [dl l] _ e25_45 rfl rfl rfl hL rfl (d_callx [((p + n : Nat) : Int), 0] [] [dl l] _ e25_44 rfl rfl rfl hv rfl ?_)))), fun x m h => ?_⟩
      · cases e2 : uP 32 (l.drop (p + n)) with
        | err y => rw [bind_er e2]; rfl
        | ok y m => rw [bind_of e2]; rfl
      · cases e2 : uP 32 (l.drop (p + n)) with
        | err y => rw [bind_er e2] at h; cases h
        | ok y m =>
          rw [bind_of e2] at h; cases h
          obtain ⟨rfl, rfl⟩ := hv2 _ _ e2
          exact ⟨rfl, rfl, rfl, rfl, rfl, by congr 1; omega⟩
  rw [if_neg f4]
  by_cases f5 : f = 5
  · rw [if_pos f5]
    cases e : uP 32 (l.drop p) with
    | err x =>
      rw [e] at hu
      rw [bind_er e]
      have hx := (uP_stbl 32).nz _ _ e
      exact ⟨v, 0, 0, q, [], d_itF (eq_f f2) (d_itF (eq_f f3) (d_itF (eq_f f4) (d_itT (eq_t f5) (d_callx [(p : Int), 0] [] [dl l] _ e25_44 rfl rfl rfl hu rfl (d_callx [q, x] [] [dl l] _ e25_44 rfl rfl rfl (u_st hx _) rfl rfl))))), fun x n h => by cases h⟩
    | ok vs n =>
      obtain ⟨rfl, rfl⟩ := hu2 vs n e
      rw [e] at hu
      have hpn := le (uP_stbl 32) e
      obtain ⟨v2, q2, hv, hv2⟩ := u_ex hb hl hpn
      rw [bind_of e, dd]
      refine ⟨(vs : Int), v2, 0, q2, [], d_itF (eq_f f2) (d_itF (eq_f f3) (d_itF (eq_f f4) (d_itT (eq_t f5) (d_callx [(p : Int), 0] [] [dl l] _ e25_44 rfl rfl rfl hu rfl (d_callx [((p + n : Nat) : Int), 0] [] [dl l] _ e25_44 rfl rfl rfl hv rfl ?_))))), fun x m h => ?_⟩
      · cases e2 : uP 32 (l.drop (p + n)) with
        | err y => rw [bind_er e2]; rfl
        | ok y m => rw [bind_of e2]; rfl
      · cases e2 : uP 32 (l.drop (p + n)) with
        | err y => rw [bind_er e2] at h; cases h
        | ok y m =>
          rw [bind_of e2] at h; cases h
          obtain ⟨rfl, rfl⟩ := hv2 _ _ e2
          exact ⟨rfl, rfl, rfl, rfl, rfl, by congr 1; omega⟩
  rw [if_neg f5]
  by_cases f6 : f = 6
  · rw [if_pos f6]
    obtain ⟨p1, hz, hz2⟩ := z_go hb hl p
    refine ⟨0, 0, 0, p1, [], d_itF (eq_f f2) (d_itF (eq_f f3) (d_itF (eq_f f4) (d_itF (eq_f f5) (d_itT (eq_t f6) (d_callx [(p : Int), 0] [] [dl l] _ e25_46 rfl rfl rfl hz rfl ?_))))), fun x m h => ?_⟩
    · cases e2 : zeroP (l.drop p) with
      | err y => rw [bind_er e2]; rfl
      | ok y m => rw [bind_of e2]; rfl
    · obtain ⟨a, n1, k, e1, e2, rfl⟩ := bind_ok h
      cases e2
      obtain rfl := hz2 _ _ e1
      exact ⟨rfl, rfl, rfl, rfl, rfl, rfl⟩
  rw [if_neg f6]
  by_cases f7 : f = 7
  · rw [if_pos f7]
    obtain ⟨p1, hz, hz2⟩ := z_go hb hl p
    cases e : zeroP (l.drop p) with
    | err x =>
      rw [e] at hz
      rw [bind_er e]
      have hx := zeroP_stbl.nz _ _ e
      exact ⟨0, 0, 0, p1, [], d_itF (eq_f f2) (d_itF (eq_f f3) (d_itF (eq_f f4) (d_itF (eq_f f5) (d_itF (eq_f f6) (d_itT (eq_t f7) (d_callx [(p : Int), 0] [] [dl l] _ e25_46 rfl rfl rfl hz rfl (d_callx [p1, x] [] [dl l] _ e25_46 rfl rfl rfl (z_st hx _) rfl rfl))))))), fun x n h => by cases h⟩
    | ok vs n =>
      obtain rfl := hz2 vs n e
      rw [e] at hz
      have hpn := le zeroP_stbl e
      obtain ⟨p2, hv, hv2⟩ := z_go hb hl (p + n)
      rw [bind_of e, dd]
      refine ⟨0, 0, 0, p2, [], d_itF (eq_f f2) (d_itF (eq_f f3) (d_itF (eq_f f4) (d_itF (eq_f f5) (d_itF (eq_f f6) (d_itT (eq_t f7) (d_callx [(p : Int), 0] [] [dl l] _ e25_46 rfl rfl rfl hz rfl (d_callx [((p + n : Nat) : Int), 0] [] [dl l] _ e25_46 rfl rfl rfl hv rfl ?_))))))), fun x m h => ?_⟩
      · cases e2 : zeroP (l.drop (p + n)) with
        | err y => rw [bind_er e2]; rfl
        | ok y m => rw [bind_of e2]; rfl
      · cases e2 : zeroP (l.drop (p + n)) with
        | err y => rw [bind_er e2] at h; cases h
        | ok y m =>
          rw [bind_of e2] at h; cases h
          obtain rfl := hv2 _ _ e2
          exact ⟨rfl, rfl, rfl, rfl, rfl, by congr 1; omega⟩
  rw [if_neg f7]
  by_cases f8 : f = 8
  · rw [if_pos f8]
    have h := s_go hb hl hp (bits := 32) (by decide) (by decide)
    cases e : sP 32 (l.drop p) with
    | err x =>
      rw [e] at h
      rw [bind_er e]
      exact ⟨0, 0, 0, (p : Int), [], d_itF (eq_f f2) (d_itF (eq_f f3) (d_itF (eq_f f4) (d_itF (eq_f f5) (d_itF (eq_f f6) (d_itF (eq_f f7) (d_itT (eq_t f8) (d_callx [(p : Int), 0, 32] [] [dl l] _ e25_47 rfl rfl rfl h rfl rfl))))))), fun x n h => by cases h⟩
    | ok v n =>
      rw [e] at h
      rw [bind_of e]
      exact ⟨0, 0, v, ((p + n : Nat) : Int), [], d_itF (eq_f f2) (d_itF (eq_f f3) (d_itF (eq_f f4) (d_itF (eq_f f5) (d_itF (eq_f f6) (d_itF (eq_f f7) (d_itT (eq_t f8) (d_callx [(p : Int), 0, 32] [] [dl l] _ e25_47 rfl rfl rfl h rfl rfl))))))), fun x n h => by cases h; exact ⟨rfl, rfl, rfl, rfl, rfl, rfl⟩⟩
  rw [if_neg f8]
  by_cases f9 : f = 9
  · rw [if_pos f9]
    have h := s_go hb hl hp (bits := 64) (by decide) (by decide)
    cases e : sP 64 (l.drop p) with
    | err x =>
      rw [e] at h
      rw [bind_er e]
      exact ⟨0, 0, 0, (p : Int), [], d_itF (eq_f f2) (d_itF (eq_f f3) (d_itF (eq_f f4) (d_itF (eq_f f5) (d_itF (eq_f f6) (d_itF (eq_f f7) (d_itF (eq_f f8) (d_itT (eq_t f9) (d_callx [(p : Int), 0, 64] [] [dl l] _ e25_47 rfl rfl rfl h rfl rfl)))))))), fun x n h => by cases h⟩
    | ok v n =>
      rw [e] at h
      rw [bind_of e]
      exact ⟨0, 0, v, ((p + n : Nat) : Int), [], d_itF (eq_f f2) (d_itF (eq_f f3) (d_itF (eq_f f4) (d_itF (eq_f f5) (d_itF (eq_f f6) (d_itF (eq_f f7) (d_itF (eq_f f8) (d_itT (eq_t f9) (d_callx [(p : Int), 0, 64] [] [dl l] _ e25_47 rfl rfl rfl h rfl rfl)))))))), fun x n h => by cases h; exact ⟨rfl, rfl, rfl, rfl, rfl, rfl⟩⟩
  rw [if_neg f9]
  by_cases f10 : f = 10
  · rw [if_pos f10]
    cases e : uP 32 (l.drop p) with
    | err x =>
      rw [e] at hu
      rw [bind_er e]
      have hx := (uP_stbl 32).nz _ _ e
      exact ⟨v, 0, 0, q, [], d_itF (eq_f f2) (d_itF (eq_f f3) (d_itF (eq_f f4) (d_itF (eq_f f5) (d_itF (eq_f f6) (d_itF (eq_f f7) (d_itF (eq_f f8) (d_itF (eq_f f9) (d_itT (eq_t f10) (d_callx [(p : Int), 0] [] [dl l] _ e25_44 rfl rfl rfl hu rfl (d_callx [q, x] [] [dl l] _ e25_46 rfl rfl rfl (z_st hx _) rfl rfl)))))))))), fun x n h => by cases h⟩
    | ok vs n =>
      obtain ⟨rfl, rfl⟩ := hu2 vs n e
      rw [e] at hu
      have hpn := le (uP_stbl 32) e
      obtain ⟨p2, hv, hv2⟩ := z_go hb hl (p + n)
      rw [bind_of e, dd]
      refine ⟨(vs : Int), 0, 0, p2, [], d_itF (eq_f f2) (d_itF (eq_f f3) (d_itF (eq_f f4) (d_itF (eq_f f5) (d_itF (eq_f f6) (d_itF (eq_f f7) (d_itF (eq_f f8) (d_itF (eq_f f9) (d_itT (eq_t f10) (d_callx [(p : Int), 0] [] [dl l] _ e25_44 rfl rfl rfl hu rfl (d_callx [((p + n : Nat) : Int), 0] [] [dl l] _ e25_46 rfl rfl rfl hv rfl ?_)))))))))), fun x m h => ?_⟩
      · cases e2 : zeroP (l.drop (p + n)) with
        | err y => rw [bind_er e2]; rfl
        | ok y m => rw [bind_of e2]; rfl
      · cases e2 : zeroP (l.drop (p + n)) with
        | err y => rw [bind_er e2] at h; cases h
        | ok y m =>
          rw [bind_of e2] at h; cases h
          obtain rfl := hv2 _ _ e2
          exact ⟨rfl, rfl, rfl, rfl, rfl, by congr 1; omega⟩
  rw [if_neg f10]
  exact ⟨0, 0, 0, (p : Int), [], d_itF (eq_f f2) (d_itF (eq_f f3) (d_itF (eq_f f4) (d_itF (eq_f f5) (d_itF (eq_f f6) (d_itF (eq_f f7) (d_itF (eq_f f8) (d_itF (eq_f f9) (d_itF (eq_f f10) rfl)))))))), fun x n h => by cases h; exact ⟨rfl, rfl, rfl, rfl, rfl, rfl⟩⟩
theorem q_instr {l : List Int} (hb : Bytes l) (hl : l.length ≤ 100000000) {p : Nat} (hp : p ≤ l.length) : ∃ (op a b k p' : Int) (L : List D), F25 [(p : Int), 0] [] [dl l] = some ([op, a, b, k, p', errO (instrP (l.drop p))], [], [L, dl l]) ∧
    ∀ x n, instrP (l.drop p) = .ok x n → op = (x.op : Int) ∧ a = x.a ∧ b = x.b ∧ k = x.k ∧ L = dl x.L ∧ p' = ((p + n : Nat) : Int) := by
  obtain ⟨op', p', h1, h2⟩ := q_code hb hl p
  cases e : codeP (l.drop p) with
  | err x =>
    rw [e] at h1
    have hx := codeP_stbl.nz _ _ e
    have hi : instrP (l.drop p) = .err x := bind_er e
    rw [hi]
    refine ⟨op', 0, 0, 0, p', [], of_ret ?_, fun x n h => by cases h⟩
    unfold t25
    exact d_callx [(p : Int), 0] [] [dl l] _ e25_42 rfl rfl rfl h1 rfl (d_itT (ne_t hx) rfl)
  | ok op n =>
    rw [e] at h1
    obtain ⟨rfl, rfl, h512⟩ := h2 op n e
    have hpn : p + n ≤ l.length := by have := codeP_stbl.le _ _ _ e; rw [List.length_drop] at this; omega
    obtain ⟨a, b, k, p', L, g1, g2⟩ := q_arg hb hl hpn op (j0 := (p : Int)) (j1 := 0) (b0 := dl l) rfl
    have hi : instrP (l.drop p) = match argP op (l.drop (p + n)) with | .err e => .err e | .ok x k => .ok x (n + k) := by
      unfold instrP
      rw [bind_of e, List.drop_drop]
      cases argP op (l.drop (p + n)) <;> rfl
    refine ⟨(op : Int), a, b, k, p', L, of_ret ?_, fun x m h => ?_⟩
    · rw [show errO (instrP (l.drop p)) = errO (argP op (l.drop (p + n))) by rw [hi]; cases argP op (l.drop (p + n)) <;> rfl]
      unfold t25
      refine d_callx [(p : Int), 0] [] [dl l] _ e25_42 rfl rfl rfl h1 rfl (d_itF rfl ?_)
      refine d_callx [(op : Int)] [] [] _ e25_33 rfl rfl rfl (q_form h512) rfl ?_
      exact g1
    · rw [hi] at h
      cases e2 : argP op (l.drop (p + n)) with
      | err y => rw [e2] at h; cases h
      | ok y m =>
        rw [e2] at h; cases h
        obtain ⟨g3, g4, g5, g6, g7, g8⟩ := g2 _ _ e2
        exact ⟨by rw [g3], g4, g5, g6, g7, by rw [g8]; congr 1; omega⟩
/-! blocks -/
def stE (op : Int) (o : List D) : Int × Bool × List D :=
  if op = 2 ∨ op = 3 ∨ op = 4 then (if 64 ≤ o.length then (4, false, o) else (0, false, o ++ [.b (op == 4)]))
  else if op = 5 then (if o.length = 0 ∨ ((o.getD (o.length - 1) (.i 0)).cell 0).bool = false then (2, false, o) else (0, false, o.modify (o.length - 1) (fun d => d.put 1 0 [.b false])))
  else if op = 11 then (if o.length = 0 then (0, true, o) else (0, false, o.take (o.length - 1)))
  else (0, false, o)
theorem stE_len {op : Int} {o : List D} (h : o.length ≤ 64) : (stE op o).2.2.length ≤ 64 := by
  unfold stE
  split
  · split
    · exact h
    · show (o ++ [D.b (op == 4)]).length ≤ 64; rw [List.length_append]; simp only [List.length_singleton]; omega
  split
  · split
    · exact h
    · show (o.modify _ _).length ≤ 64; rw [List.length_modify]; exact h
  split
  · split
    · exact h
    · show (o.take _).length ≤ 64; rw [List.length_take]; omega
  · exact h
theorem stE_code {op : Int} {o : List D} : (stE op o).1 = 0 ∨ (stE op o).1 = 2 ∨ (stE op o).1 = 4 := by
  unfold stE
  split
  · split
    · exact .inr (.inr rfl)
    · exact .inl rfl
  split
  · split
    · exact .inr (.inl rfl)
    · exact .inl rfl
  split
  · split
    · exact .inl rfl
    · exact .inl rfl
  · exact .inl rfl
theorem q_step {op a b k : Int} {o L : List D} (ho : o.length ≤ 64) : F27 [op, a, b, k] [] [o, L] = some ([(stE op o).1], [(stE op o).2.1], [(stE op o).2.2]) := by
  refine of_ret ?_
  have es : arI .sub .i64 (o.length : Int) 1 = (o.length : Int) - 1 := by show IntKind.i64.wrap ((o.length : Int) - 1) = _; rw [wi (by omega) (by omega)]
  have h1 : (op = 2 ∨ op = 3 ∨ op = 4) → b27_1.den (Tab.fn a27) [op, a, b, k] [] [o, L] = some (.ret ([(stE op o).1], [(stE op o).2.1], [(stE op o).2.2])) := by
    intro h
    unfold b27_1 stE
    rw [if_pos h]
    by_cases h64 : 64 ≤ o.length
    · rw [if_pos h64]
      exact d_itT (ge_t (show (64 : Int) ≤ (o.length : Int) by omega)) rfl
    · rw [if_neg h64]
      exact d_itF (ge_f (show (o.length : Int) < 64 by omega)) (d_lst [[.b (op == 4)]] rfl (d_rq (an_t (le_t (show (o.length : Int) ≤ 17592186044416 by omega)) rfl) (d_lst [o ++ [.b (op == 4)]] rfl rfl)))
  have h2 : ¬ (op = 2 ∨ op = 3 ∨ op = 4) → b27_2.den (Tab.fn a27) [op, a, b, k] [] [o, L] = some (.ret ([(stE op o).1], [(stE op o).2.1], [(stE op o).2.2])) := by
    intro h
    unfold b27_2 stE
    rw [if_neg h]
    by_cases h5 : op = 5
    · rw [if_pos h5]
      refine d_itT (eq_t h5) (d_rq ?_ ?_)
      · show (decide (arI .sub .i64 (o.length : Int) 1 < 0) || (decide (arI .sub .i64 (o.length : Int) 1 ≥ 0) && decide (arI .sub .i64 (o.length : Int) 1 < (o.length : Int)))) = true
        rw [es]
        by_cases h0 : (o.length : Int) - 1 < 0
        · rw [lt_t h0]; rfl
        · rw [ge_t (show (0 : Int) ≤ (o.length : Int) - 1 by omega), lt_t (show (o.length : Int) - 1 < (o.length : Int) by omega), Bool.and_self, Bool.or_true]
      · by_cases h0 : o.length = 0
        · rw [if_pos (.inl h0)]
          exact d_itF (by show (!decide (arI .sub .i64 (o.length : Int) 1 < 0)) = false; rw [es, lt_t (by omega)]; rfl) rfl
        · have en : ((o.length : Int) - 1).toNat = o.length - 1 := by omega
          have hq : (decide (arI .sub .i64 (o.length : Int) 1 ≥ 0) && decide (arI .sub .i64 (o.length : Int) 1 < (o.length : Int))) = true := by
            rw [es]; exact an_t (ge_t (by omega)) (lt_t (by omega))
          have eb : ((o.getD (arI .sub .i64 (o.length : Int) 1).toNat (.i 0)).cell 0).bool = ((o.getD (o.length - 1) (.i 0)).cell 0).bool := by rw [es, en]
          refine d_itT (by show (!decide (arI .sub .i64 (o.length : Int) 1 < 0)) = true; rw [es, lt_f (by omega)]; rfl) (d_rq hq ?_)
          by_cases hl : ((o.getD (o.length - 1) (.i 0)).cell 0).bool = false
          · rw [if_pos (.inr hl)]
            exact d_itT (by show (!((o.getD (arI .sub .i64 (o.length : Int) 1).toNat (.i 0)).cell 0).bool) = true; rw [eb, hl]; rfl) rfl
          · rw [if_neg (by rintro (h | h); exact h0 h; exact hl h)]
            refine d_itF (by show (!((o.getD (arI .sub .i64 (o.length : Int) 1).toNat (.i 0)).cell 0).bool) = false; rw [eb, show ((o.getD (o.length - 1) (.i 0)).cell 0).bool = true by simpa using hl]; rfl) (d_rq hq (d_rq hq (d_lst [o.modify (o.length - 1) (fun d => d.put 1 0 [.b false])] ?_ rfl)))
            show [o.modify (arI .sub .i64 (o.length : Int) 1).toNat _] = _
            rw [es, en]
            rfl
    rw [if_neg h5]
    refine d_itF (eq_f h5) ?_
    by_cases h11 : op = 11
    · rw [if_pos h11]
      refine d_itT (eq_t h11) ?_
      by_cases h0 : o.length = 0
      · rw [if_pos h0]
        exact d_itT (by show decide (arI .sub .i64 (o.length : Int) 1 < 0) = true; rw [es]; exact lt_t (by omega)) rfl
      · rw [if_neg h0]
        refine d_itF (by show decide (arI .sub .i64 (o.length : Int) 1 < 0) = false; rw [es]; exact lt_f (by omega)) (d_rq ?_ (d_lst [o.take (o.length - 1)] ?_ rfl))
        · show (decide ((0 : Int) ≤ arI .sub .i64 (o.length : Int) 1) && decide (arI .sub .i64 (o.length : Int) 1 ≤ (o.length : Int))) = true
          rw [es]; exact an_t (le_t (by omega)) (le_t (by omega))
        · show [(o.take (arI .sub .i64 (o.length : Int) 1).toNat).drop (0 : Int).toNat] = _
          rw [es, show ((o.length : Int) - 1).toNat = o.length - 1 by omega]
          rfl
    · rw [if_neg h11]
      exact d_itF (eq_f h11) rfl
  unfold t27
  by_cases e2 : op = 2
  · exact d_itT (eq_t e2) (d_itT (eq_t e2) (h1 (.inl e2)))
  refine d_itF (eq_f e2) ?_
  by_cases e3 : op = 3
  · exact d_itT (eq_t e3) (d_itT (eq_t e3) (h1 (.inr (.inl e3))))
  refine d_itF (eq_f e3) ?_
  by_cases e4 : op = 4
  · exact d_itT (eq_t e4) (h1 (.inr (.inr e4)))
  · exact d_itF (eq_f e4) (h2 (by rintro (h | h | h); exact e2 h; exact e3 h; exact e4 h))
/-! bodies -/
def bodyP : Nat → List D → List D → Rd (List D)
  | 0, _, _ => fun _ => .err 4
  | f + 1, out, o => instrP.bind fun x => if 2000 ≤ out.length then fun _ => .err 4 else if (stE x.op o).1 ≠ 0 then fun _ => .err (stE x.op o).1 else if (stE x.op o).2.1 = true then fun _ => .ok (out ++ [x.D]) 0 else bodyP f (out ++ [x.D]) (stE x.op o).2.2
theorem bodyP_stbl : ∀ (f : Nat) (out o : List D), Stbl (bodyP f out o)
  | 0, _, _ => Stbl.fail _ (by decide)
  | f + 1, out, o => instrP_stbl.bind fun x => by
    split
    · exact Stbl.fail _ (by decide)
    split
    · rename_i h
      exact Stbl.fail _ h
    split
    · exact Stbl.pure _
    · exact bodyP_stbl f _ _
def bodyR (r : Res (List D)) (p : Nat) : Vx.R := match r with | .ok out n => ([((p + n : Nat) : Int), 0], [], [out]) | .err e => ([0, e], [], [[]])
theorem lp_body {l : List Int} (hb : Bytes l) (hl : l.length ≤ 100000000) : ∀ (f k p : Nat) (out o : List D), out.length + f = 2001 → out.length ≤ 2000 → o.length ≤ 64 → p ≤ l.length →
    iterT 4 0 4 (fun r => l9_1.den (Tab.fn a9) ([] ++ r.1) ([] ++ r.2.1) ([dl l] ++ r.2.2)) (k + f) ([0, 0, (p : Int), 0], [], [[], out, dl l, o]) = some (.ret (bodyR (bodyP f out o (l.drop p)) p)) := by
  intro f
  induction f with
  | zero => intro k p out o h1 h2; omega
  | succ f ih =>
    intro k p out o h1 h2 h3 hp
    obtain ⟨op, a, b, q, p', L, hi, hi2⟩ := q_instr hb hl hp
    cases e : instrP (l.drop p) with
    | err x =>
      have hx := instrP_stbl.nz _ _ e
      have hB : bodyP (f + 1) out o (l.drop p) = .err x := bind_er e
      rw [hB]
      rw [e] at hi
      refine it_ret ?_
      show Vx.T.den _ l9_1 [0, 0, (p : Int), 0] [] [dl l, [], out, dl l, o] = _
      unfold l9_1
      refine d_callx [(p : Int), 0] [] [dl l] _ e9_25 rfl rfl rfl hi rfl ?_
      exact d_lb false (by show ((x == 0) && decide ((out.length : Int) ≥ 2000)) = false; rw [eq_f hx]; rfl) (d_itF rfl (d_itT (ne_t hx) (d_rt rfl)))
    | ok x n =>
      obtain ⟨rfl, rfl, rfl, rfl, rfl, rfl⟩ := hi2 x n e
      have hpn : p + n ≤ l.length := by have := instrP_stbl.le _ _ _ e; rw [List.length_drop] at this; omega
      have hB : bodyP (f + 1) out o (l.drop p) = match (if 2000 ≤ out.length then fun _ => .err 4 else if (stE x.op o).1 ≠ 0 then fun _ => .err (stE x.op o).1 else if (stE x.op o).2.1 = true then fun _ => .ok (out ++ [x.D]) 0 else bodyP f (out ++ [x.D]) (stE x.op o).2.2 : Rd (List D)) (l.drop (p + n)) with | .err e => .err e | .ok b k => .ok b (n + k) := by
        show (instrP.bind _) _ = _
        rw [bind_of e, List.drop_drop]
        generalize (if 2000 ≤ out.length then fun _ => .err 4 else if (stE x.op o).1 ≠ 0 then fun _ => .err (stE x.op o).1 else if (stE x.op o).2.1 = true then fun _ => .ok (out ++ [x.D]) 0 else bodyP f (out ++ [x.D]) (stE x.op o).2.2 : Rd (List D)) (l.drop (p + n)) = z
        cases z <;> rfl
      rw [e] at hi
      by_cases h2k : 2000 ≤ out.length
      · rw [if_pos h2k] at hB
        have hB : bodyP (f + 1) out o (l.drop p) = .err 4 := hB
        rw [hB]
        refine it_ret ?_
        show Vx.T.den _ l9_1 [0, 0, (p : Int), 0] [] [dl l, [], out, dl l, o] = _
        unfold l9_1
        refine d_callx [(p : Int), 0] [] [dl l] _ e9_25 rfl rfl rfl hi rfl ?_
        refine d_lb true (by show (((0 : Int) == 0) && decide ((out.length : Int) ≥ 2000)) = true; rw [ge_t (by omega)]; rfl) (d_itT rfl ?_)
        exact d_callx [((p + n : Nat) : Int), 0, 4] [] [dl l] _ e9_26 rfl rfl rfl (q_fail _ _ _ _) rfl (d_itT rfl (d_rt rfl))
      rw [if_neg h2k] at hB
      have hs := q_step (op := (x.op : Int)) (a := x.a) (b := x.b) (k := x.k) (L := dl x.L) h3
      have hsl := stE_len (op := (x.op : Int)) h3
      generalize stE (x.op : Int) o = z at *
      obtain ⟨ze, zo, zn⟩ := z
      by_cases hz : ze = 0
      · subst hz
        rw [if_neg (by simp)] at hB
        cases zo with
        | true =>
          rw [if_pos rfl] at hB
          have hB : bodyP (f + 1) out o (l.drop p) = .ok (out ++ [x.D]) (n + 0) := hB
          rw [hB]
          refine it_ret ?_
          show Vx.T.den _ l9_1 [0, 0, (p : Int), 0] [] [dl l, [], out, dl l, o] = _
          unfold l9_1
          refine d_callx [(p : Int), 0] [] [dl l] _ e9_25 rfl rfl rfl hi rfl ?_
          refine d_lb false (by show (((0 : Int) == 0) && decide ((out.length : Int) ≥ 2000)) = false; rw [ge_f (by omega)]; rfl) (d_itF rfl (d_itF rfl ?_))
          refine d_callx [(x.op : Int), x.a, x.b, x.k] [] [o, dl x.L] _ e9_27 rfl rfl rfl hs rfl ?_
          exact d_itF rfl (d_lst [[x.D]] rfl (d_rq (an_t (le_t (show (out.length : Int) ≤ 617269685768 by omega)) rfl) (d_lst [out ++ [x.D]] rfl (d_itT rfl (d_rt rfl)))))
        | false =>
          rw [if_neg (fun h => by cases h)] at hB
          have hB : bodyP (f + 1) out o (l.drop p) = match bodyP f (out ++ [x.D]) zn (l.drop (p + n)) with | .err e => .err e | .ok b k => .ok b (n + k) := hB
          have hlen : (out ++ [x.D]).length = out.length + 1 := by rw [List.length_append]; rfl
          have g := ih k (p + n) (out ++ [x.D]) zn (by omega) (by omega) hsl hpn
          rw [show bodyR (bodyP (f + 1) out o (l.drop p)) p = bodyR (bodyP f (out ++ [x.D]) zn (l.drop (p + n))) (p + n) by
            rw [hB]
            cases bodyP f (out ++ [x.D]) zn (l.drop (p + n)) with
            | err e => rfl
            | ok b k => simp only [bodyR, Nat.add_assoc]]
          refine it_nxt (r' := ([0, 0, ((p + n : Nat) : Int), 0], [], [[], out ++ [x.D], dl l, zn])) ?_ rfl g
          show Vx.T.den _ l9_1 [0, 0, (p : Int), 0] [] [dl l, [], out, dl l, o] = _
          unfold l9_1
          refine d_callx [(p : Int), 0] [] [dl l] _ e9_25 rfl rfl rfl hi rfl ?_
          refine d_lb false (by show (((0 : Int) == 0) && decide ((out.length : Int) ≥ 2000)) = false; rw [ge_f (by omega)]; rfl) (d_itF rfl (d_itF rfl ?_))
          refine d_callx [(x.op : Int), x.a, x.b, x.k] [] [o, dl x.L] _ e9_27 rfl rfl rfl hs rfl ?_
          exact d_itF rfl (d_lst [[x.D]] rfl (d_rq (an_t (le_t (show (out.length : Int) ≤ 617269685768 by omega)) rfl) (d_lst [out ++ [x.D]] rfl (d_itF rfl rfl))))
      · rw [if_pos (by exact hz)] at hB
        have hB : bodyP (f + 1) out o (l.drop p) = .err ze := hB
        rw [hB]
        refine it_ret ?_
        show Vx.T.den _ l9_1 [0, 0, (p : Int), 0] [] [dl l, [], out, dl l, o] = _
        unfold l9_1
        refine d_callx [(p : Int), 0] [] [dl l] _ e9_25 rfl rfl rfl hi rfl ?_
        refine d_lb false (by show (((0 : Int) == 0) && decide ((out.length : Int) ≥ 2000)) = false; rw [ge_f (by omega)]; rfl) (d_itF rfl (d_itF rfl ?_))
        refine d_callx [(x.op : Int), x.a, x.b, x.k] [] [o, dl x.L] _ e9_27 rfl rfl rfl hs rfl ?_
        exact d_itT (ne_t hz) (d_rt rfl)
theorem q_Body {l : List Int} (hb : Bytes l) (hl : l.length ≤ 100000000) : F9 [] [] [dl l] = some (bodyR (bodyP 2001 [] [] l) 0) := by
  refine of_ret ?_
  unfold t9
  obtain ⟨m, hm⟩ := fuel_eq 2001 (by omega)
  have g := lp_body hb hl 2001 m 0 [] [] rfl (by simp) (by simp) (by omega)
  rw [← hm, List.drop_zero] at g
  exact d_lp_ret g
end Go.Proofs.Ytmfjapphmmlppaa.IInstrPuts
