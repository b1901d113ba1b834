/-
  InstrPuts: the reference of layer 6: an instruction is read as the code reads it.
-/
import Derived.Test.YtmfjapphmmlppaaInRrInstrPuts
namespace Go.Proofs.Ytmfjapphmmlppaa.WInstrPuts
set_option linter.all false
open Go.Proofs.Ytmfjapphmmlppaa.Vx Go.Proofs.Ytmfjapphmmlppaa.XInstrPuts Go.Proofs.Ytmfjapphmmlppaa.Vd Go.Proofs.Ytmfjapphmmlppaa.Vn Go.Proofs.Ytmfjapphmmlppaa.Vl Go.Proofs.Ytmfjapphmmlppaa.Vp Go.Proofs.Ytmfjapphmmlppaa.Vb Go.Proofs.Ytmfjapphmmlppaa.SInstrPuts Go.Proofs.Ytmfjapphmmlppaa.Vo Go.Proofs.Ytmfjapphmmlppaa.Vt Go.Proofs.Ytmfjapphmmlppaa.IInstrPuts Go.Proofs.Ytmfjapphmmlppaa.PInstrPuts Go.Proofs.Ytmfjapphmmlppaa.MInstrPuts Go.Proofs.Ytmfjapphmmlppaa.KInstrPuts
theorem letP_stbl (c : Int) (x : Ins) : Stbl (letP c x) := by
  unfold letP
  split
  · exact blockP_stbl.bind fun _ => Stbl.pure _
  split
  · exact (uP_stbl 32).bind fun _ => Stbl.pure _
  split
  · exact (uP_stbl 32).bind fun _ => Stbl.pure _
  split
  · exact labelsP_stbl.bind fun _ => Stbl.pure _
  split
  · exact (sP_stbl 32).bind fun _ => Stbl.pure _
  split
  · exact (sP_stbl 64).bind fun _ => Stbl.pure _
  split
  · exact zeroP_stbl.bind fun _ => Stbl.pure _
  · exact Stbl.pure _
theorem letP_op {c : Int} {x y : Ins} {l : List Int} {n : Nat} (h : letP c x l = .ok y n) : y.op = x.op := by
  unfold letP at h
  split at h
  · obtain ⟨_, _, _, _, h2, _⟩ := bind_ok h; cases h2; rfl
  split at h
  · obtain ⟨_, _, _, _, h2, _⟩ := bind_ok h; cases h2; rfl
  split at h
  · obtain ⟨_, _, _, _, h2, _⟩ := bind_ok h; cases h2; rfl
  split at h
  · obtain ⟨_, _, _, _, h2, _⟩ := bind_ok h; cases h2; rfl
  split at h
  · obtain ⟨_, _, _, _, h2, _⟩ := bind_ok h; cases h2; rfl
  split at h
  · obtain ⟨_, _, _, _, h2, _⟩ := bind_ok h; cases h2; rfl
  split at h
  · obtain ⟨_, _, _, _, h2, _⟩ := bind_ok h; cases h2; rfl
  · cases h; rfl
def letter (c : Int) : Prop := c = 116 ∨ c = 97 ∨ c = 98 ∨ c = 108 ∨ c = 107 ∨ c = 113 ∨ c = 122 ∨ c = 46
section
variable {l pat : List Int} {a0 a2 i7 i8 : Int}
theorem let_any (hb : Bytes l) (hl : l.length ≤ 100000000) {p idx : Nat} {c : Int} {x : Ins} (hp : p ≤ l.length) (hi : idx < pat.length) (hpat : pat.length ≤ 2) (hc : pat.getD idx 0 = c) (hcs : letter c) (hxL : c = 108 → x.L = []) :
    l32_3.den (Tab.fn a32) [a0, 0, a2, 0, 0, (x.op : Int), (p : Int), i7, i8, (idx : Int), x.a, x.b, x.k] [] [dl l, dl pat, dl x.L] = some (outL (letP c x (l.drop p)) p idx i7 i8) := by
  rcases hcs with rfl | rfl | rfl | rfl | rfl | rfl | rfl | rfl
  · exact let_t hb hl hp hi hpat hc
  · exact let_a hb hl hp hi hpat hc
  · exact let_b hb hl hp hi hpat hc
  · exact let_l hb hl hp hi hpat hc (hxL rfl)
  · exact let_k hb hl hp hi hpat hc
  · exact let_q hb hl hp hi hpat hc
  · exact let_z hb hl hp hi hpat hc
  · exact let_dot hb hl hp hi hpat hc
def outP (r : Res Ins) (p m : Nat) (i7 i8 : Int) : Out := match r with
  | .err e => .ret ([0, 0, 0, 0, 0, e], [], [[]])
  | .ok y n => .brk 2 ([((p + n : Nat) : Int), i7, i8, (m : Int), y.a, y.b, y.k], [], [dl y.L])
theorem lp_pat (hb : Bytes l) (hl : l.length ≤ 100000000) (hpat : pat.length ≤ 2) (op : Nat) : ∀ (r : List Int) (p idx k : Nat) (x : Ins), pat.drop idx = r → idx + r.length = pat.length → (∀ c ∈ r, letter c) → (∀ c ∈ r, c = 108 → x.L = []) → (∀ c ∈ r.tail, c ≠ 108) → x.op = op → p ≤ l.length →
    iterT 7 0 1 (fun q => l32_3.den (Tab.fn a32) (([a0, 0, a2, 0, 0, (op : Int)] : List Int) ++ q.1) ([] ++ q.2.1) ([dl l, dl pat] ++ q.2.2)) (k + (r.length + 1)) ([(p : Int), i7, i8, (idx : Int), x.a, x.b, x.k], [], [dl x.L]) = some (outP (patP r x (l.drop p)) p pat.length i7 i8) := by
  intro r
  induction r with
  | nil =>
    intro p idx k x h1 h2 _ _ _ ho hp
    have h2 : idx = pat.length := by simpa using h2
    refine it_brk ?_
    show Vx.T.den _ l32_3 [a0, 0, a2, 0, 0, (op : Int), (p : Int), i7, i8, (idx : Int), x.a, x.b, x.k] [] [dl l, dl pat, dl x.L] = _
    unfold l32_3
    refine d_itF (lt_f (show ((dl pat).length : Int) ≤ (idx : Int) by rw [dl_len]; omega)) ?_
    rw [h2]; rfl
  | cons c r ih =>
    intro p idx k x h1 h2 h3 h4 h5 ho hp
    have hi : idx < pat.length := by simp only [List.length_cons] at h2; omega
    have hc : pat.getD idx 0 = c := by
      have := congrArg (fun q => q.getD 0 0) h1
      simp only [List.getD_cons_zero] at this
      rw [← this, List.getD_eq_getElem?_getD, List.getD_eq_getElem?_getD, List.getElem?_drop]; rfl
    have hr : pat.drop (idx + 1) = r := by
      have := congrArg List.tail h1
      rw [List.tail_drop] at this
      exact this
    have hcl := h3 c List.mem_cons_self
    have hb1 := let_any (a0 := a0) (a2 := a2) (i7 := i7) (i8 := i8) hb hl (x := x) hp hi hpat hc hcl (h4 c List.mem_cons_self)
    rw [ho] at hb1
    have hP : patP (c :: r) x (l.drop p) = match letP c x (l.drop p) with | .err e => .err e | .ok y n => match patP r y (l.drop (p + n)) with | .err e => .err e | .ok z m => .ok z (n + m) := by
      show ((letP c x).bind (patP r)) _ = _
      unfold Rd.bind
      cases letP c x (l.drop p) with
      | err e => rfl
      | ok y n => dsimp only; rw [List.drop_drop]; cases patP r y (l.drop (p + n)) <;> rfl
    cases h : letP c x (l.drop p) with
    | err e =>
      rw [h] at hb1
      rw [hP, h]
      exact it_ret hb1
    | ok y n =>
      rw [h] at hb1
      have hn := (letP_stbl c x).le _ _ _ h
      rw [List.length_drop] at hn
      have hyo : y.op = op := (letP_op h).trans ho
      have hyl : ∀ c' ∈ r, c' = 108 → y.L = [] := fun c' hc' e => absurd e (h5 c' hc')
      have htl : ∀ c' ∈ r.tail, c' ≠ 108 := fun c' hc' => h5 c' (List.mem_of_mem_tail hc')
      have := ih (p + n) (idx + 1) k y hr (by simp only [List.length_cons] at h2; omega) (fun c' hc' => h3 c' (List.mem_cons_of_mem _ hc')) hyl htl hyo (by omega)
      rw [hP, h]
      refine it_nxt hb1 rfl (this.trans ?_)
      dsimp only
      cases patP r y (l.drop (p + n)) with
      | err e => rfl
      | ok z m => show some (Out.brk 2 ([((p + n + m : Nat) : Int), _, _, _, _, _, _], [], _)) = some (Out.brk 2 ([((p + (n + m) : Nat) : Int), _, _, _, _, _, _], [], _)); rw [Nat.add_assoc]
end
/-- What the reference answers of an instruction. -/
def oneR (r : Res Ins) (p : Nat) : Vx.R := match r with
  | .err e => ([0, 0, 0, 0, 0, e], [], [[]])
  | .ok x n => ([(x.op : Int), x.a, x.b, x.k, ((p + n : Nat) : Int), 0], [], [dl x.L])
theorem patL_ok {f : Int} (h0 : 0 ≤ f) (h1 : f ≤ 11) (hf : f ≠ 0) (h11 : f ≠ 11) : (∀ c ∈ patL f, letter c) ∧ (∀ c ∈ (patL f).tail, c ≠ 108) ∧ (patL f).length ≤ 2 ∧ (patL f).length ≠ 0 ∧ D.sameL (dl (patL f)) [.i 63] = false := by
  have h : f = 1 ∨ f = 2 ∨ f = 3 ∨ f = 4 ∨ f = 5 ∨ f = 6 ∨ f = 7 ∨ f = 8 ∨ f = 9 ∨ f = 10 := by omega
  rcases h with rfl | rfl | rfl | rfl | rfl | rfl | rfl | rfl | rfl | rfl <;> refine ⟨?_, ?_, by decide, by decide, by rfl⟩ <;> intro c hc <;> simp [patL] at hc <;> simp [letter, hc] <;> omega
theorem one_tail {l : List Int} (hb : Bytes l) (hl : l.length ≤ 100000000) {q op : Nat} (hq : q ≤ l.length) (ho : op < 512) (p0 : Int) (k : Vx.T)
    (hk : k = Vx.T.call 30 [.iv 5] [] [] 0 0 1 (.ite (.cm .eql (.ln 1) (.n 0)) (.ret [.n 0, .n 0, .n 0, .n 0, .n 0, .n 2] [] [.nil]) (.ite (.lc 1 [63]) (.ret [.n 0, .n 0, .n 0, .n 0, .n 0, .n 3] [] [.nil]) (.lp [.iv 2, .iv 3, .iv 4, .n 0, .n 0, .n 0, .n 0] [] [.nil] 7 0 1 l32_3 k32_4)))) :
    k.den (Tab.fn a32) [p0, 0, (q : Int), 0, 0, (op : Int)] [] [dl l] = some (.ret (oneR ((chk op).bind argP (l.drop q)) q)) := by
  subst hk
  refine d_callx [(op : Int)] [] [] ([], [], [dl (patL (fm op))]) e32_30 rfl rfl rfl (q_pat ho) rfl ?_
  have hr := fm_range op
  unfold chk
  by_cases h0 : fm op = 0
  · rw [if_pos h0, h0]
    exact d_itT rfl rfl
  rw [if_neg h0]
  by_cases h11 : fm op = 11
  · rw [if_pos h11, h11]
    exact d_itF rfl (d_itT rfl rfl)
  rw [if_neg h11, pure_bind]
  obtain ⟨g1, g2, g3, g4, g5⟩ := patL_ok hr.1 hr.2 h0 h11
  rw [← patP_arg h0 h11]
  generalize patL (fm op) = pat at *
  refine d_itF (eq_f (show ((dl pat).length : Int) ≠ 0 by rw [dl_len]; omega)) (d_itF g5 ?_)
  obtain ⟨m, hm⟩ := fuel_eq (pat.length + 1) (by omega)
  have h := lp_pat (a0 := p0) (a2 := (q : Int)) (i7 := 0) (i8 := 0) hb hl g3 op pat q 0 m ⟨op, 0, 0, 0, []⟩ (List.drop_zero) (by omega) g1 (fun _ _ _ => rfl) g2 rfl hq
  rw [← hm] at h
  cases hP : patP pat ⟨op, 0, 0, 0, []⟩ (l.drop q) with
  | err e =>
    rw [hP] at h
    exact d_lp_ret h
  | ok y n =>
    rw [hP] at h
    refine d_lp _ h rfl ?_
    unfold k32_4
    refine d_rq rfl ?_
    have hy : y.op = op := by
      have : ∀ (r : List Int) (x : Ins) (l : List Int) (y : Ins) (n : Nat), patP r x l = .ok y n → y.op = x.op := by
        intro r
        induction r with
        | nil => intro x l y n h; cases h; rfl
        | cons c r ih =>
          intro x l y n h
          obtain ⟨z, _, _, h1, h2, _⟩ := bind_ok h
          exact (ih _ _ _ _ h2).trans (letP_op h1)
      exact this _ _ _ _ _ hP
    show some (Out.ret ([(op : Int), y.a, y.b, y.k, ((q + n : Nat) : Int), 0], [], [dl y.L])) = some (Out.ret ([(y.op : Int), y.a, y.b, y.k, ((q + n : Nat) : Int), 0], [], [dl y.L]))
    rw [hy]
theorem q_rOne {l : List Int} (hb : Bytes l) (hl : l.length ≤ 100000000) {p : Nat} (hp : p ≤ l.length) : F32 [(p : Int)] [] [dl l] = some (oneR (instrP (l.drop p)) p) := by
  refine of_ret ?_
  unfold t32
  by_cases h1 : l.length ≤ p
  · have hi : instrP (l.drop p) = .err 1 := by rw [List.drop_eq_nil_of_le h1]; rfl
    rw [hi]
    exact d_itT (ge_t (show ((dl l).length : Int) ≤ (p : Int) by rw [dl_len]; omega)) rfl
  have r : (decide ((p : Int) ≥ 0) && decide ((p : Int) < ((dl l).length : Int))) = true := by rw [dl_len]; simp; omega
  refine d_itF (ge_f (show (p : Int) < ((dl l).length : Int) by rw [dl_len]; omega)) (d_rq (c := E.an _ _) r (d_rq (c := E.an _ _) r ?_))
  have hcons : l.drop p = l.getD p 0 :: l.drop (p + 1) := by
    rw [List.getD_eq_getElem?_getD, List.getElem?_eq_getElem (by omega)]
    exact List.drop_eq_getElem_cons (by omega)
  have hx : IntKind.i64.wrap (((dl l).getD ((p : Int)).toNat (.i 0)).cell 0).int = l.getD p 0 := by
    rw [Int.toNat_natCast, ix_dl]
    have := hb.at p
    exact wi (by omega) (by omega)
  have hbt := hb.at p
  obtain ⟨G, hG⟩ : ∃ G : Rd Nat, G = if l.getD p 0 = 252 then (uP 32).bind fun n => if 255 < n then fun _ => .err 2 else chk (256 + n) else chk (l.getD p 0).toNat := ⟨_, rfl⟩
  have hc : codeP (l.drop p) = match G (l.drop (p + 1)) with | .err e => .err e | .ok op m => .ok op (1 + m) := by
    unfold codeP
    rw [bind_of (a := l.getD p 0) (n := 1) (by rw [hcons]; rfl), List.drop_drop, ← hG]
    cases G (l.drop (p + 1)) <;> rfl
  have hI : instrP (l.drop p) = match G (l.drop (p + 1)) with | .err e => .err e | .ok op m => match argP op (l.drop (p + 1 + m)) with | .err e => .err e | .ok y t => .ok y (1 + m + t) := by
    show codeP.bind argP (l.drop p) = _
    cases hG2 : G (l.drop (p + 1)) with
    | err e =>
      rw [hG2] at hc
      rw [bind_er hc]
    | ok op m =>
      rw [hG2] at hc
      rw [bind_of hc]
      dsimp only
      rw [List.drop_drop, show p + (1 + m) = p + 1 + m by omega]
      cases argP op (l.drop (p + 1 + m)) <;> rfl
  rw [hI, hG]
  clear hI hc hG
  have ea : arI .add .i64 (p : Int) 1 = ((p + 1 : Nat) : Int) := up1 p (by omega)
  by_cases h252 : l.getD p 0 = 252
  · rw [if_pos h252]
    have hu := q_rU (l := l.drop (p + 1)) (hb.drop (p + 1)) (bits := 32) (by decide) (by decide) (by rw [List.length_drop]; omega)
    cases h : uP 32 (l.drop (p + 1)) with
    | err e =>
      rw [h] at hu
      have he := (uP_stbl 32).nz _ _ h
      rw [bind_er h]
      refine d_jn_ret (d_itT (eq_t (hx.trans h252)) (d_cut (p := p + 1) (by omega) ea rfl ?_))
      refine d_callx [((32 : Nat) : Int)] [] [dl (l.drop (p + 1))] ([0, 0, e], [], []) e32_52 rfl rfl rfl hu rfl ?_
      exact d_itT (ne_t he) (d_rt rfl)
    | ok n s =>
      rw [h] at hu
      have hs := (uP_stbl 32).le _ _ _ h
      rw [List.length_drop] at hs
      have hv := uP_ltI h
      rw [bind_of h]
      by_cases h255 : 255 < n
      · rw [if_pos h255]
        refine d_jn_ret (d_itT (eq_t (hx.trans h252)) (d_cut (p := p + 1) (by omega) ea rfl ?_))
        refine d_callx [((32 : Nat) : Int)] [] [dl (l.drop (p + 1))] ([(n : Int), (s : Int), 0], [], []) e32_52 rfl rfl rfl hu rfl ?_
        exact d_itF (show ((0 : Int) != 0) = false from rfl) (d_itT (gt_t (show (255 : Int) < (n : Int) by omega)) (d_rt rfl))
      · rw [if_neg h255]
        refine d_jn 0 ([((p + 1 + s : Nat) : Int), 0, 0, ((256 + n : Nat) : Int)], [], []) ?_ rfl (d_rq rfl ?_)
        · refine d_itT (eq_t (hx.trans h252)) (d_cut (p := p + 1) (by omega) ea rfl ?_)
          refine d_callx [((32 : Nat) : Int)] [] [dl (l.drop (p + 1))] ([(n : Int), (s : Int), 0], [], []) e32_52 rfl rfl rfl hu rfl ?_
          refine d_itF (show ((0 : Int) != 0) = false from rfl) (d_itF (gt_f (show (n : Int) ≤ 255 by omega)) ?_)
          show some (Out.brk 0 ([arI .add .i64 (arI .add .i64 (p : Int) 1) (s : Int), 0, 0, arI .add .i64 256 (IntKind.i64.wrap (n : Int))], [], [])) = _
          rw [ea, addI (by omega) (by omega), wrapN (by omega), addI (by omega) (by omega)]
          congr 5
        refine Eq.trans (one_tail hb hl (q := p + 1 + s) (op := 256 + n) (by omega) (by omega) (p : Int) _ rfl) ?_
        unfold chk
        rw [List.drop_drop]
        by_cases h0 : fm (256 + n) = 0
        · rw [if_pos h0]; rfl
        rw [if_neg h0]
        by_cases h11 : fm (256 + n) = 11
        · rw [if_pos h11]; rfl
        rw [if_neg h11, pure_bind]
        dsimp only
        rw [show p + 1 + (s + 0) = p + 1 + s by omega]
        cases argP (256 + n) (l.drop (p + 1 + s)) with
        | err e => rfl
        | ok y t => show some (Out.ret ([_, _, _, _, ((p + 1 + s + t : Nat) : Int), 0], [], _)) = some (Out.ret ([_, _, _, _, ((p + (1 + (s + 0) + t) : Nat) : Int), 0], [], _)); rw [show p + 1 + s + t = p + (1 + (s + 0) + t) by omega]
  · rw [if_neg h252]
    refine d_jn 0 ([((p + 1 : Nat) : Int), 0, 0, (((l.getD p 0).toNat : Nat) : Int)], [], []) ?_ rfl (d_rq rfl ?_)
    · refine d_itF (eq_f (by show IntKind.i64.wrap (((dl l).getD ((p : Int)).toNat (.i 0)).cell 0).int ≠ 252; rw [hx]; exact h252)) ?_
      show some (Out.brk 0 ([arI .add .i64 (p : Int) 1, 0, 0, IntKind.i64.wrap (((dl l).getD ((p : Int)).toNat (.i 0)).cell 0).int], [], [])) = _
      rw [ea, hx, show (((l.getD p 0).toNat : Nat) : Int) = l.getD p 0 by omega]
    refine Eq.trans (one_tail hb hl (q := p + 1) (op := (l.getD p 0).toNat) (by omega) (by omega) (p : Int) _ rfl) ?_
    unfold chk
    by_cases h0 : fm (l.getD p 0).toNat = 0
    · rw [if_pos h0]; rfl
    rw [if_neg h0]
    by_cases h11 : fm (l.getD p 0).toNat = 11
    · rw [if_pos h11]; rfl
    rw [if_neg h11, pure_bind]
    dsimp only
    rw [show p + 1 + 0 = p + 1 by omega]
    cases argP (l.getD p 0).toNat (l.drop (p + 1)) with
    | err e => rfl
    | ok y t => show some (Out.ret ([_, _, _, _, ((p + 1 + t : Nat) : Int), 0], [], _)) = some (Out.ret ([_, _, _, _, ((p + (1 + 0 + t) : Nat) : Int), 0], [], _)); rw [show p + 1 + t = p + (1 + 0 + t) by omega]
end Go.Proofs.Ytmfjapphmmlppaa.WInstrPuts
