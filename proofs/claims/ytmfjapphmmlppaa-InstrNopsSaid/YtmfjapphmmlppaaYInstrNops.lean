/-
  InstrNops, of numbers and lists alone: the law answers true.
-/
import Derived.Test.YtmfjapphmmlppaaInBkInstrNops
import Derived.Test.YtmfjapphmmlppaaVr
namespace Go.Proofs.Ytmfjapphmmlppaa.YInstrNops
set_option linter.all false
open Go.Proofs.Ytmfjapphmmlppaa.Vx Go.Proofs.Ytmfjapphmmlppaa.XInstrNops Go.Proofs.Ytmfjapphmmlppaa.Vd Go.Proofs.Ytmfjapphmmlppaa.Vn Go.Proofs.Ytmfjapphmmlppaa.Vl Go.Proofs.Ytmfjapphmmlppaa.Vp Go.Proofs.Ytmfjapphmmlppaa.Vb Go.Proofs.Ytmfjapphmmlppaa.SInstrNops Go.Proofs.Ytmfjapphmmlppaa.Vo Go.Proofs.Ytmfjapphmmlppaa.Vt Go.Proofs.Ytmfjapphmmlppaa.IInstrNops Go.Proofs.Ytmfjapphmmlppaa.PInstrNops Go.Proofs.Ytmfjapphmmlppaa.MInstrNops Go.Proofs.Ytmfjapphmmlppaa.KInstrNops Go.Proofs.Ytmfjapphmmlppaa.Vr
theorem ints_of : ∀ {l : List D}, (∀ x ∈ l, ∃ ds, x = mkD ds ∧ CT.wfL [.i .i64] ds) → ∃ m, l = dl m
  | [], _ => ⟨[], rfl⟩
  | x :: l, h => by
    obtain ⟨m, rfl⟩ := ints_of fun y hy => h y (List.mem_cons_of_mem _ hy)
    obtain ⟨ds, rfl, hd⟩ := h x List.mem_cons_self
    simp only [CT.wfL, CT.wf] at hd
    obtain ⟨d, r, rfl, ⟨n, rfl, hn⟩, rfl⟩ := hd
    exact ⟨n :: m, rfl⟩
theorem i64_of {n : Int} (h : (Lit.int .i64 n).wf = true) : -9223372036854775808 ≤ n ∧ n < 9223372036854775808 := by
  simp [Lit.wf, IntKind.bits, IntKind.signed, IntKind.min, IntKind.max] at h; omega
theorem raws_of : ∀ {l : List D}, (∀ x ∈ l, ∃ ds, x = mkD ds ∧ CT.wfL [.i .i64, .i .i64, .i .i64, .i .i64, .sl [.i .i64]] ds) → ∃ rs : List Raw, l = rs.map Raw.D ∧ ∀ r ∈ rs, -9223372036854775808 ≤ r.k ∧ r.k < 9223372036854775808
  | [], _ => ⟨[], rfl, fun r hr => by cases hr⟩
  | x :: l, h => by
    obtain ⟨rs, rfl, hrs⟩ := raws_of fun y hy => h y (List.mem_cons_of_mem _ hy)
    obtain ⟨ds, rfl, hd⟩ := h x List.mem_cons_self
    simp only [CT.wfL, CT.wf] at hd
    obtain ⟨d0, r0, rfl, ⟨n0, rfl, h0⟩, d1, r1, rfl, ⟨n1, rfl, h1⟩, d2, r2, rfl, ⟨n2, rfl, h2⟩, d3, r3, rfl, ⟨n3, rfl, h3⟩, d4, r4, rfl, ⟨xs, rfl, _, hxs⟩, rfl⟩ := hd
    obtain ⟨L, rfl⟩ := ints_of (l := xs) (fun y hy => by
      obtain ⟨ds, e, hd⟩ := hxs y hy
      refine ⟨ds, e, ?_⟩
      simp only [CT.wfL, CT.wf]
      exact hd)
    refine ⟨⟨n0, n1, n2, n3, L⟩ :: rs, rfl, fun r hr => ?_⟩
    rcases List.mem_cons.1 hr with rfl | hr
    · exact i64_of h3
    · exact hrs r hr
theorem q_awake : F8 [] [] [] = some ([], [true], []) := by kernel_rfl
def sumL (M : List D) : Nat → Int
  | 0 => 0
  | n + 1 => arI .add .i64 (sumL M n) ((((M.getD n (.i 0)).cell 4).list.length : Nat) : Int)
theorem q_short {M : List D} : ∃ b, F10 [] [] [M] = some ([], [b], []) ∧ (b = true → M.length ≤ 2100 ∧ ∀ i, i < M.length → ((M.getD i (.i 0)).cell 4).list.length ≤ 100) := by
  by_cases h0 : M.length ≤ 2100
  case neg =>
    refine ⟨false, of_ret ?_, fun h => by cases h⟩
    unfold t10
    exact d_itT (gt_t (show (2100 : Int) < (M.length : Int) by omega)) rfl
  have hs : ∀ i : Nat, i < M.length → ((M.getD i (.i 0)).cell 4).list.length ≤ 100 → l10_1.den (Tab.fn a10) [sumL M i, (i : Int)] [false] [M] = some (.nxt ([sumL M (i + 1), ((i + 1 : Nat) : Int)], [false], [])) := fun i hi hl => by
    obtain ⟨Q, hQ⟩ : ∃ Q, Q = ((M.getD i (.i 0)).cell 4).list := ⟨_, rfl⟩
    simp only [sumL]
    rw [← hQ] at hl ⊢
    unfold l10_1
    rw [← up1 i (by omega)]
    exact d_itT (lt_t (show (i : Int) < (M.length : Int) by omega)) (d_rq (ge_t (show (0 : Int) ≤ (i : Int) by omega)) (d_lst [Q] (by rw [hQ]; rfl) (d_itF (gt_f (show (Q.length : Int) ≤ 100 by omega)) (d_lst [Q] (by rw [hQ]; rfl) rfl))))
  have he : l10_1.den (Tab.fn a10) [sumL M M.length, (M.length : Int)] [false] [M] = some (.brk 2 ([sumL M M.length, (M.length : Int)], [false], [])) := by
    unfold l10_1
    exact d_itF (lt_f (show (M.length : Int) ≤ (M.length : Int) by omega)) rfl
  by_cases hA : ∀ i, i < M.length → ((M.getD i (.i 0)).cell 4).list.length ≤ 100
  · refine ⟨decide (sumL M M.length ≤ 2000), of_ret ?_, fun _ => ⟨h0, hA⟩⟩
    unfold t10
    refine d_itF (gt_f (show (M.length : Int) ≤ 2100 by omega)) ?_
    refine d_loop (fun i => ([sumL M i, (i : Int)], [false], [])) M.length (by omega) 2 ([sumL M M.length, (M.length : Int)], [false], []) rfl (fun i hi => hs i hi (hA i hi)) (fun _ _ => rfl) he rfl ?_
    unfold k10_2
    exact d_rq rfl rfl
  · refine ⟨false, of_ret ?_, fun h => by cases h⟩
    unfold t10
    refine d_itF (gt_f (show (M.length : Int) ≤ 2100 by omega)) ?_
    refine d_findR (fun i => ([sumL M i, (i : Int)], [false], [])) M.length (by omega) (fun i => decide (((M.getD i (.i 0)).cell 4).list.length > 100)) rfl (fun _ => ([], [false], [])) 2 ([sumL M M.length, (M.length : Int)], [false], []) (fun i hi hp => hs i hi (by have := of_decide_eq_false hp; omega)) (fun _ _ => rfl) (fun i hi hp => ?_) he rfl (fun _ _ _ _ => rfl) (fun hp => ?_)
    · have hp := of_decide_eq_true hp
      obtain ⟨Q, hQ⟩ : ∃ Q, Q = ((M.getD i (.i 0)).cell 4).list := ⟨_, rfl⟩
      rw [← hQ] at hp
      show Vx.T.den _ l10_1 [sumL M i, (i : Int)] [false] [M] = _
      unfold l10_1
      exact d_itT (lt_t (show (i : Int) < (M.length : Int) by omega)) (d_rq (ge_t (show (0 : Int) ≤ (i : Int) by omega)) (d_lst [Q] (by rw [hQ]; rfl) (d_itT (gt_t (show (100 : Int) < (Q.length : Int) by omega)) (d_rt rfl))))
    · exact absurd (fun i hi => by have := of_decide_eq_false (hp i hi); omega) hA
/-! nops -/
def nopI : Ins := ⟨1, 0, 0, 0, []⟩
def blkI : Ins := ⟨2, -64, 0, 0, []⟩
def endI : Ins := ⟨11, 0, 0, 0, []⟩
theorem fm1 : fm 1 = 1 := by kernel_rfl
theorem fm2 : fm 2 = 2 := by kernel_rfl
theorem fm11 : fm 11 = 1 := by kernel_rfl
theorem insB_nop : insB nopI = [1] := by
  show codeB 1 ++ argB nopI = _
  unfold argB
  show _ ++ (if fm 1 = 2 then _ else _) = _
  rw [show fm nopI.op = 1 from fm1]; rfl
theorem insB_end : insB endI = [11] := by
  show codeB 11 ++ argB endI = _
  unfold argB
  rw [show fm endI.op = 1 from fm11]; rfl
theorem insB_blk : (insB blkI).length = 2 := by
  show (codeB 2 ++ argB blkI).length = 2
  unfold argB
  rw [show fm blkI.op = 2 from fm2, if_pos rfl]; rfl
theorem nop_gd : Gd nopI := ⟨by decide, fun v hv => (by cases hv), Nat.zero_le _, ⟨by show fm 1 ≠ 0; rw [fm1]; decide, by show fm 1 ≠ 11; rw [fm1]; decide⟩, fun _ => ⟨rfl, rfl, rfl, rfl⟩,
  fun h => absurd (show fm 1 = 2 from h) (by rw [fm1]; decide), fun h => absurd (show fm 1 = 3 ∨ fm 1 = 10 from h) (by rw [fm1]; decide), fun h => absurd (show fm 1 = 4 from h) (by rw [fm1]; decide), fun h => absurd (show fm 1 = 5 from h) (by rw [fm1]; decide), fun h => absurd (show fm 1 = 8 from h) (by rw [fm1]; decide), fun h => absurd (show fm 1 = 9 from h) (by rw [fm1]; decide)⟩
theorem st1 (o : List D) : stE 1 o = (0, false, o) := rfl
theorem run_add : ∀ (a r : List Ins) (o : List D) (y : Ins), y.op = 1 → r ≠ [] → Run (a ++ r) o → Run (a ++ y :: r) o
  | [], r, o, y, hy, hr, h => by
    refine ⟨by rw [hy]; rfl, .inr ⟨by rw [hy]; rfl, ?_⟩⟩
    rw [hy]; exact h
  | x :: a, r, o, y, hy, hr, h => by
    obtain ⟨h1, h2⟩ := h
    refine ⟨h1, .inr ?_⟩
    rcases h2 with ⟨_, h2⟩ | ⟨h2, h3⟩
    · exact absurd (List.append_eq_nil_iff.1 h2).2 hr
    · exact ⟨h2, run_add a r _ y hy hr h3⟩
theorem run_del : ∀ (a r : List Ins) (o : List D) (y : Ins), y.op = 1 → r ≠ [] → Run (a ++ y :: r) o → Run (a ++ r) o
  | [], r, o, y, hy, hr, h => by
    obtain ⟨h1, h2⟩ := h
    rcases h2 with ⟨_, h2⟩ | ⟨h2, h3⟩
    · exact absurd h2 hr
    · rw [hy] at h3; exact h3
  | x :: a, r, o, y, hy, hr, h => by
    obtain ⟨h1, h2⟩ := h
    refine ⟨h1, .inr ?_⟩
    rcases h2 with ⟨_, h2⟩ | ⟨h2, h3⟩
    · cases (List.append_eq_nil_iff.1 h2).2
    · exact ⟨h2, run_del a r _ y hy hr h3⟩
theorem dl_inj : ∀ {L M : List Int}, dl L = dl M → L = M
  | [], [], _ => rfl
  | [], _ :: _, h => by cases h
  | _ :: _, [], h => by cases h
  | x :: L, y :: M, h => by
    injection h with h1 h2
    injection h1 with h1
    rw [h1, dl_inj h2]
theorem D_inj {x y : Ins} (h : x.D = y.D) : x = y := by
  obtain ⟨o, a, b, k, L⟩ := x
  obtain ⟨o', a', b', k', L'⟩ := y
  unfold Ins.D at h
  injection h with h
  injection h with h1 h
  injection h with h2 h
  injection h with h3 h
  injection h with h4 h
  injection h with h5 h
  injection h1 with h1
  injection h2 with h2
  injection h3 with h3
  injection h4 with h4
  injection h5 with h5
  have h1 : (o : Int) = (o' : Int) := h1
  have : o = o' := by omega
  have h2 : a = a' := h2
  have h3 : b = b' := h3
  have h4 : k = k' := h4
  have h5 : dl L = dl L' := h5
  rw [this, h2, h3, h4, dl_inj h5]
theorem map_inj : ∀ {xs ys : List Ins}, xs.map Ins.D = ys.map Ins.D → xs = ys
  | [], [], _ => rfl
  | [], _ :: _, h => by cases h
  | _ :: _, [], h => by cases h
  | x :: xs, y :: ys, h => by
    rw [List.map_cons, List.map_cons] at h
    injection h with h1 h2
    rw [D_inj h1, map_inj h2]
theorem bodyB_app (xs ys : List Ins) : bodyB (xs ++ ys) = bodyB xs ++ bodyB ys := by
  unfold bodyB; rw [List.map_append, List.flatten_append]
def nopR : Raw := ⟨1, 0, 0, 0, []⟩
theorem put2 {M : List D} (h : F12 [] [] [M] = some ([], [false], [])) : F11 [] [] [[], M] = some ([2], [], [[]]) := by
  refine of_ret ?_
  unfold t11
  exact d_callx [] [] [M] ([], [false], []) e11_12 rfl rfl rfl h rfl (d_itT rfl rfl)
theorem blk_ok : (⟨2, -64, 0, 0, []⟩ : Raw).ok := ⟨by decide, by decide⟩
theorem end_ok : (⟨11, 0, 0, 0, []⟩ : Raw).ok := ⟨by decide, by decide⟩
theorem nop_ok : nopR.ok := ⟨by decide, by decide⟩
theorem facts {rs : List Raw} (hok : ∀ r ∈ rs, r.ok) (hl : rs.length ≤ 1900) {n : Nat} (hn : n < rs.length) {l C Dp : List D} (el : l = rs.map Raw.D) (eC : C = l.take n) (eD : Dp = l.drop n) : ∃ (e e2 : Int) (Z Z' Z2 : List D) (b : Bool), F11 [] [] [[], l] = some ([e], [], [Z]) ∧ F11 [] [] [[], C ++ [nopI.D] ++ Dp] = some ([e], [], [Z']) ∧
    F12 [] [] [l] = some ([], [b], []) ∧ F12 [] [] [C ++ [nopI.D] ++ Dp] = some ([], [b], []) ∧ F11 [] [] [[], [blkI.D] ++ l ++ [endI.D]] = some ([e2], [], [Z2]) ∧ Z.length ≤ 10000000 ∧ (e = 0 → Z'.length = Z.length + 1 ∧ (e2 = 0 → Z2.length = Z.length + 3)) := by
  obtain ⟨b, c1, c2⟩ := q_closed hok (by omega)
  have hokM : ∀ r ∈ rs.take n ++ nopR :: rs.drop n, r.ok := fun r hr => by
    rcases List.mem_append.1 hr with hr | hr
    · exact hok r (List.mem_of_mem_take hr)
    rcases List.mem_cons.1 hr with rfl | hr
    · exact nop_ok
    · exact hok r (List.mem_of_mem_drop hr)
  have eM : (rs.take n ++ nopR :: rs.drop n).map Raw.D = C ++ [nopI.D] ++ Dp := by
    rw [eC, eD, el, List.map_append, List.map_cons, List.map_take, List.map_drop, List.append_assoc]; rfl
  have lM : (rs.take n ++ nopR :: rs.drop n).length = rs.length + 1 := by rw [List.length_append, List.length_cons, List.length_take, List.length_drop]; omega
  obtain ⟨b', d1, d2⟩ := q_closed hokM (by omega)
  rw [eM] at d1 d2
  have hokI : ∀ r ∈ (⟨2, -64, 0, 0, []⟩ : Raw) :: (rs ++ [⟨11, 0, 0, 0, []⟩]), r.ok := fun r hr => by
    rcases List.mem_cons.1 hr with rfl | hr
    · exact blk_ok
    rcases List.mem_append.1 hr with hr | hr
    · exact hok r hr
    · rw [List.mem_singleton.1 hr]; exact end_ok
  have eI : ((⟨2, -64, 0, 0, []⟩ : Raw) :: (rs ++ [⟨11, 0, 0, 0, []⟩])).map Raw.D = [blkI.D] ++ l ++ [endI.D] := by
    rw [List.map_cons, List.map_append, el, List.append_assoc]; rfl
  have hI := q_PutBodyX hokI (by rw [List.length_cons, List.length_append]; simp; omega)
  rw [eI] at hI
  rw [← el] at c1 c2
  have lr : l.length = rs.length := by rw [el, List.length_map]
  cases b with
  | false =>
    have hb' : b' = false := by
      rw [Bool.eq_false_iff]
      intro hb
      obtain ⟨ys, y1, y2, y3, y4⟩ := d2 hb
      -- without the nop
      have hlen := congrArg List.length y1
      rw [List.length_map, List.length_append, List.length_append, eC, eD, List.length_take, List.length_drop] at hlen
      simp only [List.length_singleton] at hlen
      have hA : (ys.take n).map Ins.D = C := by
        rw [List.map_take, ← y1, List.append_assoc, List.take_append_of_le_length (by rw [eC, List.length_take]; omega), List.take_of_length_le (by rw [eC, List.length_take]; omega)]
      have hB : (ys.drop (n + 1)).map Ins.D = Dp := by
        rw [List.map_drop, ← y1, List.drop_append_of_le_length (by rw [List.length_append, eC, List.length_take]; simp; omega), List.drop_eq_nil_of_le (by rw [List.length_append, eC, List.length_take]; simp; omega), List.nil_append]
      have hny : n < ys.length := by omega
      have hy : (ys[n]).D = nopI.D := by
        have h1 : (ys.map Ins.D).getD n (.i 0) = nopI.D := by
          rw [← y1, List.append_assoc]
          have hCl : C.length = n := by rw [eC, List.length_take]; omega
          have h2 : (C ++ ([nopI.D] ++ Dp)).getD C.length (.i 0) = nopI.D := get_r (A := C) (B := [nopI.D] ++ Dp) (i := 0)
          rw [hCl] at h2; exact h2
        rw [getD_D hny] at h1; exact h1
      have hyy := D_inj hy
      have hsplit : ys = ys.take n ++ ys[n] :: ys.drop (n + 1) := by
        rw [List.getElem_cons_drop, List.take_append_drop]
      rw [hsplit] at y2
      have hrun := run_del _ _ _ _ (by rw [hyy]; rfl) (by
        intro h
        have := congrArg List.length h
        rw [List.length_drop] at this
        simp at this
        omega) y2
      have hl' : (ys.take n ++ ys.drop (n + 1)).map Ins.D = l := by rw [List.map_append, hA, hB, eC, eD, List.take_append_drop]
      have := q_closedT hrun (fun x hx => by
        rcases List.mem_append.1 hx with hx | hx
        · exact y3 x (List.mem_of_mem_take hx)
        · exact y3 x (List.mem_of_mem_drop hx)) (by rw [List.length_append, List.length_take, List.length_drop]; omega)
      rw [hl', c1] at this
      cases this
    subst hb'
    rcases hI with hI | ⟨zs, _, _, _, _, hI⟩
    · exact ⟨2, 2, [], [], [], false, put2 c1, put2 d1, c1, d1, hI, by simp, fun h => absurd h (by decide)⟩
    · exact ⟨2, 0, [], [], _, false, put2 c1, put2 d1, c1, d1, hI, by simp, fun h => absurd h (by decide)⟩
  | true =>
    obtain ⟨xs, x1, x2, x3, x4⟩ := c2 rfl
    have x1 : l = xs.map Ins.D := x1
    have lx : xs.length = rs.length := by rw [← lr, x1, List.length_map]
    have hdrop : xs.drop n ≠ [] := by
      intro h
      have := congrArg List.length h
      rw [List.length_drop] at this
      simp at this
      omega
    have hx' : (xs.take n ++ nopI :: xs.drop n).map Ins.D = C ++ [nopI.D] ++ Dp := by
      rw [eC, eD, x1, List.map_append, List.map_cons, List.map_take, List.map_drop, List.append_assoc]; rfl
    have hrun : Run (xs.take n ++ nopI :: xs.drop n) [] := run_add _ _ _ _ rfl hdrop (by rw [List.take_append_drop]; exact x2)
    have hgd : ∀ x ∈ xs.take n ++ nopI :: xs.drop n, Gd x := fun x hx => by
      rcases List.mem_append.1 hx with hx | hx
      · exact x3 x (List.mem_of_mem_take hx)
      rcases List.mem_cons.1 hx with rfl | hx
      · exact nop_gd
      · exact x3 x (List.mem_of_mem_drop hx)
    have hlen : (xs.take n ++ nopI :: xs.drop n).length ≤ 2000 := by rw [List.length_append, List.length_cons, List.length_take, List.length_drop]; omega
    have b700 := bodyB_700 x3
    have b701 := bodyB_700 hgd
    have p1 := q_PutBody x2 x3 x4 (by omega)
    have p2 := q_PutBody hrun hgd hlen (by omega)
    have k2 := q_closedT hrun hgd hlen
    have k1 := q_closedT x2 x3 x4
    rw [hx'] at p2 k2
    rw [← x1] at p1 k1
    have hbl : (bodyB (xs.take n ++ nopI :: xs.drop n)).length = (bodyB xs).length + 1 := by
      have h1 : bodyB (xs.take n ++ nopI :: xs.drop n) = bodyB (xs.take n) ++ (insB nopI ++ bodyB (xs.drop n)) := bodyB_app _ _
      have h2 : bodyB xs = bodyB (xs.take n) ++ bodyB (xs.drop n) := by rw [← bodyB_app, List.take_append_drop]
      rw [h1, h2, insB_nop, List.length_append, List.length_append, List.length_append]; simp; omega
    rcases hI with hI | ⟨zs, z1, _, _, _, hI⟩
    · exact ⟨0, 2, _, _, [], true, p1, p2, k1, k2, hI, by rw [dl_len]; omega, fun _ => ⟨by rw [dl_len, dl_len, hbl], fun h => absurd h (by decide)⟩⟩
    · refine ⟨0, 0, _, _, _, true, p1, p2, k1, k2, hI, by rw [dl_len]; omega, fun _ => ⟨by rw [dl_len, dl_len, hbl], fun _ => ?_⟩⟩
      have hz : zs = blkI :: (xs ++ [endI]) := map_inj (by rw [← z1, x1, List.map_cons, List.map_append]; rfl)
      rw [dl_len, dl_len, hz]
      have h1 : bodyB (blkI :: (xs ++ [endI])) = insB blkI ++ bodyB (xs ++ [endI]) := rfl
      have h2 : bodyB [endI] = insB endI ++ [] := rfl
      rw [h1, bodyB_app, h2, insB_end, List.length_append, List.length_append, insB_blk]; simp; omega
set_option maxHeartbeats 20000000 in
theorem law (at_ : Int) (l : List D) (hl : CT.wf (.sl [.i .i64, .i .i64, .i .i64, .i .i64, .sl [.i .i64]]) (.l l)) (ha : (Lit.int .i64 at_).wf = true) : F4 [at_] [] [l] = some ([], [true], []) := by
  clear ha
  have el : ∃ rs : List Raw, l = rs.map Raw.D ∧ ∀ r ∈ rs, -9223372036854775808 ≤ r.k ∧ r.k < 9223372036854775808 := by
    rw [CT.wf] at hl
    obtain ⟨_, hxs, _, hds⟩ := hl
    cases hxs
    exact raws_of hds
  clear hl
  obtain ⟨rs, el, hrs⟩ := el
  refine of_ret ?_
  unfold t4
  refine d_callx [] [] [] ([], [true], []) e4_8 rfl rfl rfl q_awake rfl (d_itF rfl ?_)
  obtain ⟨bs, hsh, hsh2⟩ := q_short (M := l)
  refine d_callx [] [] [l] ([], [bs], []) e4_10 rfl rfl rfl hsh rfl ?_
  by_cases hg : ((!bs || decide ((l.length : Int) > 1900)) || decide (at_ < 0)) = true
  · exact d_lb true hg (d_itT rfl rfl)
  have hg := Bool.eq_false_iff.2 hg
  refine d_lb false hg ?_
  rw [Bool.or_eq_false_iff, Bool.or_eq_false_iff, decide_eq_false_iff_not, decide_eq_false_iff_not] at hg
  obtain ⟨⟨g1, g2⟩, g3⟩ := hg
  obtain rfl : bs = true := by simpa using g1
  by_cases h2 : at_ ≥ (l.length : Int)
  · exact d_itT (by show (false || decide (at_ ≥ (l.length : Int))) = true; rw [ge_t h2]; rfl) rfl
  refine d_itF (by show (false || decide (at_ ≥ (l.length : Int))) = false; rw [ge_f (by omega)]; rfl) ?_
  obtain ⟨n, rfl⟩ : ∃ n : Nat, at_ = n := ⟨at_.toNat, by omega⟩
  obtain ⟨s1, s2⟩ := hsh2 rfl
  have lr : l.length = rs.length := by rw [el, List.length_map]
  have hok : ∀ r ∈ rs, r.ok := fun r hr => ⟨hrs r hr, by
    obtain ⟨i, hi, rfl⟩ := List.getElem_of_mem hr
    have := s2 i (by omega)
    rw [el, getD_R hi] at this
    have this : (dl (rs[i]).L).length ≤ 100 := this
    rw [dl_len] at this; omega⟩
  obtain ⟨C, eC⟩ : ∃ C, C = l.take n := ⟨_, rfl⟩
  obtain ⟨Dp, eD⟩ : ∃ Dp, Dp = l.drop n := ⟨_, rfl⟩
  obtain ⟨e, e2, Z, Z', Z2, b, f1, f2, f3, f4, f5, f6, f7⟩ := facts hok (by omega) (n := n) (by omega) el eC eD
  have lC : C.length ≤ 1900 := by rw [eC, List.length_take]; omega
  have lD : Dp.length ≤ 1900 := by rw [eD, List.length_drop]; omega
  have hn : (n : Int) ≤ (l.length : Int) := by omega
  have ll : l.length ≤ 1900 := by omega
  have hcC : [((l.take ((n : Int)).toNat).drop (0 : Int).toNat)] = [C] := by rw [eC]; rfl
  have hcD : [((l.take ((l.length : Int)).toNat).drop ((n : Int)).toNat)] = [Dp] := by rw [eD, Int.toNat_natCast, Int.toNat_natCast, List.take_length]
  have eNop : nopI.D = .st [.i 1, .i 0, .i 0, .i 0, .l []] := rfl
  have eBlk : blkI.D = .st [.i 2, .i (-64), .i 0, .i 0, .l []] := rfl
  have eEnd : endI.D = .st [.i 11, .i 0, .i 0, .i 0, .l []] := rfl
  rw [eNop] at f2 f4
  rw [eBlk, eEnd] at f5
  clear eC eD el hrs hsh hsh2 s2 lr hok g1
  refine d_callx [] [] [[], l] ([e], [], [Z]) e4_11 rfl rfl rfl f1 rfl ?_
  obtain ⟨N, eN⟩ : ∃ N : D, N = .st [.i 1, .i 0, .i 0, .i 0, .l []] := ⟨_, rfl⟩
  rw [← eN] at f2 f4
  have hN : [[D.st [.i 1, .i 0, .i 0, .i 0, .l []]]] = [[N]] := by rw [eN]
  have key : ∀ (x2 x3 x4 x5 x6 x7 : List D), b4_1.den (Tab.fn a4) [(n : Int), e] [true, true, false] [l, Z, x2, x3, x4, x5, x6, x7, C ++ [N] ++ Dp] = some (.ret ([], [true], [])) := by
    intro x2 x3 x4 x5 x6 x7
    unfold b4_1
    refine d_callx [] [] [[], C ++ [N] ++ Dp] ([e], [], [Z']) e4_11 rfl rfl rfl f2 rfl ?_
    refine d_itT (by show (!(e != e)) = true; simp) ?_
    refine d_callx [] [] [l] ([], [b], []) e4_12 rfl rfl rfl f3 rfl ?_
    refine d_callx [] [] [C ++ [N] ++ Dp] ([], [b], []) e4_12 rfl rfl rfl f4 rfl ?_
    refine d_itF (by show (!(b == b)) = false; simp) ?_
    obtain ⟨K, eK⟩ : ∃ K : D, K = .st [.i 2, .i (-64), .i 0, .i 0, .l []] := ⟨_, rfl⟩
    obtain ⟨Q, eQ⟩ : ∃ Q : D, Q = .st [.i 11, .i 0, .i 0, .i 0, .l []] := ⟨_, rfl⟩
    rw [← eK, ← eQ] at f5
    refine d_lst [[K]] (by rw [eK]; rfl) (d_rq (an_t rfl (le_t (show (l.length : Int) ≤ 617269685768 by omega))) (d_lst [[K] ++ l] rfl ?_))
    obtain ⟨KL, eKL⟩ : ∃ z, z = [K] ++ l := ⟨_, rfl⟩
    rw [← eKL] at f5
    have lKL : KL.length ≤ 1901 := by rw [eKL, List.length_append, List.length_singleton]; omega
    rw [← eKL]
    refine d_lst [[Q]] (by rw [eQ]; rfl) (d_rq (an_t (le_t (show (KL.length : Int) ≤ 617269685768 by omega)) rfl) (d_lst [KL ++ [Q]] rfl ?_))
    refine d_callx [] [] [[], KL ++ [Q]] ([e2], [], [Z2]) e4_11 rfl rfl rfl f5 rfl ?_
    obtain ⟨v, hv⟩ : ∃ v, v = ((e2 != 0) || ((Z2.length : Int) == arI .add .i64 (Z.length : Int) 3)) := ⟨_, rfl⟩
    refine d_lb v hv.symm ?_
    obtain ⟨w, hw⟩ : ∃ w, w = (((Z'.length : Int) == arI .add .i64 (Z.length : Int) 1) && v) := ⟨_, rfl⟩
    refine d_lb w hw.symm ?_
    show some (Out.ret ([], [(e != 0) || w], [])) = _
    by_cases he : e = 0
    · obtain ⟨h1, h2⟩ := f7 he
      have hv1 : v = true := by
        rw [hv]
        by_cases h : e2 = 0
        · rw [addI (by omega) (by omega), eq_t (show (Z2.length : Int) = (Z.length : Int) + 3 by have := h2 h; omega), Bool.or_true]
        · rw [ne_t h]; rfl
      rw [hw, hv1, addI (by omega) (by omega), eq_t (show (Z'.length : Int) = (Z.length : Int) + 1 by omega)]
      simp
    · rw [ne_t he]; rfl
  show Vx.T.den _ _ [(n : Int), e] [true, true, false] [l, Z] = _
  have q1 : (decide ((0 : Int) ≤ (n : Int)) && decide ((n : Int) ≤ (l.length : Int))) = true := an_t (le_t (by omega)) (le_t hn)
  have q2 : (decide ((0 : Int) ≤ (n : Int)) && (decide ((n : Int) ≤ (l.length : Int)) && decide ((l.length : Int) ≤ (l.length : Int)))) = true := an_t (le_t (by omega)) (an_t (le_t hn) (le_t (by omega)))
  have r1 : (decide ((([] : List D).length : Int) ≤ 617269685768) && decide ((C.length : Int) ≤ 617269685768)) = true := an_t rfl (le_t (by omega))
  have r2 : (decide ((C.length : Int) ≤ 617269685768) && decide ((([N] : List D).length : Int) ≤ 617269685768)) = true := an_t (le_t (by omega)) rfl
  have r3 : (decide (((C ++ [N]).length : Int) ≤ 617269685768) && decide ((Dp.length : Int) ≤ 617269685768)) = true := an_t (le_t (by rw [List.length_append]; simp; omega)) (le_t (by omega))
  clear f1 f2 f3 f4 f5 f6 f7 eNop eBlk eEnd g2 g3 h2 s1 ll hn
  have hCN : (C ++ [N]).length ≤ 1901 := by rw [List.length_append, List.length_singleton]; omega
  clear lC lD
  obtain ⟨A2, eA2⟩ : ∃ A2, A2 = C ++ [N] := ⟨_, rfl⟩
  have p2 : [C ++ [N]] = [A2] := by rw [eA2]
  rw [← eA2] at r3 key
  obtain ⟨MR, eMR⟩ : ∃ MR, MR = A2 ++ Dp := ⟨_, rfl⟩
  have p3 : [A2 ++ Dp] = [MR] := by rw [eMR]
  rw [← eMR] at key
  clear eA2 eMR hCN
  refine d_both ?_ ?_
  · skip
    refine d_lst [[]] rfl ?_
    show Vx.T.den _ _ [(n : Int), e] [true, true, false] [l, Z, []] = _
    refine d_both ?_ ?_
    · skip
      refine d_rq q1 ?_
      refine d_lst [C] hcC ?_
      show Vx.T.den _ _ [(n : Int), e] [true, true, false] [l, Z, [], C] = _
      refine d_both ?_ ?_
      · skip
        refine d_rq r1 ?_
        refine d_lst [C] rfl ?_
        show Vx.T.den _ _ [(n : Int), e] [true, true, false] [l, Z, [], C, C] = _
        refine d_both ?_ ?_
        · skip
          refine d_lst [[N]] hN ?_
          show Vx.T.den _ _ [(n : Int), e] [true, true, false] [l, Z, [], C, C, [N]] = _
          refine d_both ?_ ?_
          · skip
            refine d_rq r2 ?_
            refine d_lst [A2] p2 ?_
            show Vx.T.den _ _ [(n : Int), e] [true, true, false] [l, Z, [], C, C, [N], A2] = _
            refine d_rq q2 ?_
            refine d_lst [Dp] hcD ?_
            show Vx.T.den _ _ [(n : Int), e] [true, true, false] [l, Z, [], C, C, [N], A2, Dp] = _
            refine d_rq r3 ?_
            refine d_lst [MR] p3 ?_
            exact key _ _ _ _ _ _
          · skip
            refine d_rq q2 ?_
            refine d_lst [Dp] hcD ?_
            show Vx.T.den _ _ [(n : Int), e] [true, true, false] [l, Z, [], C, C, [N], Dp] = _
            refine d_rq r2 ?_
            refine d_lst [A2] p2 ?_
            show Vx.T.den _ _ [(n : Int), e] [true, true, false] [l, Z, [], C, C, [N], Dp, A2] = _
            refine d_rq r3 ?_
            refine d_lst [MR] p3 ?_
            exact key _ _ _ _ _ _
        · skip
          refine d_rq q2 ?_
          refine d_lst [Dp] hcD ?_
          show Vx.T.den _ _ [(n : Int), e] [true, true, false] [l, Z, [], C, C, Dp] = _
          refine d_lst [[N]] hN ?_
          show Vx.T.den _ _ [(n : Int), e] [true, true, false] [l, Z, [], C, C, Dp, [N]] = _
          refine d_rq r2 ?_
          refine d_lst [A2] p2 ?_
          show Vx.T.den _ _ [(n : Int), e] [true, true, false] [l, Z, [], C, C, Dp, [N], A2] = _
          refine d_rq r3 ?_
          refine d_lst [MR] p3 ?_
          exact key _ _ _ _ _ _
      · skip
        refine d_both ?_ ?_
        · skip
          refine d_lst [[N]] hN ?_
          show Vx.T.den _ _ [(n : Int), e] [true, true, false] [l, Z, [], C, [N]] = _
          refine d_both ?_ ?_
          · skip
            refine d_rq r1 ?_
            refine d_lst [C] rfl ?_
            show Vx.T.den _ _ [(n : Int), e] [true, true, false] [l, Z, [], C, [N], C] = _
            refine d_both ?_ ?_
            · skip
              refine d_rq r2 ?_
              refine d_lst [A2] p2 ?_
              show Vx.T.den _ _ [(n : Int), e] [true, true, false] [l, Z, [], C, [N], C, A2] = _
              refine d_rq q2 ?_
              refine d_lst [Dp] hcD ?_
              show Vx.T.den _ _ [(n : Int), e] [true, true, false] [l, Z, [], C, [N], C, A2, Dp] = _
              refine d_rq r3 ?_
              refine d_lst [MR] p3 ?_
              exact key _ _ _ _ _ _
            · skip
              refine d_rq q2 ?_
              refine d_lst [Dp] hcD ?_
              show Vx.T.den _ _ [(n : Int), e] [true, true, false] [l, Z, [], C, [N], C, Dp] = _
              refine d_rq r2 ?_
              refine d_lst [A2] p2 ?_
              show Vx.T.den _ _ [(n : Int), e] [true, true, false] [l, Z, [], C, [N], C, Dp, A2] = _
              refine d_rq r3 ?_
              refine d_lst [MR] p3 ?_
              exact key _ _ _ _ _ _
          · skip
            refine d_rq q2 ?_
            refine d_lst [Dp] hcD ?_
            show Vx.T.den _ _ [(n : Int), e] [true, true, false] [l, Z, [], C, [N], Dp] = _
            refine d_rq r1 ?_
            refine d_lst [C] rfl ?_
            show Vx.T.den _ _ [(n : Int), e] [true, true, false] [l, Z, [], C, [N], Dp, C] = _
            refine d_rq r2 ?_
            refine d_lst [A2] p2 ?_
            show Vx.T.den _ _ [(n : Int), e] [true, true, false] [l, Z, [], C, [N], Dp, C, A2] = _
            refine d_rq r3 ?_
            refine d_lst [MR] p3 ?_
            exact key _ _ _ _ _ _
        · skip
          refine d_rq q2 ?_
          refine d_lst [Dp] hcD ?_
          show Vx.T.den _ _ [(n : Int), e] [true, true, false] [l, Z, [], C, Dp] = _
          refine d_both ?_ ?_
          · skip
            refine d_rq r1 ?_
            refine d_lst [C] rfl ?_
            show Vx.T.den _ _ [(n : Int), e] [true, true, false] [l, Z, [], C, Dp, C] = _
            refine d_lst [[N]] hN ?_
            show Vx.T.den _ _ [(n : Int), e] [true, true, false] [l, Z, [], C, Dp, C, [N]] = _
            refine d_rq r2 ?_
            refine d_lst [A2] p2 ?_
            show Vx.T.den _ _ [(n : Int), e] [true, true, false] [l, Z, [], C, Dp, C, [N], A2] = _
            refine d_rq r3 ?_
            refine d_lst [MR] p3 ?_
            exact key _ _ _ _ _ _
          · skip
            refine d_lst [[N]] hN ?_
            show Vx.T.den _ _ [(n : Int), e] [true, true, false] [l, Z, [], C, Dp, [N]] = _
            refine d_rq r1 ?_
            refine d_lst [C] rfl ?_
            show Vx.T.den _ _ [(n : Int), e] [true, true, false] [l, Z, [], C, Dp, [N], C] = _
            refine d_rq r2 ?_
            refine d_lst [A2] p2 ?_
            show Vx.T.den _ _ [(n : Int), e] [true, true, false] [l, Z, [], C, Dp, [N], C, A2] = _
            refine d_rq r3 ?_
            refine d_lst [MR] p3 ?_
            exact key _ _ _ _ _ _
    · skip
      refine d_both ?_ ?_
      · skip
        refine d_lst [[N]] hN ?_
        show Vx.T.den _ _ [(n : Int), e] [true, true, false] [l, Z, [], [N]] = _
        refine d_both ?_ ?_
        · skip
          refine d_rq q1 ?_
          refine d_lst [C] hcC ?_
          show Vx.T.den _ _ [(n : Int), e] [true, true, false] [l, Z, [], [N], C] = _
          refine d_both ?_ ?_
          · skip
            refine d_rq r1 ?_
            refine d_lst [C] rfl ?_
            show Vx.T.den _ _ [(n : Int), e] [true, true, false] [l, Z, [], [N], C, C] = _
            refine d_both ?_ ?_
            · skip
              refine d_rq r2 ?_
              refine d_lst [A2] p2 ?_
              show Vx.T.den _ _ [(n : Int), e] [true, true, false] [l, Z, [], [N], C, C, A2] = _
              refine d_rq q2 ?_
              refine d_lst [Dp] hcD ?_
              show Vx.T.den _ _ [(n : Int), e] [true, true, false] [l, Z, [], [N], C, C, A2, Dp] = _
              refine d_rq r3 ?_
              refine d_lst [MR] p3 ?_
              exact key _ _ _ _ _ _
            · skip
              refine d_rq q2 ?_
              refine d_lst [Dp] hcD ?_
              show Vx.T.den _ _ [(n : Int), e] [true, true, false] [l, Z, [], [N], C, C, Dp] = _
              refine d_rq r2 ?_
              refine d_lst [A2] p2 ?_
              show Vx.T.den _ _ [(n : Int), e] [true, true, false] [l, Z, [], [N], C, C, Dp, A2] = _
              refine d_rq r3 ?_
              refine d_lst [MR] p3 ?_
              exact key _ _ _ _ _ _
          · skip
            refine d_rq q2 ?_
            refine d_lst [Dp] hcD ?_
            show Vx.T.den _ _ [(n : Int), e] [true, true, false] [l, Z, [], [N], C, Dp] = _
            refine d_rq r1 ?_
            refine d_lst [C] rfl ?_
            show Vx.T.den _ _ [(n : Int), e] [true, true, false] [l, Z, [], [N], C, Dp, C] = _
            refine d_rq r2 ?_
            refine d_lst [A2] p2 ?_
            show Vx.T.den _ _ [(n : Int), e] [true, true, false] [l, Z, [], [N], C, Dp, C, A2] = _
            refine d_rq r3 ?_
            refine d_lst [MR] p3 ?_
            exact key _ _ _ _ _ _
        · skip
          refine d_rq q2 ?_
          refine d_lst [Dp] hcD ?_
          show Vx.T.den _ _ [(n : Int), e] [true, true, false] [l, Z, [], [N], Dp] = _
          refine d_rq q1 ?_
          refine d_lst [C] hcC ?_
          show Vx.T.den _ _ [(n : Int), e] [true, true, false] [l, Z, [], [N], Dp, C] = _
          refine d_rq r1 ?_
          refine d_lst [C] rfl ?_
          show Vx.T.den _ _ [(n : Int), e] [true, true, false] [l, Z, [], [N], Dp, C, C] = _
          refine d_rq r2 ?_
          refine d_lst [A2] p2 ?_
          show Vx.T.den _ _ [(n : Int), e] [true, true, false] [l, Z, [], [N], Dp, C, C, A2] = _
          refine d_rq r3 ?_
          refine d_lst [MR] p3 ?_
          exact key _ _ _ _ _ _
      · skip
        refine d_rq q2 ?_
        refine d_lst [Dp] hcD ?_
        show Vx.T.den _ _ [(n : Int), e] [true, true, false] [l, Z, [], Dp] = _
        refine d_both ?_ ?_
        · skip
          refine d_rq q1 ?_
          refine d_lst [C] hcC ?_
          show Vx.T.den _ _ [(n : Int), e] [true, true, false] [l, Z, [], Dp, C] = _
          refine d_both ?_ ?_
          · skip
            refine d_rq r1 ?_
            refine d_lst [C] rfl ?_
            show Vx.T.den _ _ [(n : Int), e] [true, true, false] [l, Z, [], Dp, C, C] = _
            refine d_lst [[N]] hN ?_
            show Vx.T.den _ _ [(n : Int), e] [true, true, false] [l, Z, [], Dp, C, C, [N]] = _
            refine d_rq r2 ?_
            refine d_lst [A2] p2 ?_
            show Vx.T.den _ _ [(n : Int), e] [true, true, false] [l, Z, [], Dp, C, C, [N], A2] = _
            refine d_rq r3 ?_
            refine d_lst [MR] p3 ?_
            exact key _ _ _ _ _ _
          · skip
            refine d_lst [[N]] hN ?_
            show Vx.T.den _ _ [(n : Int), e] [true, true, false] [l, Z, [], Dp, C, [N]] = _
            refine d_rq r1 ?_
            refine d_lst [C] rfl ?_
            show Vx.T.den _ _ [(n : Int), e] [true, true, false] [l, Z, [], Dp, C, [N], C] = _
            refine d_rq r2 ?_
            refine d_lst [A2] p2 ?_
            show Vx.T.den _ _ [(n : Int), e] [true, true, false] [l, Z, [], Dp, C, [N], C, A2] = _
            refine d_rq r3 ?_
            refine d_lst [MR] p3 ?_
            exact key _ _ _ _ _ _
        · skip
          refine d_lst [[N]] hN ?_
          show Vx.T.den _ _ [(n : Int), e] [true, true, false] [l, Z, [], Dp, [N]] = _
          refine d_rq q1 ?_
          refine d_lst [C] hcC ?_
          show Vx.T.den _ _ [(n : Int), e] [true, true, false] [l, Z, [], Dp, [N], C] = _
          refine d_rq r1 ?_
          refine d_lst [C] rfl ?_
          show Vx.T.den _ _ [(n : Int), e] [true, true, false] [l, Z, [], Dp, [N], C, C] = _
          refine d_rq r2 ?_
          refine d_lst [A2] p2 ?_
          show Vx.T.den _ _ [(n : Int), e] [true, true, false] [l, Z, [], Dp, [N], C, C, A2] = _
          refine d_rq r3 ?_
          refine d_lst [MR] p3 ?_
          exact key _ _ _ _ _ _
  · skip
    refine d_both ?_ ?_
    · skip
      refine d_rq q1 ?_
      refine d_lst [C] hcC ?_
      show Vx.T.den _ _ [(n : Int), e] [true, true, false] [l, Z, C] = _
      refine d_both ?_ ?_
      · skip
        refine d_lst [[]] rfl ?_
        show Vx.T.den _ _ [(n : Int), e] [true, true, false] [l, Z, C, []] = _
        refine d_both ?_ ?_
        · skip
          refine d_rq r1 ?_
          refine d_lst [C] rfl ?_
          show Vx.T.den _ _ [(n : Int), e] [true, true, false] [l, Z, C, [], C] = _
          refine d_both ?_ ?_
          · skip
            refine d_lst [[N]] hN ?_
            show Vx.T.den _ _ [(n : Int), e] [true, true, false] [l, Z, C, [], C, [N]] = _
            refine d_both ?_ ?_
            · skip
              refine d_rq r2 ?_
              refine d_lst [A2] p2 ?_
              show Vx.T.den _ _ [(n : Int), e] [true, true, false] [l, Z, C, [], C, [N], A2] = _
              refine d_rq q2 ?_
              refine d_lst [Dp] hcD ?_
              show Vx.T.den _ _ [(n : Int), e] [true, true, false] [l, Z, C, [], C, [N], A2, Dp] = _
              refine d_rq r3 ?_
              refine d_lst [MR] p3 ?_
              exact key _ _ _ _ _ _
            · skip
              refine d_rq q2 ?_
              refine d_lst [Dp] hcD ?_
              show Vx.T.den _ _ [(n : Int), e] [true, true, false] [l, Z, C, [], C, [N], Dp] = _
              refine d_rq r2 ?_
              refine d_lst [A2] p2 ?_
              show Vx.T.den _ _ [(n : Int), e] [true, true, false] [l, Z, C, [], C, [N], Dp, A2] = _
              refine d_rq r3 ?_
              refine d_lst [MR] p3 ?_
              exact key _ _ _ _ _ _
          · skip
            refine d_rq q2 ?_
            refine d_lst [Dp] hcD ?_
            show Vx.T.den _ _ [(n : Int), e] [true, true, false] [l, Z, C, [], C, Dp] = _
            refine d_lst [[N]] hN ?_
            show Vx.T.den _ _ [(n : Int), e] [true, true, false] [l, Z, C, [], C, Dp, [N]] = _
            refine d_rq r2 ?_
            refine d_lst [A2] p2 ?_
            show Vx.T.den _ _ [(n : Int), e] [true, true, false] [l, Z, C, [], C, Dp, [N], A2] = _
            refine d_rq r3 ?_
            refine d_lst [MR] p3 ?_
            exact key _ _ _ _ _ _
        · skip
          refine d_both ?_ ?_
          · skip
            refine d_lst [[N]] hN ?_
            show Vx.T.den _ _ [(n : Int), e] [true, true, false] [l, Z, C, [], [N]] = _
            refine d_both ?_ ?_
            · skip
              refine d_rq r1 ?_
              refine d_lst [C] rfl ?_
              show Vx.T.den _ _ [(n : Int), e] [true, true, false] [l, Z, C, [], [N], C] = _
              refine d_both ?_ ?_
              · skip
                refine d_rq r2 ?_
                refine d_lst [A2] p2 ?_
                show Vx.T.den _ _ [(n : Int), e] [true, true, false] [l, Z, C, [], [N], C, A2] = _
                refine d_rq q2 ?_
                refine d_lst [Dp] hcD ?_
                show Vx.T.den _ _ [(n : Int), e] [true, true, false] [l, Z, C, [], [N], C, A2, Dp] = _
                refine d_rq r3 ?_
                refine d_lst [MR] p3 ?_
                exact key _ _ _ _ _ _
              · skip
                refine d_rq q2 ?_
                refine d_lst [Dp] hcD ?_
                show Vx.T.den _ _ [(n : Int), e] [true, true, false] [l, Z, C, [], [N], C, Dp] = _
                refine d_rq r2 ?_
                refine d_lst [A2] p2 ?_
                show Vx.T.den _ _ [(n : Int), e] [true, true, false] [l, Z, C, [], [N], C, Dp, A2] = _
                refine d_rq r3 ?_
                refine d_lst [MR] p3 ?_
                exact key _ _ _ _ _ _
            · skip
              refine d_rq q2 ?_
              refine d_lst [Dp] hcD ?_
              show Vx.T.den _ _ [(n : Int), e] [true, true, false] [l, Z, C, [], [N], Dp] = _
              refine d_rq r1 ?_
              refine d_lst [C] rfl ?_
              show Vx.T.den _ _ [(n : Int), e] [true, true, false] [l, Z, C, [], [N], Dp, C] = _
              refine d_rq r2 ?_
              refine d_lst [A2] p2 ?_
              show Vx.T.den _ _ [(n : Int), e] [true, true, false] [l, Z, C, [], [N], Dp, C, A2] = _
              refine d_rq r3 ?_
              refine d_lst [MR] p3 ?_
              exact key _ _ _ _ _ _
          · skip
            refine d_rq q2 ?_
            refine d_lst [Dp] hcD ?_
            show Vx.T.den _ _ [(n : Int), e] [true, true, false] [l, Z, C, [], Dp] = _
            refine d_both ?_ ?_
            · skip
              refine d_rq r1 ?_
              refine d_lst [C] rfl ?_
              show Vx.T.den _ _ [(n : Int), e] [true, true, false] [l, Z, C, [], Dp, C] = _
              refine d_lst [[N]] hN ?_
              show Vx.T.den _ _ [(n : Int), e] [true, true, false] [l, Z, C, [], Dp, C, [N]] = _
              refine d_rq r2 ?_
              refine d_lst [A2] p2 ?_
              show Vx.T.den _ _ [(n : Int), e] [true, true, false] [l, Z, C, [], Dp, C, [N], A2] = _
              refine d_rq r3 ?_
              refine d_lst [MR] p3 ?_
              exact key _ _ _ _ _ _
            · skip
              refine d_lst [[N]] hN ?_
              show Vx.T.den _ _ [(n : Int), e] [true, true, false] [l, Z, C, [], Dp, [N]] = _
              refine d_rq r1 ?_
              refine d_lst [C] rfl ?_
              show Vx.T.den _ _ [(n : Int), e] [true, true, false] [l, Z, C, [], Dp, [N], C] = _
              refine d_rq r2 ?_
              refine d_lst [A2] p2 ?_
              show Vx.T.den _ _ [(n : Int), e] [true, true, false] [l, Z, C, [], Dp, [N], C, A2] = _
              refine d_rq r3 ?_
              refine d_lst [MR] p3 ?_
              exact key _ _ _ _ _ _
      · skip
        refine d_both ?_ ?_
        · skip
          refine d_lst [[N]] hN ?_
          show Vx.T.den _ _ [(n : Int), e] [true, true, false] [l, Z, C, [N]] = _
          refine d_both ?_ ?_
          · skip
            refine d_lst [[]] rfl ?_
            show Vx.T.den _ _ [(n : Int), e] [true, true, false] [l, Z, C, [N], []] = _
            refine d_both ?_ ?_
            · skip
              refine d_rq r1 ?_
              refine d_lst [C] rfl ?_
              show Vx.T.den _ _ [(n : Int), e] [true, true, false] [l, Z, C, [N], [], C] = _
              refine d_both ?_ ?_
              · skip
                refine d_rq r2 ?_
                refine d_lst [A2] p2 ?_
                show Vx.T.den _ _ [(n : Int), e] [true, true, false] [l, Z, C, [N], [], C, A2] = _
                refine d_rq q2 ?_
                refine d_lst [Dp] hcD ?_
                show Vx.T.den _ _ [(n : Int), e] [true, true, false] [l, Z, C, [N], [], C, A2, Dp] = _
                refine d_rq r3 ?_
                refine d_lst [MR] p3 ?_
                exact key _ _ _ _ _ _
              · skip
                refine d_rq q2 ?_
                refine d_lst [Dp] hcD ?_
                show Vx.T.den _ _ [(n : Int), e] [true, true, false] [l, Z, C, [N], [], C, Dp] = _
                refine d_rq r2 ?_
                refine d_lst [A2] p2 ?_
                show Vx.T.den _ _ [(n : Int), e] [true, true, false] [l, Z, C, [N], [], C, Dp, A2] = _
                refine d_rq r3 ?_
                refine d_lst [MR] p3 ?_
                exact key _ _ _ _ _ _
            · skip
              refine d_rq q2 ?_
              refine d_lst [Dp] hcD ?_
              show Vx.T.den _ _ [(n : Int), e] [true, true, false] [l, Z, C, [N], [], Dp] = _
              refine d_rq r1 ?_
              refine d_lst [C] rfl ?_
              show Vx.T.den _ _ [(n : Int), e] [true, true, false] [l, Z, C, [N], [], Dp, C] = _
              refine d_rq r2 ?_
              refine d_lst [A2] p2 ?_
              show Vx.T.den _ _ [(n : Int), e] [true, true, false] [l, Z, C, [N], [], Dp, C, A2] = _
              refine d_rq r3 ?_
              refine d_lst [MR] p3 ?_
              exact key _ _ _ _ _ _
          · skip
            refine d_rq q2 ?_
            refine d_lst [Dp] hcD ?_
            show Vx.T.den _ _ [(n : Int), e] [true, true, false] [l, Z, C, [N], Dp] = _
            refine d_lst [[]] rfl ?_
            show Vx.T.den _ _ [(n : Int), e] [true, true, false] [l, Z, C, [N], Dp, []] = _
            refine d_rq r1 ?_
            refine d_lst [C] rfl ?_
            show Vx.T.den _ _ [(n : Int), e] [true, true, false] [l, Z, C, [N], Dp, [], C] = _
            refine d_rq r2 ?_
            refine d_lst [A2] p2 ?_
            show Vx.T.den _ _ [(n : Int), e] [true, true, false] [l, Z, C, [N], Dp, [], C, A2] = _
            refine d_rq r3 ?_
            refine d_lst [MR] p3 ?_
            exact key _ _ _ _ _ _
        · skip
          refine d_rq q2 ?_
          refine d_lst [Dp] hcD ?_
          show Vx.T.den _ _ [(n : Int), e] [true, true, false] [l, Z, C, Dp] = _
          refine d_both ?_ ?_
          · skip
            refine d_lst [[]] rfl ?_
            show Vx.T.den _ _ [(n : Int), e] [true, true, false] [l, Z, C, Dp, []] = _
            refine d_both ?_ ?_
            · skip
              refine d_rq r1 ?_
              refine d_lst [C] rfl ?_
              show Vx.T.den _ _ [(n : Int), e] [true, true, false] [l, Z, C, Dp, [], C] = _
              refine d_lst [[N]] hN ?_
              show Vx.T.den _ _ [(n : Int), e] [true, true, false] [l, Z, C, Dp, [], C, [N]] = _
              refine d_rq r2 ?_
              refine d_lst [A2] p2 ?_
              show Vx.T.den _ _ [(n : Int), e] [true, true, false] [l, Z, C, Dp, [], C, [N], A2] = _
              refine d_rq r3 ?_
              refine d_lst [MR] p3 ?_
              exact key _ _ _ _ _ _
            · skip
              refine d_lst [[N]] hN ?_
              show Vx.T.den _ _ [(n : Int), e] [true, true, false] [l, Z, C, Dp, [], [N]] = _
              refine d_rq r1 ?_
              refine d_lst [C] rfl ?_
              show Vx.T.den _ _ [(n : Int), e] [true, true, false] [l, Z, C, Dp, [], [N], C] = _
              refine d_rq r2 ?_
              refine d_lst [A2] p2 ?_
              show Vx.T.den _ _ [(n : Int), e] [true, true, false] [l, Z, C, Dp, [], [N], C, A2] = _
              refine d_rq r3 ?_
              refine d_lst [MR] p3 ?_
              exact key _ _ _ _ _ _
          · skip
            refine d_lst [[N]] hN ?_
            show Vx.T.den _ _ [(n : Int), e] [true, true, false] [l, Z, C, Dp, [N]] = _
            refine d_lst [[]] rfl ?_
            show Vx.T.den _ _ [(n : Int), e] [true, true, false] [l, Z, C, Dp, [N], []] = _
            refine d_rq r1 ?_
            refine d_lst [C] rfl ?_
            show Vx.T.den _ _ [(n : Int), e] [true, true, false] [l, Z, C, Dp, [N], [], C] = _
            refine d_rq r2 ?_
            refine d_lst [A2] p2 ?_
            show Vx.T.den _ _ [(n : Int), e] [true, true, false] [l, Z, C, Dp, [N], [], C, A2] = _
            refine d_rq r3 ?_
            refine d_lst [MR] p3 ?_
            exact key _ _ _ _ _ _
    · skip
      refine d_both ?_ ?_
      · skip
        refine d_lst [[N]] hN ?_
        show Vx.T.den _ _ [(n : Int), e] [true, true, false] [l, Z, [N]] = _
        refine d_both ?_ ?_
        · skip
          refine d_lst [[]] rfl ?_
          show Vx.T.den _ _ [(n : Int), e] [true, true, false] [l, Z, [N], []] = _
          refine d_both ?_ ?_
          · skip
            refine d_rq q1 ?_
            refine d_lst [C] hcC ?_
            show Vx.T.den _ _ [(n : Int), e] [true, true, false] [l, Z, [N], [], C] = _
            refine d_both ?_ ?_
            · skip
              refine d_rq r1 ?_
              refine d_lst [C] rfl ?_
              show Vx.T.den _ _ [(n : Int), e] [true, true, false] [l, Z, [N], [], C, C] = _
              refine d_both ?_ ?_
              · skip
                refine d_rq r2 ?_
                refine d_lst [A2] p2 ?_
                show Vx.T.den _ _ [(n : Int), e] [true, true, false] [l, Z, [N], [], C, C, A2] = _
                refine d_rq q2 ?_
                refine d_lst [Dp] hcD ?_
                show Vx.T.den _ _ [(n : Int), e] [true, true, false] [l, Z, [N], [], C, C, A2, Dp] = _
                refine d_rq r3 ?_
                refine d_lst [MR] p3 ?_
                exact key _ _ _ _ _ _
              · skip
                refine d_rq q2 ?_
                refine d_lst [Dp] hcD ?_
                show Vx.T.den _ _ [(n : Int), e] [true, true, false] [l, Z, [N], [], C, C, Dp] = _
                refine d_rq r2 ?_
                refine d_lst [A2] p2 ?_
                show Vx.T.den _ _ [(n : Int), e] [true, true, false] [l, Z, [N], [], C, C, Dp, A2] = _
                refine d_rq r3 ?_
                refine d_lst [MR] p3 ?_
                exact key _ _ _ _ _ _
            · skip
              refine d_rq q2 ?_
              refine d_lst [Dp] hcD ?_
              show Vx.T.den _ _ [(n : Int), e] [true, true, false] [l, Z, [N], [], C, Dp] = _
              refine d_rq r1 ?_
              refine d_lst [C] rfl ?_
              show Vx.T.den _ _ [(n : Int), e] [true, true, false] [l, Z, [N], [], C, Dp, C] = _
              refine d_rq r2 ?_
              refine d_lst [A2] p2 ?_
              show Vx.T.den _ _ [(n : Int), e] [true, true, false] [l, Z, [N], [], C, Dp, C, A2] = _
              refine d_rq r3 ?_
              refine d_lst [MR] p3 ?_
              exact key _ _ _ _ _ _
          · skip
            refine d_rq q2 ?_
            refine d_lst [Dp] hcD ?_
            show Vx.T.den _ _ [(n : Int), e] [true, true, false] [l, Z, [N], [], Dp] = _
            refine d_rq q1 ?_
            refine d_lst [C] hcC ?_
            show Vx.T.den _ _ [(n : Int), e] [true, true, false] [l, Z, [N], [], Dp, C] = _
            refine d_rq r1 ?_
            refine d_lst [C] rfl ?_
            show Vx.T.den _ _ [(n : Int), e] [true, true, false] [l, Z, [N], [], Dp, C, C] = _
            refine d_rq r2 ?_
            refine d_lst [A2] p2 ?_
            show Vx.T.den _ _ [(n : Int), e] [true, true, false] [l, Z, [N], [], Dp, C, C, A2] = _
            refine d_rq r3 ?_
            refine d_lst [MR] p3 ?_
            exact key _ _ _ _ _ _
        · skip
          refine d_both ?_ ?_
          · skip
            refine d_rq q1 ?_
            refine d_lst [C] hcC ?_
            show Vx.T.den _ _ [(n : Int), e] [true, true, false] [l, Z, [N], C] = _
            refine d_both ?_ ?_
            · skip
              refine d_lst [[]] rfl ?_
              show Vx.T.den _ _ [(n : Int), e] [true, true, false] [l, Z, [N], C, []] = _
              refine d_both ?_ ?_
              · skip
                refine d_rq r1 ?_
                refine d_lst [C] rfl ?_
                show Vx.T.den _ _ [(n : Int), e] [true, true, false] [l, Z, [N], C, [], C] = _
                refine d_both ?_ ?_
                · skip
                  refine d_rq r2 ?_
                  refine d_lst [A2] p2 ?_
                  show Vx.T.den _ _ [(n : Int), e] [true, true, false] [l, Z, [N], C, [], C, A2] = _
                  refine d_rq q2 ?_
                  refine d_lst [Dp] hcD ?_
                  show Vx.T.den _ _ [(n : Int), e] [true, true, false] [l, Z, [N], C, [], C, A2, Dp] = _
                  refine d_rq r3 ?_
                  refine d_lst [MR] p3 ?_
                  exact key _ _ _ _ _ _
                · skip
                  refine d_rq q2 ?_
                  refine d_lst [Dp] hcD ?_
                  show Vx.T.den _ _ [(n : Int), e] [true, true, false] [l, Z, [N], C, [], C, Dp] = _
                  refine d_rq r2 ?_
                  refine d_lst [A2] p2 ?_
                  show Vx.T.den _ _ [(n : Int), e] [true, true, false] [l, Z, [N], C, [], C, Dp, A2] = _
                  refine d_rq r3 ?_
                  refine d_lst [MR] p3 ?_
                  exact key _ _ _ _ _ _
              · skip
                refine d_rq q2 ?_
                refine d_lst [Dp] hcD ?_
                show Vx.T.den _ _ [(n : Int), e] [true, true, false] [l, Z, [N], C, [], Dp] = _
                refine d_rq r1 ?_
                refine d_lst [C] rfl ?_
                show Vx.T.den _ _ [(n : Int), e] [true, true, false] [l, Z, [N], C, [], Dp, C] = _
                refine d_rq r2 ?_
                refine d_lst [A2] p2 ?_
                show Vx.T.den _ _ [(n : Int), e] [true, true, false] [l, Z, [N], C, [], Dp, C, A2] = _
                refine d_rq r3 ?_
                refine d_lst [MR] p3 ?_
                exact key _ _ _ _ _ _
            · skip
              refine d_rq q2 ?_
              refine d_lst [Dp] hcD ?_
              show Vx.T.den _ _ [(n : Int), e] [true, true, false] [l, Z, [N], C, Dp] = _
              refine d_lst [[]] rfl ?_
              show Vx.T.den _ _ [(n : Int), e] [true, true, false] [l, Z, [N], C, Dp, []] = _
              refine d_rq r1 ?_
              refine d_lst [C] rfl ?_
              show Vx.T.den _ _ [(n : Int), e] [true, true, false] [l, Z, [N], C, Dp, [], C] = _
              refine d_rq r2 ?_
              refine d_lst [A2] p2 ?_
              show Vx.T.den _ _ [(n : Int), e] [true, true, false] [l, Z, [N], C, Dp, [], C, A2] = _
              refine d_rq r3 ?_
              refine d_lst [MR] p3 ?_
              exact key _ _ _ _ _ _
          · skip
            refine d_rq q2 ?_
            refine d_lst [Dp] hcD ?_
            show Vx.T.den _ _ [(n : Int), e] [true, true, false] [l, Z, [N], Dp] = _
            refine d_both ?_ ?_
            · skip
              refine d_lst [[]] rfl ?_
              show Vx.T.den _ _ [(n : Int), e] [true, true, false] [l, Z, [N], Dp, []] = _
              refine d_rq q1 ?_
              refine d_lst [C] hcC ?_
              show Vx.T.den _ _ [(n : Int), e] [true, true, false] [l, Z, [N], Dp, [], C] = _
              refine d_rq r1 ?_
              refine d_lst [C] rfl ?_
              show Vx.T.den _ _ [(n : Int), e] [true, true, false] [l, Z, [N], Dp, [], C, C] = _
              refine d_rq r2 ?_
              refine d_lst [A2] p2 ?_
              show Vx.T.den _ _ [(n : Int), e] [true, true, false] [l, Z, [N], Dp, [], C, C, A2] = _
              refine d_rq r3 ?_
              refine d_lst [MR] p3 ?_
              exact key _ _ _ _ _ _
            · skip
              refine d_rq q1 ?_
              refine d_lst [C] hcC ?_
              show Vx.T.den _ _ [(n : Int), e] [true, true, false] [l, Z, [N], Dp, C] = _
              refine d_lst [[]] rfl ?_
              show Vx.T.den _ _ [(n : Int), e] [true, true, false] [l, Z, [N], Dp, C, []] = _
              refine d_rq r1 ?_
              refine d_lst [C] rfl ?_
              show Vx.T.den _ _ [(n : Int), e] [true, true, false] [l, Z, [N], Dp, C, [], C] = _
              refine d_rq r2 ?_
              refine d_lst [A2] p2 ?_
              show Vx.T.den _ _ [(n : Int), e] [true, true, false] [l, Z, [N], Dp, C, [], C, A2] = _
              refine d_rq r3 ?_
              refine d_lst [MR] p3 ?_
              exact key _ _ _ _ _ _
      · skip
        refine d_rq q2 ?_
        refine d_lst [Dp] hcD ?_
        show Vx.T.den _ _ [(n : Int), e] [true, true, false] [l, Z, Dp] = _
        refine d_both ?_ ?_
        · skip
          refine d_lst [[]] rfl ?_
          show Vx.T.den _ _ [(n : Int), e] [true, true, false] [l, Z, Dp, []] = _
          refine d_both ?_ ?_
          · skip
            refine d_rq q1 ?_
            refine d_lst [C] hcC ?_
            show Vx.T.den _ _ [(n : Int), e] [true, true, false] [l, Z, Dp, [], C] = _
            refine d_both ?_ ?_
            · skip
              refine d_rq r1 ?_
              refine d_lst [C] rfl ?_
              show Vx.T.den _ _ [(n : Int), e] [true, true, false] [l, Z, Dp, [], C, C] = _
              refine d_lst [[N]] hN ?_
              show Vx.T.den _ _ [(n : Int), e] [true, true, false] [l, Z, Dp, [], C, C, [N]] = _
              refine d_rq r2 ?_
              refine d_lst [A2] p2 ?_
              show Vx.T.den _ _ [(n : Int), e] [true, true, false] [l, Z, Dp, [], C, C, [N], A2] = _
              refine d_rq r3 ?_
              refine d_lst [MR] p3 ?_
              exact key _ _ _ _ _ _
            · skip
              refine d_lst [[N]] hN ?_
              show Vx.T.den _ _ [(n : Int), e] [true, true, false] [l, Z, Dp, [], C, [N]] = _
              refine d_rq r1 ?_
              refine d_lst [C] rfl ?_
              show Vx.T.den _ _ [(n : Int), e] [true, true, false] [l, Z, Dp, [], C, [N], C] = _
              refine d_rq r2 ?_
              refine d_lst [A2] p2 ?_
              show Vx.T.den _ _ [(n : Int), e] [true, true, false] [l, Z, Dp, [], C, [N], C, A2] = _
              refine d_rq r3 ?_
              refine d_lst [MR] p3 ?_
              exact key _ _ _ _ _ _
          · skip
            refine d_lst [[N]] hN ?_
            show Vx.T.den _ _ [(n : Int), e] [true, true, false] [l, Z, Dp, [], [N]] = _
            refine d_rq q1 ?_
            refine d_lst [C] hcC ?_
            show Vx.T.den _ _ [(n : Int), e] [true, true, false] [l, Z, Dp, [], [N], C] = _
            refine d_rq r1 ?_
            refine d_lst [C] rfl ?_
            show Vx.T.den _ _ [(n : Int), e] [true, true, false] [l, Z, Dp, [], [N], C, C] = _
            refine d_rq r2 ?_
            refine d_lst [A2] p2 ?_
            show Vx.T.den _ _ [(n : Int), e] [true, true, false] [l, Z, Dp, [], [N], C, C, A2] = _
            refine d_rq r3 ?_
            refine d_lst [MR] p3 ?_
            exact key _ _ _ _ _ _
        · skip
          refine d_both ?_ ?_
          · skip
            refine d_rq q1 ?_
            refine d_lst [C] hcC ?_
            show Vx.T.den _ _ [(n : Int), e] [true, true, false] [l, Z, Dp, C] = _
            refine d_both ?_ ?_
            · skip
              refine d_lst [[]] rfl ?_
              show Vx.T.den _ _ [(n : Int), e] [true, true, false] [l, Z, Dp, C, []] = _
              refine d_both ?_ ?_
              · skip
                refine d_rq r1 ?_
                refine d_lst [C] rfl ?_
                show Vx.T.den _ _ [(n : Int), e] [true, true, false] [l, Z, Dp, C, [], C] = _
                refine d_lst [[N]] hN ?_
                show Vx.T.den _ _ [(n : Int), e] [true, true, false] [l, Z, Dp, C, [], C, [N]] = _
                refine d_rq r2 ?_
                refine d_lst [A2] p2 ?_
                show Vx.T.den _ _ [(n : Int), e] [true, true, false] [l, Z, Dp, C, [], C, [N], A2] = _
                refine d_rq r3 ?_
                refine d_lst [MR] p3 ?_
                exact key _ _ _ _ _ _
              · skip
                refine d_lst [[N]] hN ?_
                show Vx.T.den _ _ [(n : Int), e] [true, true, false] [l, Z, Dp, C, [], [N]] = _
                refine d_rq r1 ?_
                refine d_lst [C] rfl ?_
                show Vx.T.den _ _ [(n : Int), e] [true, true, false] [l, Z, Dp, C, [], [N], C] = _
                refine d_rq r2 ?_
                refine d_lst [A2] p2 ?_
                show Vx.T.den _ _ [(n : Int), e] [true, true, false] [l, Z, Dp, C, [], [N], C, A2] = _
                refine d_rq r3 ?_
                refine d_lst [MR] p3 ?_
                exact key _ _ _ _ _ _
            · skip
              refine d_lst [[N]] hN ?_
              show Vx.T.den _ _ [(n : Int), e] [true, true, false] [l, Z, Dp, C, [N]] = _
              refine d_lst [[]] rfl ?_
              show Vx.T.den _ _ [(n : Int), e] [true, true, false] [l, Z, Dp, C, [N], []] = _
              refine d_rq r1 ?_
              refine d_lst [C] rfl ?_
              show Vx.T.den _ _ [(n : Int), e] [true, true, false] [l, Z, Dp, C, [N], [], C] = _
              refine d_rq r2 ?_
              refine d_lst [A2] p2 ?_
              show Vx.T.den _ _ [(n : Int), e] [true, true, false] [l, Z, Dp, C, [N], [], C, A2] = _
              refine d_rq r3 ?_
              refine d_lst [MR] p3 ?_
              exact key _ _ _ _ _ _
          · skip
            refine d_lst [[N]] hN ?_
            show Vx.T.den _ _ [(n : Int), e] [true, true, false] [l, Z, Dp, [N]] = _
            refine d_both ?_ ?_
            · skip
              refine d_lst [[]] rfl ?_
              show Vx.T.den _ _ [(n : Int), e] [true, true, false] [l, Z, Dp, [N], []] = _
              refine d_rq q1 ?_
              refine d_lst [C] hcC ?_
              show Vx.T.den _ _ [(n : Int), e] [true, true, false] [l, Z, Dp, [N], [], C] = _
              refine d_rq r1 ?_
              refine d_lst [C] rfl ?_
              show Vx.T.den _ _ [(n : Int), e] [true, true, false] [l, Z, Dp, [N], [], C, C] = _
              refine d_rq r2 ?_
              refine d_lst [A2] p2 ?_
              show Vx.T.den _ _ [(n : Int), e] [true, true, false] [l, Z, Dp, [N], [], C, C, A2] = _
              refine d_rq r3 ?_
              refine d_lst [MR] p3 ?_
              exact key _ _ _ _ _ _
            · skip
              refine d_rq q1 ?_
              refine d_lst [C] hcC ?_
              show Vx.T.den _ _ [(n : Int), e] [true, true, false] [l, Z, Dp, [N], C] = _
              refine d_lst [[]] rfl ?_
              show Vx.T.den _ _ [(n : Int), e] [true, true, false] [l, Z, Dp, [N], C, []] = _
              refine d_rq r1 ?_
              refine d_lst [C] rfl ?_
              show Vx.T.den _ _ [(n : Int), e] [true, true, false] [l, Z, Dp, [N], C, [], C] = _
              refine d_rq r2 ?_
              refine d_lst [A2] p2 ?_
              show Vx.T.den _ _ [(n : Int), e] [true, true, false] [l, Z, Dp, [N], C, [], C, A2] = _
              refine d_rq r3 ?_
              refine d_lst [MR] p3 ?_
              exact key _ _ _ _ _ _
end Go.Proofs.Ytmfjapphmmlppaa.YInstrNops
