/-
  InstrPuts: the reference of layer 6: instructions as they are read.
-/
import Derived.Test.YtmfjapphmmlppaaInRfInstrPuts
namespace Go.Proofs.Ytmfjapphmmlppaa.WInstrPuts
set_option linter.all false
open Go.Proofs.Ytmfjapphmmlppaa.Vx Go.Proofs.Ytmfjapphmmlppaa.XInstrPuts Go.Proofs.Ytmfjapphmmlppaa.Vd Go.Proofs.Ytmfjapphmmlppaa.Vn Go.Proofs.Ytmfjapphmmlppaa.Vl Go.Proofs.Ytmfjapphmmlppaa.Vp Go.Proofs.Ytmfjapphmmlppaa.Vb Go.Proofs.Ytmfjapphmmlppaa.SInstrPuts Go.Proofs.Ytmfjapphmmlppaa.Vo Go.Proofs.Ytmfjapphmmlppaa.Vt Go.Proofs.Ytmfjapphmmlppaa.IInstrPuts Go.Proofs.Ytmfjapphmmlppaa.PInstrPuts Go.Proofs.Ytmfjapphmmlppaa.MInstrPuts Go.Proofs.Ytmfjapphmmlppaa.KInstrPuts
/-- One letter of a pattern. -/
def letP (c : Int) (x : Ins) : Rd Ins :=
  if c = 116 then blockP.bind fun a _ => .ok ⟨x.op, a, x.b, x.k, x.L⟩ 0
  else if c = 97 then (uP 32).bind fun a _ => .ok ⟨x.op, a, x.b, x.k, x.L⟩ 0
  else if c = 98 then (uP 32).bind fun b _ => .ok ⟨x.op, x.a, b, x.k, x.L⟩ 0
  else if c = 108 then labelsP.bind fun L _ => .ok ⟨x.op, x.a, x.b, x.k, L⟩ 0
  else if c = 107 then (sP 32).bind fun k _ => .ok ⟨x.op, x.a, x.b, k, x.L⟩ 0
  else if c = 113 then (sP 64).bind fun k _ => .ok ⟨x.op, x.a, x.b, k, x.L⟩ 0
  else if c = 122 then zeroP.bind fun _ _ => .ok x 0
  else fun _ => .ok x 0
def patP : List Int → Ins → Rd Ins
  | [], x => fun _ => .ok x 0
  | c :: r, x => (letP c x).bind (patP r)
theorem bind_pure {α : Type} (R : Rd α) : R.bind (fun a _ => .ok a 0) = R := by
  funext l
  unfold Rd.bind
  cases R l <;> rfl
theorem bind_assoc {α β γ : Type} (R : Rd α) (f : α → Rd β) (g : β → Rd γ) : (R.bind f).bind g = R.bind fun a => (f a).bind g := by
  funext l
  unfold Rd.bind
  cases R l with
  | err e => rfl
  | ok a n =>
    dsimp only
    cases h2 : f a (l.drop n) with
    | err e => rfl
    | ok b k =>
      dsimp only
      rw [List.drop_drop]
      cases g b (l.drop (n + k)) with
      | err e => rfl
      | ok c m => dsimp only; rw [Nat.add_assoc]
theorem pure_bind {α β : Type} (a : α) (f : α → Rd β) : Rd.bind (fun _ => Res.ok a 0) f = f a := by
  funext l
  show (match f a (l.drop 0) with | .err e => Res.err e | .ok b k => Res.ok b (0 + k)) = f a l
  rw [List.drop_zero]
  cases f a l with
  | err e => rfl
  | ok b k => dsimp only; rw [Nat.zero_add]
theorem patP_arg {op : Nat} (h0 : fm op ≠ 0) (h11 : fm op ≠ 11) : patP (patL (fm op)) ⟨op, 0, 0, 0, []⟩ = argP op := by
  have hr := fm_range op
  unfold argP
  have h : fm op = 1 ∨ fm op = 2 ∨ fm op = 3 ∨ fm op = 4 ∨ fm op = 5 ∨ fm op = 6 ∨ fm op = 7 ∨ fm op = 8 ∨ fm op = 9 ∨ fm op = 10 := by omega
  rcases h with h | h | h | h | h | h | h | h | h | h <;> rw [h] <;>
    simp only [patL, patP, letP, bind_assoc, pure_bind, bind_pure, if_true, if_false, Int.reduceEq]
section
variable {l pat : List Int} {p idx : Nat} {c : Int} {x : Ins} {a0 a2 i7 i8 : Int}
theorem d_cut {C : Nat → Vx.Fn} {is bs ls o} {e : E} {c : Nat} {k : Vx.T} {l : List Int} {p : Nat} (hp : p ≤ l.length) (he : e.I is bs ls = (p : Int)) (hc : ls.getD c [] = dl l) (hk : k.den C is bs (ls ++ [dl (l.drop p)]) = o) :
    (Vx.T.rq (.an (.cm .leq (.n 0) e) (.an (.cm .leq e (.ln c)) (.cm .leq (.ln c) (.ln c)))) (.lst [.cut (.v c) e (.ln c)] k)).den C is bs ls = o := by
  refine d_rq (c := E.an _ _) ?_ (d_lst [dl (l.drop p)] ?_ hk)
  · show (decide ((0 : Int) ≤ e.I is bs ls) && (decide (e.I is bs ls ≤ ((ls.getD c []).length : Int)) && decide (((ls.getD c []).length : Int) ≤ ((ls.getD c []).length : Int)))) = true
    rw [he, hc, dl_len]; simp; omega
  · show [((ls.getD c []).take (((ls.getD c []).length : Int)).toNat).drop (e.I is bs ls).toNat] = _
    rw [he, hc, Int.toNat_natCast, Int.toNat_natCast, List.take_length]
    exact congrArg (fun z => [z]) List.map_drop.symm
/-- What the round for a letter gives. -/
def outL (r : Res Ins) (p idx : Nat) (i7 i8 : Int) : Out := match r with
  | .err e => .ret ([0, 0, 0, 0, 0, e], [], [[]])
  | .ok y n => .nxt ([((p + n : Nat) : Int), i7, i8, ((idx + 1 : Nat) : Int), y.a, y.b, y.k], [], [dl y.L])
def isO (a0 a2 : Int) (x : Ins) (p idx : Nat) (i7 i8 : Int) : List Int := [a0, 0, a2, 0, 0, (x.op : Int), (p : Int), i7, i8, (idx : Int), x.a, x.b, x.k]
theorem fin_ok {p idx n : Nat} {i7 i8 A B K : Int} {Q : List D} (hp : p ≤ 100000000) (hn : n ≤ 100000000) (hi : idx ≤ 2) :
    some (Out.nxt ([arI .add .i64 (p : Int) (n : Int), i7, i8, arI .add .i64 (idx : Int) 1, A, B, K], [], [Q])) = some (Out.nxt ([((p + n : Nat) : Int), i7, i8, ((idx + 1 : Nat) : Int), A, B, K], [], [Q])) := by
  rw [addI (by omega) (by omega), up1 idx (by omega), show (p : Int) + (n : Int) = ((p + n : Nat) : Int) by omega]
theorem wrapN {n : Nat} (h : n < 4294967296) : IntKind.i64.wrap (n : Int) = (n : Int) := wi (by omega) (by omega)
/-- Labels. -/
theorem lp_lab (hb : Bytes l) (hl : l.length ≤ 100000000) (hp : p ≤ l.length) (hg : ∀ z, ((((dl pat).getD ((idx : Int)).toNat (.i 0)).cell 0).int == z) = ((108 : Int) == z)) {n : Nat} (hn : n ≤ 64) (a0 a2 i7 i8 i15 : Int) (x : Ins) (Lx : List D) : ∀ (d i q k : Nat) (acc : List Int), i + d = n → acc.length = i → p ≤ q → q ≤ l.length →
    ∃ (s' : Int) (L : List D), iterT 2 0 1 (fun r => l32_1.den (Tab.fn a32) (([a0, 0, a2, 0, 0, (x.op : Int), (p : Int), i7, i8, (idx : Int), x.a, x.b, x.k, 0, (n : Int), i15, 0, 0, x.a, 0, x.a, x.b, 0, 0] : List Int) ++ r.1) ([true, true] ++ r.2.1) ([dl l, dl pat, Lx, dl (l.drop p)] ++ r.2.2)) (k + (d + 1)) ([((q - p : Nat) : Int), 0], [], [dl acc]) = some (.brk 5 ([s', errO (loopU d (l.drop q))], [], [L])) ∧
      ∀ vs m, loopU d (l.drop q) = .ok vs m → s' = ((q - p + m : Nat) : Int) ∧ L = dl (acc ++ vs) := by
  have stop : ∀ (k : Nat) (q e : Int) (L : List D), (¬ (L.length : Int) < n ∨ e ≠ 0) → iterT 2 0 1 (fun r => l32_1.den (Tab.fn a32) (([a0, 0, a2, 0, 0, (x.op : Int), (p : Int), i7, i8, (idx : Int), x.a, x.b, x.k, 0, (n : Int), i15, 0, 0, x.a, 0, x.a, x.b, 0, 0] : List Int) ++ r.1) ([true, true] ++ r.2.1) ([dl l, dl pat, Lx, dl (l.drop p)] ++ r.2.2)) (k + 1) ([q, e], [], [L]) = some (.brk 5 ([q, e], [], [L])) := by
    intro k q e L h
    refine it_brk ?_
    show Vx.T.den _ l32_1 [a0, 0, a2, 0, 0, (x.op : Int), (p : Int), i7, i8, (idx : Int), x.a, x.b, x.k, 0, (n : Int), i15, 0, 0, x.a, 0, x.a, x.b, 0, 0, q, e] [true, true] [dl l, dl pat, Lx, dl (l.drop p), L] = _
    unfold l32_1
    refine d_lb (e == 0) (by show (((((dl pat).getD ((idx : Int)).toNat (.i 0)).cell 0).int == 108) && (e == 0)) = _; rw [hg 108]; rfl) (d_itF ?_ rfl)
    show ((e == 0) && decide ((L.length : Int) < IntKind.i64.wrap (n : Int))) = false
    rw [wrapN (by omega)]
    rcases h with h | h
    · rw [decide_eq_false h, Bool.and_false]
    · rw [eq_f h]; rfl
  intro d
  induction d with
  | zero =>
    intro i q k acc h1 h2 hq1 hq2
    refine ⟨_, _, stop k _ _ _ (.inl (by rw [dl_len]; omega)), fun vs m h => ?_⟩
    cases h
    exact ⟨rfl, by rw [List.append_nil]⟩
  | succ d ih =>
    intro i q k acc h1 h2 hq1 hq2
    have hu := q_rU (l := l.drop q) (hb.drop q) (bits := 32) (by decide) (by decide) (by rw [List.length_drop]; omega)
    have hle := (uP_stbl 32).le (l.drop q)
    rw [List.length_drop] at hle
    have body : ∀ (v m e : Int), F52 [((32 : Nat) : Int)] [] [dl (l.drop q)] = some ([v, m, e], [], []) → (fun r : Vx.R => l32_1.den (Tab.fn a32) (([a0, 0, a2, 0, 0, (x.op : Int), (p : Int), i7, i8, (idx : Int), x.a, x.b, x.k, 0, (n : Int), i15, 0, 0, x.a, 0, x.a, x.b, 0, 0] : List Int) ++ r.1) ([true, true] ++ r.2.1) ([dl l, dl pat, Lx, dl (l.drop p)] ++ r.2.2)) ([((q - p : Nat) : Int), 0], [], [dl acc]) = some (.nxt ([arI .add .i64 ((q - p : Nat) : Int) m, e], [], [dl (acc ++ [IntKind.i64.wrap v])])) := by
      intro v m e hq
      show Vx.T.den _ l32_1 [a0, 0, a2, 0, 0, (x.op : Int), (p : Int), i7, i8, (idx : Int), x.a, x.b, x.k, 0, (n : Int), i15, 0, 0, x.a, 0, x.a, x.b, 0, 0, ((q - p : Nat) : Int), 0] [true, true] [dl l, dl pat, Lx, dl (l.drop p), dl acc] = _
      unfold l32_1
      refine d_lb true (by show (((((dl pat).getD ((idx : Int)).toNat (.i 0)).cell 0).int == 108) && ((0 : Int) == 0)) = _; rw [hg 108]; rfl) (d_itT ?_ ?_)
      · show (true && decide (((dl acc).length : Int) < IntKind.i64.wrap (n : Int))) = true
        rw [wrapN (by omega), dl_len]; simp; omega
      refine d_cut hq2 (by show arI .add .i64 (p : Int) ((q - p : Nat) : Int) = _; rw [addI (by omega) (by omega)]; omega) rfl ?_
      refine d_callx [((32 : Nat) : Int)] [] [dl (l.drop q)] ([v, m, e], [], []) e32_52 rfl rfl rfl hq rfl ?_
      rw [dl_app]
      have hla : (dl acc).length = i := by rw [dl_len]; exact h2
      generalize dl acc = A at *
      exact d_lst [[.i (IntKind.i64.wrap v)]] rfl (d_rq (c := E.an _ _) (an_t (le_t (show (A.length : Int) ≤ 3909374676536 by omega)) rfl) (d_lst [A ++ [.i (IntKind.i64.wrap v)]] rfl rfl))
    cases h : uP 32 (l.drop q) with
    | err e =>
      rw [h] at hu
      have he := (uP_stbl 32).nz _ _ h
      have hL : loopU (d + 1) (l.drop q) = .err e := bind_er h
      rw [hL]
      exact ⟨_, _, it_nxt (body _ _ _ hu) rfl (stop (k + d) _ _ _ (.inr he)), fun vs n h => by cases h⟩
    | ok v m =>
      rw [h] at hu
      have hm := hle v m h
      have hv := uP_ltI h
      have hdd : (l.drop q).drop m = l.drop (q + m) := List.drop_drop
      obtain ⟨s', L, g1, g2⟩ := ih (i + 1) (q + m) k (acc ++ [(v : Int)]) (by omega) (by rw [List.length_append, h2]; rfl) (by omega) (by omega)
      have hL : loopU (d + 1) (l.drop q) = match loopU d (l.drop (q + m)) with | .err e => .err e | .ok r m' => .ok ((v : Int) :: r) (m + m') := by
        show ((uP 32).bind _) _ = _
        rw [bind_of h, hdd]
        cases h2 : loopU d (l.drop (q + m)) with
        | err e => simp only [bind_er h2]
        | ok r m' => simp only [bind_of h2]; rfl
      refine ⟨s', L, ?_, fun vs m' h => ?_⟩
      · refine it_nxt (body _ _ _ hu) rfl ?_
        rw [show errO (loopU (d + 1) (l.drop q)) = errO (loopU d (l.drop (q + m))) by rw [hL]; cases loopU d (l.drop (q + m)) <;> rfl]
        rw [wrapN (show v < 4294967296 from hv), addI (by omega) (by omega), show ((q - p : Nat) : Int) + (m : Int) = ((q + m - p : Nat) : Int) by omega]
        exact g1
      · rw [hL] at h
        cases h2 : loopU d (l.drop (q + m)) with
        | err e => rw [h2] at h; cases h
        | ok r t =>
          rw [h2] at h; cases h
          obtain ⟨g3, g4⟩ := g2 r t h2
          refine ⟨by rw [g3]; congr 1; omega, by rw [g4, List.append_assoc]; rfl⟩
def jT : Vx.T := match l32_3 with
  | .ite _ (.rq _ (.jn t _ _ _ _)) _ => t
  | t => t
theorem let_t (hb : Bytes l) (hl : l.length ≤ 100000000) (hp : p ≤ l.length) (hi : idx < pat.length) (hpat : pat.length ≤ 2) (hc : pat.getD idx 0 = 116) :
    l32_3.den (Tab.fn a32) [a0, 0, a2, 0, 0, (x.op : Int), (p : Int), i7, i8, (idx : Int), x.a, x.b, x.k] [] [dl l, dl pat, dl x.L] = some (outL (letP 116 x (l.drop p)) p idx i7 i8) := by
  have hg : ∀ z, ((((dl pat).getD ((idx : Int)).toNat (.i 0)).cell 0).int == z) = ((116 : Int) == z) := by intro z; rw [Int.toNat_natCast, ix_dl, hc]
  have hd := hb.drop p
  have hld : (l.drop p).length ≤ 100000000 := by rw [List.length_drop]; omega
  unfold l32_3
  refine d_itT (lt_t (show (idx : Int) < ((dl pat).length : Int) by rw [dl_len]; omega)) (d_rq (ge_t (show (0 : Int) ≤ (idx : Int) by omega)) ?_)
  have J : ∀ v s e : Int, F53 [] [] [dl (l.drop p)] = some ([v, s, e], [], []) → Vx.T.den (Tab.fn a32) jT [a0, 0, a2, 0, 0, (x.op : Int), (p : Int), i7, i8, (idx : Int), x.a, x.b, x.k] [] [dl l, dl pat, dl x.L] = some (.brk 0 ([s, e, v, x.b, x.k], [], [dl x.L])) := by
    intro v s e hq
    unfold jT l32_3
    refine d_itT (hg 116) (d_cut hp rfl rfl ?_)
    refine d_callx [] [] [dl (l.drop p)] ([v, s, e], [], []) e32_53 rfl rfl rfl hq rfl rfl
  cases h : blockP (l.drop p) with
  | err e =>
    have hq := q_rblock (l := l.drop p) hd (by omega)
    unfold blockO at hq
    rw [h] at hq
    have he := (blockP_stbl).nz _ _ h
    have hL : letP 116 x (l.drop p) = .err e := by unfold letP; rw [if_pos rfl]; exact bind_er h
    rw [hL]
    exact d_jn 0 _ (J _ _ _ hq) rfl (d_rq rfl (d_itT (ne_t he) (d_rt rfl)))
  | ok a n =>
    have hq := q_rblock (l := l.drop p) hd (by omega)
    unfold blockO at hq
    rw [h] at hq
    have hn := (blockP_stbl).le _ _ _ h
    have hL : letP 116 x (l.drop p) = .ok ⟨x.op, a, x.b, x.k, x.L⟩ n := by unfold letP; rw [if_pos rfl]; rw [bind_of h]; rfl
    rw [hL]
    refine d_jn 0 _ (J _ _ _ hq) rfl (d_rq rfl (d_itF (show ((0 : Int) != 0) = false from rfl) ?_))
    exact fin_ok (by omega) (by omega) (by omega)
theorem let_a (hb : Bytes l) (hl : l.length ≤ 100000000) (hp : p ≤ l.length) (hi : idx < pat.length) (hpat : pat.length ≤ 2) (hc : pat.getD idx 0 = 97) :
    l32_3.den (Tab.fn a32) [a0, 0, a2, 0, 0, (x.op : Int), (p : Int), i7, i8, (idx : Int), x.a, x.b, x.k] [] [dl l, dl pat, dl x.L] = some (outL (letP 97 x (l.drop p)) p idx i7 i8) := by
  have hg : ∀ z, ((((dl pat).getD ((idx : Int)).toNat (.i 0)).cell 0).int == z) = ((97 : Int) == z) := by intro z; rw [Int.toNat_natCast, ix_dl, hc]
  have hd := hb.drop p
  have hld : (l.drop p).length ≤ 100000000 := by rw [List.length_drop]; omega
  unfold l32_3
  refine d_itT (lt_t (show (idx : Int) < ((dl pat).length : Int) by rw [dl_len]; omega)) (d_rq (ge_t (show (0 : Int) ≤ (idx : Int) by omega)) ?_)
  have J : ∀ v s e : Int, F52 [((32 : Nat) : Int)] [] [dl (l.drop p)] = some ([v, s, e], [], []) → Vx.T.den (Tab.fn a32) jT [a0, 0, a2, 0, 0, (x.op : Int), (p : Int), i7, i8, (idx : Int), x.a, x.b, x.k] [] [dl l, dl pat, dl x.L] = some (.brk 0 ([s, e, IntKind.i64.wrap v, x.b, x.k], [], [dl x.L])) := by
    intro v s e hq
    unfold jT l32_3
    refine d_itF (hg 116) ?_
    refine d_jn 0 ([], [true], []) ?_ rfl (d_rq rfl ?_)
    · exact d_itT (hg 97) (by show some (Out.brk 0 ([], [((((dl pat).getD ((idx : Int)).toNat (.i 0)).cell 0).int == 97)], [])) = _; rw [hg 97]; rfl)
    refine d_jn 0 ([s, e, IntKind.i64.wrap v, x.b, x.k], [], [dl x.L]) ?_ rfl (d_rq rfl rfl)
    refine d_itT rfl (d_cut hp rfl rfl ?_)
    refine d_callx [((32 : Nat) : Int)] [] [dl (l.drop p)] ([v, s, e], [], []) e32_52 rfl rfl rfl hq rfl ?_
    refine d_jn 0 ([IntKind.i64.wrap v], [], []) (d_itT (hg 97) rfl) rfl (d_rq rfl ?_)
    refine d_jn 0 ([IntKind.i64.wrap v, x.b], [], []) (d_itF (hg 98) rfl) rfl (d_rq rfl ?_)
    refine d_lb false (by show (((((dl pat).getD ((idx : Int)).toNat (.i 0)).cell 0).int == 108) && (e == 0)) = false; rw [hg 108]; rfl) ?_
    refine d_jn 0 ([e], [], []) (d_itF rfl rfl) rfl (d_rq rfl ?_)
    refine d_loop (fun i => ([s, e], [], [dl x.L])) 0 (by omega) 5 ([s, e], [], [dl x.L]) rfl (fun i hi => by omega) (fun _ _ => rfl) ?_ rfl ?_
    · show Vx.T.den _ l32_1 [a0, 0, a2, 0, 0, (x.op : Int), (p : Int), i7, i8, (idx : Int), x.a, x.b, x.k, 0, v, s, e, 0, IntKind.i64.wrap v, 0, IntKind.i64.wrap v, x.b, 0, e, s, e] [true, false] [dl l, dl pat, dl x.L, dl (l.drop p), dl x.L] = _
      unfold l32_1
      exact d_lb false (by show (((((dl pat).getD ((idx : Int)).toNat (.i 0)).cell 0).int == 108) && (e == 0)) = false; rw [hg 108]; rfl) (d_itF rfl rfl)
    · unfold k32_2
      exact d_rq rfl rfl
  cases h : uP 32 (l.drop p) with
  | err e =>
    have hq := q_rU (l := l.drop p) hd (bits := 32) (by decide) (by decide) (by omega)
    skip
    rw [h] at hq
    have he := (uP_stbl 32).nz _ _ h
    have hL : letP 97 x (l.drop p) = .err e := by unfold letP; rw [if_neg (by decide), if_pos rfl]; exact bind_er h
    rw [hL]
    exact d_jn 0 _ (J _ _ _ hq) rfl (d_rq rfl (d_itT (ne_t he) (d_rt rfl)))
  | ok a n =>
    have hq := q_rU (l := l.drop p) hd (bits := 32) (by decide) (by decide) (by omega)
    skip
    rw [h] at hq
    have hn := (uP_stbl 32).le _ _ _ h
    have hL : letP 97 x (l.drop p) = .ok ⟨x.op, a, x.b, x.k, x.L⟩ n := by unfold letP; rw [if_neg (by decide), if_pos rfl]; rw [bind_of h]; rfl
    rw [hL]
    refine d_jn 0 _ (J _ _ _ hq) rfl (d_rq rfl (d_itF (show ((0 : Int) != 0) = false from rfl) ?_))
    have hv : a < 4294967296 := uP_ltI h
    have w := wrapN hv
    show some (Out.nxt ([arI .add .i64 (p : Int) (n : Int), i7, i8, arI .add .i64 (idx : Int) 1, IntKind.i64.wrap (a : Int), x.b, x.k], [], [dl x.L])) = _
    rw [w]
    exact fin_ok (by omega) (by omega) (by omega)
theorem let_b (hb : Bytes l) (hl : l.length ≤ 100000000) (hp : p ≤ l.length) (hi : idx < pat.length) (hpat : pat.length ≤ 2) (hc : pat.getD idx 0 = 98) :
    l32_3.den (Tab.fn a32) [a0, 0, a2, 0, 0, (x.op : Int), (p : Int), i7, i8, (idx : Int), x.a, x.b, x.k] [] [dl l, dl pat, dl x.L] = some (outL (letP 98 x (l.drop p)) p idx i7 i8) := by
  have hg : ∀ z, ((((dl pat).getD ((idx : Int)).toNat (.i 0)).cell 0).int == z) = ((98 : Int) == z) := by intro z; rw [Int.toNat_natCast, ix_dl, hc]
  have hd := hb.drop p
  have hld : (l.drop p).length ≤ 100000000 := by rw [List.length_drop]; omega
  unfold l32_3
  refine d_itT (lt_t (show (idx : Int) < ((dl pat).length : Int) by rw [dl_len]; omega)) (d_rq (ge_t (show (0 : Int) ≤ (idx : Int) by omega)) ?_)
  have J : ∀ v s e : Int, F52 [((32 : Nat) : Int)] [] [dl (l.drop p)] = some ([v, s, e], [], []) → Vx.T.den (Tab.fn a32) jT [a0, 0, a2, 0, 0, (x.op : Int), (p : Int), i7, i8, (idx : Int), x.a, x.b, x.k] [] [dl l, dl pat, dl x.L] = some (.brk 0 ([s, e, x.a, IntKind.i64.wrap v, x.k], [], [dl x.L])) := by
    intro v s e hq
    unfold jT l32_3
    refine d_itF (hg 116) ?_
    refine d_jn 0 ([], [true], []) ?_ rfl (d_rq rfl ?_)
    · exact d_itF (hg 97) (d_jn 0 ([], [true], []) (d_itT (hg 98) (by show some (Out.brk 0 ([], [((((dl pat).getD ((idx : Int)).toNat (.i 0)).cell 0).int == 98)], [])) = _; rw [hg 98]; rfl)) rfl (d_rq rfl rfl))
    refine d_jn 0 ([s, e, x.a, IntKind.i64.wrap v, x.k], [], [dl x.L]) ?_ rfl (d_rq rfl rfl)
    refine d_itT rfl (d_cut hp rfl rfl ?_)
    refine d_callx [((32 : Nat) : Int)] [] [dl (l.drop p)] ([v, s, e], [], []) e32_52 rfl rfl rfl hq rfl ?_
    refine d_jn 0 ([x.a], [], []) (d_itF (hg 97) rfl) rfl (d_rq rfl ?_)
    refine d_jn 0 ([x.a, IntKind.i64.wrap v], [], []) (d_itT (hg 98) rfl) rfl (d_rq rfl ?_)
    refine d_lb false (by show (((((dl pat).getD ((idx : Int)).toNat (.i 0)).cell 0).int == 108) && (e == 0)) = false; rw [hg 108]; rfl) ?_
    refine d_jn 0 ([e], [], []) (d_itF rfl rfl) rfl (d_rq rfl ?_)
    refine d_loop (fun i => ([s, e], [], [dl x.L])) 0 (by omega) 5 ([s, e], [], [dl x.L]) rfl (fun i hi => by omega) (fun _ _ => rfl) ?_ rfl ?_
    · show Vx.T.den _ l32_1 [a0, 0, a2, 0, 0, (x.op : Int), (p : Int), i7, i8, (idx : Int), x.a, x.b, x.k, 0, v, s, e, 0, x.a, 0, x.a, IntKind.i64.wrap v, 0, e, s, e] [true, false] [dl l, dl pat, dl x.L, dl (l.drop p), dl x.L] = _
      unfold l32_1
      exact d_lb false (by show (((((dl pat).getD ((idx : Int)).toNat (.i 0)).cell 0).int == 108) && (e == 0)) = false; rw [hg 108]; rfl) (d_itF rfl rfl)
    · unfold k32_2
      exact d_rq rfl rfl
  cases h : uP 32 (l.drop p) with
  | err e =>
    have hq := q_rU (l := l.drop p) hd (bits := 32) (by decide) (by decide) (by omega)
    skip
    rw [h] at hq
    have he := (uP_stbl 32).nz _ _ h
    have hL : letP 98 x (l.drop p) = .err e := by unfold letP; rw [if_neg (by decide), if_neg (by decide), if_pos rfl]; exact bind_er h
    rw [hL]
    exact d_jn 0 _ (J _ _ _ hq) rfl (d_rq rfl (d_itT (ne_t he) (d_rt rfl)))
  | ok a n =>
    have hq := q_rU (l := l.drop p) hd (bits := 32) (by decide) (by decide) (by omega)
    skip
    rw [h] at hq
    have hn := (uP_stbl 32).le _ _ _ h
    have hL : letP 98 x (l.drop p) = .ok ⟨x.op, x.a, a, x.k, x.L⟩ n := by unfold letP; rw [if_neg (by decide), if_neg (by decide), if_pos rfl]; rw [bind_of h]; rfl
    rw [hL]
    refine d_jn 0 _ (J _ _ _ hq) rfl (d_rq rfl (d_itF (show ((0 : Int) != 0) = false from rfl) ?_))
    have hv : a < 4294967296 := uP_ltI h
    have w := wrapN hv
    show some (Out.nxt ([arI .add .i64 (p : Int) (n : Int), i7, i8, arI .add .i64 (idx : Int) 1, x.a, IntKind.i64.wrap (a : Int), x.k], [], [dl x.L])) = _
    rw [w]
    exact fin_ok (by omega) (by omega) (by omega)
theorem let_k (hb : Bytes l) (hl : l.length ≤ 100000000) (hp : p ≤ l.length) (hi : idx < pat.length) (hpat : pat.length ≤ 2) (hc : pat.getD idx 0 = 107) :
    l32_3.den (Tab.fn a32) [a0, 0, a2, 0, 0, (x.op : Int), (p : Int), i7, i8, (idx : Int), x.a, x.b, x.k] [] [dl l, dl pat, dl x.L] = some (outL (letP 107 x (l.drop p)) p idx i7 i8) := by
  have hg : ∀ z, ((((dl pat).getD ((idx : Int)).toNat (.i 0)).cell 0).int == z) = ((107 : Int) == z) := by intro z; rw [Int.toNat_natCast, ix_dl, hc]
  have hd := hb.drop p
  have hld : (l.drop p).length ≤ 100000000 := by rw [List.length_drop]; omega
  unfold l32_3
  refine d_itT (lt_t (show (idx : Int) < ((dl pat).length : Int) by rw [dl_len]; omega)) (d_rq (ge_t (show (0 : Int) ≤ (idx : Int) by omega)) ?_)
  have J : ∀ v s e : Int, F54 [((32 : Nat) : Int)] [] [dl (l.drop p)] = some ([v, s, e], [], []) → Vx.T.den (Tab.fn a32) jT [a0, 0, a2, 0, 0, (x.op : Int), (p : Int), i7, i8, (idx : Int), x.a, x.b, x.k] [] [dl l, dl pat, dl x.L] = some (.brk 0 ([s, e, x.a, x.b, v], [], [dl x.L])) := by
    intro v s e hq
    unfold jT l32_3
    refine d_itF (hg 116) ?_
    refine d_jn 0 ([], [false], []) ?_ rfl (d_rq rfl ?_)
    · refine d_itF (hg 97) (d_jn 0 ([], [false], []) (d_itF (hg 98) ?_) rfl (d_rq rfl rfl))
      show some (Out.brk 0 ([], [((((dl pat).getD ((idx : Int)).toNat (.i 0)).cell 0).int == 108)], [])) = _; rw [hg 108]; rfl
    refine d_jn 0 ([s, e, x.a, x.b, v], [], [dl x.L]) ?_ rfl (d_rq rfl rfl)
    refine d_itF rfl (d_jn 0 ([s, e, v], [], []) ?_ rfl (d_rq rfl rfl))
    refine d_itT (hg 107) (d_cut hp rfl rfl ?_)
    refine d_callx [((32 : Nat) : Int)] [] [dl (l.drop p)] ([v, s, e], [], []) e32_54 rfl rfl rfl hq rfl rfl
  cases h : sP 32 (l.drop p) with
  | err e =>
    have hq := q_rS (l := l.drop p) hd (bits := 32) (by decide) (by decide) (by omega)
    skip
    rw [h] at hq
    have he := (sP_stbl 32).nz _ _ h
    have hL : letP 107 x (l.drop p) = .err e := by unfold letP; rw [if_neg (by decide), if_neg (by decide), if_neg (by decide), if_neg (by decide), if_pos rfl]; exact bind_er h
    rw [hL]
    exact d_jn 0 _ (J _ _ _ hq) rfl (d_rq rfl (d_itT (ne_t he) (d_rt rfl)))
  | ok a n =>
    have hq := q_rS (l := l.drop p) hd (bits := 32) (by decide) (by decide) (by omega)
    skip
    rw [h] at hq
    have hn := (sP_stbl 32).le _ _ _ h
    have hL : letP 107 x (l.drop p) = .ok ⟨x.op, x.a, x.b, a, x.L⟩ n := by unfold letP; rw [if_neg (by decide), if_neg (by decide), if_neg (by decide), if_neg (by decide), if_pos rfl]; rw [bind_of h]; rfl
    rw [hL]
    refine d_jn 0 _ (J _ _ _ hq) rfl (d_rq rfl (d_itF (show ((0 : Int) != 0) = false from rfl) ?_))
    exact fin_ok (by omega) (by omega) (by omega)
theorem let_q (hb : Bytes l) (hl : l.length ≤ 100000000) (hp : p ≤ l.length) (hi : idx < pat.length) (hpat : pat.length ≤ 2) (hc : pat.getD idx 0 = 113) :
    l32_3.den (Tab.fn a32) [a0, 0, a2, 0, 0, (x.op : Int), (p : Int), i7, i8, (idx : Int), x.a, x.b, x.k] [] [dl l, dl pat, dl x.L] = some (outL (letP 113 x (l.drop p)) p idx i7 i8) := by
  have hg : ∀ z, ((((dl pat).getD ((idx : Int)).toNat (.i 0)).cell 0).int == z) = ((113 : Int) == z) := by intro z; rw [Int.toNat_natCast, ix_dl, hc]
  have hd := hb.drop p
  have hld : (l.drop p).length ≤ 100000000 := by rw [List.length_drop]; omega
  unfold l32_3
  refine d_itT (lt_t (show (idx : Int) < ((dl pat).length : Int) by rw [dl_len]; omega)) (d_rq (ge_t (show (0 : Int) ≤ (idx : Int) by omega)) ?_)
  have J : ∀ v s e : Int, F54 [((64 : Nat) : Int)] [] [dl (l.drop p)] = some ([v, s, e], [], []) → Vx.T.den (Tab.fn a32) jT [a0, 0, a2, 0, 0, (x.op : Int), (p : Int), i7, i8, (idx : Int), x.a, x.b, x.k] [] [dl l, dl pat, dl x.L] = some (.brk 0 ([s, e, x.a, x.b, v], [], [dl x.L])) := by
    intro v s e hq
    unfold jT l32_3
    refine d_itF (hg 116) ?_
    refine d_jn 0 ([], [false], []) ?_ rfl (d_rq rfl ?_)
    · refine d_itF (hg 97) (d_jn 0 ([], [false], []) (d_itF (hg 98) ?_) rfl (d_rq rfl rfl))
      show some (Out.brk 0 ([], [((((dl pat).getD ((idx : Int)).toNat (.i 0)).cell 0).int == 108)], [])) = _; rw [hg 108]; rfl
    refine d_jn 0 ([s, e, x.a, x.b, v], [], [dl x.L]) ?_ rfl (d_rq rfl rfl)
    refine d_itF rfl (d_jn 0 ([s, e, v], [], []) ?_ rfl (d_rq rfl rfl))
    refine d_itF (hg 107) (d_jn 0 ([s, e, v], [], []) ?_ rfl (d_rq rfl rfl))
    refine d_itT (hg 113) (d_cut hp rfl rfl ?_)
    refine d_callx [((64 : Nat) : Int)] [] [dl (l.drop p)] ([v, s, e], [], []) e32_54 rfl rfl rfl hq rfl rfl
  cases h : sP 64 (l.drop p) with
  | err e =>
    have hq := q_rS (l := l.drop p) hd (bits := 64) (by decide) (by decide) (by omega)
    skip
    rw [h] at hq
    have he := (sP_stbl 64).nz _ _ h
    have hL : letP 113 x (l.drop p) = .err e := by unfold letP; rw [if_neg (by decide), if_neg (by decide), if_neg (by decide), if_neg (by decide), if_neg (by decide), if_pos rfl]; exact bind_er h
    rw [hL]
    exact d_jn 0 _ (J _ _ _ hq) rfl (d_rq rfl (d_itT (ne_t he) (d_rt rfl)))
  | ok a n =>
    have hq := q_rS (l := l.drop p) hd (bits := 64) (by decide) (by decide) (by omega)
    skip
    rw [h] at hq
    have hn := (sP_stbl 64).le _ _ _ h
    have hL : letP 113 x (l.drop p) = .ok ⟨x.op, x.a, x.b, a, x.L⟩ n := by unfold letP; rw [if_neg (by decide), if_neg (by decide), if_neg (by decide), if_neg (by decide), if_neg (by decide), if_pos rfl]; rw [bind_of h]; rfl
    rw [hL]
    refine d_jn 0 _ (J _ _ _ hq) rfl (d_rq rfl (d_itF (show ((0 : Int) != 0) = false from rfl) ?_))
    exact fin_ok (by omega) (by omega) (by omega)
theorem let_dot (hb : Bytes l) (hl : l.length ≤ 100000000) (hp : p ≤ l.length) (hi : idx < pat.length) (hpat : pat.length ≤ 2) (hc : pat.getD idx 0 = 46) :
    l32_3.den (Tab.fn a32) [a0, 0, a2, 0, 0, (x.op : Int), (p : Int), i7, i8, (idx : Int), x.a, x.b, x.k] [] [dl l, dl pat, dl x.L] = some (outL (letP 46 x (l.drop p)) p idx i7 i8) := by
  have hg : ∀ z, ((((dl pat).getD ((idx : Int)).toNat (.i 0)).cell 0).int == z) = ((46 : Int) == z) := by intro z; rw [Int.toNat_natCast, ix_dl, hc]
  have hd := hb.drop p
  have hld : (l.drop p).length ≤ 100000000 := by rw [List.length_drop]; omega
  have J : Vx.T.den (Tab.fn a32) jT [a0, 0, a2, 0, 0, (x.op : Int), (p : Int), i7, i8, (idx : Int), x.a, x.b, x.k] [] [dl l, dl pat, dl x.L] = some (.brk 0 ([((0 : Nat) : Int), 0, x.a, x.b, x.k], [], [dl x.L])) := by
    unfold jT l32_3
    refine d_itF (hg 116) ?_
    refine d_jn 0 ([], [false], []) ?_ rfl (d_rq rfl ?_)
    · refine d_itF (hg 97) (d_jn 0 ([], [false], []) (d_itF (hg 98) ?_) rfl (d_rq rfl rfl))
      show some (Out.brk 0 ([], [((((dl pat).getD ((idx : Int)).toNat (.i 0)).cell 0).int == 108)], [])) = _; rw [hg 108]; rfl
    refine d_jn 0 ([0, 0, x.a, x.b, x.k], [], [dl x.L]) ?_ rfl (d_rq rfl rfl)
    refine d_itF rfl (d_jn 0 ([0, 0, x.k], [], []) ?_ rfl (d_rq rfl rfl))
    refine d_itF (hg 107) (d_jn 0 ([0, 0, x.k], [], []) ?_ rfl (d_rq rfl rfl))
    refine d_itF (hg 113) (d_jn 0 ([0, 0], [], []) ?_ rfl (d_rq rfl rfl))
    exact d_itF (hg 122) rfl
  unfold l32_3
  refine d_itT (lt_t (show (idx : Int) < ((dl pat).length : Int) by rw [dl_len]; omega)) (d_rq (ge_t (show (0 : Int) ≤ (idx : Int) by omega)) ?_)
  have hL : letP 46 x (l.drop p) = .ok x 0 := rfl
  rw [hL]
  refine d_jn 0 _ J rfl (d_rq rfl (d_itF (show ((0 : Int) != 0) = false from rfl) ?_))
  exact fin_ok (by omega) (by omega) (by omega)
theorem let_z (hb : Bytes l) (hl : l.length ≤ 100000000) (hp : p ≤ l.length) (hi : idx < pat.length) (hpat : pat.length ≤ 2) (hc : pat.getD idx 0 = 122) :
    l32_3.den (Tab.fn a32) [a0, 0, a2, 0, 0, (x.op : Int), (p : Int), i7, i8, (idx : Int), x.a, x.b, x.k] [] [dl l, dl pat, dl x.L] = some (outL (letP 122 x (l.drop p)) p idx i7 i8) := by
  have hg : ∀ z, ((((dl pat).getD ((idx : Int)).toNat (.i 0)).cell 0).int == z) = ((122 : Int) == z) := by intro z; rw [Int.toNat_natCast, ix_dl, hc]
  have hd := hb.drop p
  have hld : (l.drop p).length ≤ 100000000 := by rw [List.length_drop]; omega
  have J : ∀ e : Int, (l.length ≤ p ∧ e = 1) ∨ (p < l.length ∧ e = (if l.getD p 0 = 0 then 0 else 2)) → Vx.T.den (Tab.fn a32) jT [a0, 0, a2, 0, 0, (x.op : Int), (p : Int), i7, i8, (idx : Int), x.a, x.b, x.k] [] [dl l, dl pat, dl x.L] = some (.brk 0 ([((1 : Nat) : Int), e, x.a, x.b, x.k], [], [dl x.L])) := by
    intro e he
    unfold jT l32_3
    refine d_itF (hg 116) ?_
    refine d_jn 0 ([], [false], []) ?_ rfl (d_rq rfl ?_)
    · refine d_itF (hg 97) (d_jn 0 ([], [false], []) (d_itF (hg 98) ?_) rfl (d_rq rfl rfl))
      show some (Out.brk 0 ([], [((((dl pat).getD ((idx : Int)).toNat (.i 0)).cell 0).int == 108)], [])) = _; rw [hg 108]; rfl
    refine d_jn 0 ([1, e, x.a, x.b, x.k], [], [dl x.L]) ?_ rfl (d_rq rfl rfl)
    refine d_itF rfl (d_jn 0 ([1, e, x.k], [], []) ?_ rfl (d_rq rfl rfl))
    refine d_itF (hg 107) (d_jn 0 ([1, e, x.k], [], []) ?_ rfl (d_rq rfl rfl))
    refine d_itF (hg 113) (d_jn 0 ([1, e], [], []) ?_ rfl (d_rq rfl rfl))
    refine d_itT (hg 122) (d_jn 0 ([e], [], []) ?_ rfl (d_rq rfl rfl))
    rcases he with ⟨h1, rfl⟩ | ⟨h1, h2⟩
    · exact d_itT (ge_t (show ((dl l).length : Int) ≤ (p : Int) by rw [dl_len]; omega)) rfl
    · have r : (decide ((p : Int) ≥ 0) && decide ((p : Int) < ((dl l).length : Int))) = true := by rw [dl_len]; simp; omega
      refine d_itF (ge_f (show (p : Int) < ((dl l).length : Int) by rw [dl_len]; omega)) (d_rq (c := E.an _ _) r (d_rq (c := E.an _ _) r (d_jn 0 ([e], [], []) ?_ rfl (d_rq rfl rfl))))
      have hx : (((dl l).getD ((p : Int)).toNat (.i 0)).cell 0).int = l.getD p 0 := by rw [Int.toNat_natCast, ix_dl]
      by_cases hz : l.getD p 0 = 0
      · rw [if_pos hz] at h2; subst h2
        exact d_itF (ne_f (hx.trans hz)) rfl
      · rw [if_neg hz] at h2; subst h2
        exact d_itT (ne_t (by show (((dl l).getD ((p : Int)).toNat (.i 0)).cell 0).int ≠ 0; rw [hx]; exact hz)) rfl
  unfold l32_3
  refine d_itT (lt_t (show (idx : Int) < ((dl pat).length : Int) by rw [dl_len]; omega)) (d_rq (ge_t (show (0 : Int) ≤ (idx : Int) by omega)) ?_)
  have hL : letP 122 x = zeroP.bind fun _ _ => .ok x 0 := by unfold letP; rw [if_neg (by decide), if_neg (by decide), if_neg (by decide), if_neg (by decide), if_neg (by decide), if_neg (by decide), if_pos rfl]
  rw [hL]
  by_cases h1 : l.length ≤ p
  · have hz : zeroP (l.drop p) = .err 1 := by rw [List.drop_eq_nil_of_le h1]; rfl
    rw [bind_er hz]
    exact d_jn 0 _ (J 1 (.inl ⟨h1, rfl⟩)) rfl (d_rq rfl (d_itT (show ((1 : Int) != 0) = true from rfl) (d_rt rfl)))
  · have hcons : l.drop p = l.getD p 0 :: l.drop (p + 1) := by
      rw [List.getD_eq_getElem?_getD, List.getElem?_eq_getElem (by omega)]
      exact List.drop_eq_getElem_cons (by omega)
    by_cases hz : l.getD p 0 = 0
    · have h2 : zeroP (l.drop p) = .ok () 1 := by rw [hcons, hz]; rfl
      rw [bind_of h2]
      refine d_jn 0 _ (J 0 (.inr ⟨by omega, by rw [if_pos hz]⟩)) rfl (d_rq rfl (d_itF (show ((0 : Int) != 0) = false from rfl) ?_))
      exact fin_ok (by omega) (by omega) (by omega)
    · have h2 : zeroP (l.drop p) = .err 2 := by
        rw [hcons]
        show (byteP.bind _) _ = _
        rw [bind_of (a := l.getD p 0) (n := 1) rfl, if_neg hz]
      rw [bind_er h2]
      exact d_jn 0 _ (J 2 (.inr ⟨by omega, by rw [if_neg hz]⟩)) rfl (d_rq rfl (d_itT (show ((2 : Int) != 0) = true from rfl) (d_rt rfl)))
theorem let_l (hb : Bytes l) (hl : l.length ≤ 100000000) (hp : p ≤ l.length) (hi : idx < pat.length) (hpat : pat.length ≤ 2) (hc : pat.getD idx 0 = 108) (hxL : x.L = []) :
    l32_3.den (Tab.fn a32) [a0, 0, a2, 0, 0, (x.op : Int), (p : Int), i7, i8, (idx : Int), x.a, x.b, x.k] [] [dl l, dl pat, dl x.L] = some (outL (letP 108 x (l.drop p)) p idx i7 i8) := by
  have hg : ∀ z, ((((dl pat).getD ((idx : Int)).toNat (.i 0)).cell 0).int == z) = ((108 : Int) == z) := by intro z; rw [Int.toNat_natCast, ix_dl, hc]
  have hd := hb.drop p
  have hld : (l.drop p).length ≤ 100000000 := by rw [List.length_drop]; omega
  have hle := (uP_stbl 32).le (l.drop p)
  have hu := q_rU (l := l.drop p) hd (bits := 32) (by decide) (by decide) (by omega)
  -- up to the loop
  have J : ∀ (v s e e' : Int) (R : List Int) (Q : List D), F52 [((32 : Nat) : Int)] [] [dl (l.drop p)] = some ([v, s, e], [], []) → (((e == 0) && decide (v > 64)) = true ∧ e' = 4 ∨ ((e == 0) && decide (v > 64)) = false ∧ e' = e) →
      (∃ s' e2, R = [s', e2, x.a, x.b, x.k] ∧ iterT 2 0 1 (fun r => l32_1.den (Tab.fn a32) (([a0, 0, a2, 0, 0, (x.op : Int), (p : Int), i7, i8, (idx : Int), x.a, x.b, x.k, 0, v, s, e, 0, x.a, 0, x.a, x.b, 0, e'] : List Int) ++ r.1) ([true, (e == 0)] ++ r.2.1) ([dl l, dl pat, dl x.L, dl (l.drop p)] ++ r.2.2)) fuel ([s, e'], [], [dl x.L]) = some (.brk 5 ([s', e2], [], [Q]))) → Vx.T.den (Tab.fn a32) jT [a0, 0, a2, 0, 0, (x.op : Int), (p : Int), i7, i8, (idx : Int), x.a, x.b, x.k] [] [dl l, dl pat, dl x.L] = some (.brk 0 (R, [], [Q])) := by
    rintro v s e e' R Q hq he' ⟨s', e2, rfl, hit⟩
    unfold jT l32_3
    refine d_itF (hg 116) ?_
    refine d_jn 0 ([], [true], []) ?_ rfl (d_rq rfl ?_)
    · refine d_itF (hg 97) (d_jn 0 ([], [true], []) (d_itF (hg 98) ?_) rfl (d_rq rfl rfl))
      show some (Out.brk 0 ([], [((((dl pat).getD ((idx : Int)).toNat (.i 0)).cell 0).int == 108)], [])) = _; rw [hg 108]; rfl
    refine d_jn 0 ([s', e2, x.a, x.b, x.k], [], [Q]) ?_ rfl (d_rq rfl rfl)
    refine d_itT rfl (d_cut hp rfl rfl ?_)
    refine d_callx [((32 : Nat) : Int)] [] [dl (l.drop p)] ([v, s, e], [], []) e32_52 rfl rfl rfl hq rfl ?_
    refine d_jn 0 ([x.a], [], []) (d_itF (hg 97) rfl) rfl (d_rq rfl ?_)
    refine d_jn 0 ([x.a, x.b], [], []) (d_itF (hg 98) rfl) rfl (d_rq rfl ?_)
    refine d_lb (e == 0) (by show (((((dl pat).getD ((idx : Int)).toNat (.i 0)).cell 0).int == 108) && (e == 0)) = _; rw [hg 108]; rfl) ?_
    refine d_jn 0 ([e'], [], []) ?_ rfl (d_rq rfl ?_)
    · rcases he' with ⟨h1, rfl⟩ | ⟨h1, rfl⟩
      · exact d_itT h1 rfl
      · exact d_itF h1 rfl
    refine d_lp ([s', e2], [], [Q]) hit rfl ?_
    unfold k32_2
    exact d_rq rfl rfl
  unfold l32_3
  refine d_itT (lt_t (show (idx : Int) < ((dl pat).length : Int) by rw [dl_len]; omega)) (d_rq (ge_t (show (0 : Int) ≤ (idx : Int) by omega)) ?_)
  have hLP : letP 108 x = labelsP.bind fun L _ => .ok ⟨x.op, x.a, x.b, x.k, L⟩ 0 := by unfold letP; rw [if_neg (by decide), if_neg (by decide), if_neg (by decide), if_pos rfl]
  rw [hLP]
  -- the loop ends at once if there is an error
  have stop : ∀ (v s e e' : Int), e' ≠ 0 → ((e == 0) = false ∨ e = 0) → iterT 2 0 1 (fun r => l32_1.den (Tab.fn a32) (([a0, 0, a2, 0, 0, (x.op : Int), (p : Int), i7, i8, (idx : Int), x.a, x.b, x.k, 0, v, s, e, 0, x.a, 0, x.a, x.b, 0, e'] : List Int) ++ r.1) ([true, (e == 0)] ++ r.2.1) ([dl l, dl pat, dl x.L, dl (l.drop p)] ++ r.2.2)) fuel ([s, e'], [], [dl x.L]) = some (.brk 5 ([s, e'], [], [dl x.L])) := by
    intro v s e e' h1 _
    obtain ⟨m, hm⟩ := fuel_eq 1 (by omega)
    rw [hm]
    refine it_brk ?_
    show Vx.T.den _ l32_1 [a0, 0, a2, 0, 0, (x.op : Int), (p : Int), i7, i8, (idx : Int), x.a, x.b, x.k, 0, v, s, e, 0, x.a, 0, x.a, x.b, 0, e', s, e'] [true, (e == 0)] [dl l, dl pat, dl x.L, dl (l.drop p), dl x.L] = _
    unfold l32_1
    refine d_lb false (by show (((((dl pat).getD ((idx : Int)).toNat (.i 0)).cell 0).int == 108) && (e' == 0)) = _; rw [hg 108, eq_f h1]; rfl) (d_itF rfl rfl)
  cases h : uP 32 (l.drop p) with
  | err e =>
    rw [h] at hu
    have he := (uP_stbl 32).nz _ _ h
    have hL : labelsP (l.drop p) = .err e := bind_er h
    rw [bind_er hL]
    refine d_jn 0 _ (J 0 0 e e _ _ hu (.inr ⟨by rw [eq_f he]; rfl, rfl⟩) ⟨0, e, rfl, stop _ _ _ _ he (.inl (eq_f he))⟩) rfl (d_rq rfl (d_itT (ne_t he) (d_rt rfl)))
  | ok n s =>
    rw [h] at hu
    have hn := hle n s h
    have hv := uP_ltI h
    have hdd : (l.drop p).drop s = l.drop (p + s) := List.drop_drop
    by_cases h64 : 64 < n
    · have hL : labelsP (l.drop p) = .err 4 := by unfold labelsP; rw [bind_of h, if_pos h64]
      rw [bind_er hL]
      refine d_jn 0 _ (J _ _ 0 4 _ _ hu (.inl ⟨by rw [gt_t (by omega)]; rfl, rfl⟩) ⟨_, 4, rfl, stop _ _ _ _ (by decide) (.inr rfl)⟩) rfl (d_rq rfl (d_itT (show ((4 : Int) != 0) = true from rfl) (d_rt rfl)))
    · have hL : labelsP (l.drop p) = match loopU n (l.drop (p + s)) with | .err e => .err e | .ok r m => .ok r (s + m) := by
        unfold labelsP; rw [bind_of h, if_neg h64, hdd]
        cases loopU n (l.drop (p + s)) <;> rfl
      rw [List.length_drop] at hn
      obtain ⟨m, hm⟩ := fuel_eq (n + 1) (by omega)
      obtain ⟨s', L, g1, g2⟩ := lp_lab hb hl hp hg (n := n) (by omega) a0 a2 i7 i8 (s : Int) x (dl x.L) n 0 (p + s) m [] (by omega) rfl (by omega) (by omega)
      rw [← hm, show p + s - p = s by omega] at g1
      have hx0 : dl x.L = dl [] := by rw [hxL]
      have Jn := J (n : Int) (s : Int) 0 0 _ L hu (.inr ⟨by rw [gt_f (by omega)]; rfl, rfl⟩) ⟨s', _, rfl, by rw [hx0] at g1 ⊢; exact g1⟩
      cases h2 : loopU n (l.drop (p + s)) with
      | err e =>
        rw [h2] at hL Jn
        have he := (loopU_stbl n).nz _ _ h2
        rw [bind_er hL]
        exact d_jn 0 _ Jn rfl (d_rq rfl (d_itT (ne_t he) (d_rt rfl)))
      | ok r t =>
        rw [h2] at hL Jn
        have ht := (loopU_stbl n).le _ _ _ h2
        rw [List.length_drop] at ht
        obtain ⟨g3, g4⟩ := g2 r t h2
        rw [bind_of hL]
        rw [g3, g4, List.nil_append] at Jn
        refine d_jn 0 _ Jn rfl (d_rq rfl (d_itF (show ((0 : Int) != 0) = false from rfl) ?_))
        show some (Out.nxt ([arI .add .i64 (p : Int) ((p + s - p + t : Nat) : Int), i7, i8, arI .add .i64 (idx : Int) 1, x.a, x.b, x.k], [], [dl r])) = some (Out.nxt ([((p + (s + t + 0) : Nat) : Int), i7, i8, ((idx + 1 : Nat) : Int), x.a, x.b, x.k], [], [dl r]))
        rw [show p + s - p + t = s + t + 0 by omega]
        exact fin_ok (by omega) (by omega) (by omega)
end
end Go.Proofs.Ytmfjapphmmlppaa.WInstrPuts
