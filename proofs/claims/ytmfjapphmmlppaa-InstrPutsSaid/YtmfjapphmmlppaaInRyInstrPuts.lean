/-
  InstrPuts: the reference of layer 6: the bytes of an instruction.
-/
import Derived.Test.YtmfjapphmmlppaaInRbInstrPuts
namespace Go.Proofs.Ytmfjapphmmlppaa.WInstrPuts
set_option linter.all false
open Go.Proofs.Ytmfjapphmmlppaa.Vx Go.Proofs.Ytmfjapphmmlppaa.XInstrPuts Go.Proofs.Ytmfjapphmmlppaa.Vd Go.Proofs.Ytmfjapphmmlppaa.Vn Go.Proofs.Ytmfjapphmmlppaa.Vl Go.Proofs.Ytmfjapphmmlppaa.Vp Go.Proofs.Ytmfjapphmmlppaa.Vb Go.Proofs.Ytmfjapphmmlppaa.SInstrPuts Go.Proofs.Ytmfjapphmmlppaa.Vo Go.Proofs.Ytmfjapphmmlppaa.Vt Go.Proofs.Ytmfjapphmmlppaa.IInstrPuts Go.Proofs.Ytmfjapphmmlppaa.PInstrPuts Go.Proofs.Ytmfjapphmmlppaa.MInstrPuts Go.Proofs.Ytmfjapphmmlppaa.KInstrPuts
/-- What a letter puts. -/
def letB (c : Int) (x : Ins) : List Int :=
  if c = 116 then sBytes x.a else if c = 97 then uBytes x.a.toNat else if c = 98 then uBytes x.b.toNat else if c = 108 then uBytes x.L.length ++ lbB x.L else if c = 107 then sBytes x.k else if c = 113 then sBytes x.k else if c = 122 then [0] else []
def patB : List Int → Ins → List Int
  | [], _ => []
  | c :: r, x => letB c x ++ patB r x
theorem patB_arg {x : Ins} (h0 : fm x.op ≠ 0) (h11 : fm x.op ≠ 11) : patB (patL (fm x.op)) x = argB x := by
  have hr := fm_range x.op
  unfold argB
  have h : fm x.op = 1 ∨ fm x.op = 2 ∨ fm x.op = 3 ∨ fm x.op = 4 ∨ fm x.op = 5 ∨ fm x.op = 6 ∨ fm x.op = 7 ∨ fm x.op = 8 ∨ fm x.op = 9 ∨ fm x.op = 10 := by omega
  rcases h with h | h | h | h | h | h | h | h | h | h <;> rw [h] <;> simp [patL, patB, letB]
/-- What the reference asks of the numbers ahead of writing. -/
structure Pre (x : Ins) : Prop where
  L : ∀ v ∈ x.L, u32 v
  Ll : x.L.length ≤ 100
  b : u32 x.b
  k : -9223372036854775808 ≤ x.k ∧ x.k < 9223372036854775808
theorem u64w {a : Int} (h : u32 a) : IntKind.u64.wrap a = ((a.toNat : Nat) : Int) := by
  obtain ⟨n, rfl, h1, h2, h3⟩ := u_wrap h
  rw [h2, h3]
section
variable {pat : List Int} {x : Ins} {L1 L2 : List D}
theorem lb_loop (hx : Pre x) {idx : Nat} (A : List Int) (hA : A.length ≤ 10000) (o : List D) : ∀ (d i k : Nat), i + d = x.L.length →
    iterT 1 0 1 (fun r => l19_1.den (Tab.fn a19) (([(x.op : Int), x.a, x.b, x.k, 0, (idx : Int)] : List Int) ++ r.1) ([] ++ r.2.1) ([dl x.L, L1, L2, dl pat, dl A, o, dl (A ++ uBytes x.L.length)] ++ r.2.2)) (k + (d + 1)) ([(i : Int)], [], [dl (A ++ uBytes x.L.length ++ lbB (x.L.take i))]) = some (.brk 5 ([(x.L.length : Int)], [], [dl (A ++ uBytes x.L.length ++ lbB x.L)])) := by
  have hu : (uBytes x.L.length).length ≤ 10 := uBytes_ten (by have := hx.Ll; omega)
  have hl100 := hx.Ll
  intro d
  induction d with
  | zero =>
    intro i k hi
    obtain rfl : i = x.L.length := by omega
    refine it_brk ?_
    rw [List.take_length]
    show Vx.T.den _ l19_1 [(x.op : Int), x.a, x.b, x.k, 0, (idx : Int), (x.L.length : Int)] [] [dl x.L, L1, L2, dl pat, dl A, o, dl (A ++ uBytes x.L.length), dl (A ++ uBytes x.L.length ++ lbB x.L)] = _
    unfold l19_1
    exact d_itF (lt_f (show ((dl x.L).length : Int) ≤ (x.L.length : Int) by rw [dl_len]; omega)) rfl
  | succ d ih =>
    intro i k hi
    refine it_nxt (r' := ([((i + 1 : Nat) : Int)], [], [dl (A ++ uBytes x.L.length ++ lbB (x.L.take (i + 1)))])) ?_ rfl (ih (i + 1) k (by omega))
    have hi' : i < x.L.length := by omega
    have hv : u32 (x.L.getD i 0) := by
      rw [List.getD_eq_getElem?_getD, List.getElem?_eq_getElem hi']
      exact hx.L _ (List.getElem_mem _)
    have hle := lbB_le (L := x.L.take i) (fun v hv => hx.L v (List.mem_of_mem_take hv))
    rw [List.length_take] at hle
    have hlen : (A ++ uBytes x.L.length ++ lbB (x.L.take i)).length ≤ 20000 := by simp only [List.length_append]; omega
    have e3 : dl (A ++ uBytes x.L.length ++ lbB (x.L.take (i + 1))) = dl (A ++ uBytes x.L.length ++ lbB (x.L.take i)) ++ dl (uBytes (x.L.getD i 0).toNat) := by rw [lbB_succ hi', ← List.append_assoc, dl_app]
    rw [e3]
    clear e3
    show Vx.T.den _ l19_1 [(x.op : Int), x.a, x.b, x.k, 0, (idx : Int), (i : Int)] [] [dl x.L, L1, L2, dl pat, dl A, o, dl (A ++ uBytes x.L.length), dl (A ++ uBytes x.L.length ++ lbB (x.L.take i))] = _
    rw [← dl_len] at hlen
    have hub : (dl (uBytes (x.L.getD i 0).toNat)).length ≤ 10 := by rw [dl_len]; exact uB10 hv
    have hq := q_rPutU (n := (x.L.getD i 0).toNat) (by have := hv.2; omega)
    generalize dl (A ++ uBytes x.L.length ++ lbB (x.L.take i)) = Q at *
    generalize dl (uBytes (x.L.getD i 0).toNat) = U at *
    unfold l19_1
    refine d_itT (lt_t (show (i : Int) < ((dl x.L).length : Int) by rw [dl_len]; omega)) (d_rq (ge_t (show (0 : Int) ≤ (i : Int) by omega)) ?_)
    refine d_callx [(((x.L.getD i 0).toNat : Nat) : Int)] [] [] ([], [], [U]) e19_37 (by show [IntKind.u64.wrap (((dl x.L).getD ((i : Int)).toNat (.i 0)).cell 0).int] = _; rw [Int.toNat_natCast, ix_dl, u64w hv]) rfl rfl hq rfl ?_
    refine d_rq (c := E.an _ _) (an_t (le_t (show (Q.length : Int) ≤ 17592186044416 by omega)) (le_t (show (U.length : Int) ≤ 17592186044416 by omega))) (d_lst [Q ++ U] rfl ?_)
    rw [← up1 i (by omega)]; rfl
theorem let_put (hx : Pre x) {idx : Nat} {c : Int} (hi : idx < pat.length) (hpat : pat.length ≤ 2) (hc : pat.getD idx 0 = c) (hcs : letter c) (ha : c = 97 → u32 x.a) (ht : c = 116 → okBk x.a = true) (A : List Int) (hA : A.length ≤ 10000) :
    l19_3.den (Tab.fn a19) [(x.op : Int), x.a, x.b, x.k, 0, (idx : Int)] [] [dl x.L, L1, L2, dl pat, dl A] = some (.nxt ([((idx + 1 : Nat) : Int)], [], [dl (A ++ letB c x)])) := by
  have hg : ∀ z, ((((dl pat).getD ((idx : Int)).toNat (.i 0)).cell 0).int == z) = (c == z) := by intro z; rw [Int.toNat_natCast, ix_dl, hc]
  have hA' : (dl A).length ≤ 10000 := by rw [dl_len]; exact hA
  have fin : ∀ Q : List D, some (Out.nxt ([arI .add .i64 (idx : Int) 1], [], [Q])) = some (Out.nxt ([((idx + 1 : Nat) : Int)], [], [Q])) := fun Q => by rw [up1 idx (by omega)]
  have ap : ∀ (U V : List D), U.length ≤ 20000 → V.length ≤ 20000 → (decide ((U.length : Int) ≤ 17592186044416) && decide ((V.length : Int) ≤ 17592186044416)) = true := fun U V h h' => an_t (le_t (by omega)) (le_t (by omega))
  have s10 : (dl (sBytes x.k)).length ≤ 20000 := by rw [dl_len]; have := sB10 hx.k; omega
  unfold l19_3
  refine d_itT (lt_t (show (idx : Int) < ((dl pat).length : Int) by rw [dl_len]; omega)) (d_rq (ge_t (show (0 : Int) ≤ (idx : Int) by omega)) ?_)
  rcases hcs with rfl | rfl | rfl | rfl | rfl | rfl | rfl | rfl
  · have hl : letB 116 x = sBytes x.a := rfl
    rw [hl, dl_app]
    have hq := q_blockBytes x.a (ht rfl)
    have hb : (dl (sBytes x.a)).length ≤ 20000 := by
      rw [dl_len]
      have := sB10 (v := x.a) (by have := okB_range (ht rfl); omega)
      omega
    generalize dl (sBytes x.a) = U at *
    generalize dl A = Q at *
    refine d_itT (hg 116) (d_callx [x.a] [] [] ([], [], [U]) e19_38 rfl rfl rfl hq rfl ?_)
    exact d_rq (c := E.an _ _) (ap Q U (by omega) hb) (d_lst [Q ++ U] rfl (fin _))
  · have hl : letB 97 x = uBytes x.a.toNat := rfl
    rw [hl, dl_app]
    have hu := ha rfl
    have hq := q_rPutU (n := x.a.toNat) (by have := hu.2; omega)
    have hb : (dl (uBytes x.a.toNat)).length ≤ 20000 := by rw [dl_len]; have := uB10 hu; omega
    generalize dl (uBytes x.a.toNat) = U at *
    generalize dl A = Q at *
    refine d_itF (hg 116) (d_itT (hg 97) (d_callx [((x.a.toNat : Nat) : Int)] [] [] ([], [], [U]) e19_37 (by show [IntKind.u64.wrap x.a] = _; rw [u64w hu]) rfl rfl hq rfl ?_))
    exact d_rq (c := E.an _ _) (ap Q U (by omega) hb) (d_lst [Q ++ U] rfl (fin _))
  · have hl : letB 98 x = uBytes x.b.toNat := rfl
    rw [hl, dl_app]
    have hu := hx.b
    have hq := q_rPutU (n := x.b.toNat) (by have := hu.2; omega)
    have hb : (dl (uBytes x.b.toNat)).length ≤ 20000 := by rw [dl_len]; have := uB10 hu; omega
    generalize dl (uBytes x.b.toNat) = U at *
    generalize dl A = Q at *
    refine d_itF (hg 116) (d_itF (hg 97) (d_itT (hg 98) (d_callx [((x.b.toNat : Nat) : Int)] [] [] ([], [], [U]) e19_37 (by show [IntKind.u64.wrap x.b] = _; rw [u64w hu]) rfl rfl hq rfl ?_)))
    exact d_rq (c := E.an _ _) (ap Q U (by omega) hb) (d_lst [Q ++ U] rfl (fin _))
  · have hl : letB 108 x = uBytes x.L.length ++ lbB x.L := rfl
    rw [hl, ← List.append_assoc]
    have hll := hx.Ll
    have hq := q_rPutU (n := x.L.length) (by omega)
    have hb : (dl (uBytes x.L.length)).length ≤ 20000 := by rw [dl_len]; have := uBytes_ten (n := x.L.length) (by omega); omega
    obtain ⟨m, hm⟩ := fuel_eq (x.L.length + 1) (by omega)
    have hlp := lb_loop (pat := pat) (L1 := L1) (L2 := L2) hx (idx := idx) A hA (dl (uBytes x.L.length)) x.L.length 0 m (by omega)
    rw [← hm, List.take_zero, show lbB [] = [] from rfl, List.append_nil] at hlp
    refine d_itF (hg 116) (d_itF (hg 97) (d_itF (hg 98) (d_itT (hg 108) (d_callx [((x.L.length : Nat) : Int)] [] [] ([], [], [dl (uBytes x.L.length)]) e19_37 (by show [IntKind.u64.wrap ((dl x.L).length : Int)] = _; rw [dl_len, wu (by omega) (by omega)]) rfl rfl hq rfl ?_))))
    refine d_rq (c := E.an _ _) (ap (dl A) (dl (uBytes x.L.length)) (by omega) hb) (d_lst [dl (A ++ uBytes x.L.length)] (by rw [dl_app]; rfl) ?_)
    refine d_lp _ hlp rfl ?_
    unfold k19_2
    exact d_rq rfl (fin _)
  · have hl : letB 107 x = sBytes x.k := rfl
    rw [hl, dl_app]
    have hq := q_rPutS (n := x.k) hx.k.1 (by have := hx.k.2; omega)
    generalize dl (sBytes x.k) = U at *
    generalize dl A = Q at *
    refine d_itF (hg 116) (d_itF (hg 97) (d_itF (hg 98) (d_itF (hg 108) (d_itT (hg 107) (d_itT (hg 107) (d_callx [x.k] [] [] ([], [], [U]) e19_39 rfl rfl rfl hq rfl ?_))))))
    exact d_rq (c := E.an _ _) (ap Q U (by omega) s10) (d_lst [Q ++ U] rfl (fin _))
  · have hl : letB 113 x = sBytes x.k := rfl
    rw [hl, dl_app]
    have hq := q_rPutS (n := x.k) hx.k.1 (by have := hx.k.2; omega)
    generalize dl (sBytes x.k) = U at *
    generalize dl A = Q at *
    refine d_itF (hg 116) (d_itF (hg 97) (d_itF (hg 98) (d_itF (hg 108) (d_itF (hg 107) (d_itT (hg 113) (d_callx [x.k] [] [] ([], [], [U]) e19_39 rfl rfl rfl hq rfl ?_))))))
    exact d_rq (c := E.an _ _) (ap Q U (by omega) s10) (d_lst [Q ++ U] rfl (fin _))
  · have hl : letB 122 x = [0] := rfl
    rw [hl, dl_app, show dl [0] = [D.i 0] from rfl]
    generalize dl A = Q at *
    refine d_itF (hg 116) (d_itF (hg 97) (d_itF (hg 98) (d_itF (hg 108) (d_itF (hg 107) (d_itF (hg 113) (d_itT (hg 122) (d_lst [[.i 0]] rfl ?_)))))))
    exact d_rq (c := E.an _ _) (ap Q [.i 0] (by omega) (by simp)) (d_lst [Q ++ [D.i 0]] rfl (fin _))
  · have hl : letB 46 x = [] := rfl
    rw [hl, List.append_nil]
    refine d_itF (hg 116) (d_itF (hg 97) (d_itF (hg 98) (d_itF (hg 108) (d_itF (hg 107) (d_itF (hg 113) (d_itF (hg 122) (fin _)))))))
theorem letB_len (hx : Pre x) {c : Int} (hcs : letter c) (ha : c = 97 → u32 x.a) (ht : c = 116 → okBk x.a = true) : (letB c x).length ≤ 2000 := by
  rcases hcs with rfl | rfl | rfl | rfl | rfl | rfl | rfl | rfl
  · show (sBytes x.a).length ≤ 2000
    have := sB10 (v := x.a) (by have := okB_range (ht rfl); omega)
    omega
  · show (uBytes x.a.toNat).length ≤ 2000
    have := uB10 (ha rfl); omega
  · show (uBytes x.b.toNat).length ≤ 2000
    have := uB10 hx.b; omega
  · show (uBytes x.L.length ++ lbB x.L).length ≤ 2000
    have := uBytes_ten (n := x.L.length) (by have := hx.Ll; omega)
    have := lbB_le hx.L
    have := hx.Ll
    rw [List.length_append]; omega
  · show (sBytes x.k).length ≤ 2000
    have := sB10 hx.k; omega
  · show (sBytes x.k).length ≤ 2000
    have := sB10 hx.k; omega
  · show ([0] : List Int).length ≤ 2000
    decide
  · show ([] : List Int).length ≤ 2000
    decide
theorem lp_put (hx : Pre x) (hpat : pat.length ≤ 2) : ∀ (r : List Int) (idx k : Nat) (A : List Int), pat.drop idx = r → idx + r.length = pat.length → (∀ c ∈ r, letter c) → (∀ c ∈ r, c = 97 → u32 x.a) → (∀ c ∈ r, c = 116 → okBk x.a = true) → A.length + 2000 * r.length ≤ 10000 →
    iterT 1 0 1 (fun q => l19_3.den (Tab.fn a19) (([(x.op : Int), x.a, x.b, x.k, 0] : List Int) ++ q.1) ([] ++ q.2.1) ([dl x.L, L1, L2, dl pat] ++ q.2.2)) (k + (r.length + 1)) ([(idx : Int)], [], [dl A]) = some (.brk 2 ([(pat.length : Int)], [], [dl (A ++ patB r x)])) := by
  intro r
  induction r with
  | nil =>
    intro idx k A h1 h2 _ _ _ hA
    have h2 : idx = pat.length := by simpa using h2
    refine it_brk ?_
    show Vx.T.den _ l19_3 [(x.op : Int), x.a, x.b, x.k, 0, (idx : Int)] [] [dl x.L, L1, L2, dl pat, dl A] = _
    unfold l19_3
    refine d_itF (lt_f (show ((dl pat).length : Int) ≤ (idx : Int) by rw [dl_len]; omega)) ?_
    rw [h2, show patB [] x = [] from rfl, List.append_nil]; rfl
  | cons c r ih =>
    intro idx k A h1 h2 h3 h4 h5 hA
    simp only [List.length_cons] at h2 hA
    have hi : idx < pat.length := by omega
    have hc : pat.getD idx 0 = c := by
      have := congrArg (fun q => q.getD 0 0) h1
      simp only [List.getD_cons_zero] at this
      rw [← this, List.getD_eq_getElem?_getD, List.getD_eq_getElem?_getD, List.getElem?_drop]; rfl
    have hr : pat.drop (idx + 1) = r := by
      have := congrArg List.tail h1
      rw [List.tail_drop] at this
      exact this
    have hcl := h3 c List.mem_cons_self
    have ha := h4 c List.mem_cons_self
    have ht := h5 c List.mem_cons_self
    have hb1 := let_put (L1 := L1) (L2 := L2) hx hi hpat hc hcl ha ht A (by omega)
    have hlen := letB_len hx hcl ha ht
    have := ih (idx + 1) k (A ++ letB c x) hr (by omega) (fun c' hc' => h3 c' (List.mem_cons_of_mem _ hc')) (fun c' hc' => h4 c' (List.mem_cons_of_mem _ hc')) (fun c' hc' => h5 c' (List.mem_cons_of_mem _ hc')) (by rw [List.length_append]; omega)
    rw [show patB (c :: r) x = letB c x ++ patB r x from rfl, ← List.append_assoc]
    exact it_nxt hb1 rfl this
end
theorem q_rBytes {x : Ins} (ho : x.op < 512) (h0 : fm x.op ≠ 0) (h11 : fm x.op ≠ 11) (hx : Pre x) (ha : fm x.op ≠ 2 → u32 x.a) (ht : fm x.op = 2 → okBk x.a = true) : F19 [(x.op : Int), x.a, x.b, x.k] [] [dl x.L] = some ([], [], [dl (insB x)]) := by
  have hr := fm_range x.op
  obtain ⟨g1, _, g3, _, _⟩ := patL_ok hr.1 hr.2 h0 h11
  have g6 : ∀ c ∈ patL (fm x.op), c = 97 → u32 x.a := fun c hc e => ha fun h2 => by rw [h2] at hc; simp [patL] at hc; omega
  have g7 : ∀ c ∈ patL (fm x.op), c = 116 → okBk x.a = true := fun c hc e => ht (by
    have h : fm x.op = 1 ∨ fm x.op = 2 ∨ fm x.op = 3 ∨ fm x.op = 4 ∨ fm x.op = 5 ∨ fm x.op = 6 ∨ fm x.op = 7 ∨ fm x.op = 8 ∨ fm x.op = 9 ∨ fm x.op = 10 := by omega
    rcases h with h | h | h | h | h | h | h | h | h | h <;> rw [h] at hc ⊢ <;> simp [patL] at hc <;> omega)
  have hp := q_pat ho
  have hB := patB_arg h0 h11
  refine of_ret ?_
  unfold t19
  refine d_lst [[.i (IntKind.u8.wrap (x.op : Int))]] rfl ?_
  have hcl : (codeB x.op).length ≤ 20 := by
    unfold codeB
    split
    · rw [List.length_cons]; have := uBytes_ten (n := x.op - 256) (by omega); omega
    · simp
  refine d_jn 0 ([], [], [dl (codeB x.op)]) ?_ rfl (d_rq rfl ?_)
  · by_cases h256 : 256 ≤ x.op
    · obtain ⟨w, hw⟩ : ∃ w : Nat, w = x.op - 256 := ⟨_, rfl⟩
      have hc : codeB x.op = 252 :: uBytes w := by unfold codeB; rw [if_pos h256, hw]
      rw [hc]
      have hq := q_rPutU (n := w) (by omega)
      have hl : (dl (uBytes w)).length ≤ 10 := by rw [dl_len]; exact uBytes_ten (by omega)
      have e2 : dl (252 :: uBytes w) = [.i 252] ++ dl (uBytes w) := rfl
      rw [e2]
      generalize dl (uBytes w) = U at *
      have e3 : IntKind.u64.wrap (arI .sub .i64 (x.op : Int) 256) = (w : Int) := by rw [subI (by omega) (by omega), wu (by omega) (by omega)]; omega
      refine d_itT (ge_t (show (256 : Int) ≤ (x.op : Int) by omega)) (d_lst [[.i 252]] rfl ?_)
      refine d_callx [(w : Int)] [] [] ([], [], [U]) e19_37 (congrArg (fun z => [z]) e3) rfl rfl hq rfl ?_
      exact d_rq (c := E.an _ _) (an_t rfl (le_t (show (U.length : Int) ≤ 17592186044416 by omega))) (d_lst [[.i 252] ++ U] rfl rfl)
    · have hc : codeB x.op = [(x.op : Int)] := by unfold codeB; rw [if_neg h256]
      rw [hc]
      refine d_itF (ge_f (show (x.op : Int) < 256 by omega)) ?_
      show some (Out.brk 0 ([], [], [[.i (IntKind.u8.wrap (x.op : Int))]])) = some (Out.brk 0 ([], [], [[.i (x.op : Int)]]))
      have : IntKind.u8.wrap (x.op : Int) = (x.op : Int) := by
        simp only [IntKind.wrap, IntKind.bits, IntKind.signed, Nat.reducePow, Int.reducePow, Bool.false_and]
        simp; omega
      rw [this]
  refine d_callx [(x.op : Int)] [] [] ([], [], [dl (patL (fm x.op))]) e19_30 rfl rfl rfl hp rfl ?_
  generalize patL (fm x.op) = pat at *
  obtain ⟨m, hm⟩ := fuel_eq (pat.length + 1) (by omega)
  have h := lp_put (L1 := [.i (IntKind.u8.wrap (x.op : Int))]) (L2 := dl (codeB x.op)) hx g3 pat 0 m (codeB x.op) List.drop_zero (by omega) g1 g6 g7 (by omega)
  rw [← hm] at h
  refine d_lp _ h rfl ?_
  unfold k19_4
  refine d_rq rfl ?_
  show some (Out.ret ([], [], [dl (codeB x.op ++ patB pat x)])) = some (Out.ret ([], [], [dl (insB x)]))
  rw [hB]; rfl
end Go.Proofs.Ytmfjapphmmlppaa.WInstrPuts
