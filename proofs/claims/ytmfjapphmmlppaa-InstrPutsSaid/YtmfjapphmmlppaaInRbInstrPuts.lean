/-
  InstrPuts: the reference of layer 6: a body is read as the code reads it.
-/
import Derived.Test.YtmfjapphmmlppaaInRoInstrPuts
namespace Go.Proofs.Ytmfjapphmmlppaa.WInstrPuts
set_option linter.all false
open Go.Proofs.Ytmfjapphmmlppaa.Vx Go.Proofs.Ytmfjapphmmlppaa.XInstrPuts Go.Proofs.Ytmfjapphmmlppaa.Vd Go.Proofs.Ytmfjapphmmlppaa.Vn Go.Proofs.Ytmfjapphmmlppaa.Vl Go.Proofs.Ytmfjapphmmlppaa.Vp Go.Proofs.Ytmfjapphmmlppaa.Vb Go.Proofs.Ytmfjapphmmlppaa.SInstrPuts Go.Proofs.Ytmfjapphmmlppaa.Vo Go.Proofs.Ytmfjapphmmlppaa.Vt Go.Proofs.Ytmfjapphmmlppaa.IInstrPuts Go.Proofs.Ytmfjapphmmlppaa.PInstrPuts Go.Proofs.Ytmfjapphmmlppaa.MInstrPuts Go.Proofs.Ytmfjapphmmlppaa.KInstrPuts
/-- The open blocks as the code keeps them. -/
def kO (os : List Int) : List D := os.map fun c => .b (c == 52)
theorem kO_len (os : List Int) : (kO os).length = os.length := List.length_map _
theorem kO_snoc (os : List Int) (c : Int) : kO (os ++ [c]) = kO os ++ [.b (c == 52)] := by simp [kO]
theorem kO_take (os : List Int) (n : Nat) : kO (os.take n) = (kO os).take n := List.map_take
theorem kO_last {os : List Int} (h : os.length ≠ 0) : (((kO os).getD (os.length - 1) (.i 0)).cell 0).bool = (os.getD (os.length - 1) 0 == 52) := by
  have hl : os.length - 1 < os.length := by omega
  unfold kO
  rw [List.getD_eq_getElem?_getD, List.getD_eq_getElem?_getD, List.getElem?_map, List.getElem?_eq_getElem hl]; rfl
theorem modify_last {o : List D} (h : o.length ≠ 0) (f : D → D) : o.modify (o.length - 1) f = o.take (o.length - 1) ++ [f (o.getD (o.length - 1) (.i 0))] := by
  have hl : o.length - 1 < o.length := by omega
  apply List.ext_getElem
  · rw [List.length_modify, List.length_append, List.length_take]; simp only [List.length_singleton]; omega
  · intro i h1 h2
    rw [List.length_modify] at h1
    rw [List.getElem_modify]
    by_cases e : o.length - 1 = i
    · rw [if_pos e]
      subst e
      rw [List.getElem_append_right (by rw [List.length_take]; omega)]
      simp [List.getD_eq_getElem?_getD, hl]
    · rw [if_neg e, List.getElem_append_left (by rw [List.length_take]; omega), List.getElem_take]
/-- What becomes of the open blocks. -/
theorem stE_letters {op : Nat} {os : List Int} : (op = 2 ∨ op = 3 ∨ op = 4 → stE (op : Int) (kO os) = if 64 ≤ os.length then (4, false, kO os) else (0, false, kO (os ++ [48 + (op : Int)]))) ∧
    (op = 5 → stE (op : Int) (kO os) = if os.length = 0 ∨ os.getD (os.length - 1) 0 ≠ 52 then (2, false, kO os) else (0, false, kO (os.take (os.length - 1) ++ [53]))) ∧
    (op = 11 → stE (op : Int) (kO os) = if os.length = 0 then (0, true, kO os) else (0, false, kO (os.take (os.length - 1)))) ∧
    (¬ (op = 2 ∨ op = 3 ∨ op = 4) → op ≠ 5 → op ≠ 11 → stE (op : Int) (kO os) = (0, false, kO os)) := by
  refine ⟨fun h => ?_, fun h => ?_, fun h => ?_, fun h1 h2 h3 => ?_⟩
  · unfold stE
    rw [if_pos (by omega), kO_len, kO_snoc]
    rcases h with rfl | rfl | rfl <;> rfl
  · unfold stE
    subst h
    rw [if_neg (by omega), if_pos (show ((5 : Nat) : Int) = 5 from rfl), kO_len]
    by_cases h0 : os.length = 0
    · rw [if_pos (.inl h0), if_pos (.inl h0)]
    · rw [kO_last h0]
      by_cases h52 : os.getD (os.length - 1) 0 = 52
      · rw [if_neg (by rintro (h | h); exact h0 h; rw [h52] at h; cases h), if_neg (by rintro (h | h); exact h0 h; exact h h52), kO_snoc, kO_take]
        have hk : (kO os).length ≠ 0 := by rw [kO_len]; exact h0
        have := modify_last hk (fun d => d.put 1 0 [.b false])
        rw [kO_len] at this
        rw [this]; rfl
      · rw [if_pos (.inr (eq_f h52)), if_pos (.inr h52)]
  · unfold stE
    subst h
    rw [if_neg (by omega), if_neg (by omega), if_pos (show ((11 : Nat) : Int) = 11 from rfl), kO_len, kO_take]
  · unfold stE
    rw [if_neg (by omega), if_neg (by omega), if_neg (by omega)]
def addN {α : Type} (n : Nat) : Res α → Res α
  | .err e => .err e
  | .ok b k => .ok b (n + k)
theorem bind_add {α β : Type} {R : Rd α} {f : α → Rd β} {l : List Int} {a : α} {n : Nat} (h : R l = .ok a n) : R.bind f l = addN n (f a (l.drop n)) := by
  rw [bind_of h]
  cases f a (l.drop n) <;> rfl
theorem i32_48 {op : Nat} (h : op = 2 ∨ op = 3 ∨ op = 4) : IntKind.i32.wrap (arI .add .i64 48 (op : Int)) = 48 + (op : Int) := by
  rcases h with rfl | rfl | rfl <;> rfl
theorem lp_rbody {l : List Int} (hb : Bytes l) (hl : l.length ≤ 100000000) : ∀ (f k p : Nat) (out : List D) (os : List Int), out.length + f = 2001 → out.length ≤ 2000 → os.length ≤ 64 → p ≤ l.length →
    iterT 3 0 3 (fun r => l40_1.den (Tab.fn a40) ([] ++ r.1) ([] ++ r.2.1) ([dl l] ++ r.2.2)) (k + f) ([0, 0, (p : Int)], [], [[], out, dl os]) = some (.ret (bodyR (bodyP f out (kO os) (l.drop p)) p)) := by
  intro f
  induction f with
  | zero => intro k p out o h1 h2; omega
  | succ f ih =>
    intro k p out os h1 h2 h3 hp
    have hq := q_rOne hb hl hp
    cases e : instrP (l.drop p) with
    | err x =>
      have hx := instrP_stbl.nz _ _ e
      have hB : bodyP (f + 1) out (kO os) (l.drop p) = .err x := bind_er e
      rw [hB]
      rw [e] at hq
      refine it_ret ?_
      show Vx.T.den _ l40_1 [0, 0, (p : Int)] [] [dl l, [], out, dl os] = _
      unfold l40_1
      refine d_callx [(p : Int)] [] [dl l] _ e40_32 rfl rfl rfl hq rfl ?_
      exact d_itT (ne_t hx) (d_rt rfl)
    | ok x n =>
      rw [e] at hq
      have hn := instrP_stbl.le _ _ _ e
      rw [List.length_drop] at hn
      have hB : bodyP (f + 1) out (kO os) (l.drop p) = addN n ((if 2000 ≤ out.length then (fun _ => .err 4 : Rd (List D)) else if (stE x.op (kO os)).1 ≠ 0 then fun _ => .err (stE x.op (kO os)).1 else if (stE x.op (kO os)).2.1 = true then fun _ => .ok (out ++ [x.D]) 0 else bodyP f (out ++ [x.D]) (stE x.op (kO os)).2.2) (l.drop (p + n))) := by
        show (instrP.bind _) _ = _
        rw [bind_add e, List.drop_drop]
      rw [hB]
      -- one round, up to the cases
      have start : ∀ (o : Out), Vx.T.den (Tab.fn a40) (match l40_1 with | .call _ _ _ _ _ _ _ k => k | t => t) ([0, 0, (p : Int)] ++ [(x.op : Int), x.a, x.b, x.k, ((p + n : Nat) : Int), 0]) ([] ++ []) ([dl l, [], out, dl os] ++ [dl x.L]) = some o →
          (fun r : Vx.R => l40_1.den (Tab.fn a40) ([] ++ r.1) ([] ++ r.2.1) ([dl l] ++ r.2.2)) ([0, 0, (p : Int)], [], [[], out, dl os]) = some o := by
        intro o ho
        show Vx.T.den _ l40_1 [0, 0, (p : Int)] [] [dl l, [], out, dl os] = _
        unfold l40_1
        exact d_callx [(p : Int)] [] [dl l] _ e40_32 rfl rfl rfl hq rfl ho
      by_cases h2000 : 2000 ≤ out.length
      · rw [if_pos h2000]
        refine it_ret (start _ ?_)
        unfold l40_1
        exact d_itF (show ((0 : Int) != 0) = false from rfl) (d_itT (eq_t (show (out.length : Int) = 2000 by omega)) (d_rt rfl))
      rw [if_neg h2000]
      have hne : ((out.length : Int) == 2000) = false := eq_f (by omega)
      have rqo : (decide ((out.length : Int) ≤ 617269685768) && decide ((([x.D] : List D).length : Int) ≤ 617269685768)) = true := an_t (le_t (by omega)) rfl
      obtain ⟨s1, s2, s3, s4⟩ := stE_letters (op := x.op) (os := os)
      -- on to the next round
      have next : ∀ os' : List Int, os'.length ≤ 64 → stE (x.op : Int) (kO os) = (0, false, kO os') → (fun r : Vx.R => l40_1.den (Tab.fn a40) ([] ++ r.1) ([] ++ r.2.1) ([dl l] ++ r.2.2)) ([0, 0, (p : Int)], [], [[], out, dl os]) = some (.nxt ([0, 0, ((p + n : Nat) : Int)], [], [[], out ++ [x.D], dl os'])) →
          iterT 3 0 3 (fun r => l40_1.den (Tab.fn a40) ([] ++ r.1) ([] ++ r.2.1) ([dl l] ++ r.2.2)) (k + (f + 1)) ([0, 0, (p : Int)], [], [[], out, dl os]) = some (.ret (bodyR (addN n ((if (stE x.op (kO os)).1 ≠ 0 then (fun _ => .err (stE x.op (kO os)).1 : Rd (List D)) else if (stE x.op (kO os)).2.1 = true then fun _ => .ok (out ++ [x.D]) 0 else bodyP f (out ++ [x.D]) (stE x.op (kO os)).2.2) (l.drop (p + n)))) p)) := by
        intro os' ho hs hh
        refine it_nxt hh rfl ((ih k (p + n) (out ++ [x.D]) os' (by rw [List.length_append, List.length_singleton]; omega) (by rw [List.length_append, List.length_singleton]; omega) ho (by omega)).trans ?_)
        rw [hs, if_neg (by simp), if_neg (by simp)]
        cases bodyP f (out ++ [x.D]) (kO os') (l.drop (p + n)) with
        | err e => rfl
        | ok b m => show some (Out.ret ([((p + n + m : Nat) : Int), 0], [], [b])) = some (Out.ret ([((p + (n + m) : Nat) : Int), 0], [], [b])); rw [Nat.add_assoc]
      have lo : (dl os).length = os.length := dl_len os
      by_cases h234 : x.op = 2 ∨ x.op = 3 ∨ x.op = 4
      · have b0 : (decide ((x.op : Int) ≥ 2) && decide ((x.op : Int) ≤ 4)) = true := by simp; omega
        have s1 := s1 h234
        by_cases h64 : 64 ≤ os.length
        · rw [if_pos h64] at s1
          rw [s1, if_pos (by simp)]
          refine it_ret (start _ ?_)
          unfold l40_1
          refine d_itF (show ((0 : Int) != 0) = false from rfl) (d_itF hne (d_lb true b0 (d_itT rfl (d_itT (eq_t (show ((dl os).length : Int) = 64 by omega)) (d_rt rfl)))))
        · rw [if_neg h64] at s1
          refine next (os ++ [48 + (x.op : Int)]) (by rw [List.length_append, List.length_singleton]; omega) s1 (start _ ?_)
          unfold l40_1
          refine d_itF (show ((0 : Int) != 0) = false from rfl) (d_itF hne (d_lb true b0 (d_itT rfl (d_itF (eq_f (show ((dl os).length : Int) ≠ 64 by omega)) ?_))))
          have w := i32_48 h234
          have hr : (decide ((0 : Int) ≤ IntKind.i32.wrap (arI .add .i64 48 (x.op : Int))) && decide (IntKind.i32.wrap (arI .add .i64 48 (x.op : Int)) ≤ 127)) = true := by rw [w]; simp; omega
          rw [dl_app]
          generalize dl os = O at *
          refine d_rq (c := E.an _ _) hr (d_lst [[.i (48 + (x.op : Int))]] (by show [[D.i (IntKind.i32.wrap (arI .add .i64 48 (x.op : Int)))]] = _; rw [w]) ?_)
          refine d_rq (c := E.an _ _) (an_t (le_t (show (O.length : Int) ≤ 1099511627776 by omega)) rfl) (d_lst [O ++ [.i (48 + (x.op : Int))]] rfl ?_)
          exact d_lst [[x.D]] rfl (d_rq (c := E.an _ _) rqo (d_lst [out ++ [x.D]] rfl rfl))
      have b0 : (decide ((x.op : Int) ≥ 2) && decide ((x.op : Int) ≤ 4)) = false := by
        rw [Bool.and_eq_false_iff, decide_eq_false_iff_not, decide_eq_false_iff_not]; omega
      have es : arI .sub .i64 ((dl os).length : Int) 1 = (os.length : Int) - 1 := by rw [subI (by omega) (by omega), lo]
      by_cases h5 : x.op = 5
      · have s2 := s2 h5
        have hr1 : ((((dl os).length : Int) == 0) || (decide (arI .sub .i64 ((dl os).length : Int) 1 ≥ 0) && decide (arI .sub .i64 ((dl os).length : Int) 1 < ((dl os).length : Int)))) = true := by
          rw [es, lo]
          by_cases h0 : os.length = 0
          · rw [eq_t (show (os.length : Int) = 0 by omega)]; rfl
          · rw [ge_t (show (0 : Int) ≤ (os.length : Int) - 1 by omega), lt_t (show (os.length : Int) - 1 < (os.length : Int) by omega), Bool.and_self, Bool.or_true]
        have hlast : os.length ≠ 0 → (((dl os).getD (arI .sub .i64 ((dl os).length : Int) 1).toNat (.i 0)).cell 0).int = os.getD (os.length - 1) 0 := fun h0 => by
          rw [es, show ((os.length : Int) - 1).toNat = os.length - 1 by omega, ix_dl]
        by_cases hbad : os.length = 0 ∨ os.getD (os.length - 1) 0 ≠ 52
        · rw [if_pos hbad] at s2
          rw [s2, if_pos (by simp)]
          refine it_ret (start _ ?_)
          unfold l40_1
          refine d_itF (show ((0 : Int) != 0) = false from rfl) (d_itF hne (d_lb false b0 (d_itF rfl (d_itT (eq_t (show (x.op : Int) = 5 by omega)) (d_rq (c := E.oo _ _) hr1 (d_lb true ?_ (d_itT rfl (d_rt rfl))))))))
          show ((((dl os).length : Int) == 0) || ((((dl os).getD (arI .sub .i64 ((dl os).length : Int) 1).toNat (.i 0)).cell 0).int != 52)) = true
          by_cases h0 : os.length = 0
          · rw [lo, eq_t (show (os.length : Int) = 0 by omega)]; rfl
          · rw [hlast h0, ne_t (hbad.resolve_left h0), Bool.or_true]
        · rw [if_neg hbad] at s2
          have h0 : os.length ≠ 0 := fun h => hbad (.inl h)
          have h52 : os.getD (os.length - 1) 0 = 52 := by
            by_cases h : os.getD (os.length - 1) 0 = 52
            · exact h
            · exact absurd (.inr h) hbad
          refine next (os.take (os.length - 1) ++ [53]) (by rw [List.length_append, List.length_take, List.length_singleton]; omega) s2 (start _ ?_)
          unfold l40_1
          refine d_itF (show ((0 : Int) != 0) = false from rfl) (d_itF hne (d_lb false b0 (d_itF rfl (d_itT (eq_t (show (x.op : Int) = 5 by omega)) (d_rq (c := E.oo _ _) hr1 (d_lb false ?_ (d_itF rfl ?_)))))))
          · show ((((dl os).length : Int) == 0) || ((((dl os).getD (arI .sub .i64 ((dl os).length : Int) 1).toNat (.i 0)).cell 0).int != 52)) = false
            rw [hlast h0, h52, lo, eq_f (show (os.length : Int) ≠ 0 by omega)]; rfl
          refine d_rq (c := E.an _ _) (by show (decide ((0 : Int) ≤ arI .sub .i64 ((dl os).length : Int) 1) && decide (arI .sub .i64 ((dl os).length : Int) 1 ≤ ((dl os).length : Int))) = true; rw [es, lo]; simp; omega) ?_
          have lt : (dl (os.take (os.length - 1))).length ≤ 64 := by rw [dl_len, List.length_take]; omega
          refine d_lst [dl (os.take (os.length - 1))] (by show [((dl os).take (arI .sub .i64 ((dl os).length : Int) 1).toNat).drop ((0 : Int)).toNat] = _; rw [es, show ((os.length : Int) - 1).toNat = os.length - 1 by omega]; exact congrArg (fun z => [z]) List.map_take.symm) ?_
          rw [dl_app]
          generalize dl (os.take (os.length - 1)) = O at *
          refine d_rq (le_t (show (O.length : Int) ≤ 1099511627776 by omega)) (d_lst [O ++ [.i 53]] rfl ?_)
          exact d_lst [[x.D]] rfl (d_rq (c := E.an _ _) rqo (d_lst [out ++ [x.D]] rfl rfl))
      by_cases h11 : x.op = 11
      · have s3 := s3 h11
        by_cases h0 : os.length = 0
        · rw [if_pos h0] at s3
          rw [s3, if_neg (by simp), if_pos rfl]
          refine it_ret (start _ ?_)
          unfold l40_1
          refine d_itF (show ((0 : Int) != 0) = false from rfl) (d_itF hne (d_lb false b0 (d_itF rfl (d_itF (eq_f (show (x.op : Int) ≠ 5 by omega)) (d_lb false ?_ (d_itF rfl (d_itT (eq_t (show (x.op : Int) = 11 by omega)) ?_)))))))
          · show (((x.op : Int) == 11) && decide (((dl os).length : Int) > 0)) = false
            rw [gt_f (by omega), Bool.and_false]
          · exact d_lst [[x.D]] rfl (d_rq (c := E.an _ _) rqo (d_lst [out ++ [x.D]] rfl (d_rt rfl)))
        · rw [if_neg h0] at s3
          refine next (os.take (os.length - 1)) (by rw [List.length_take]; omega) s3 (start _ ?_)
          unfold l40_1
          refine d_itF (show ((0 : Int) != 0) = false from rfl) (d_itF hne (d_lb false b0 (d_itF rfl (d_itF (eq_f (show (x.op : Int) ≠ 5 by omega)) (d_lb true ?_ (d_itT rfl ?_))))))
          · show (((x.op : Int) == 11) && decide (((dl os).length : Int) > 0)) = true
            rw [gt_t (by omega), eq_t (by omega)]; rfl
          refine d_rq (c := E.an _ _) (by show (decide ((0 : Int) ≤ arI .sub .i64 ((dl os).length : Int) 1) && decide (arI .sub .i64 ((dl os).length : Int) 1 ≤ ((dl os).length : Int))) = true; rw [es, lo]; simp; omega) ?_
          refine d_lst [dl (os.take (os.length - 1))] (by show [((dl os).take (arI .sub .i64 ((dl os).length : Int) 1).toNat).drop ((0 : Int)).toNat] = _; rw [es, show ((os.length : Int) - 1).toNat = os.length - 1 by omega]; exact congrArg (fun z => [z]) List.map_take.symm) ?_
          generalize dl (os.take (os.length - 1)) = O at *
          exact d_lst [[x.D]] rfl (d_rq (c := E.an _ _) rqo (d_lst [out ++ [x.D]] rfl rfl))
      · refine next os h3 (s4 h234 h5 h11) (start _ ?_)
        unfold l40_1
        refine d_itF (show ((0 : Int) != 0) = false from rfl) (d_itF hne (d_lb false b0 (d_itF rfl (d_itF (eq_f (show (x.op : Int) ≠ 5 by omega)) (d_lb false ?_ (d_itF rfl (d_itF (eq_f (show (x.op : Int) ≠ 11 by omega)) ?_)))))))
        · show (((x.op : Int) == 11) && decide (((dl os).length : Int) > 0)) = false
          rw [eq_f (by omega)]; rfl
        · generalize dl os = O at *
          exact d_lst [[x.D]] rfl (d_rq (c := E.an _ _) rqo (d_lst [out ++ [x.D]] rfl rfl))
theorem q_rBody {l : List Int} (hb : Bytes l) (hl : l.length ≤ 100000000) : F40 [] [] [dl l] = some (bodyR (bodyP 2001 [] [] l) 0) := by
  refine of_ret ?_
  unfold t40
  obtain ⟨k, hk⟩ := fuel_eq 2001 (by omega)
  have h := lp_rbody hb hl 2001 k 0 [] [] rfl (by simp) (by simp) (by omega)
  rw [← hk, List.drop_zero] at h
  exact d_lp_ret h
end Go.Proofs.Ytmfjapphmmlppaa.WInstrPuts
