/-
  InstLays: what the reference of layer 13 answers.
-/
import Derived.Test.YtambhhochajgnaaAwInstInstLays
namespace Go.Proofs.Ytambhhochajgnaa.RInstLays
set_option linter.all false
open Go.Proofs.Ytambhhochajgnaa.Vx Go.Proofs.Ytambhhochajgnaa.XInstLays Go.Proofs.Ytambhhochajgnaa.Vd Go.Proofs.Ytambhhochajgnaa.Vn Go.Proofs.Ytambhhochajgnaa.Vl Go.Proofs.Ytambhhochajgnaa.Vp Go.Proofs.Ytambhhochajgnaa.Vb Go.Proofs.Ytambhhochajgnaa.SInstLays Go.Proofs.Ytambhhochajgnaa.Vo Go.Proofs.Ytambhhochajgnaa.IInstLays Go.Proofs.Ytambhhochajgnaa.AInstLays
/-! A tree that copies lists in any order: what it answers is looked up by a check. -/
def isEls0 : Vx.LE → Bool
  | .els [] => true
  | _ => false
def apOf : Vx.LE → Option (Nat × Nat)
  | .ap (.v c) (.v d) => some (c, d)
  | _ => none
def leOf : E → Option (Nat × Int)
  | .cm .leq (.ln c) (.n m) => some (c, m)
  | _ => none
def vOf : Vx.LE → Option Nat
  | .v c => some c
  | _ => none
def iv0 : List E → Bool
  | [.iv 0] => true
  | _ => false
def chk : Vx.T → List (Option Nat) → Bool
  | .both a b, e => chk a e && chk b e
  | .lst l k, e => match l with
    | [x] => match isEls0 x with
      | true => chk k (e ++ [none])
      | false => match apOf x with
        | some (c, d) => match e[c]?, e[d]? with
          | some none, some o => chk k (e ++ [o])
          | _, _ => false
        | none => false
    | _ => false
  | .rq g k, e => match g with
    | .an x y => match leOf x, leOf y with
      | some (_, m), some (_, m') => decide (200000 ≤ m) && decide (200000 ≤ m') && chk k e
      | _, _ => false
    | _ => false
  | .call f ii bb ll ni nb nl k, e => match ii, bb, ll with
    | [], [], [x] => match vOf x with
      | some c => match e[c]? with
        | some o => Nat.beq f 16 && Nat.beq ni 0 && Nat.beq nb 0 && Nat.beq nl 1 && chk k (e ++ [o])
        | none => false
      | none => false
    | _, _, _ => false
  | .ret ii bb ll, e => match bb with
    | [] => iv0 ii && decide ((ll.map fun x => (vOf x).bind fun c => e[c]?) = [some (some 0), some (some 1), some (some 2), some (some 3), some (some 4)])
    | _ => false
  | _, _ => false
def valO (O : Nat → List D) : Option Nat → List D
  | none => []
  | some k => O k
def okE (O : Nat → List D) (e : List (Option Nat)) (ls : LL) : Prop := e.length = ls.length ∧ ∀ c o, e[c]? = some o → ls.getD c [] = valO O o
theorem okE_snoc {O : Nat → List D} {e : List (Option Nat)} {ls : LL} (h : okE O e ls) (o : Option Nat) : okE O (e ++ [o]) (ls ++ [valO O o]) := by
  refine ⟨by simp [h.1], fun c o' hc => ?_⟩
  by_cases hl : c < e.length
  · rw [List.getElem?_append_left hl] at hc
    rw [List.getD_eq_getElem?_getD, List.getElem?_append_left (by rw [← h.1]; exact hl), ← List.getD_eq_getElem?_getD]
    exact h.2 c o' hc
  · have hc' := (List.getElem?_eq_some_iff.1 hc).1
    simp only [List.length_append, List.length_singleton] at hc'
    obtain rfl : c = e.length := by omega
    simp only [List.getElem?_concat_length, Option.some.injEq] at hc
    subst hc
    rw [h.1, List.getD_eq_getElem?_getD]
    simp
theorem okE_len {O : Nat → List D} (hO : ∀ k, (O k).length ≤ 200000) {e : List (Option Nat)} {ls : LL} (h : okE O e ls) (c : Nat) : (ls.getD c []).length ≤ 200000 := by
  by_cases hl : c < e.length
  · rw [h.2 c e[c] (List.getElem?_eq_getElem hl)]
    cases e[c] with
    | none => simp [valO]
    | some k => exact hO k
  · rw [List.getD_eq_getElem?_getD, List.getElem?_eq_none (by rw [← h.1]; omega)]
    simp
theorem leOf_ok {x : E} {c : Nat} {m : Int} (h : leOf x = some (c, m)) : x = .cm .leq (.ln c) (.n m) := by
  unfold leOf at h; split at h <;> first | cases h; rfl | cases h
theorem apOf_ok {x : Vx.LE} {c d : Nat} (h : apOf x = some (c, d)) : x = .ap (.v c) (.v d) := by
  unfold apOf at h; split at h <;> first | cases h; rfl | cases h
theorem vOf_ok {x : Vx.LE} {c : Nat} (h : vOf x = some c) : x = .v c := by
  unfold vOf at h; split at h <;> first | cases h; rfl | cases h
theorem isEls0_ok {x : Vx.LE} (h : isEls0 x = true) : x = .els [] := by
  unfold isEls0 at h; split at h <;> first | rfl | cases h
theorem iv0_ok {ii : List E} (h : iv0 ii = true) : ii = [.iv 0] := by
  unfold iv0 at h; split at h <;> first | rfl | cases h
theorem map_ok {O : Nat → List D} {e : List (Option Nat)} {ls : LL} (hE : okE O e ls) {is : List Int} {bs : List Bool} : ∀ {ll : List Vx.LE} {q : List Nat}, (ll.map fun x => (vOf x).bind fun c => e[c]?) = q.map (fun k => some (some k)) → ll.map (Vx.LE.L is bs ls) = q.map O
  | [], [], _ => rfl
  | [], _ :: _, h => by simp at h
  | _ :: _, [], h => by simp at h
  | x :: ll, k :: q, h => by
    simp only [List.map_cons, List.cons.injEq] at h
    rw [List.map_cons, List.map_cons, map_ok hE h.2]
    congr 1
    cases hv : vOf x with
    | none => rw [hv] at h; simp at h
    | some c =>
      rw [hv] at h
      rw [vOf_ok hv]
      exact hE.2 c _ h.1
theorem chk_ok {O : Nat → List D} {C : Nat → Vx.Fn} {cap : Int} (hC : ∀ l : List D, l.length ≤ 200000 → C 16 [] [] [l] = some ([], [], [l])) (hO : ∀ k, (O k).length ≤ 200000) :
    ∀ (t : Vx.T) (e : List (Option Nat)) (ls : LL), okE O e ls → chk t e = true → t.den C [cap] [] ls = some (.ret ([cap], [], [O 0, O 1, O 2, O 3, O 4])) := by
  intro t
  induction t with
  | both a b iha ihb =>
    intro e ls hE h
    simp only [chk, Bool.and_eq_true] at h
    exact d_both (iha e ls hE h.1) (ihb e ls hE h.2)
  | lst l k ih =>
    intro e ls hE h
    simp only [chk] at h
    split at h
    · split at h
      · rename_i x hx
        rw [isEls0_ok hx]
        exact d_lst [[]] rfl (ih _ _ (okE_snoc hE none) h)
      · split at h
        · rename_i c d hx
          rw [apOf_ok hx]
          split at h
          · rename_i o h1 h2
            have e1 := hE.2 c none h1
            have e2 := hE.2 d o h2
            refine d_lst [valO O o] ?_ (ih _ _ (okE_snoc hE o) h)
            show [ls.getD c [] ++ ls.getD d []] = _
            rw [e1, e2]; rfl
          · cases h
        · cases h
    · cases h
  | rq g k ih =>
    intro e ls hE h
    simp only [chk] at h
    split at h
    · rename_i x y
      split at h
      · rename_i c m d m' h1 h2
        rw [leOf_ok h1, leOf_ok h2]
        simp only [Bool.and_eq_true, decide_eq_true_eq] at h
        obtain ⟨⟨g1, g2⟩, h⟩ := h
        have l1 := okE_len hO hE c
        have l2 := okE_len hO hE d
        refine d_rq (c := E.an _ _) (an_t (le_t ?_) (le_t ?_)) (ih e ls hE h)
        · show ((ls.getD c []).length : Int) ≤ m
          omega
        · show ((ls.getD d []).length : Int) ≤ m'
          omega
      · cases h
    · cases h
  | call f ii bb ll ni nb nl k ih =>
    intro e ls hE h
    simp only [chk] at h
    split at h
    · rename_i x
      split at h
      · rename_i c hx
        split at h
        · rename_i o ho
          simp only [Bool.and_eq_true] at h
          obtain ⟨⟨⟨⟨f1, f2⟩, f3⟩, f4⟩, h⟩ := h
          rw [Nat.eq_of_beq_eq_true f1, Nat.eq_of_beq_eq_true f2, Nat.eq_of_beq_eq_true f3, Nat.eq_of_beq_eq_true f4, vOf_ok hx]
          have hl := okE_len hO hE c
          rw [hE.2 c o ho] at hl
          refine d_callx [] [] [valO O o] ([], [], [valO O o]) rfl rfl rfl ?_ (hC _ hl) rfl (ih _ _ (okE_snoc hE o) h)
          show [ls.getD c []] = _
          rw [hE.2 c o ho]
        · cases h
      · cases h
    · cases h
  | ret ii bb ll =>
    intro e ls hE h
    simp only [chk] at h
    split at h
    · simp only [Bool.and_eq_true, decide_eq_true_eq] at h
      rw [iv0_ok h.1]
      show some (Out.ret ([cap], [], ll.map (Vx.LE.L [cap] [] ls))) = _
      rw [map_ok hE (q := [0, 1, 2, 3, 4]) h.2]; rfl
    · cases h
  | _ => intro e ls hE h; simp [chk] at h
theorem chk7 : chk t7 [some 0, some 1, some 2, some 3, some 4] = true := by kernel_rfl
theorem q_copy13 {cap : Int} {M T G E' D' : List D} (h : Sm M T G E' D') : F7 [cap] [] [M, T, G, E', D'] = some ([cap], [], [M, T, G, E', D']) := by
  obtain ⟨h1, h2, h3, h4, h5⟩ := h
  refine of_ret ?_
  refine chk_ok (O := fun k => [M, T, G, E', D'].getD k []) (fun l hl => ?_) (fun k => ?_) t7 [some 0, some 1, some 2, some 3, some 4] _ ⟨rfl, fun c o hc => ?_⟩ chk7
  · rw [e7_16]; exact q_rcopy l (by omega)
  · match k with
    | 0 => show M.length ≤ _; omega
    | 1 => show T.length ≤ _; omega
    | 2 => show G.length ≤ _; omega
    | 3 => show E'.length ≤ _; omega
    | 4 => show D'.length ≤ _; omega
    | k + 5 => simp
  · match c with
    | 0 => cases hc; rfl
    | 1 => cases hc; rfl
    | 2 => cases hc; rfl
    | 3 => cases hc; rfl
    | 4 => cases hc; rfl
    | k + 5 => simp at hc
theorem q_room {a n : Int} {m : Nat} (ha : 0 ≤ a) (ha' : a < 18446744073709551616) (hn : 0 ≤ n) (hn' : n < 18446744073709551616) (hm : m ≤ 1000000) : F19 [a, n, (m : Int)] [] [] = some ([], [decide (a + n ≤ m)], []) := by
  refine of_ret ?_
  unfold t19
  refine d_lb (decide (a ≤ (m : Int)) && decide (n ≤ (m : Int))) ?_ (d_lb (decide (a + n ≤ m)) ?_ rfl)
  · show (decide (a ≤ IntKind.u64.wrap (m : Int)) && decide (n ≤ IntKind.u64.wrap (m : Int))) = _
    rw [wu (n := (m : Int)) (by omega) (by omega)]
  · show ((decide (a ≤ (m : Int)) && decide (n ≤ (m : Int))) && decide (IntKind.u64.wrap (a + n) ≤ IntKind.u64.wrap (m : Int))) = _
    rw [wu (n := (m : Int)) (by omega) (by omega)]
    by_cases h : a ≤ m ∧ n ≤ m
    · rw [decide_eq_true h.1, decide_eq_true h.2, wu (by omega) (by omega)]; rfl
    · have : (decide (a ≤ (m : Int)) && decide (n ≤ (m : Int))) = false := by
        rw [Bool.and_eq_false_iff, decide_eq_false_iff_not, decide_eq_false_iff_not]; omega
      rw [this, Bool.false_and]
      exact (decide_eq_false (by omega)).symm
theorem q_rPut {cap : Int} {a f n : Nat} {M T G E' D' b : List D} (h : Sm M T G E' D') (hb : b.length ≤ 1000) (ha : a < 18446744073709551616) (hf : f < 18446744073709551616) (hn : n < 18446744073709551616) :
    F12 [cap, (a : Int), (f : Int), (n : Int)] [] [M, T, G, E', D', b] = some (if okB a f n M b = true then ([cap], [true], [ins a ((b.take (f + n)).drop f) M, T, G, E', D']) else ([0], [false], [[], [], [], [], []])) := by
  refine of_ret ?_
  unfold t12
  have hM := h.m
  refine d_callx [(f : Int), (n : Int), (b.length : Int)] [] [] ([], [decide (f + n ≤ b.length)], []) e12_19 rfl rfl rfl ((q_room (by omega) (by omega) (by omega) (by omega) (by omega)).trans (by rw [nn])) rfl ?_
  unfold okB
  by_cases h1 : f + n ≤ b.length
  · rw [decide_eq_true h1]
    refine d_itT rfl ?_
    refine d_callx [(a : Int), (n : Int), (M.length : Int)] [] [] ([], [decide (a + n ≤ M.length)], []) e12_19 rfl rfl rfl ((q_room (by omega) (by omega) (by omega) (by omega) (by omega)).trans (by rw [nn])) rfl ?_
    by_cases h2 : a + n ≤ M.length
    · rw [decide_eq_true h2]
      refine d_itF rfl ?_
      rw [if_pos (show (true && true) = true from rfl)]
      have e1 : arI .add .u64 (f : Int) (n : Int) = ((f + n : Nat) : Int) := by show IntKind.u64.wrap _ = _; rw [wu (by omega) (by omega)]; omega
      have e2 : arI .add .u64 (a : Int) (n : Int) = ((a + n : Nat) : Int) := by show IntKind.u64.wrap _ = _; rw [wu (by omega) (by omega)]; omega
      have lV := cut_len h1
      generalize hV : (b.take (f + n)).drop f = V at *
      have hins : M.take a ++ V ++ M.drop (a + n) = ins a V M := by unfold ins; rw [lV]
      have lA : (M.take a).length ≤ 196608 := by rw [List.length_take]; omega
      have lB : (M.drop (a + n)).length ≤ 196608 := by rw [List.length_drop]; omega
      obtain ⟨A, hA⟩ : ∃ A, A = M.take a := ⟨_, rfl⟩
      obtain ⟨B, hB⟩ : ∃ B, B = M.drop (a + n) := ⟨_, rfl⟩
      rw [← hA] at hins lA
      rw [← hB] at hins lB
      refine d_rq (c := E.an _ _) (show (decide ((0 : Int) ≤ (a : Int)) && decide ((a : Int) ≤ (M.length : Int))) = true by simp; omega) ?_
      refine d_lst [A] (by show [(M.take ((a : Int)).toNat).drop ((0 : Int)).toNat] = _; rw [hA]; rfl) ?_
      refine d_callx [] [] [A] ([], [], [A]) e12_16 rfl rfl rfl (q_rcopy A (by omega)) rfl ?_
      refine d_rq (c := E.an _ _) (show (decide ((0 : Int) ≤ (f : Int)) && (decide ((f : Int) ≤ arI .add .u64 (f : Int) (n : Int)) && decide (arI .add .u64 (f : Int) (n : Int) ≤ (b.length : Int)))) = true by rw [e1]; simp; omega) ?_
      refine d_lst [V] (by show [(b.take (arI .add .u64 (f : Int) (n : Int)).toNat).drop ((f : Int)).toNat] = _; rw [e1, ← hV]; rfl) ?_
      refine d_rq (c := E.an _ _) (show (decide ((A.length : Int) ≤ 17592186044416) && decide ((V.length : Int) ≤ 17592186044416)) = true by simp; omega) ?_
      refine d_lst [A ++ V] rfl ?_
      refine d_rq (c := E.an _ _) (show (decide ((0 : Int) ≤ arI .add .u64 (a : Int) (n : Int)) && (decide (arI .add .u64 (a : Int) (n : Int) ≤ (M.length : Int)) && decide ((M.length : Int) ≤ (M.length : Int)))) = true by rw [e2]; simp; omega) ?_
      refine d_lst [B] (by show [(M.take ((M.length : Int)).toNat).drop (arI .add .u64 (a : Int) (n : Int)).toNat] = _; rw [e2, hB, Int.toNat_natCast, Int.toNat_natCast, List.take_length]) ?_
      refine d_rq (c := E.an _ _) (show (decide (((A ++ V).length : Int) ≤ 17592186044416) && decide ((B.length : Int) ≤ 17592186044416)) = true by rw [List.length_append]; simp; omega) ?_
      refine d_lst [ins a V M] (by rw [← hins]; rfl) rfl
    · rw [decide_eq_false h2]
      exact d_itT rfl rfl
  · rw [decide_eq_false h1]
    exact d_itF rfl rfl
theorem q_rGrow {cap : Int} {n : Nat} {ok : Bool} {M T G E' D' : List D} (h : Sm M T G E' D') (hc : -9223372036854775808 ≤ cap) (hn : n < 18446744073709551616) :
    F14 [cap, (n : Int)] [ok] [M, T, G, E', D'] = some (if growB cap n ok M = true then ([cap, ((M.length / 65536 : Nat) : Int)], [], [M ++ List.replicate (65536 * n) (.i 0), T, G, E', D']) else ([cap, 4294967295], [], [M, T, G, E', D'])) := by
  refine of_ret ?_
  unfold t14
  have hM := h.m
  have e1 : arI .quo .i64 (M.length : Int) 65536 = ((M.length / 65536 : Nat) : Int) := by
    show IntKind.i64.wrap ((M.length : Int).tdiv 65536) = _
    rw [Int.tdiv_eq_ediv_of_nonneg (by omega), wi (by omega) (by omega)]; omega
  obtain ⟨o, ho⟩ : ∃ o, o = M.length / 65536 := ⟨_, rfl⟩
  have ho3 : o ≤ 3 := by omega
  rw [← ho] at e1 ⊢
  refine d_lb (decide (arI .add .i64 (o : Int) (IntKind.i64.wrap (n : Int)) > cap)) (by show decide (arI .add .i64 (arI .quo .i64 (M.length : Int) 65536) (IntKind.i64.wrap (n : Int)) > cap) = _; rw [e1]) ?_
  refine d_lb (!ok || decide ((n : Int) > 4) || decide (arI .add .i64 (o : Int) (IntKind.i64.wrap (n : Int)) > cap)) rfl ?_
  refine d_lb (decide (arI .add .i64 (o : Int) (IntKind.i64.wrap (n : Int)) > 4)) (by show decide (arI .add .i64 (arI .quo .i64 (M.length : Int) 65536) (IntKind.i64.wrap (n : Int)) > 4) = _; rw [e1]) ?_
  have key : ((!ok || decide ((n : Int) > 4) || decide (arI .add .i64 (o : Int) (IntKind.i64.wrap (n : Int)) > cap)) || decide (arI .add .i64 (o : Int) (IntKind.i64.wrap (n : Int)) > 4)) = !(growB cap n ok M) := by
    unfold growB
    rw [← ho]
    cases ok
    · rfl
    · by_cases h1 : (n : Int) > 4
      · rw [decide_eq_true h1]
        simp
        omega
      · rw [decide_eq_false h1, wi (n := (n : Int)) (by omega) (by omega), addI (by omega) (by omega)]
        simp only [Bool.not_true, Bool.false_or, Bool.true_and]
        rw [← decide_not, Bool.eq_iff_iff]
        simp only [Bool.or_eq_true, decide_eq_true_eq]
        omega
  cases hg : growB cap n ok M with
  | false =>
    rw [hg] at key
    exact d_itT key rfl
  | true =>
    rw [hg] at key
    refine d_itF key ?_
    refine d_callx [] [] [M] ([], [], [M]) e14_16 rfl rfl rfl (q_rcopy M (by omega)) rfl ?_
    unfold growB at hg
    simp only [Bool.and_eq_true, decide_eq_true_eq] at hg
    have hn4 : n ≤ 4 := by omega
    have e2 : arI .mul .i64 65536 (IntKind.i64.wrap (n : Int)) = ((65536 * n : Nat) : Int) := by
      show IntKind.i64.wrap (65536 * IntKind.i64.wrap (n : Int)) = _
      rw [wi (n := (n : Int)) (by omega) (by omega), wi (by omega) (by omega)]; omega
    refine d_rq (c := E.an _ _) ?_ (d_lst [M ++ List.replicate (65536 * n) (.i 0)] ?_ ?_)
    · show (decide ((M.length : Int) ≤ 17592186044416) && (decide ((0 : Int) ≤ arI .mul .i64 65536 (IntKind.i64.wrap (n : Int))) && decide (arI .mul .i64 65536 (IntKind.i64.wrap (n : Int)) ≤ 17592186044416))) = true
      rw [e2]; simp; omega
    · show [M ++ List.replicate (arI .mul .i64 65536 (IntKind.i64.wrap (n : Int))).toNat (mkD [.i 0])] = _
      rw [e2]; rfl
    · rw [if_pos (show true = true from rfl)]
      have e3 : IntKind.u64.wrap (arI .quo .i64 (M.length : Int) 65536) = ((o : Nat) : Int) := by rw [e1, wu (by omega) (by omega)]
      rw [← e3]; rfl
/-- All are numbers. -/
def numsB (l : List D) : Prop := ∀ i, i < l.length → l.getD i (.i 0) = .i ((l.getD i (.i 0)).cell 0).int
theorem q_rLay {cap : Int} {a f n : Nat} {M T G E' D' b : List D} (h : Sm M T G E' D') (hb : b.length ≤ 1000) (ha : a < 18446744073709551616) (hf : f < 18446744073709551616) (hn : n < 18446744073709551616) (nT : numsB T) (nb : numsB b) :
    F9 [cap, (a : Int), (f : Int), (n : Int)] [] [M, T, G, E', D', b] = some (if okB a f n T b = true then ([cap], [true], [M, ins a ((b.take (f + n)).drop f) T, G, E', D']) else ([0], [false], [[], [], [], [], []])) := by
  refine of_ret ?_
  unfold t9
  have hT := h.t
  refine d_callx [(f : Int), (n : Int), (b.length : Int)] [] [] ([], [decide (f + n ≤ b.length)], []) e9_19 rfl rfl rfl ((q_room (by omega) (by omega) (by omega) (by omega) (by omega)).trans (by rw [nn])) rfl ?_
  unfold okB
  by_cases h1 : f + n ≤ b.length
  · rw [decide_eq_true h1]
    refine d_itT rfl ?_
    refine d_callx [(a : Int), (n : Int), (T.length : Int)] [] [] ([], [decide (a + n ≤ T.length)], []) e9_19 rfl rfl rfl ((q_room (by omega) (by omega) (by omega) (by omega) (by omega)).trans (by rw [nn])) rfl ?_
    by_cases h2 : a + n ≤ T.length
    · rw [decide_eq_true h2]
      refine d_itF rfl ?_
      rw [if_pos (show (true && true) = true from rfl)]
      have e2 : arI .add .u64 (a : Int) (n : Int) = ((a + n : Nat) : Int) := by show IntKind.u64.wrap _ = _; rw [wu (by omega) (by omega)]; omega
      have lV := cut_len h1
      obtain ⟨g, hg⟩ : ∃ g : Nat → D, g = fun i => .i (if a ≤ i ∧ i < a + n then ((b.getD (i - a + f) (.i 0)).cell 0).int else ((T.getD i (.i 0)).cell 0).int) := ⟨_, rfl⟩
      have hres : mapN g T.length = ins a ((b.take (f + n)).drop f) T := by
        have hl := ins_len (a := a) (V := (b.take (f + n)).drop f) (M := T) (by omega)
        apply List.ext_getElem (by rw [mapN_len, hl])
        intro i i1 i2
        have hi : i < T.length := by rw [mapN_len] at i1; exact i1
        have g1 := mapN_get g hi
        have g2 := ins_at (a := a) (V := (b.take (f + n)).drop f) (M := T) (by omega) hi
        rw [List.getD_eq_getElem?_getD, List.getElem?_eq_getElem i1] at g1
        rw [List.getD_eq_getElem?_getD, List.getElem?_eq_getElem i2] at g2
        simp only [Option.getD_some] at g1 g2
        rw [g1, g2, hg, lV]
        show D.i (if a ≤ i ∧ i < a + n then ((b.getD (i - a + f) (.i 0)).cell 0).int else ((T.getD i (.i 0)).cell 0).int) = _
        split
        · rename_i hin
          rw [← nb (i - a + f) (by omega), List.getD_eq_getElem?_getD, List.getD_eq_getElem?_getD, List.getElem?_drop, List.getElem?_take_of_lt (by omega), Nat.add_comm f]
        · exact (nT i hi).symm
      rw [← hres]
      clear hres
      refine d_loop (fun i => ([(i : Int)], [], [mapN g i])) T.length (by omega) 2 ([(T.length : Int)], [], [mapN g T.length]) rfl (fun i hi => ?_) (fun _ _ => rfl) ?_ rfl ?_
      · show Vx.T.den _ l9_1 [cap, (a : Int), (f : Int), (n : Int), (i : Int)] [true, true] [M, T, G, E', D', b, mapN g i] = some (.nxt ([((i + 1 : Nat) : Int)], [], [mapN g (i + 1)]))
        have wi_ : IntKind.u64.wrap (i : Int) = (i : Int) := wu (by omega) (by omega)
        have nx : some (Out.nxt ([arI .add .i64 (i : Int) 1], [], [mapN g i ++ [g i]])) = some (Out.nxt ([((i + 1 : Nat) : Int)], [], [mapN g (i + 1)])) := by
          rw [up1 i (by omega)]
          have := mapN_succ [] g i
          rw [List.nil_append, List.nil_append] at this
          rw [this]
        have lm : (mapN g i).length = i := mapN_len g i
        generalize mapN g i = A at *
        unfold l9_1
        refine d_itT (lt_t (show (i : Int) < (T.length : Int) by omega)) (d_rq (ge_t (show (0 : Int) ≤ (i : Int) by omega)) ?_)
        have rqA : (decide ((A.length : Int) ≤ 3909374676536) && decide ((([g i] : List D).length : Int) ≤ 3909374676536)) = true := an_t (le_t (by omega)) rfl
        by_cases hin : a ≤ i ∧ i < a + n
        · have sb : arI .add .u64 (arI .sub .u64 (IntKind.u64.wrap (i : Int)) (a : Int)) (f : Int) = ((i - a + f : Nat) : Int) := by
            rw [wi_]
            have s1 : arI .sub .u64 (i : Int) (a : Int) = ((i - a : Nat) : Int) := by show IntKind.u64.wrap _ = _; rw [wu (by omega) (by omega)]; omega
            rw [s1]; show IntKind.u64.wrap _ = _; rw [wu (by omega) (by omega)]; omega
          have gi : g i = .i ((b.getD (i - a + f) (.i 0)).cell 0).int := by rw [hg]; show D.i (if _ then _ else _) = _; rw [if_pos hin]
          refine d_lb true ?_ (d_itT rfl ?_)
          · show (decide (IntKind.u64.wrap (i : Int) ≥ (a : Int)) && decide (IntKind.u64.wrap (i : Int) < arI .add .u64 (a : Int) (n : Int))) = true
            rw [wi_, e2]; simp; omega
          have ri : (decide (arI .add .u64 (arI .sub .u64 (IntKind.u64.wrap (i : Int)) (a : Int)) (f : Int) ≥ (0 : Int)) && decide (arI .add .u64 (arI .sub .u64 (IntKind.u64.wrap (i : Int)) (a : Int)) (f : Int) < (b.length : Int))) = true := by rw [sb]; simp; omega
          refine d_rq (c := E.an _ _) ri (d_rq (c := E.an _ _) ri ?_)
          refine d_li ((b.getD (i - a + f) (.i 0)).cell 0).int (by show ((b.getD (arI .add .u64 (arI .sub .u64 (IntKind.u64.wrap (i : Int)) (a : Int)) (f : Int)).toNat (.i 0)).cell 0).int = _; rw [sb, Int.toNat_natCast]) ?_
          refine d_lst [[g i]] (by rw [gi]; rfl) (d_rq (c := E.an _ _) rqA (d_lst [A ++ [g i]] rfl nx))
        · have gi : g i = .i ((T.getD i (.i 0)).cell 0).int := by rw [hg]; show D.i (if _ then _ else _) = _; rw [if_neg hin]
          refine d_lb false ?_ (d_itF rfl ?_)
          · show (decide (IntKind.u64.wrap (i : Int) ≥ (a : Int)) && decide (IntKind.u64.wrap (i : Int) < arI .add .u64 (a : Int) (n : Int))) = false
            rw [wi_, e2, Bool.and_eq_false_iff, decide_eq_false_iff_not, decide_eq_false_iff_not]
            omega
          refine d_lst [[g i]] (by rw [gi]; rfl) (d_rq (c := E.an _ _) rqA (d_lst [A ++ [g i]] rfl nx))
      · show Vx.T.den _ l9_1 [cap, (a : Int), (f : Int), (n : Int), (T.length : Int)] [true, true] [M, T, G, E', D', b, mapN g T.length] = _
        unfold l9_1
        exact d_itF (lt_f (show (T.length : Int) ≤ (T.length : Int) by omega)) rfl
      · exact d_rq rfl rfl
    · rw [decide_eq_false h2]
      exact d_itT rfl rfl
  · rw [decide_eq_false h1]
    exact d_itF rfl rfl
end Go.Proofs.Ytambhhochajgnaa.RInstLays
