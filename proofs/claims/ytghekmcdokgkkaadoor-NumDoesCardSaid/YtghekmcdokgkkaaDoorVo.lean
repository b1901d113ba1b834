/-
  Loops over lists, and first errors.
-/
import Derived.Test.YtghekmcdokgkkaaDoorVb
namespace Go.Proofs.YtghekmcdokgkkaaDoor.Vo
set_option linter.all false
open Go.Proofs.YtghekmcdokgkkaaDoor.Vx Go.Proofs.YtghekmcdokgkkaaDoor.Vd Go.Proofs.YtghekmcdokgkkaaDoor.Vn Go.Proofs.YtghekmcdokgkkaaDoor.Vl Go.Proofs.YtghekmcdokgkkaaDoor.Vp Go.Proofs.YtghekmcdokgkkaaDoor.Vb
/-- A loop that goes through the states S 0, S 1, .. S n. -/
theorem it_loop {ni nb nl : Nat} {step : Vx.R → Option Out} (S : Nat → Vx.R) (n : Nat) {o : Out} (hs : ∀ i, i < n → step (S i) = some (.nxt (S (i + 1)))) (hf : ∀ i, i < n → (S (i + 1)).fits ni nb nl = true) (he : ∀ m, iterT ni nb nl step (m + 1) (S n) = some o) :
    ∀ (d i k : Nat), i + d = n → iterT ni nb nl step (k + (d + 1)) (S i) = some o := by
  intro d
  induction d with
  | zero => intro i k h; obtain rfl : i = n := by omega
            exact he k
  | succ d ih => intro i k h; exact it_nxt (r' := S (i + 1)) (hs i (by omega)) (hf i (by omega)) (ih (i + 1) k (by omega))
theorem d_loop {C : Nat → Vx.Fn} {ii bb : List E} {ll : List Vx.LE} {ni nb nl : Nat} {body k : Vx.T} {is bs ls} {o} (S : Nat → Vx.R) (n : Nat) (hn : n < 9223372036854775807) (t : Nat) (r : Vx.R) (h0 : vals ii bb ll is bs ls = S 0)
    (hs : ∀ i, i < n → body.den C (is ++ (S i).1) (bs ++ (S i).2.1) (ls ++ (S i).2.2) = some (.nxt (S (i + 1)))) (hf : ∀ i, i < n → (S (i + 1)).fits ni nb nl = true) (he : body.den C (is ++ (S n).1) (bs ++ (S n).2.1) (ls ++ (S n).2.2) = some (.brk t r)) (hr : r.fits ni nb nl = true)
    (hk : k.den C (is ++ (t : Int) :: r.1) (bs ++ r.2.1) (ls ++ r.2.2) = o) : (Vx.T.lp ii bb ll ni nb nl body k).den C is bs ls = o := by
  obtain ⟨m, hm⟩ := fuel_eq (n + 1) (by omega)
  refine d_lp r ?_ hr hk
  rw [hm, h0]
  exact it_loop S n hs hf (fun m => it_brk he) n 0 m (by omega)
/-- A loop that stops at the first place where p holds, or at the end. -/
theorem it_find {ni nb nl : Nat} {step : Vx.R → Option Out} (S : Nat → Vx.R) (n : Nat) (p : Nat → Bool) (O : Nat → Out) {oe : Out} (hs : ∀ i, i < n → p i = false → step (S i) = some (.nxt (S (i + 1)))) (hf : ∀ i, i < n → (S (i + 1)).fits ni nb nl = true)
    (hb : ∀ i m, i < n → p i = true → iterT ni nb nl step (m + 1) (S i) = some (O i)) (he : ∀ m, iterT ni nb nl step (m + 1) (S n) = some oe) :
    ∀ (d i k : Nat), i + d = n → (∃ j, i ≤ j ∧ j < n ∧ p j = true ∧ (∀ q, i ≤ q → q < j → p q = false) ∧ iterT ni nb nl step (k + (d + 1)) (S i) = some (O j)) ∨ ((∀ q, i ≤ q → q < n → p q = false) ∧ iterT ni nb nl step (k + (d + 1)) (S i) = some oe) := by
  intro d
  induction d with
  | zero => intro i k h; obtain rfl : i = n := by omega
            exact .inr ⟨fun q h1 h2 => by omega, he k⟩
  | succ d ih =>
    intro i k h
    cases hp : p i with
    | true => exact .inl ⟨i, by omega, by omega, hp, fun q h1 h2 => by omega, hb i (k + (d + 1)) (by omega) hp⟩
    | false =>
      rcases ih (i + 1) k (by omega) with ⟨j, h1, h2, h3, h4, h5⟩ | ⟨h4, h5⟩
      · refine .inl ⟨j, by omega, h2, h3, fun q q1 q2 => ?_, it_nxt (r' := S (i + 1)) (hs i (by omega) hp) (hf i (by omega)) h5⟩
        by_cases e : q = i
        · rw [e, hp]
        · exact h4 q (by omega) q2
      · refine .inr ⟨fun q q1 q2 => ?_, it_nxt (r' := S (i + 1)) (hs i (by omega) hp) (hf i (by omega)) h5⟩
        by_cases e : q = i
        · rw [e, hp]
        · exact h4 q (by omega) q2
/-- The loop's end: found at j, or not found. -/
theorem d_find {C : Nat → Vx.Fn} {ii bb : List E} {ll : List Vx.LE} {ni nb nl : Nat} {body k : Vx.T} {is bs ls} {o} (S : Nat → Vx.R) (n : Nat) (hn : n < 9223372036854775807) (p : Nat → Bool) (h0 : vals ii bb ll is bs ls = S 0)
    (O : Nat → Nat × Vx.R) (te : Nat) (re : Vx.R)
    (hs : ∀ i, i < n → p i = false → body.den C (is ++ (S i).1) (bs ++ (S i).2.1) (ls ++ (S i).2.2) = some (.nxt (S (i + 1)))) (hf : ∀ i, i < n → (S (i + 1)).fits ni nb nl = true)
    (hb : ∀ i, i < n → p i = true → body.den C (is ++ (S i).1) (bs ++ (S i).2.1) (ls ++ (S i).2.2) = some (.brk (O i).1 (O i).2) ∧ (O i).2.fits ni nb nl = true)
    (he : body.den C (is ++ (S n).1) (bs ++ (S n).2.1) (ls ++ (S n).2.2) = some (.brk te re)) (hr : re.fits ni nb nl = true)
    (k1 : ∀ j, j < n → p j = true → (∀ q, q < j → p q = false) → k.den C (is ++ ((O j).1 : Int) :: (O j).2.1) (bs ++ (O j).2.2.1) (ls ++ (O j).2.2.2) = o)
    (k2 : (∀ q, q < n → p q = false) → k.den C (is ++ (te : Int) :: re.1) (bs ++ re.2.1) (ls ++ re.2.2) = o) : (Vx.T.lp ii bb ll ni nb nl body k).den C is bs ls = o := by
  obtain ⟨m, hm⟩ := fuel_eq (n + 1) (by omega)
  have key := it_find (ni := ni) (nb := nb) (nl := nl) (step := fun r => body.den C (is ++ r.1) (bs ++ r.2.1) (ls ++ r.2.2)) S n p (fun i => .brk (O i).1 (O i).2) (oe := .brk te re) hs hf (fun i m h h' => it_brk (hb i h h').1) (fun m => it_brk he) n 0 m (by omega)
  rw [← hm] at key
  rcases key with ⟨j, _, h2, h3, h4, h5⟩ | ⟨h4, h5⟩
  · exact d_lp (O j).2 (by rw [h0]; exact h5) (hb j h2 h3).2 (k1 j h2 h3 fun q hq => h4 q (by omega) hq)
  · exact d_lp re (by rw [h0]; exact h5) hr (k2 fun q hq => h4 q (by omega) hq)
/-- The same with a return where p holds. -/
theorem d_findR {C : Nat → Vx.Fn} {ii bb : List E} {ll : List Vx.LE} {ni nb nl : Nat} {body k : Vx.T} {is bs ls} {o} (S : Nat → Vx.R) (n : Nat) (hn : n < 9223372036854775807) (p : Nat → Bool) (h0 : vals ii bb ll is bs ls = S 0)
    (O : Nat → Vx.R) (te : Nat) (re : Vx.R)
    (hs : ∀ i, i < n → p i = false → body.den C (is ++ (S i).1) (bs ++ (S i).2.1) (ls ++ (S i).2.2) = some (.nxt (S (i + 1)))) (hf : ∀ i, i < n → (S (i + 1)).fits ni nb nl = true)
    (hb : ∀ i, i < n → p i = true → body.den C (is ++ (S i).1) (bs ++ (S i).2.1) (ls ++ (S i).2.2) = some (.ret (O i)))
    (he : body.den C (is ++ (S n).1) (bs ++ (S n).2.1) (ls ++ (S n).2.2) = some (.brk te re)) (hr : re.fits ni nb nl = true)
    (k1 : ∀ j, j < n → p j = true → (∀ q, q < j → p q = false) → some (Out.ret (O j)) = o)
    (k2 : (∀ q, q < n → p q = false) → k.den C (is ++ (te : Int) :: re.1) (bs ++ re.2.1) (ls ++ re.2.2) = o) : (Vx.T.lp ii bb ll ni nb nl body k).den C is bs ls = o := by
  obtain ⟨m, hm⟩ := fuel_eq (n + 1) (by omega)
  have key := it_find (ni := ni) (nb := nb) (nl := nl) (step := fun r => body.den C (is ++ r.1) (bs ++ r.2.1) (ls ++ r.2.2)) S n p (fun i => .ret (O i)) (oe := .brk te re) hs hf (fun i m h h' => it_ret (hb i h h')) (fun m => it_brk he) n 0 m (by omega)
  rw [← hm] at key
  rcases key with ⟨j, _, h2, h3, h4, h5⟩ | ⟨h4, h5⟩
  · exact (d_lp_ret (by rw [h0]; exact h5)).trans (k1 j h2 h3 fun q hq => h4 q (by omega) hq)
  · exact d_lp re (by rw [h0]; exact h5) hr (k2 fun q hq => h4 q (by omega) hq)
/-! First errors. -/
def orE (a b : Int) : Int := if a = 0 then b else a
theorem orE_zero (b : Int) : orE 0 b = b := rfl
theorem orE_z (a : Int) : orE a 0 = a := by unfold orE; split <;> simp_all
theorem orE_assoc (a b c : Int) : orE (orE a b) c = orE a (orE b c) := by unfold orE; split <;> simp_all
theorem orE_eq0 {a b : Int} : orE a b = 0 ↔ a = 0 ∧ b = 0 := by unfold orE; split <;> simp_all
theorem orE_l {a : Int} (b : Int) (h : a ≠ 0) : orE a b = a := by unfold orE; rw [if_neg h]
def errN (f : Nat → Int) (a : Int) : Nat → Int
  | 0 => a
  | n + 1 => orE (errN f a n) (f n)
theorem errN_eq0 {f : Nat → Int} {a : Int} : ∀ {n : Nat}, errN f a n = 0 ↔ a = 0 ∧ ∀ i, i < n → f i = 0
  | 0 => by simp [errN]
  | n + 1 => by
    rw [errN, orE_eq0, errN_eq0 (n := n)]
    constructor
    · rintro ⟨⟨h1, h2⟩, h3⟩
      refine ⟨h1, fun i hi => ?_⟩
      by_cases e : i = n
      · rw [e]; exact h3
      · exact h2 i (by omega)
    · rintro ⟨h1, h2⟩
      exact ⟨⟨h1, fun i hi => h2 i (by omega)⟩, h2 n (by omega)⟩
theorem errN_or (f : Nat → Int) (a : Int) : ∀ n : Nat, errN f a n = orE a (errN f 0 n)
  | 0 => (orE_z a).symm
  | n + 1 => by rw [errN, errN, errN_or f a n, orE_assoc]
theorem errN_stop {f : Nat → Int} {j : Nat} (h : f j ≠ 0) (hb : ∀ i, i < j → f i = 0) : ∀ {n : Nat}, j < n → errN f 0 n = f j
  | 0, hn => by omega
  | n + 1, hn => by
    rw [errN]
    by_cases e : j = n
    · subst e
      rw [errN_eq0.2 ⟨rfl, hb⟩]; rfl
    · rw [errN_stop h hb (by omega), orE_l _ h]
theorem errN_congr {f g : Nat → Int} {a : Int} : ∀ {n : Nat}, (∀ i, i < n → f i = g i) → errN f a n = errN g a n
  | 0, _ => rfl
  | n + 1, h => by rw [errN, errN, errN_congr fun i hi => h i (by omega), h n (by omega)]
theorem wantT {ok : Bool} {x : Int} (e : Int) (h : (!ok && (x == 0)) = true) : orE x (if ok = true then 0 else e) = e := by
  cases ok <;> simp at h
  subst h; rfl
theorem wantF {ok : Bool} {x : Int} (e : Int) (h : (!ok && (x == 0)) = false) : orE x (if ok = true then 0 else e) = x := by
  cases ok with
  | true => exact orE_z x
  | false => exact orE_l _ (by simpa using h)
theorem wantET {x e : Int} (h : (!(e == 0) && (x == 0)) = true) : orE x e = e := by
  simp at h; rw [h.2]; rfl
theorem wantEF {x e : Int} (h : (!(e == 0) && (x == 0)) = false) : orE x e = x := by
  by_cases hx : x = 0
  · have : e = 0 := by simpa [hx] using h
    rw [this, orE_z]
  · exact orE_l _ hx
/-- What came together. -/
def accN (g : Nat → List D) (A : List D) : Nat → List D
  | 0 => A
  | n + 1 => accN g A n ++ g n
theorem accN_app (g : Nat → List D) (A : List D) : ∀ n, accN g A n = A ++ accN g [] n
  | 0 => (List.append_nil A).symm
  | n + 1 => by rw [accN, accN, accN_app g A n, List.append_assoc]
theorem accN_le {g : Nat → List D} (hg : ∀ i, (g i).length ≤ 1) {A : List D} : ∀ n, (accN g A n).length ≤ A.length + n
  | 0 => Nat.le_refl _
  | n + 1 => by have := accN_le hg (A := A) n; have := hg n; rw [accN, List.length_append]; omega
theorem accN_mono {g : Nat → List D} {A : List D} : ∀ n, A.length ≤ (accN g A n).length
  | 0 => Nat.le_refl _
  | n + 1 => by have := accN_mono (g := g) (A := A) n; rw [accN, List.length_append]; omega
theorem accN_congr {f g : Nat → List D} {A : List D} : ∀ {n : Nat}, (∀ i, i < n → f i = g i) → accN f A n = accN g A n
  | 0, _ => rfl
  | n + 1, h => by rw [accN, accN, accN_congr fun i hi => h i (by omega), h n (by omega)]
def mapN (g : Nat → D) (n : Nat) : List D := (List.range n).map g
theorem mapN_len (g : Nat → D) (n : Nat) : (mapN g n).length = n := by simp [mapN]
theorem mapN_succ (A : List D) (g : Nat → D) (n : Nat) : A ++ mapN g n ++ [g n] = A ++ mapN g (n + 1) := by
  simp [mapN, List.range_succ]
theorem mapN_get (g : Nat → D) {n i : Nat} (h : i < n) : (mapN g n).getD i (.i 0) = g i := by
  simp [mapN, List.getD_eq_getElem?_getD, h]
theorem mapN_congr {f g : Nat → D} {n : Nat} (h : ∀ i, i < n → f i = g i) : mapN f n = mapN g n := by
  unfold mapN; exact List.map_congr_left fun i hi => h i (List.mem_range.1 hi)
theorem mapN_add (g : Nat → D) (n m : Nat) : mapN g (n + m) = mapN g n ++ mapN (fun i => g (n + i)) m := by
  unfold mapN; rw [List.range_add, List.map_append, List.map_map]; rfl
theorem get_l {A B : List D} {i : Nat} (h : i < A.length) : (A ++ B).getD i (.i 0) = A.getD i (.i 0) := by
  simp [List.getD_eq_getElem?_getD, List.getElem?_append_left h]
theorem get_r {A B : List D} {i : Nat} : (A ++ B).getD (A.length + i) (.i 0) = B.getD i (.i 0) := by
  simp [List.getD_eq_getElem?_getD, List.getElem?_append_right]
end Go.Proofs.YtghekmcdokgkkaaDoor.Vo
