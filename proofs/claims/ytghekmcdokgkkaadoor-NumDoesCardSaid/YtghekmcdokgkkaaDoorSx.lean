/-
  Symbolic execution of Go functions that reckon with whole numbers, bools and structs of them: a tree of tests is reckoned out of a function's code, and the code is carried out as the tree tells, whatever the world is and whatever order is drawn.
-/
import Derived.Deep.Quiet
import Derived.Deep.MidRow
import Derived.Laws.Tables
import Derived.Laws.StructEq
import Derived.Laws.Small
import Derived.LoopN
import Derived.Below
import Derived.ChangeAlike
import Derived.BigFrame
import Derived.Laws.CopyRow
import Derived.Laws.CopyOwn
import Derived.Laws.Unary
namespace Go.Proofs.YtghekmcdokgkkaaDoor.Sx
open Go.RowKit (Below)

/-- Expressions: whole numbers and bools. -/
inductive E where
  | iv (i : Nat)
  | bv (i : Nat)
  | n (k : Int)
  | t (v : Bool)
  | ar (op : BinOp) (k : IntKind) (x y : E)
  | cv (k : IntKind) (x : E)
  | mn (x y : E)
  | mx (x y : E)
  | cm (op : BinOp) (x y : E)
  | nt (x : E)
  | an (x y : E)
  | oo (x y : E)
  | be (x y : E)
  | bi (c x y : E)
  | ii (c x y : E)
  | tb (l : List Nat) (x : E)

def arI (op : BinOp) (k : IntKind) (a b : Int) : Int :=
  match op with
  | .add => k.wrap (a + b)
  | .sub => k.wrap (a - b)
  | .mul => k.wrap (a * b)
  | .and => bits .and k a b
  | .or => bits .or k a b
  | .xor => bits .xor k a b
  | .andNot => bits .andNot k a b
  | .quo => k.wrap (a.tdiv b)
  | .rem => a.tmod b
  | .shl => k.wrap (a * 2 ^ (min b.toNat k.bits))
  | .shr => a.fdiv (2 ^ (min b.toNat k.bits))
  | _ => 0
def cmB (op : BinOp) (a b : Int) : Bool :=
  match op with
  | .eql => a == b
  | .neq => a != b
  | .lss => decide (a < b)
  | .leq => decide (a ≤ b)
  | .gtr => decide (a > b)
  | .geq => decide (a ≥ b)
  | _ => false

mutual
def E.I (is : List Int) (bs : List Bool) : E → Int
  | .iv i => is.getD i 0
  | .n k => k
  | .ar op k x y => arI op k (x.I is bs) (y.I is bs)
  | .cv k x => k.wrap (x.I is bs)
  | .mn x y => if y.I is bs < x.I is bs then y.I is bs else x.I is bs
  | .mx x y => if y.I is bs > x.I is bs then y.I is bs else x.I is bs
  | .ii c x y => bif c.B is bs then x.I is bs else y.I is bs
  | .tb l x => ((l.getD (x.I is bs).toNat 0 : Nat) : Int)
  | _ => 0
def E.B (is : List Int) (bs : List Bool) : E → Bool
  | .bv i => bs.getD i false
  | .t v => v
  | .cm op x y => cmB op (x.I is bs) (y.I is bs)
  | .nt x => !(x.B is bs)
  | .an x y => x.B is bs && y.B is bs
  | .oo x y => x.B is bs || y.B is bs
  | .be x y => x.B is bs == y.B is bs
  | .bi c x y => bif c.B is bs then x.B is bs else y.B is bs
  | _ => false
end

/-- One and the same text. -/
def E.same : E → E → Bool
  | .iv i, .iv j => i == j
  | .bv i, .bv j => i == j
  | .n i, .n j => i == j
  | .t i, .t j => i == j
  | .ar o k x y, .ar o' k' x' y' => decide (o = o') && decide (k = k') && x.same x' && y.same y'
  | .cv k x, .cv k' x' => decide (k = k') && x.same x'
  | .mn x y, .mn x' y' => x.same x' && y.same y'
  | .mx x y, .mx x' y' => x.same x' && y.same y'
  | .cm o x y, .cm o' x' y' => decide (o = o') && x.same x' && y.same y'
  | .nt x, .nt x' => x.same x'
  | .an x y, .an x' y' => x.same x' && y.same y'
  | .oo x y, .oo x' y' => x.same x' && y.same y'
  | .be x y, .be x' y' => x.same x' && y.same y'
  | .bi c x y, .bi c' x' y' => c.same c' && x.same x' && y.same y'
  | .ii c x y, .ii c' x' y' => c.same c' && x.same x' && y.same y'
  | .tb l x, .tb l' x' => decide (l = l') && x.same x'
  | _, _ => false
theorem E.same_eq : ∀ {x y : E}, x.same y = true → x = y := by
  intro x
  induction x <;> intro y h <;> cases y <;> simp [E.same] at h <;> simp_all <;> (try (constructor <;> grind)) <;> grind

/-- c stands among the parts of G. -/
def E.has (c : E) : E → Bool
  | .an x y => (E.an x y).same c || E.has c x || E.has c y
  | e => e.same c
theorem E.has_ok {c : E} {is bs} : ∀ {G : E}, E.has c G = true → G.B is bs = true → c.B is bs = true := by
  intro G
  induction G <;> intro h hG
  case an x y ihx ihy =>
    simp only [E.has, Bool.or_eq_true] at h
    rcases h with (h | h) | h
    · rw [← E.same_eq h]; exact hG
    · simp only [E.B, Bool.and_eq_true] at hG; exact ihx h hG.1
    · simp only [E.B, Bool.and_eq_true] at hG; exact ihy h hG.2
  all_goals (simp only [E.has] at h; rw [← E.same_eq h]; exact hG)
/-- G tells c. -/
def E.imp (G : E) : E → Bool
  | .t b => b
  | .an x y => E.has (.an x y) G || (E.imp G x && E.imp G y)
  | c => E.has c G
theorem E.imp_ok {G : E} {is bs} : ∀ {c : E}, E.imp G c = true → G.B is bs = true → c.B is bs = true := by
  intro c
  induction c <;> intro h hG
  case an x y ihx ihy =>
    simp only [E.imp, Bool.or_eq_true, Bool.and_eq_true] at h
    rcases h with h | ⟨h1, h2⟩
    · exact E.has_ok h hG
    · simp only [E.B, Bool.and_eq_true]; exact ⟨ihx h1 hG, ihy h2 hG⟩
  case t b => simpa [E.imp, E.B] using h
  all_goals (simp only [E.imp] at h; exact E.has_ok h hG)

/-! The words that fold what is known. -/
def mkar (op : BinOp) (k : IntKind) : E → E → E
  | .n a, .n b => .n (arI op k a b)
  | x, y => .ar op k x y
def mkcv (k : IntKind) : E → E
  | .n a => .n (k.wrap a)
  | x => .cv k x
def mkmn : E → E → E
  | .n a, .n b => .n (if b < a then b else a)
  | x, y => .mn x y
def mkmx : E → E → E
  | .n a, .n b => .n (if b > a then b else a)
  | x, y => .mx x y
def mkcm (op : BinOp) : E → E → E
  | .n a, .n b => .t (cmB op a b)
  | x, y => .cm op x y
def mknt : E → E
  | .t b => .t (!b)
  | .nt x => x
  | x => .nt x
def mkan : E → E → E
  | .t true, y => y
  | .t false, _ => .t false
  | x, .t true => x
  | x, y => .an x y
def mkoo : E → E → E
  | .t false, y => y
  | .t true, _ => .t true
  | x, .t false => x
  | _, .t true => .t true
  | x, y => .oo x y
def mkbe : E → E → E
  | .t a, .t b => .t (a == b)
  | x, y => .be x y
def mkbi : E → E → E → E
  | .t true, x, _ => x
  | .t false, _, y => y
  | c, x, .t false => mkan c x
  | c, .t true, y => mkoo c y
  | c, x, y => .bi c x y
def mkii : E → E → E → E
  | .t true, x, _ => x
  | .t false, _, y => y
  | c, x, y => .ii c x y
section
variable (is : List Int) (bs : List Bool)
theorem mkar_I (op k) (x y : E) : (mkar op k x y).I is bs = arI op k (x.I is bs) (y.I is bs) := by
  unfold mkar; split <;> simp [E.I]
theorem mkcv_I (k) (x : E) : (mkcv k x).I is bs = k.wrap (x.I is bs) := by unfold mkcv; split <;> simp [E.I]
theorem mkmn_I (x y : E) : (mkmn x y).I is bs = if y.I is bs < x.I is bs then y.I is bs else x.I is bs := by unfold mkmn; split <;> first | rfl | simp [E.I]
theorem mkmx_I (x y : E) : (mkmx x y).I is bs = if y.I is bs > x.I is bs then y.I is bs else x.I is bs := by unfold mkmx; split <;> first | rfl | simp [E.I]
theorem mkcm_B (op) (x y : E) : (mkcm op x y).B is bs = cmB op (x.I is bs) (y.I is bs) := by unfold mkcm; split <;> simp [E.I, E.B]
theorem mknt_B (x : E) : (mknt x).B is bs = !(x.B is bs) := by unfold mknt; split <;> simp [E.B]
theorem mkan_B (x y : E) : (mkan x y).B is bs = (x.B is bs && y.B is bs) := by unfold mkan; split <;> simp [E.B]
theorem mkoo_B (x y : E) : (mkoo x y).B is bs = (x.B is bs || y.B is bs) := by unfold mkoo; split <;> simp [E.B]
theorem mkbe_B (x y : E) : (mkbe x y).B is bs = (x.B is bs == y.B is bs) := by unfold mkbe; split <;> simp [E.B]
theorem mkbi_B (c x y : E) : (mkbi c x y).B is bs = bif c.B is bs then x.B is bs else y.B is bs := by
  unfold mkbi; split
  · rfl
  · rfl
  · simp only [mkan_B, E.B]; cases E.B is bs _ <;> simp
  · simp only [mkoo_B, E.B]; cases E.B is bs _ <;> simp
  · rfl
theorem mkii_I (c x y : E) : (mkii c x y).I is bs = bif c.B is bs then x.I is bs else y.I is bs := by
  unfold mkii; split <;> rfl
end

/-- What one cell holds: a number, a bool, an address in the call's own block number b, a slice of such, nothing. -/
inductive Sc where
  | i (k : IntKind) (e : E)
  | b (e : E)
  | p (b o : Nat)
  | sl (b o l c : Nat)
  | nls
  | str (s : ByteArray)
/-- A value: one cell, or a struct's or array's cells. -/
inductive S1 where
  | s (c : Sc)
  | agg (l : List Sc)
/-- What a slot holds: a value, several results, a value under a condition (else nothing), nothing. -/
inductive SV where
  | o (v : S1)
  | tup (l : List S1)
  | g (c : E) (v : S1)
  | u
structure Env where
  p : List Nat
  i : List Int
  b : List Bool
def Sc.den (v : Env) : Sc → Value
  | .i k e => .int k (e.I v.i v.b)
  | .b e => .bool (e.B v.i v.b)
  | .p n o => .pointer (some ⟨v.p.getD n 0, o, none⟩)
  | .sl n o l c => .slice (some ⟨v.p.getD n 0, o, none⟩) l c
  | .nls => .slice none 0 0
  | .str s => .string s
def S1.den (v : Env) : S1 → Value
  | .s c => c.den v
  | .agg l => .agg (l.map (Sc.den v)).toArray
def SV.den (v : Env) : SV → Value
  | .o x => x.den v
  | .tup l => .tuple (l.map (S1.den v)).toArray
  | .g c x => bif c.B v.i v.b then x.den v else undef
  | .u => undef
def S1.cells : S1 → List Sc
  | .s c => [c]
  | .agg l => l
theorem Sc.den_one (v : Env) (c : Sc) : (c.den v).oneCell' = true := by cases c <;> rfl
theorem Sc.den_cells (v : Env) (c : Sc) : (c.den v).cells = #[c.den v] := by cases c <;> rfl
theorem S1.den_cells (v : Env) (x : S1) : (x.den v).cells = (x.cells.map (Sc.den v)).toArray := by
  cases x with
  | s c => simp [S1.den, S1.cells, Sc.den_cells]
  | agg l => rfl
/-- A later environment. -/
def Later (v v' : Env) : Prop := ∃ p i b, v' = ⟨v.p ++ p, v.i ++ i, v.b ++ b⟩
theorem Later.refl (v : Env) : Later v v := ⟨[], [], [], by simp⟩
theorem Later.trans {a b c : Env} (h : Later a b) (k : Later b c) : Later a c := by
  obtain ⟨p, i, b', rfl⟩ := h
  obtain ⟨p', i', b'', rfl⟩ := k
  exact ⟨p ++ p', i ++ i', b' ++ b'', by simp⟩
/-- Slots, as a tree: the place 0 at the root, the odd ones to the left, the even ones to the right. -/
inductive Tr where
  | lf
  | nd (l : Tr) (x : SV) (r : Tr)
def Tr.get : Tr → Nat → SV
  | .lf, _ => .u
  | .nd l x r, n => match n with
    | 0 => x
    | k + 1 => match Nat.beq (k % 2) 0 with
      | true => l.get (k / 2)
      | false => r.get (k / 2)
def Tr.ex : Tr → Nat → Bool
  | .lf, _ => false
  | .nd l _ r, n => match n with
    | 0 => true
    | k + 1 => match Nat.beq (k % 2) 0 with
      | true => l.ex (k / 2)
      | false => r.ex (k / 2)
def Tr.set : Tr → Nat → SV → Tr
  | .lf, _, _ => .lf
  | .nd l y r, n, x => match n with
    | 0 => .nd l x r
    | k + 1 => match Nat.beq (k % 2) 0 with
      | true => .nd (l.set (k / 2) x) y r
      | false => .nd l y (r.set (k / 2) x)
theorem beq_zero (n : Nat) : Nat.beq n 0 = decide (n = 0) := by cases n <;> rfl
theorem Tr.get_set : ∀ (tr : Tr) (n m : Nat) (x : SV), tr.ex n = true → (tr.set n x).get m = if m = n then x else tr.get m
  | .lf, _, _, _, h => by simp [Tr.ex] at h
  | .nd l y r, n, m, x, h => by
    cases n with
    | zero => cases m <;> simp [Tr.set, Tr.get]
    | succ k =>
      simp only [Tr.ex, beq_zero] at h
      simp only [Tr.set, beq_zero]
      by_cases hk : k % 2 = 0
      · simp only [hk, decide_true] at h ⊢
        cases m with
        | zero => simp [Tr.get]
        | succ j =>
          simp only [Tr.get, beq_zero]
          by_cases hj : j % 2 = 0
          · simp only [hj, decide_true]
            rw [Tr.get_set l _ _ x h]
            by_cases e : j = k
            · subst e; simp
            · rw [if_neg (by omega), if_neg (by omega)]
          · simp only [hj, decide_false]
            rw [if_neg (by omega)]
      · simp only [hk, decide_false] at h ⊢
        cases m with
        | zero => simp [Tr.get]
        | succ j =>
          simp only [Tr.get, beq_zero]
          by_cases hj : j % 2 = 0
          · simp only [hj, decide_true]
            rw [if_neg (by omega)]
          · simp only [hj, decide_false]
            rw [Tr.get_set r _ _ x h]
            by_cases e : j = k
            · subst e; simp
            · rw [if_neg (by omega), if_neg (by omega)]
theorem Tr.ex_set : ∀ (tr : Tr) (n m : Nat) (x : SV), (tr.set n x).ex m = tr.ex m
  | .lf, _, _, _ => rfl
  | .nd l y r, n, m, x => by
    cases n with
    | zero => cases m <;> simp [Tr.set, Tr.ex]
    | succ k =>
      simp only [Tr.set]
      cases Nat.beq (k % 2) 0 <;> cases m <;> simp only [Tr.ex]
      · cases Nat.beq _ 0 <;> simp only [Tr.ex_set r]
      · cases Nat.beq _ 0 <;> simp only [Tr.ex_set l]
def Tr.full : Nat → Tr
  | 0 => .lf
  | n + 1 => .nd (Tr.full n) .u (Tr.full n)
theorem Tr.get_full : ∀ (d n : Nat), (Tr.full d).get n = .u
  | 0, _ => rfl
  | d + 1, n => by
    cases n with
    | zero => rfl
    | succ k => simp only [Tr.full, Tr.get]; cases Nat.beq (k % 2) 0 <;> exact Tr.get_full d _
structure St where
  tm : Tr
  n : Nat
  hp : List (List Sc)
  nI : Nat
  nB : Nat
def St.get? (st : St) (t : Nat) : Option SV :=
  match Nat.ble (t + 1) st.n with
  | true => some (st.tm.get t)
  | false => none
def St.get (st : St) (t : Nat) : SV := (st.get? t).getD .u
def St.put (st : St) (d : Option Nat) (v : SV) : St :=
  match d with
  | some t => { st with tm := st.tm.set t v }
  | none => st
theorem St.get?_lt {st : St} {t : Nat} (h : t < st.n) : st.get? t = some (st.tm.get t) := by
  unfold St.get?; rw [Nat.ble_eq_true_of_le h]
theorem St.get?_ge {st : St} {t : Nat} (h : ¬ t < st.n) : st.get? t = none := by
  unfold St.get?
  have : Nat.ble (t + 1) st.n = false := by
    cases e : Nat.ble (t + 1) st.n
    · rfl
    · exact absurd (Nat.le_of_ble_eq_true e) h
  rw [this]
structure TR (v : Env) (st : St) (a : Act) : Prop where
  tm : ∀ v', Later v v' → ∀ t : Nat, a.tmps[t]? = (st.get? t).map (SV.den v')
  df : a.defers = []
  hi : v.i.length = st.nI
  hb : v.b.length = st.nB
  ex : ∀ t, t < st.n → st.tm.ex t = true
theorem TR.get? {v : Env} {st : St} {a : Act} (h : TR v st a) {v' : Env} (l : Later v v') (d : Nat) : a.tmps[d]? = (st.get? d).map (SV.den v') := h.tm v' l d
theorem TR.get {v : Env} {st : St} {a : Act} (h : TR v st a) {v' : Env} (l : Later v v') (t : Nat) : a.tmps.getD t undef = (st.get t).den v' := by
  rw [Array.getD_eq_getD_getElem?, h.tm v' l t]
  unfold St.get
  cases st.get? t <;> rfl
theorem TR.lt {v : Env} {st : St} {a : Act} (h : TR v st a) (t : Nat) : t < st.n ↔ t < a.tmps.size := by
  have := h.tm v (Later.refl v) t
  constructor
  · intro ht
    rw [St.get?_lt ht] at this
    exact (Array.getElem?_eq_some_iff.1 this).1
  · intro ht
    rw [Array.getElem?_eq_getElem ht] at this
    by_cases hs : t < st.n
    · exact hs
    · rw [St.get?_ge hs] at this; cases this
theorem TR.put {v : Env} {st : St} {a : Act} (h : TR v st a) (d : Option Nat) (x : SV) (u : Value) (hx : ∀ v', Later v v' → u = x.den v') : TR v (st.put d x) (a.put d u) := by
  cases d with
  | none => exact h
  | some t =>
    refine ⟨fun v' l t' => ?_, h.df, h.hi, h.hb, fun t' ht => ?_⟩
    · show (a.tmps.setIfInBounds t u)[t']? = ((St.put st (some t) x).get? t').map (SV.den v')
      by_cases hn : t' < st.n
      · rw [St.get?_lt (st := St.put st (some t) x) hn]
        show _ = some (((st.tm.set t x).get t').den v')
        by_cases e : t = t'
        · subst e
          rw [Tr.get_set _ _ _ _ (h.ex t hn), if_pos rfl, ← hx v' l]
          simp [(h.lt t).1 hn]
        · rw [Array.getElem?_setIfInBounds_ne e, h.tm v' l t', St.get?_lt hn]
          by_cases hex : t < st.n
          · rw [Tr.get_set _ _ _ _ (h.ex t hex), if_neg (fun q => e q.symm)]; rfl
          · by_cases hq : st.tm.ex t = true
            · rw [Tr.get_set _ _ _ _ hq, if_neg (fun q => e q.symm)]; rfl
            · have : ∀ (tr : Tr) (n m : Nat), tr.ex n ≠ true → (tr.set n x).get m = tr.get m := by
                intro tr
                induction tr with
                | lf => intros; rfl
                | nd l y r ihl ihr =>
                  intro n m hx
                  cases n with
                  | zero => exact absurd rfl hx
                  | succ k =>
                    simp only [Tr.ex] at hx
                    simp only [Tr.set]
                    cases hb : Nat.beq (k % 2) 0 <;> rw [hb] at hx <;> cases m with
                    | zero => rfl
                    | succ j =>
                      simp only [Tr.get]
                      cases Nat.beq (j % 2) 0 <;> first | rfl | exact ihl _ _ hx | exact ihr _ _ hx
              rw [this _ _ _ hq]; rfl
      · rw [St.get?_ge (st := St.put st (some t) x) hn, Array.getElem?_eq_none (by rw [Array.size_setIfInBounds]; exact Nat.le_of_not_lt fun q => hn ((h.lt t').2 q))]
        rfl
    · show (st.tm.set t x).ex t' = true
      rw [Tr.ex_set]; exact h.ex t' ht
structure HR (v : Env) (hp : List (List Sc)) (w0 w : World) : Prop where
  ln : v.p.length = hp.length
  nd : v.p.Nodup
  blk : ∀ v', Later v v' → ∀ (i : Nat) cs, hp[i]? = some cs → ∃ el, w.heap[v.p.getD i 0]? = some (.cells (cs.map (Sc.den v')).toArray el (0, 0))
  ge : ∀ n ∈ v.p, w0.heap.size ≤ n
  bel : Below w0.heap.size w0 w
theorem HR.later {v v' : Env} {hp} {w0 w} (h : HR v hp w0 w) {i b} (hv : v' = ⟨v.p, v.i ++ i, v.b ++ b⟩) : HR v' hp w0 w := by
  subst hv
  refine ⟨h.ln, h.nd, fun v'' l j cs hj => ?_, h.ge, h.bel⟩
  exact h.blk v'' (Later.trans ⟨[], i, b, by simp⟩ l) j cs hj

def GT (v : Env) (G : E) : Prop := ∀ v', Later v v' → G.B v'.i v'.b = true
def GF (v : Env) (G : E) : Prop := ∀ v', Later v v' → G.B v'.i v'.b = false
theorem GT.t (v : Env) : GT v (.t true) := fun _ _ => rfl

def ofSc : Value → Option Sc
  | .int k n => some (.i k (.n n))
  | .bool b => some (.b (.t b))
  | .slice none 0 0 => some .nls
  | .string s => some (.str s)
  | _ => none
def ofScs : List Value → Option (List Sc)
  | [] => some []
  | v :: r => match ofSc v, ofScs r with
    | some x, some l => some (x :: l)
    | _, _ => none
def ofConst : Value → Option S1
  | .agg cs => (ofScs cs.toList).map .agg
  | v => (ofSc v).map .s
theorem ofSc_ok {x : Value} {c : Sc} (h : ofSc x = some c) (v : Env) : x = c.den v := by
  unfold ofSc at h
  split at h <;> cases h <;> rfl
theorem ofScs_ok : ∀ {l : List Value} {cs : List Sc}, ofScs l = some cs → ∀ v : Env, l = cs.map (Sc.den v)
  | [], cs, h, v => by simp [ofScs] at h; subst h; rfl
  | x :: r, cs, h, v => by
    simp only [ofScs] at h
    split at h
    · rename_i c l h1 h2
      cases h
      rw [List.map_cons, ← ofSc_ok h1 v, ← ofScs_ok h2 v]
    · cases h
theorem ofConst_ok {x : Value} {s : S1} (h : ofConst x = some s) (v : Env) : x = s.den v := by
  unfold ofConst at h
  split at h
  · rename_i cs
    simp only [Option.map_eq_some_iff] at h
    obtain ⟨l, h1, rfl⟩ := h
    have := ofScs_ok h1 v
    simp [S1.den, ← this]
  · simp only [Option.map_eq_some_iff] at h
    obtain ⟨c, h1, rfl⟩ := h
    exact ofSc_ok h1 v

def rd (st : St) (G : E) : Operand → Option S1
  | .tmp t => match st.get t with
    | .o v => some v
    | .g c v => if E.imp G c then some v else none
    | _ => none
  | .const v => ofConst v
  | _ => none
theorem rd_ok {st : St} {G : E} {x : Operand} {s : S1} {v : Env} {a : Act} (hT : TR v st a) (hG : GT v G) (h : rd st G x = some s) : ∀ v', Later v v' → a.eval x = s.den v' := by
  intro v' l
  unfold rd at h
  split at h
  · rename_i t
    show a.tmps.getD t undef = _
    rw [hT.get l t]
    split at h
    · rename_i e; cases h; rw [e]; rfl
    · rename_i c x e
      split at h
      · rename_i hi
        cases h
        rw [e]
        simp only [SV.den, E.imp_ok hi (hG v' l), cond_true]
      · cases h
    · cases h
  · exact ofConst_ok h v'
  · cases h

def merge (e : E) : S1 → S1 → Option S1
  | .s (.i k x), .s (.i k' y) => if k = k' then some (.s (.i k (mkii e x y))) else none
  | .s (.b x), .s (.b y) => some (.s (.b (mkbi e x y)))
  | _, _ => none
section
variable (P : Program)
/-- A part of a struct's or an array's cells. -/
def partS (t : TypeId) (cs : List Sc) (off : Nat) : Option S1 :=
  match P.underlying t, P.info? t with
  | some d, some i => if d.isRow then some (.agg ((cs.drop off).take i.size)) else (cs[off]?).map .s
  | _, _ => none
theorem run_isAgg {P : Program} {t : TypeId} {d : TypeDesc} (h : P.underlying t = some d) (w : World) : (isAgg t).run P w = .ok d.isRow w := by
  unfold isAgg
  rw [Sem.run_bind, run_underlying h w]
  cases d <;> rfl
theorem run_sizeOf {P : Program} {t : TypeId} {i : TypeInfo} (h : P.info? t = some i) (w : World) : (sizeOf t).run P w = .ok i.size w := by simp [sizeOf, typeInfo, h]
theorem partS_ok {t cs off s} (h : partS P t cs off = some s) (v : Env) (w : World) : (part t (cs.map (Sc.den v)).toArray off).run P w = .ok (s.den v) w := by
  unfold partS at h
  split at h
  · rename_i d i hd hi
    unfold part
    rw [Sem.run_bind, run_isAgg hd w, Result.andThen_ok]
    split at h
    · rename_i hr
      cases h
      rw [if_pos hr, Sem.run_bind, run_sizeOf hi w, Result.andThen_ok, Sem.run_pure]
      congr 2
      apply Array.toList_inj.1
      simp [List.extract, List.map_take, List.map_drop]
    · rename_i hr
      rw [if_neg hr]
      simp only [Option.map_eq_some_iff] at h
      obtain ⟨c, h1, rfl⟩ := h
      simp [h1, S1.den]
  · cases h
/-- Equal, part for part. -/
def eqF (eq : TypeId → S1 → S1 → Option E) (xs ys : List Sc) : List Field → Option E
  | [] => some (.t true)
  | f :: fs => if f.name = "_" then none else
    match partS P f.type xs f.offset, partS P f.type ys f.offset with
    | some x, some y => match eq f.type x y, eqF eq xs ys fs with
      | some e, some r => some (mkan e r)
      | _, _ => none
    | _, _ => none
def eqS : Nat → TypeId → S1 → S1 → Option E
  | 0, _, _, _ => none
  | d + 1, t, x, y => match P.underlying t, x, y with
    | some (.int _), .s (.i k a), .s (.i k' b) => if k = k' then some (mkcm .eql a b) else none
    | some .bool, .s (.b a), .s (.b b) => some (mkbe a b)
    | some (.struct fs), .agg xs, .agg ys => if P.stoodInHeld t then none else eqF P (eqS d) xs ys fs.toList
    | _, _, _ => none
theorem eqF_ok (eq : TypeId → S1 → S1 → Option E) (D : Nat) (v : Env) (w : World) (ih : ∀ {t x y e}, eq t x y = some e → (Op.equalIn D t (x.den v) (y.den v)).run P w = .ok (e.B v.i v.b) w) {xs ys : List Sc} :
    ∀ (fs : List Field) {e}, eqF P eq xs ys fs = some e → (Op.eqFields D (xs.map (Sc.den v)).toArray (ys.map (Sc.den v)).toArray fs).run P w = .ok (e.B v.i v.b) w
  | [], e, h => by
    have h' : some (E.t true) = some e := h
    cases h'; rfl
  | f :: fs, e, h => by
    simp only [eqF] at h
    split at h
    · cases h
    · rename_i hn
      split at h
      · rename_i x y hx hy
        split at h
        · rename_i e1 r h1 h2
          cases h
          have k1 := ih h1
          have k2 := eqF_ok eq D v w ih fs h2
          simp only [Op.eqFields]
          rw [if_pos hn]
          simp only [Sem.run_bind, partS_ok P hx v w, partS_ok P hy v w, Result.andThen_ok, k1, mkan_B]
          cases e1.B v.i v.b
          · rfl
          · simpa using k2
        · cases h
      · cases h
theorem eqS_ok : ∀ (d : Nat) {t x y e}, eqS P d t x y = some e → ∀ (D : Nat) (v : Env) (w : World), (Op.equalIn (D + d) t (x.den v) (y.den v)).run P w = .ok (e.B v.i v.b) w
  | 0, _, _, _, _, h, _, _, _ => by simp [eqS] at h
  | d + 1, t, x, y, e, h, D, v, w => by
    simp only [eqS] at h
    split at h
    · rename_i hu
      split at h
      · rename_i hk
        cases h
        subst hk
        rw [← Nat.add_assoc]
        rw [S1.den, S1.den, Sc.den, Sc.den, run_equalIn_int w _ t _ _ _ _ hu, mkcm_B]; rfl
      · cases h
    · rename_i hu
      cases h
      rw [← Nat.add_assoc]
      rw [S1.den, S1.den, Sc.den, Sc.den, run_equalIn_bool w _ t _ _ hu, mkbe_B]
    · rename_i fs xs ys hu
      split at h
      · cases h
      · rename_i hs
        have hf : P.fieldsOf t = fs := by simp [Program.fieldsOf, hu]
        rw [← Nat.add_assoc]
        rw [S1.den, S1.den, run_equalIn_struct w _ t _ _ (by rw [hf]; exact hu) (by simpa using hs), hf]
        exact eqF_ok P (eqS P d) (D + d) v w (fun h => eqS_ok d h D v w) fs.toList h
    · cases h
/-- What a struct or an array is built of. -/
def fillS (place : Nat → Option (Nat × Nat)) (cells : Array Sc) : List (Nat × S1) → Option (Array Sc)
  | [] => some cells
  | (i, v) :: rest =>
    match place i with
    | none => none
    | some (off, size) =>
      if v.cells.length ≠ size || off + v.cells.length > cells.size then none
      else fillS place (v.cells.toArray.zipIdx.foldl (fun cs (c, j) => cs.setIfInBounds (off + j) c) cells) rest
theorem foldl_den (v : Env) (off : Nat) : ∀ (l : List (Sc × Nat)) (cells : Array Sc),
    ((l.foldl (fun cs (c, j) => cs.setIfInBounds (off + j) c) cells).map (Sc.den v)) = (l.map fun (c, j) => (c.den v, j)).foldl (fun cs (c, j) => cs.setIfInBounds (off + j) c) (cells.map (Sc.den v))
  | [], cells => rfl
  | (c, j) :: l, cells => by
    simp only [List.foldl_cons, List.map_cons]
    rw [foldl_den v off l]
    simp
theorem fillS_ok (place : Nat → Option (Nat × Nat)) (v : Env) : ∀ (l : List (Nat × S1)) (cells r : Array Sc), fillS place cells l = some r →
    Instr.fill place (cells.map (Sc.den v)) (l.map fun (i, x) => (i, x.den v)) = some (r.map (Sc.den v))
  | [], cells, r, h => by simp [fillS] at h; subst h; rfl
  | (i, x) :: l, cells, r, h => by
    simp only [fillS] at h
    simp only [List.map_cons, Instr.fill]
    cases hp : place i with
    | none => simp [hp] at h
    | some os =>
      obtain ⟨off, size⟩ := os
      simp only [hp] at h
      split at h
      · cases h
      · rename_i hc
        simp only
        split
        · rename_i hc'
          rw [S1.den_cells] at hc'
          exact absurd (by simpa using hc') hc
        · have := fillS_ok place v l _ r h
          rw [← this]
          congr 1
          rw [S1.den_cells]
          rw [← Array.foldl_toList, ← Array.foldl_toList, foldl_den]
          congr 1
          simp [List.zipIdx_map]
          try rfl
def builtS (t : TypeId) (parts : List (Nat × S1)) : Option S1 :=
  match P.info? t, P.underlying t with
  | some it, some (.array _ e) =>
    match it.zero, P.info? e with
    | some z, some ie => match ofScs z.cells.toList with
      | some zs => (fillS (fun i => some (i * ie.size, ie.size)) zs.toArray parts).map fun r => .agg r.toList
      | none => none
    | _, _ => none
  | some it, some (.struct fields) =>
    match it.zero, fields.toList.mapM (fun f => (P.info? f.type).map fun i => (f.offset, i.size)) with
    | some z, some places => match ofScs z.cells.toList with
      | some zs => (fillS (places.toArray[·]?) zs.toArray parts).map fun r => .agg r.toList
      | none => none
    | _, _ => none
  | _, _ => none
theorem builtS_ok {t parts s} (h : builtS P t parts = some s) (v : Env) (w : World) : (Instr.build t (parts.map fun (i, x) => (i, x.den v)).toArray).run P w = .ok (s.den v) w := by
  have key : ∃ cells, P.built t (parts.map fun (i, x) => (i, x.den v)) = some cells ∧ s.den v = .agg cells := by
    unfold builtS at h
    unfold Program.built
    cases hi : P.info? t with
    | none => simp [hi] at h
    | some it =>
      cases hu : P.underlying t with
      | none => simp [hi, hu] at h
      | some d =>
        cases hz : it.zero with
        | none => cases d <;> simp [hi, hu, hz] at h
        | some z =>
          cases hzs : ofScs z.cells.toList with
          | none => cases d <;> simp [hi, hu, hz] at h <;> (split at h <;> simp_all)
          | some zs =>
            have e1 := ofScs_ok hzs v
            have e2 : z.cells = zs.toArray.map (Sc.den v) := by apply Array.toList_inj.1; simp [e1]
            cases d <;> try (simp [hi, hu] at h; done)
            case array n e =>
              cases hie : P.info? e with
              | none => simp [hi, hu, hz, hie] at h
              | some ie =>
                simp only [hi, hu, hz, hie, hzs, Option.map_eq_some_iff] at h
                obtain ⟨r, h1, rfl⟩ := h
                refine ⟨r.map (Sc.den v), ?_, congrArg Value.agg (by apply Array.toList_inj.1; simp)⟩
                simp only [hz, hie]
                rw [e2]; exact fillS_ok _ v _ _ _ h1
            case struct fields =>
              cases hpl : fields.toList.mapM (fun f => (P.info? f.type).map fun i => (f.offset, i.size)) with
              | none => simp [hi, hu, hz, hpl] at h
              | some places =>
                simp only [hi, hu, hz, hpl, hzs, Option.map_eq_some_iff] at h
                obtain ⟨r, h1, rfl⟩ := h
                refine ⟨r.map (Sc.den v), ?_, congrArg Value.agg (by apply Array.toList_inj.1; simp)⟩
                simp only [hz, hpl]
                rw [e2]; exact fillS_ok _ v _ _ _ h1
  obtain ⟨cells, h1, h2⟩ := key
  rw [run_build w t _ cells (by simpa using h1), h2]
end

def rdL (st : St) (G : E) : List Operand → Option (List S1)
  | [] => some []
  | x :: r => match rd st G x, rdL st G r with
    | some a, some l => some (a :: l)
    | _, _ => none
def rdP (st : St) (G : E) : List (Nat × Operand) → Option (List (Nat × S1))
  | [] => some []
  | (i, x) :: r => match rd st G x, rdP st G r with
    | some a, some l => some ((i, a) :: l)
    | _, _ => none
section
variable {st : St} {G : E} {v : Env} {a : Act} (hT : TR v st a) (hG : GT v G)
include hT hG
theorem rdL_ok : ∀ {xs : List Operand} {l : List S1}, rdL st G xs = some l → ∀ v', Later v v' → xs.map a.eval = l.map (S1.den v')
  | [], l, h, v', lt => by simp [rdL] at h; subst h; rfl
  | x :: r, l, h, v', lt => by
    simp only [rdL] at h
    split at h
    · rename_i b l' h1 h2
      cases h
      rw [List.map_cons, List.map_cons, rd_ok hT hG h1 v' lt, rdL_ok h2 v' lt]
    · cases h
theorem rdP_ok : ∀ {xs : List (Nat × Operand)} {l : List (Nat × S1)}, rdP st G xs = some l → ∀ v', Later v v' → xs.map (fun (i, x) => (i, a.eval x)) = l.map (fun (i, x) => (i, x.den v'))
  | [], l, h, v', lt => by simp [rdP] at h; subst h; rfl
  | (i, x) :: r, l, h, v', lt => by
    simp only [rdP] at h
    split at h
    · rename_i b l' h1 h2
      cases h
      have e1 := rd_ok hT hG h1 v' lt
      have e2 := rdP_ok h2 v' lt
      simp only [List.map_cons, e1, e2]
    · cases h
end

def intOp (op : BinOp) (k k' : IntKind) (a b : E) : Option (S1 × E) :=
  match op with
  | .shl | .shr => some (.s (.i k (mkar op k a b)), mkcm .geq b (.n 0))
  | .quo | .rem => if k = k' then some (.s (.i k (mkar op k a b)), mkcm .neq b (.n 0)) else none
  | .add | .sub | .mul | .and | .or | .xor | .andNot => if k = k' then some (.s (.i k (mkar op k a b)), .t true) else none
  | .eql | .neq | .lss | .leq | .gtr | .geq => if k = k' then some (.s (.b (mkcm op a b)), .t true) else none
section
variable (P : Program)
def boolOp (op : BinOp) (t : TypeId) (a b : E) : Option (S1 × E) :=
  match P.underlying t, op with
  | some .bool, .eql => some (.s (.b (mkbe a b)), .t true)
  | some .bool, .neq => some (.s (.b (mknt (mkbe a b))), .t true)
  | _, _ => none
def aggOp (op : BinOp) (t : TypeId) (xs ys : List Sc) : Option (S1 × E) :=
  if P.eqGuardType P.depth t then none else
  match eqS P 6 t (.agg xs) (.agg ys), op with
  | some e, .eql => some (.s (.b e), .t true)
  | some e, .neq => some (.s (.b (mknt e)), .t true)
  | _, _ => none
def binS (op : BinOp) (t : TypeId) (x y : S1) : Option (S1 × E) :=
  match x, y with
  | .s (.i k a), .s (.i k' b) => intOp op k k' a b
  | .s (.b a), .s (.b b) => boolOp P op t a b
  | .agg xs, .agg ys => aggOp P op t xs ys
  | _, _ => none
def unS (op : UnOp) (x : S1) : Option S1 :=
  match op, x with
  | .not, .s (.b e) => some (.s (.b (mknt e)))
  | .neg, .s (.i k e) => some (.s (.i k (mkar .sub k (.n 0) e)))
  | .xor, .s (.i k e) => some (.s (.i k (mkar .xor k (.n (if k.signed then -1 else k.max)) e)))
  | _, _ => none
def cvS (src dst : TypeId) (x : S1) : Option S1 :=
  match x, P.underlying src, P.underlying dst with
  | .s (.i _ e), some _, some (.int k) => some (.s (.i k (mkcv k e)))
  | _, _, _ => none
def fieldS (t : TypeId) (x : S1) (f : Nat) : Option S1 :=
  match x, P.underlying t with
  | .agg cs, some (.struct fs) => match fs[f]? with
    | some f => partS P f.type cs f.offset
    | none => none
  | _, _ => none
def faddrS (s : TypeId) (x : S1) (f : Nat) : Option S1 :=
  match x, P.underlying s with
  | .s (.p b o), some (.struct fs) => match fs[f]? with
    | some fd => match P.info? fd.type with
      | some i => if i.size = 0 then none else some (.s (.p b (o + fd.offset)))
      | none => none
    | none => none
  | _, _ => none
def iaddrS (t : TypeId) (x i : S1) : Option S1 :=
  match x, i, P.underlying t with
  | .s (.sl b o l _), .s (.i _ (.n m)), some (.slice e) => match P.info? e with
    | some ie => if 0 ≤ m ∧ m < (l : Int) then some (.s (.p b (o + m.toNat * ie.size))) else none
    | none => none
  | .s (.p b o), .s (.i _ (.n m)), some (.array l e) => match P.info? e with
    | some ie => if 0 ≤ m ∧ m < (l : Int) then some (.s (.p b (o + m.toNat * ie.size))) else none
    | none => none
  | _, _, _ => none
def indexS (t : TypeId) (x i : S1) : Option S1 :=
  match x, i, P.underlying t with
  | .agg cs, .s (.i _ (.n m)), some (.array l e) => match P.info? e with
    | some ie => if 0 ≤ m ∧ m < (l : Int) then partS P e cs (m.toNat * ie.size) else none
    | none => none
  | _, _, _ => none
/-- A byte of a string that is known. -/
def bytesL (s : ByteArray) : List Nat := s.data.toList.map UInt8.toNat
def idxS (t : TypeId) (x i : S1) : Option (S1 × E) :=
  match x, i, P.underlying t with
  | .s (.str s), .s (.i _ e), some .string => some (.s (.i .u8 (.tb (bytesL s) e)), mkan (mkcm .geq e (.n 0)) (mkcm .lss e (.n s.size)))
  | x, i, _ => (indexS P t x i).map (·, .t true)
def loadS (hp : List (List Sc)) (t : TypeId) (x : S1) : Option S1 :=
  match x with
  | .s (.p b o) => match hp[b]?, P.underlying t, P.info? t with
    | some cs, some d, some i =>
      if d.isRow then (if o + i.size ≤ cs.length then some (.agg ((cs.drop o).take i.size)) else none) else (cs[o]?).map .s
    | _, _, _ => none
  | _ => none
def lenS (t : TypeId) (x : S1) : Option S1 :=
  match x, P.underlying t with
  | .s (.sl _ _ l _), some (.slice _) => some (.s (.i .i64 (.n l)))
  | .s .nls, some (.slice _) => some (.s (.i .i64 (.n 0)))
  | _, _ => none
def bltS (b : Builtin) (ts : List TypeId) (l : List S1) : Option S1 :=
  match b, ts, l with
  | .min, _, [.s (.i k a), .s (.i _ b)] => some (.s (.i k (mkmn a b)))
  | .max, _, [.s (.i k a), .s (.i _ b)] => some (.s (.i k (mkmx a b)))
  | .len, [t], [x] => lenS P t x
  | _, _, _ => none
/-- What an operation that only reckons or reads yields, and what must hold for it not to panic. -/
def pv (st : St) (G : E) (op : Op) : Option (S1 × E) :=
  match op with
  | .move x | .assign x => (rd st G x).map (·, .t true)
  | .pick c x y => match rd st G c with
    | some (.s (.b e)) => match e with
      | .t true => (rd st G x).map (·, .t true)
      | .t false => (rd st G y).map (·, .t true)
      | e => match rd st (mkan G e) x, rd st (mkan G (mknt e)) y with
        | some a, some b => (merge e a b).map (·, .t true)
        | _, _ => none
    | _ => none
  | .build t parts => match rdP st G parts.toList with
    | some l => (builtS P t l).map (·, .t true)
    | none => none
  | .field t x f => match rd st G x with
    | some x => (fieldS P t x f).map (·, .t true)
    | none => none
  | .extract (.tmp t) ix => match st.get t with
    | .tup l => (l[ix]?).map (·, .t true)
    | _ => none
  | .binOp op t x y _ => match rd st G x, rd st G y with
    | some x, some y => binS P op t x y
    | _, _ => none
  | .unOp op _ x => match rd st G x with
    | some x => (unS op x).map (·, .t true)
    | none => none
  | .convert src dst x => match rd st G x with
    | some x => (cvS P src dst x).map (·, .t true)
    | none => none
  | .nilCheck x => match rd st G x with
    | some (.s (.p b o)) => some (.s (.p b o), .t true)
    | _ => none
  | .fieldAddr s x f => match rd st G x with
    | some x => (faddrS P s x f).map (·, .t true)
    | none => none
  | .indexAddr t x i => match rd st G x, rd st G i with
    | some x, some i => (iaddrS P t x i).map (·, .t true)
    | _, _ => none
  | .index t x i => match rd st G x, rd st G i with
    | some x, some i => idxS P t x i
    | _, _ => none
  | .load t x => match rd st G x with
    | some x => (loadS P st.hp t x).map (·, .t true)
    | none => none
  | .call { callee := .builtin b, args := xs, argTypes := ts } => match rdL st G xs.toList with
    | some l => (bltS P b ts.toList l).map (·, .t true)
    | none => none
  | _ => none
variable {P}
/-- Run of an operation that hands back a value in the world that it got. -/
theorem run_v {s : Sem Value} {w : World} {u : Value} (h : s.run P w = .ok u w) : (do pure (Next.value (← s))).run P w = .ok (.value u) w := by
  simp [h]
theorem intOp_ok {op k k' x y s rq} (h : intOp op k k' x y = some (s, rq)) (t : TypeId) (ox oy : Operand) (v : Env) (w : World) (hrq : rq.B v.i v.b = true) :
    (do eqGuard op t ox oy (.int k (x.I v.i v.b)) (.int k' (y.I v.i v.b)); binOp op t (.int k (x.I v.i v.b)) (.int k' (y.I v.i v.b))).run P w = .ok (s.den v) w := by
  rw [eqGuard_at_int]
  simp only [Sem.run_bind, Sem.run_pure, Result.andThen_ok]
  unfold intOp at h
  split at h
  · cases h
    simp only [mkcm_B, cmB, E.I, ge_iff_le, decide_eq_true_eq] at hrq
    simp only [binOp_shl, S1.den, Sc.den, mkar_I, arI, Op.shift]
    rw [if_neg (by omega)]; rfl
  · cases h
    simp only [mkcm_B, cmB, E.I, ge_iff_le, decide_eq_true_eq] at hrq
    simp only [binOp_shr, S1.den, Sc.den, mkar_I, arI, Op.shift]
    rw [if_neg (by omega)]; rfl
  · split at h
    · rename_i hk; subst hk; cases h
      simp only [mkcm_B, cmB, E.I, bne_iff_ne, ne_eq] at hrq
      simp only [binOp_quo, S1.den, Sc.den, mkar_I, arI, Op.intDiv]
      rw [if_neg hrq]; rfl
    · cases h
  · split at h
    · rename_i hk; subst hk; cases h
      simp only [mkcm_B, cmB, E.I, bne_iff_ne, ne_eq] at hrq
      simp only [binOp_rem, S1.den, Sc.den, mkar_I, arI, Op.intDiv]
      rw [if_neg hrq]; rfl
    · cases h
  all_goals
    split at h
    · rename_i hk; subst hk; cases h
      first
        | (simp only [binOp_add, binOp_sub, binOp_mul, binOp_and, binOp_or, binOp_xor, binOp_andNot, Op.intArith, intBits_and, intBits_or, intBits_xor, intBits_andNot, S1.den, Sc.den, mkar_I, arI, Sem.run_pure]; done)
        | (simp only [binOp_eql, binOp_neq, binOp_lss, binOp_leq, binOp_gtr, binOp_geq, S1.den, Sc.den, mkcm_B, cmB, Sem.run_pure]; done)
        | (simp only [binOp_eql, binOp_neq, binOp_lss, binOp_leq, binOp_gtr, binOp_geq, S1.den, Sc.den, mkcm_B, cmB, Sem.run_pure]; rfl)
    · cases h
theorem boolOp_ok {op t x y s rq} (h : boolOp P op t x y = some (s, rq)) (ox oy : Operand) (v : Env) (w : World) :
    (do eqGuard op t ox oy (.bool (x.B v.i v.b)) (.bool (y.B v.i v.b)); binOp op t (.bool (x.B v.i v.b)) (.bool (y.B v.i v.b))).run P w = .ok (s.den v) w := by
  rw [eqGuard_at_bool]
  simp only [Sem.run_bind, Sem.run_pure, Result.andThen_ok]
  unfold boolOp at h
  split at h
  · rename_i hu
    cases h
    simp only [binOp, Sem.run_bind, Op.equal, Op.maxDepth]
    rw [run_equalIn_bool w 9999 t _ _ hu]
    simp [S1.den, Sc.den, mkbe_B]
  · rename_i hu
    cases h
    simp only [binOp, Sem.run_bind, Op.equal, Op.maxDepth]
    rw [run_equalIn_bool w 9999 t _ _ hu]
    simp [S1.den, Sc.den, mkbe_B, mknt_B]
  · cases h
theorem aggOp_ok {op t xs ys s rq} (h : aggOp P op t xs ys = some (s, rq)) (ox oy : Operand) (v : Env) (w : World) :
    (do eqGuard op t ox oy (S1.den v (.agg xs)) (S1.den v (.agg ys)); binOp op t (S1.den v (.agg xs)) (S1.den v (.agg ys))).run P w = .ok (s.den v) w := by
  unfold aggOp at h
  split at h
  · cases h
  · rename_i hg
    have e0 := run_eqGuard_agg (P := P) w op t ox oy (xs.map (Sc.den v)).toArray (ys.map (Sc.den v)).toArray (by simpa using hg)
    simp only [S1.den, Sem.run_bind, e0, Result.andThen_ok]
    split at h
    · rename_i e he
      cases h
      have k := eqS_ok P 6 he 9994 v w
      rw [run_eql_struct]
      simp only [S1.den, Nat.reduceAdd] at k
      rw [k]; rfl
    · rename_i e he
      cases h
      have k := eqS_ok P 6 he 9994 v w
      rw [run_neq_struct]
      simp only [S1.den, Nat.reduceAdd] at k
      rw [k]; simp [Sc.den, mknt_B]
    · cases h
theorem binS_ok {op t x y s rq} (h : binS P op t x y = some (s, rq)) (ox oy : Operand) (v : Env) (w : World) (hrq : rq.B v.i v.b = true) :
    (do eqGuard op t ox oy (x.den v) (y.den v); binOp op t (x.den v) (y.den v)).run P w = .ok (s.den v) w := by
  unfold binS at h
  split at h
  · exact intOp_ok h t ox oy v w hrq
  · exact boolOp_ok h ox oy v w
  · exact aggOp_ok h ox oy v w
  · cases h
/-- What it asks holds in each later environment, if it does now. -/
theorem binS_rq {op t x y s rq} (h : binS P op t x y = some (s, rq)) {v v' : Env} (hy : y.den v = y.den v') (hrq : rq.B v.i v.b = true) : rq.B v'.i v'.b = true := by
  unfold binS at h
  split at h
  · rename_i k a k' b
    simp only [S1.den, Sc.den, Value.int.injEq, true_and] at hy
    unfold intOp at h
    split at h
    · cases h; simpa [mkcm_B, E.I, hy] using hrq
    · cases h; simpa [mkcm_B, E.I, hy] using hrq
    all_goals
      split at h
      · cases h; first | rfl | simpa [mkcm_B, E.I, hy] using hrq
      · cases h
  · unfold boolOp at h
    split at h <;> cases h <;> rfl
  · unfold aggOp at h
    split at h
    · cases h
    · split at h <;> cases h <;> rfl
  · cases h
theorem unS_ok {op x s} (h : unS op x = some s) (v : Env) (w : World) : (Op.unary op (x.den v)).run P w = .ok (s.den v) w := by
  unfold unS at h
  split at h <;> cases h
  · simp [Sc.den, S1.den, unary_not, mknt_B]
  · simp [S1.den, Sc.den, unary_neg, Op.intArith, mkar_I, arI, E.I]
  · simp [S1.den, Sc.den, unary_xor, intBits_xor, mkar_I, arI, E.I]
theorem cvS_ok {src dst x s} (h : cvS P src dst x = some s) (v : Env) (w : World) : (convert src dst (x.den v)).run P w = .ok (s.den v) w := by
  unfold cvS at h
  split at h
  · rename_i k0 e d k hs hd
    cases h
    simp [S1.den, Sc.den, convert, run_underlying hs, run_underlying hd, Conv.intToInt, mkcv_I]
  · cases h
theorem fieldS_ok {t x f s} (h : fieldS P t x f = some s) (v : Env) (w : World) : (Instr.field t (x.den v) f).run P w = .ok (s.den v) w := by
  unfold fieldS at h
  split at h
  · rename_i cs fs hu
    split at h
    · rename_i fd hf
      unfold Instr.field
      simp only [Sem.run_bind, run_underlying hu, Result.andThen_ok, hf, S1.den, asAgg, Sem.run_pure]
      exact partS_ok P h v w
    · cases h
  · cases h
theorem faddrS_ok {t x f s} (h : faddrS P t x f = some s) (v : Env) (w : World) : (Instr.fieldAt t (x.den v) f).run P w = .ok (s.den v) w := by
  unfold faddrS at h
  split at h
  · rename_i b o fs hu
    split at h
    · rename_i fd hf
      split at h
      · rename_i i hi
        split at h
        · cases h
        · rename_i hz
          cases h
          unfold Instr.fieldAt
          simp only [Sem.run_bind, run_underlying hu, Result.andThen_ok, hf, S1.den, Sc.den, Instr.sureAddr, Sem.run_pure, fieldPlace, run_sizeOf hi, if_neg hz, Addr.add_mid]
      · cases h
    · cases h
  · cases h
theorem iaddrS_ok {t x i s} (h : iaddrS P t x i = some s) (v : Env) (w : World) : (Instr.indexAt t (x.den v) (i.den v)).run P w = .ok (s.den v) w := by
  unfold iaddrS at h
  split at h
  · rename_i b o l c k m e hu
    split at h
    · rename_i ie hi
      split at h
      · rename_i hm
        cases h
        simp only [S1.den, Sc.den, E.I]
        rw [run_indexAt_slice w t _ l c k m (by simp [hu, Program.elem])]
        have : P.elem t = e := by simp [Program.elem, hu]
        rw [if_pos hm, this, run_sizeOf hi, Result.andThen_ok, Addr.add_mid]
      · cases h
    · cases h
  · rename_i b o k m l e hu
    split at h
    · rename_i ie hi
      split at h
      · rename_i hm
        cases h
        simp only [S1.den, Sc.den, E.I]
        have h2 : P.elem t = e := by simp [Program.elem, hu]
        have h3 : P.arrayLen t = l := by simp [Program.arrayLen, hu]
        rw [run_indexAt_array w t _ k m (by rw [h2, h3]; exact hu), h3, if_pos hm, h2, run_sizeOf hi, Result.andThen_ok, Addr.add_mid]
      · cases h
    · cases h
  · cases h
theorem indexS_ok {t x i s} (h : indexS P t x i = some s) (v : Env) (w : World) : (Instr.index t (x.den v) (i.den v)).run P w = .ok (s.den v) w := by
  unfold indexS at h
  split at h
  · rename_i cs k m l e hu
    split at h
    · rename_i ie hi
      split at h
      · rename_i hm
        simp only [S1.den, Sc.den, E.I, Instr.index, asIntOf, Sem.run_bind, Sem.run_pure, Result.andThen_ok, run_underlying hu, if_pos hm, run_sizeOf hi]
        exact partS_ok P h v w
      · cases h
    · cases h
  · cases h
theorem idxS_ok {t x i s rq} (h : idxS P t x i = some (s, rq)) (v : Env) (w : World) (hrq : rq.B v.i v.b = true) : (Instr.index t (x.den v) (i.den v)).run P w = .ok (s.den v) w := by
  unfold idxS at h
  split at h
  · rename_i sb k e hu
    cases h
    simp only [mkan_B, mkcm_B, cmB, E.I, Bool.and_eq_true, decide_eq_true_eq, ge_iff_le] at hrq
    simp only [S1.den, Sc.den, E.I, Instr.index, asIntOf, Sem.run_bind, Sem.run_pure, Result.andThen_ok, run_underlying hu]
    have ha : 0 ≤ e.I v.i v.b := hrq.1
    have hb : e.I v.i v.b < (sb.size : Int) := of_decide_eq_true hrq.2
    have hlt : (e.I v.i v.b).toNat < sb.size := by generalize e.I v.i v.b = z at *; omega
    rw [if_pos ha]
    have h1 : sb[(e.I v.i v.b).toNat]? = some (sb[(e.I v.i v.b).toNat]) := by simp [hlt]
    simp only [h1, Sem.run_pure]
    congr 2
    have hlt2 : (e.I v.i v.b).toNat < sb.data.toList.length := by simpa using hlt
    simp only [bytesL, List.getD_eq_getElem?_getD, List.getElem?_map, List.getElem?_eq_getElem hlt2, Option.map_some, Option.getD_some]
    rfl
  · simp only [Option.map_eq_some_iff, Prod.mk.injEq] at h
    obtain ⟨s', h1, rfl, rfl⟩ := h
    exact indexS_ok h1 v w
theorem idxS_rq {t x i s rq} (h : idxS P t x i = some (s, rq)) {v v' : Env} (hi : i.den v = i.den v') (hrq : rq.B v.i v.b = true) : rq.B v'.i v'.b = true := by
  unfold idxS at h
  split at h
  · cases h
    simp only [S1.den, Sc.den, Value.int.injEq, true_and] at hi
    simpa [mkan_B, mkcm_B, E.I, hi] using hrq
  · simp only [Option.map_eq_some_iff, Prod.mk.injEq] at h
    obtain ⟨s', h1, rfl, rfl⟩ := h
    rfl
theorem Later.getD {v v' : Env} (l : Later v v') {b : Nat} (h : b < v.p.length) : v'.p.getD b 0 = v.p.getD b 0 := by
  obtain ⟨p, i, c, rfl⟩ := l
  simp [List.getD_eq_getElem?_getD, List.getElem?_append_left h]
theorem loadS_ok {hp t x s} (h : loadS P hp t x = some s) {v : Env} {w0 w : World} (hH : HR v hp w0 w) {v' : Env} (l : Later v v') : (Instr.loadAt t (x.den v')).run P w = .ok (s.den v') w := by
  unfold loadS at h
  split at h
  · rename_i b o
    split at h
    · rename_i cs d i hb hu hi
      obtain ⟨el, hw⟩ := hH.blk v' l b cs hb
      have hlt : b < v.p.length := by rw [hH.ln]; exact (List.getElem?_eq_some_iff.1 hb).1
      have hcell : ∀ (j : Nat), w.cell? ⟨v.p.getD b 0, j, none⟩ = (cs.map (Sc.den v'))[j]? := fun j => by
        rw [cell_of_row w _ j _ el (0, 0) hw]; simp
      simp only [S1.den, Sc.den]
      rw [l.getD hlt]
      split at h
      · rename_i hr
        split at h
        · rename_i hle
          cases h
          have hr' : w.rangeAt (v.p.getD b 0) o (((cs.drop o).take i.size).map (Sc.den v')) := fun j u hu' => by
            rw [hcell]
            simp only [List.getElem?_map, List.getElem?_take, List.getElem?_drop] at hu' ⊢
            split at hu'
            · exact hu'
            · cases hu'
          rw [run_loadAt_mid w (v.p.getD b 0) o t (((cs.drop o).take i.size).map (Sc.den v')) d hr' hu hr (by simp [hi]; omega)]
        · cases h
      · rename_i hr
        simp only [Option.map_eq_some_iff] at h
        obtain ⟨c, hc, rfl⟩ := h
        have ha : (isAgg t).run P w = .ok false w := by
          rw [run_isAgg hu]; simpa using hr
        simp only [Instr.loadAt, Instr.sureAddr, Sem.run_bind, Sem.run_pure, Result.andThen_ok, loadVar, ha, Bool.false_eq_true, if_false, run_load, hcell, List.getElem?_map, hc, Option.map_some]
        cases c <;> rfl
    · cases h
  · cases h
theorem lenS_ok {t x s} (h : lenS P t x = some s) (v : Env) (w : World) (ty : TypeId) : (Builtin.len_ #[t] ty #[x.den v]).run P w = .ok (s.den v) w := by
  unfold lenS at h
  split at h
  · rename_i hu
    cases h
    simp only [S1.den, Sc.den]
    rw [run_len_slice w t ty _ _ _ (by simp [hu, Program.elem])]; rfl
  · rename_i hu
    cases h
    simp only [S1.den, Sc.den]
    rw [run_len_slice w t ty _ _ _ (by simp [hu, Program.elem])]; rfl
  · cases h
theorem bltS_ok {b ts l s} (h : bltS P b ts l = some s) (v : Env) (w : World) (ty : TypeId) (cs : Array Bool) : (builtin b ts.toArray ty cs (l.map (S1.den v)).toArray).run P w = .ok (.value (s.den v)) w := by
  unfold bltS at h
  split at h
  · cases h
    simp [BigFrame.builtin_min, S1.den, Sc.den, run_min_int2, mkmn_I]
  · cases h
    simp [BigFrame.builtin_max, S1.den, Sc.den, run_max_int2, mkmx_I]
  · rename_i t x
    simp [BigFrame.builtin_len, lenS_ok h v w ty]
  · cases h
end

section
variable {P : Program}
theorem pv_ok {o : Oper} {st : St} {G : E} {s : S1} {rq : E} {v : Env} {a : Act} {w0 w : World} (h : pv P st G o.op = some (s, rq)) (hT : TR v st a) (hG : GT v G)
    (hH : HR v st.hp w0 w) (hrq : rq.B v.i v.b = true) : ∀ v', Later v v' → (execOp a.eval o).run P w = .ok (.value (s.den v')) w := by
  intro v' l
  obtain ⟨dst, op, ty, pos, after, guard⟩ := o
  simp only at h
  unfold pv at h
  split at h
  · rename_i x
    simp only [Option.map_eq_some_iff, Prod.mk.injEq] at h
    obtain ⟨s', h1, rfl, rfl⟩ := h
    simp [execOp, rd_ok hT hG h1 v' l]
  · rename_i x
    simp only [Option.map_eq_some_iff, Prod.mk.injEq] at h
    obtain ⟨s', h1, rfl, rfl⟩ := h
    simp [execOp, rd_ok hT hG h1 v' l]
  · rename_i c x y
    split at h
    · rename_i e hc
      have ec : ∀ v'', Later v v'' → a.eval c = .bool (e.B v''.i v''.b) := fun v'' l' => rd_ok hT hG hc v'' l'
      have est : ∀ v'', Later v v'' → e.B v''.i v''.b = e.B v.i v.b := fun v'' l' => by
        have := (ec v'' l').symm.trans (ec v (Later.refl v)); simpa using this
      have hrun : (execOp a.eval { dst := dst, op := .pick c x y, type := ty, pos := pos, after := after, guard := guard }).run P w = .ok (.value (if e.B v.i v.b = true then a.eval x else a.eval y)) w := by
        simp [execOp, asBool, ec v (Later.refl v)]
      rw [hrun]
      split at h
      · simp only [Option.map_eq_some_iff, Prod.mk.injEq] at h
        obtain ⟨s', h1, rfl, rfl⟩ := h
        simp [E.B, rd_ok hT hG h1 v' l]
      · simp only [Option.map_eq_some_iff, Prod.mk.injEq] at h
        obtain ⟨s', h1, rfl, rfl⟩ := h
        simp [E.B, rd_ok hT hG h1 v' l]
      · split at h
        · rename_i sa sb ha hb
          simp only [Option.map_eq_some_iff, Prod.mk.injEq] at h
          obtain ⟨s', h1, rfl, rfl⟩ := h
          cases hb0 : e.B v.i v.b
          · have hG' : GT v (mkan G (mknt e)) := fun v'' l' => by simp [mkan_B, mknt_B, hG v'' l', est v'' l', hb0]
            rw [if_neg (by simp), rd_ok hT hG' hb v' l]
            have hb1 := (est v' l).trans hb0
            unfold merge at h1
            split at h1
            · split at h1
              · rename_i hk; subst hk; cases h1; simp [S1.den, Sc.den, mkii_I, hb1]
              · cases h1
            · cases h1; simp [S1.den, Sc.den, mkbi_B, hb1]
            · cases h1
          · have hG' : GT v (mkan G e) := fun v'' l' => by simp [mkan_B, hG v'' l', est v'' l', hb0]
            rw [if_pos rfl, rd_ok hT hG' ha v' l]
            have hb1 := (est v' l).trans hb0
            unfold merge at h1
            split at h1
            · split at h1
              · rename_i hk; subst hk; cases h1; simp [S1.den, Sc.den, mkii_I, hb1]
              · cases h1
            · cases h1; simp [S1.den, Sc.den, mkbi_B, hb1]
            · cases h1
        · cases h
    · cases h
  · rename_i t parts
    split at h
    · rename_i lp hp
      simp only [Option.map_eq_some_iff, Prod.mk.injEq] at h
      obtain ⟨s', h1, rfl, rfl⟩ := h
      have e1 := rdP_ok hT hG hp v' l
      have e2 : (parts.map fun (i, x) => (i, a.eval x)) = (lp.map fun (i, x) => (i, x.den v')).toArray := by
        apply Array.toList_inj.1
        rw [← e1]; simp
      have := builtS_ok P h1 v' w
      simp only [execOp]
      refine run_v ?_
      rw [e2]; exact this
    · cases h
  · rename_i t x f
    split at h
    · rename_i sx hx
      simp only [Option.map_eq_some_iff, Prod.mk.injEq] at h
      obtain ⟨s', h1, rfl, rfl⟩ := h
      simp only [execOp]
      refine run_v ?_
      rw [rd_ok hT hG hx v' l]
      exact fieldS_ok h1 v' w
    · cases h
  · rename_i t ix
    split at h
    · rename_i lt hl
      simp only [Option.map_eq_some_iff, Prod.mk.injEq] at h
      obtain ⟨s', h1, rfl, rfl⟩ := h
      have e1 : a.eval (.tmp t) = .tuple (lt.map (S1.den v')).toArray := by
        show a.tmps.getD t undef = _
        rw [hT.get l t, hl]; rfl
      simp only [execOp]
      refine run_v ?_
      rw [e1]
      simp [Instr.extract, h1]
    · cases h
  · rename_i op t x y yt
    split at h
    · rename_i sx sy hx hy
      simp only [execOp]
      refine run_v ?_
      have ey := rd_ok hT hG hy
      rw [rd_ok hT hG hx v' l, ey v' l]
      exact binS_ok h x y v' w (binS_rq h ((ey v (Later.refl v)).symm.trans (ey v' l)) hrq)
    · cases h
  · rename_i op t x
    split at h
    · rename_i sx hx
      simp only [Option.map_eq_some_iff, Prod.mk.injEq] at h
      obtain ⟨s', h1, rfl, rfl⟩ := h
      simp only [execOp]
      refine run_v ?_
      rw [rd_ok hT hG hx v' l]
      exact unS_ok h1 v' w
    · cases h
  · rename_i src d x
    split at h
    · rename_i sx hx
      simp only [Option.map_eq_some_iff, Prod.mk.injEq] at h
      obtain ⟨s', h1, rfl, rfl⟩ := h
      simp only [execOp]
      refine run_v ?_
      rw [rd_ok hT hG hx v' l]
      exact cvS_ok h1 v' w
    · cases h
  · rename_i x
    split at h
    · rename_i b o hx
      cases h
      simp only [execOp]
      rw [rd_ok hT hG hx v' l]
      rfl
    · cases h
  · rename_i t x f
    split at h
    · rename_i sx hx
      simp only [Option.map_eq_some_iff, Prod.mk.injEq] at h
      obtain ⟨s', h1, rfl, rfl⟩ := h
      simp only [execOp]
      refine run_v ?_
      rw [rd_ok hT hG hx v' l]
      exact faddrS_ok h1 v' w
    · cases h
  · rename_i t x i
    split at h
    · rename_i sx si hx hi
      simp only [Option.map_eq_some_iff, Prod.mk.injEq] at h
      obtain ⟨s', h1, rfl, rfl⟩ := h
      simp only [execOp]
      refine run_v ?_
      rw [rd_ok hT hG hx v' l, rd_ok hT hG hi v' l]
      exact iaddrS_ok h1 v' w
    · cases h
  · rename_i t x i
    split at h
    · rename_i sx si hx hi
      simp only [execOp]
      refine run_v ?_
      have ei := rd_ok hT hG hi
      rw [rd_ok hT hG hx v' l, ei v' l]
      exact idxS_ok h v' w (idxS_rq h ((ei v (Later.refl v)).symm.trans (ei v' l)) hrq)
    · cases h
  · rename_i t x
    split at h
    · rename_i sx hx
      simp only [Option.map_eq_some_iff, Prod.mk.injEq] at h
      obtain ⟨s', h1, rfl, rfl⟩ := h
      simp only [execOp]
      refine run_v ?_
      rw [rd_ok hT hG hx v' l]
      exact loadS_ok h1 hH l
    · cases h
  · rename_i b xs ts
    split at h
    · rename_i lx hx
      simp only [Option.map_eq_some_iff, Prod.mk.injEq] at h
      obtain ⟨s', h1, rfl, rfl⟩ := h
      rw [BigFrame.execOp_builtin]
      have e1 := rdL_ok hT hG hx v' l
      have e2 : xs.map a.eval = (lx.map (S1.den v')).toArray := by
        apply Array.toList_inj.1
        rw [← e1]; simp
      rw [e2]
      obtain ⟨tl, rfl⟩ : ∃ tl : List TypeId, ts = tl.toArray := ⟨ts.toList, by simp⟩
      exact bltS_ok (by simpa using h1) v' w ty _
    · cases h
  · cases h
end

/-- The condition under which an operation is carried out. -/
def gd (st : St) (all : Array Oper) : Option (Nat × Bool) → Option E
  | none => some (.t true)
  | some (j, want) => match (all[j]?).bind (·.dst) with
    | some d => match st.get d with
      | .o (.s (.b e)) => some (if want then e else mknt e)
      | .g c (.s (.b e)) => some (mkan c (if want then e else mknt e))
      | .u => some (.t false)
      | _ => none
    | none => none
theorem gd_ok {st : St} {all : Array Oper} {o : Oper} {G : E} {v : Env} {a : Act} (h : gd st all o.guard = some G) (hT : TR v st a) :
    (Region.wanted o (yielded all a.tmps) = true ∧ GT v G) ∨ (Region.wanted o (yielded all a.tmps) = false ∧ GF v G) := by
  unfold gd at h
  unfold Region.wanted
  split at h
  · rename_i hg
    cases h
    rw [hg]
    exact .inl ⟨rfl, GT.t v⟩
  · rename_i j want hg
    rw [hg]
    simp only
    split at h
    · rename_i d hd
      have hy : ∀ v', Later v v' → yielded all a.tmps j = match (st.get? d).map (SV.den v') with | some (.bool b) => some b | _ => none := fun v' l => by
        unfold yielded
        rw [hd, Option.bind_some, hT.get? l d]
        rfl
      have hst : st.get d = (st.get? d).getD .u := rfl
      cases hq : st.get? d with
      | none =>
        rw [hq] at hst hy
        simp only [Option.getD_none] at hst
        rw [hst] at h
        cases h
        right
        exact ⟨by rw [hy v (Later.refl v)]; rfl, fun v' l => rfl⟩
      | some x =>
        rw [hq] at hst hy
        simp only [Option.getD_some] at hst
        rw [hst] at h
        simp only [Option.map_some] at hy
        split at h
        · rename_i e
          cases h
          simp only [SV.den, S1.den, Sc.den] at hy
          have hs : ∀ v', Later v v' → e.B v'.i v'.b = e.B v.i v.b := fun v' l => by
            have := (hy v' l).symm.trans (hy v (Later.refl v)); simpa using this
          rw [hy v (Later.refl v)]
          cases hb : e.B v.i v.b <;> cases want <;>
            simp [GT, GF, mknt_B] <;> (try (intro v' l; rw [hs v' l, hb]))
        · rename_i c e
          cases h
          simp only [SV.den, S1.den, Sc.den] at hy
          have key : ∀ v', Later v v' → ((mkan c (if want = true then e else mknt e)).B v'.i v'.b) = (yielded all a.tmps j == some want) := fun v' l => by
            rw [hy v' l, mkan_B]
            cases c.B v'.i v'.b
            · simp [undef]
            · cases want <;> cases hb : e.B v'.i v'.b <;> simp [mknt_B, hb]
          cases hb : (yielded all a.tmps j == some want)
          · exact .inr ⟨rfl, fun v' l => (key v' l).trans hb⟩
          · exact .inl ⟨rfl, fun v' l => (key v' l).trans hb⟩
        · cases h
          right
          exact ⟨by rw [hy v (Later.refl v)]; rfl, fun v' l => rfl⟩
        · cases h
    · cases h

/-! The memory that a call makes. -/
def zeroS (P : Program) (t : TypeId) : Option S1 :=
  match P.info? t with
  | some i => match i.zero with
    | some z => ofConst z
    | none => none
  | none => none
def mv (P : Program) (st : St) (op : Op) : Option (St × SV) :=
  match op with
  | .box _ x => match rd st (.t true) x with
    | some s => some ({ st with hp := st.hp ++ [s.cells] }, .o (.s (.p st.hp.length 0)))
    | none => none
  | .alloc t => match zeroS P t with
    | some s => some ({ st with hp := st.hp ++ [s.cells] }, .o (.s (.p st.hp.length 0)))
    | none => none
  | .store t x y => match rd st (.t true) x, rd st (.t true) y, P.info? t with
    | some (.s (.p b o)), some s, some i => match st.hp[b]? with
      | some cs => if s.cells.length = i.size ∧ o + s.cells.length ≤ cs.length then
          some ({ st with hp := st.hp.set b (cs.take o ++ s.cells ++ cs.drop (o + s.cells.length)) }, .u) else none
      | none => none
    | _, _, _ => none
  | .buildSlice t len parts => match rdP st (.t true) parts.toList, P.underlying t with
    | some l, some (.slice e) => match P.info? e with
      | some ie => match ie.zero with
        | some z => match ofScs z.cells.toList with
          | some zs => if len * ie.size > 2 ^ 24 ∨ len * ie.size = 0 ∨ zs.length = 0 then none else
            match fillS (fun i => some (i * ie.size, ie.size)) ((List.range (len * ie.size)).map fun i => zs.getD (i % zs.length) .nls).toArray l with
            | some r => some ({ st with hp := st.hp ++ [r.toList] }, .o (.s (.sl st.hp.length 0 len len)))
            | none => none
          | none => none
        | none => none
      | none => none
    | _, _ => none
  | _ => none
def quietB : Op → Bool
  | .box .. | .alloc .. | .store .. | .buildSlice .. => false
  | _ => true
theorem mv_quiet {P st op r} (h : mv P st op = some r) : quietB op = false := by
  unfold mv at h
  split at h <;> first | rfl | cases h
theorem HR.size {v : Env} {hp} {w0 w} (h : HR v hp w0 w) : ∀ n ∈ v.p, n < w.heap.size := by
  intro n hn
  obtain ⟨i, hi, rfl⟩ := List.getElem_of_mem hn
  have hlt : i < hp.length := by rw [← h.ln]; exact hi
  obtain ⟨el, e⟩ := h.blk v (Later.refl v) i hp[i] (List.getElem?_eq_getElem hlt)
  have : v.p.getD i 0 = v.p[i] := by simp [List.getD_eq_getElem?_getD, hi]
  rw [this] at e
  exact (Array.getElem?_eq_some_iff.1 e).1
theorem HR.below {v : Env} {hp} {w0 w w' : World} (h : HR v hp w0 w) (hb : Below w.heap.size w w') : HR v hp w0 w' := by
  refine ⟨h.ln, h.nd, fun v' l i cs hc => ?_, h.ge, h.bel.trans (hb.mono h.bel.size)⟩
  obtain ⟨el, e⟩ := h.blk v' l i cs hc
  exact ⟨el, by rw [hb.block _ (Array.getElem?_eq_some_iff.1 e).1]; exact e⟩
/-- A block more. -/
theorem HR.push {v : Env} {hp} {w0 w : World} (h : HR v hp w0 w) (cs : List Sc) (el : TypeId) (C : Array Value) (hC : ∀ v', Later v v' → C = (cs.map (Sc.den v')).toArray) :
    HR ⟨v.p ++ [w.heap.size], v.i, v.b⟩ (hp ++ [cs]) w0 { w with heap := w.heap.push (.cells C el) } := by
  have lt : Later v ⟨v.p ++ [w.heap.size], v.i, v.b⟩ := ⟨[w.heap.size], [], [], by simp⟩
  refine ⟨by simp [h.ln], ?_, ?_, ?_, ?_⟩
  · rw [List.nodup_append]
    refine ⟨h.nd, by simp, ?_⟩
    intro x hx y hy
    simp only [List.mem_singleton] at hy
    have := h.size x hx
    omega
  · intro v' l i cs' hc
    by_cases hi : i < hp.length
    · rw [List.getElem?_append_left hi] at hc
      obtain ⟨el', e⟩ := h.blk v' (lt.trans l) i cs' hc
      have hp' : (v.p ++ [w.heap.size]).getD i 0 = v.p.getD i 0 := by
        simp [List.getD_eq_getElem?_getD, List.getElem?_append_left (show i < v.p.length by rw [h.ln]; exact hi)]
      refine ⟨el', ?_⟩
      show (w.heap.push _)[(v.p ++ [w.heap.size]).getD i 0]? = _
      have hlt := (Array.getElem?_eq_some_iff.1 e).1
      rw [hp', Array.getElem?_push, if_neg (by omega)]
      exact e
    · have hi2 : i = hp.length := by
        rcases Nat.lt_or_ge hp.length i with h2 | h2
        · rw [List.getElem?_eq_none (by simp; omega)] at hc; cases hc
        · omega
      subst hi2
      simp at hc
      subst hc
      refine ⟨el, ?_⟩
      show (w.heap.push _)[(v.p ++ [w.heap.size]).getD hp.length 0]? = _
      have : (v.p ++ [w.heap.size]).getD hp.length 0 = w.heap.size := by
        rw [← h.ln]; simp [List.getD_eq_getElem?_getD]
      rw [this, Array.getElem?_push, if_pos rfl, hC v' (lt.trans l)]
  · intro n hn
    simp only [List.mem_append, List.mem_singleton] at hn
    rcases hn with hn | rfl
    · exact h.ge n hn
    · exact h.bel.size
  · exact h.bel.alloc h.bel.size _
/-- A block that is written. -/
theorem HR.write {v : Env} {hp} {w0 w : World} (h : HR v hp w0 w) (b : Nat) (cs cs' : List Sc) (hb : hp[b]? = some cs) (C : Array Value) (hC : ∀ v', Later v v' → C = (cs'.map (Sc.den v')).toArray) :
    HR v (hp.set b cs') w0 (w.setRow (v.p.getD b 0) C) := by
  have hlt : b < hp.length := (List.getElem?_eq_some_iff.1 hb).1
  have hlp : b < v.p.length := by rw [h.ln]; exact hlt
  have hge : w0.heap.size ≤ v.p.getD b 0 := h.ge _ (by simp [List.getD_eq_getElem?_getD, hlp])
  refine ⟨by simp [h.ln], h.nd, ?_, h.ge, ?_⟩
  · intro v' l i ds hd
    rw [List.getElem?_set] at hd
    by_cases e : b = i
    · subst e
      rw [if_pos rfl, if_pos hlt] at hd
      cases hd
      obtain ⟨el, e1⟩ := h.blk v' l b cs hb
      exact ⟨el, by rw [setRow_heap w _ _ C el _ e1, hC v' l]⟩
    · rw [if_neg e] at hd
      obtain ⟨el, e1⟩ := h.blk v' l i ds hd
      have hli : i < v.p.length := by rw [h.ln]; exact (List.getElem?_eq_some_iff.1 hd).1
      refine ⟨el, ?_⟩
      rw [setRow_other w _ _ _ ?_]
      · exact e1
      · intro hh
        have h1 : v.p.getD b 0 = v.p[b] := by simp [List.getD_eq_getElem?_getD, hlp]
        have h2 : v.p.getD i 0 = v.p[i] := by simp [List.getD_eq_getElem?_getD, hli]
        rw [h1, h2] at hh
        have hp := List.pairwise_iff_getElem.1 h.nd
        rcases Nat.lt_or_gt_of_ne e with q | q
        · exact hp b i hlp hli q hh.symm
        · exact hp i b hli hlp q hh
  · exact below_setRow h.bel hge C

/-- The form of a value: one cell or several; each a number of a kind, or (none) a bool. -/
structure Sh where
  ag : Bool
  ks : List (Option IntKind)
def cntI : List (Option IntKind) → Nat
  | [] => 0
  | some _ :: r => cntI r + 1
  | none :: r => cntI r
def cntB : List (Option IntKind) → Nat
  | [] => 0
  | some _ :: r => cntB r
  | none :: r => cntB r + 1
def cellsV : List (Option IntKind) → List Int → List Bool → List Value
  | [], _, _ => []
  | some k :: r, is, bs => .int k (is.headD 0) :: cellsV r is.tail bs
  | none :: r, is, bs => .bool (bs.headD false) :: cellsV r is bs.tail
def shV (s : Sh) (is : List Int) (bs : List Bool) : Value :=
  match s.ag with
  | true => .agg (cellsV s.ks is bs).toArray
  | false => (cellsV s.ks is bs).headD (.slice none 0 0)
def cntIs : List Sh → Nat
  | [] => 0
  | s :: r => cntI s.ks + cntIs r
def cntBs : List Sh → Nat
  | [] => 0
  | s :: r => cntB s.ks + cntBs r
def mkV : List Sh → List Int → List Bool → List Value
  | [], _, _ => []
  | s :: r, is, bs => shV s is bs :: mkV r (is.drop (cntI s.ks)) (bs.drop (cntB s.ks))
def mkR (r : List Sh) (is : List Int) (bs : List Bool) : Value :=
  match mkV r is bs with
  | [x] => x
  | l => .tuple l.toArray
def newC : List (Option IntKind) → Nat → Nat → List Sc
  | [], _, _ => []
  | some k :: r, i, j => .i k (.iv i) :: newC r (i + 1) j
  | none :: r, i, j => .b (.bv j) :: newC r i (j + 1)
def new1 (s : Sh) (i j : Nat) : S1 :=
  match s.ag with
  | true => .agg (newC s.ks i j)
  | false => .s ((newC s.ks i j).headD .nls)
def newS : List Sh → Nat → Nat → List S1
  | [], _, _ => []
  | s :: r, i, j => new1 s i j :: newS r (i + cntI s.ks) (j + cntB s.ks)
theorem newC_ok (v : Env) : ∀ (ks : List (Option IntKind)) (i j : Nat), (newC ks i j).map (Sc.den v) = cellsV ks (v.i.drop i) (v.b.drop j)
  | [], _, _ => rfl
  | some k :: r, i, j => by
    simp only [newC, List.map_cons, cellsV, newC_ok v r]
    congr 1
    · simp [Sc.den, E.I, List.getD_eq_getElem?_getD, List.head?_drop, List.headD_eq_head?_getD]
    · simp
  | none :: r, i, j => by
    simp only [newC, List.map_cons, cellsV, newC_ok v r]
    congr 1
    · simp [Sc.den, E.B, List.getD_eq_getElem?_getD, List.head?_drop, List.headD_eq_head?_getD]
    · simp
theorem new1_ok (v : Env) (s : Sh) (i j : Nat) : (new1 s i j).den v = shV s (v.i.drop i) (v.b.drop j) := by
  unfold new1 shV
  rw [← newC_ok v]
  cases s.ag
  · simp only [S1.den]
    cases newC s.ks i j <;> rfl
  · rfl
theorem newS_ok (v : Env) : ∀ (r : List Sh) (i j : Nat), (newS r i j).map (S1.den v) = mkV r (v.i.drop i) (v.b.drop j)
  | [], _, _ => rfl
  | s :: r, i, j => by
    simp only [newS, List.map_cons, mkV, new1_ok, newS_ok v r, List.drop_drop]
theorem cellsV_app : ∀ (ks : List (Option IntKind)) (is t : List Int) (bs u : List Bool), cntI ks ≤ is.length → cntB ks ≤ bs.length → cellsV ks (is ++ t) (bs ++ u) = cellsV ks is bs
  | [], _, _, _, _, _, _ => rfl
  | some k :: r, is, t, bs, u, h1, h2 => by
    cases is with
    | nil => simp [cntI] at h1
    | cons x is => simp only [List.cons_append, cellsV, List.headD_cons, List.tail_cons, cellsV_app r is t bs u (by simp [cntI] at h1; omega) h2]
  | none :: r, is, t, bs, u, h1, h2 => by
    cases bs with
    | nil => simp [cntB] at h2
    | cons x bs => simp only [List.cons_append, cellsV, List.headD_cons, List.tail_cons, cellsV_app r is t bs u h1 (by simp [cntB] at h2; omega)]
theorem mkV_app : ∀ (r : List Sh) (is t : List Int) (bs u : List Bool), cntIs r ≤ is.length → cntBs r ≤ bs.length → mkV r (is ++ t) (bs ++ u) = mkV r is bs
  | [], _, _, _, _, _, _ => rfl
  | s :: r, is, t, bs, u, h1, h2 => by
    simp only [cntIs, cntBs] at h1 h2
    have e : shV s (is ++ t) (bs ++ u) = shV s is bs := by
      unfold shV
      rw [cellsV_app s.ks is t bs u (by omega) (by omega)]
    simp only [mkV, e]
    rw [List.drop_append_of_le_length (by omega), List.drop_append_of_le_length (by omega), mkV_app r _ t _ u (by simp; omega) (by simp; omega)]
/-! What is handed in. -/
def intsC : List Sc → List E
  | [] => []
  | .i _ e :: r => e :: intsC r
  | _ :: r => intsC r
def boolsC : List Sc → List E
  | [] => []
  | .b e :: r => e :: boolsC r
  | _ :: r => boolsC r
def fitsC : List (Option IntKind) → List Sc → Bool
  | [], [] => true
  | some k :: r, .i k' _ :: l => decide (k = k') && fitsC r l
  | none :: r, .b _ :: l => fitsC r l
  | _, _ => false
def fits1 (s : Sh) : S1 → Bool
  | .s c => !s.ag && fitsC s.ks [c]
  | .agg l => s.ag && fitsC s.ks l
def fits : List Sh → List S1 → Bool
  | [], [] => true
  | s :: r, x :: l => fits1 s x && fits r l
  | _, _ => false
def ints : List S1 → List E
  | [] => []
  | x :: r => intsC x.cells ++ ints r
def bools : List S1 → List E
  | [] => []
  | x :: r => boolsC x.cells ++ bools r
theorem fitsC_ok (v : Env) : ∀ (ks : List (Option IntKind)) (l : List Sc), fitsC ks l = true →
    l.map (Sc.den v) = cellsV ks ((intsC l).map (E.I v.i v.b)) ((boolsC l).map (E.B v.i v.b)) ∧ (intsC l).length = cntI ks ∧ (boolsC l).length = cntB ks
  | [], [], _ => ⟨rfl, rfl, rfl⟩
  | [], _ :: _, h => by simp [fitsC] at h
  | some k :: r, [], h => by simp [fitsC] at h
  | none :: r, [], h => by simp [fitsC] at h
  | some k :: r, c :: l, h => by
    cases c <;> simp only [fitsC, Bool.and_eq_true, decide_eq_true_eq, Bool.false_eq_true] at h
    obtain ⟨rfl, h⟩ := h
    obtain ⟨h1, h2, h3⟩ := fitsC_ok v r l h
    exact ⟨by simp [intsC, boolsC, cellsV, h1, Sc.den], by simp [intsC, cntI, h2], by simpa [boolsC, cntB] using h3⟩
  | none :: r, c :: l, h => by
    cases c <;> simp only [fitsC, Bool.false_eq_true] at h
    obtain ⟨h1, h2, h3⟩ := fitsC_ok v r l h
    exact ⟨by simp [intsC, boolsC, cellsV, h1, Sc.den], by simpa [intsC, cntI] using h2, by simp [boolsC, cntB, h3]⟩
theorem fits1_ok (v : Env) (s : Sh) (x : S1) (h : fits1 s x = true) :
    x.den v = shV s ((intsC x.cells).map (E.I v.i v.b)) ((boolsC x.cells).map (E.B v.i v.b)) ∧ (intsC x.cells).length = cntI s.ks ∧ (boolsC x.cells).length = cntB s.ks := by
  cases x with
  | s c =>
    simp only [fits1, Bool.and_eq_true, Bool.not_eq_true'] at h
    obtain ⟨h1, h2, h3⟩ := fitsC_ok v s.ks [c] h.2
    refine ⟨?_, h2, h3⟩
    unfold shV
    rw [h.1]
    simp only [S1.cells]
    rw [← h1]; rfl
  | agg l =>
    simp only [fits1, Bool.and_eq_true] at h
    obtain ⟨h1, h2, h3⟩ := fitsC_ok v s.ks l h.2
    refine ⟨?_, h2, h3⟩
    unfold shV
    rw [h.1]
    simp only [S1.cells, S1.den]
    rw [← h1]
theorem fits_ok (v : Env) : ∀ (r : List Sh) (l : List S1), fits r l = true →
    l.map (S1.den v) = mkV r ((ints l).map (E.I v.i v.b)) ((bools l).map (E.B v.i v.b)) ∧ (ints l).length = cntIs r ∧ (bools l).length = cntBs r
  | [], [], _ => ⟨rfl, rfl, rfl⟩
  | [], _ :: _, h => by simp [fits] at h
  | _ :: _, [], h => by simp [fits] at h
  | s :: r, x :: l, h => by
    simp only [fits, Bool.and_eq_true] at h
    obtain ⟨a1, a2, a3⟩ := fits1_ok v s x h.1
    obtain ⟨b1, b2, b3⟩ := fits_ok v r l h.2
    refine ⟨?_, by simp [ints, cntIs, a2, b2], by simp [bools, cntBs, a3, b3]⟩
    simp only [List.map_cons, ints, bools, List.map_append, mkV, a1, b1]
    congr 1
    · unfold shV
      rw [cellsV_app s.ks _ _ _ _ (by simp [a2]) (by simp [a3])]
    · rw [List.drop_append_of_le_length (by simp [a2]), List.drop_append_of_le_length (by simp [a3])]
      rw [List.drop_of_length_le (by simp [a2]), List.drop_of_length_le (by simp [a3])]
      rfl

/-- A function as it is known: of numbers and bools, numbers and bools. -/
abbrev Fn := List Int → List Bool → Option (List Int × List Bool)
structure Sig where
  a : List Sh
  r : List Sh
/-- The call yields v; what was there stays as it was. -/
def Gives (P : Program) (f : Nat) (args : Array Value) (w : World) (v : Value) : Prop :=
  ((callFunc f args).run P w = .ok (.enter f args) w ∧ Calls P f args w fun e w' => e = .returned v ∧ Below w.heap.size w w') ∨
  (callFunc f args).run P w = .ok (.value v) w
/-- Does it answer a slice first (of 0, 1 or 2 numbers of kind k, made in the call; told by three numbers), and what behind it? -/
def Sig.sl (s : Sig) : Option (IntKind × List Sh) :=
  match s.r with
  | ⟨true, []⟩ :: ⟨false, [some k]⟩ :: x :: rest => some (k, x :: rest)
  | _ => none
/-- A slice of n numbers, 0, 1 or 2, that was made between w and w'. -/
def SlV (k : IntKind) (n c0 c1 : Int) (w w' : World) (u : Value) : Prop :=
  (n = 0 ∧ u = .slice none 0 0) ∨ ∃ b el, w.heap.size ≤ b ∧
    ((n = 1 ∧ u = .slice (some ⟨b, 0, none⟩) 1 1 ∧ w'.heap[b]? = some (.cells #[.int k c0] el (0, 0))) ∨
     (n = 2 ∧ u = .slice (some ⟨b, 0, none⟩) 2 2 ∧ w'.heap[b]? = some (.cells #[.int k c0, .int k c1] el (0, 0))))
def GivesT (P : Program) (f : Nat) (args : Array Value) (w : World) (k : IntKind) (rest : List Sh) (is : List Int) (bs : List Bool) : Prop :=
  (callFunc f args).run P w = .ok (.enter f args) w ∧ Calls P f args w fun e w' => Below w.heap.size w w' ∧
    ∃ u, e = .returned (.tuple (u :: mkV rest (is.drop 3) bs).toArray) ∧ SlV k (is.getD 0 0) (is.getD 1 0) (is.getD 2 0) w w' u
def Good (P : Program) (I : World → Prop) (f : Nat) (s : Sig) (F : Fn) : Prop :=
  ∀ is bs is' bs', F is bs = some (is', bs') → ∀ w, I w → match s.sl with
    | none => Gives P f (mkV s.a is bs).toArray w (mkR s.r is' bs')
    | some (k, rest) => GivesT P f (mkV s.a is bs).toArray w k rest is' bs'
theorem Good.plain {P : Program} {I : World → Prop} {f : Nat} {s : Sig} {F : Fn} (h : Good P I f s F) (hs : s.sl = none) {is bs is' bs'} (hF : F is bs = some (is', bs')) {w : World} (hw : I w) :
    Gives P f (mkV s.a is bs).toArray w (mkR s.r is' bs') := by
  have := h is bs is' bs' hF w hw
  rw [hs] at this; exact this
theorem Good.slice {P : Program} {I : World → Prop} {f : Nat} {s : Sig} {F : Fn} (h : Good P I f s F) {k rest} (hs : s.sl = some (k, rest)) {is bs is' bs'} (hF : F is bs = some (is', bs')) {w : World} (hw : I w) :
    GivesT P f (mkV s.a is bs).toArray w k rest is' bs' := by
  have := h is bs is' bs' hF w hw
  rw [hs] at this; exact this
theorem good_plain {P : Program} {I : World → Prop} {f : Nat} {s : Sig} {F : Fn} (hs : s.sl = none) (h : ∀ is bs is' bs', F is bs = some (is', bs') → ∀ w, I w → Gives P f (mkV s.a is bs).toArray w (mkR s.r is' bs')) : Good P I f s F := by
  intro is bs is' bs' hF w hw
  rw [hs]; exact h is bs is' bs' hF w hw
inductive T where
  | fail
  | ret (ii bb : List E)
  | ite (c : E) (a b : T)
  | rq (c : E) (k : T)
  | li (e : E) (k : T)
  | lb (e : E) (k : T)
  | call (G : E) (f : Nat) (ii bb : List E) (ni nb : Nat) (k : T)
def T.den (C : Nat → Fn) : T → Fn
  | .fail, _, _ => none
  | .ret ii bb, is, bs => some (ii.map (E.I is bs), bb.map (E.B is bs))
  | .ite c a b, is, bs => bif c.B is bs then a.den C is bs else b.den C is bs
  | .rq c k, is, bs => bif c.B is bs then k.den C is bs else none
  | .li e k, is, bs => k.den C (is ++ [e.I is bs]) bs
  | .lb e k, is, bs => k.den C is (bs ++ [e.B is bs])
  | .call G f ii bb ni nb k, is, bs =>
      match (bif G.B is bs then C f (ii.map (E.I is bs)) (bb.map (E.B is bs)) else some (List.replicate ni 0, List.replicate nb false)) with
      | some (is', bs') => if is'.length = ni ∧ bs'.length = nb then k.den C (is ++ is') (bs ++ bs') else none
      | none => none
def mkrq : E → T → T
  | .t true, k => k
  | c, k => .rq c k
theorem mkrq_den {C c k is bs r} (h : (mkrq c k).den C is bs = some r) : c.B is bs = true ∧ k.den C is bs = some r := by
  unfold mkrq at h
  split at h
  · exact ⟨rfl, h⟩
  · simp only [T.den, cond_eq_ite] at h
    split at h
    · exact ⟨‹_›, h⟩
    · cases h
def E.sz : E → Nat
  | .ar _ _ x y | .mn x y | .mx x y | .cm _ x y | .an x y | .oo x y | .be x y => x.sz + y.sz + 1
  | .cv _ x | .nt x | .tb _ x => x.sz + 1
  | .bi c x y | .ii c x y => c.sz + x.sz + y.sz + 1
  | _ => 1
/-! Reckoning by value: what is handed on is written out. -/
section
variable {α : Type}
def fN (n : Nat) (f : Nat → α) : α :=
  match n with
  | 0 => f 0
  | m + 1 => f (Nat.succ m)
def fI (n : Int) (f : Int → α) : α :=
  match n with
  | .ofNat n => fN n fun n => f (.ofNat n)
  | .negSucc n => fN n fun n => f (.negSucc n)
def fK (k : IntKind) (f : IntKind → α) : α :=
  match k with
  | .i8 => f .i8 | .i16 => f .i16 | .i32 => f .i32 | .i64 => f .i64 | .u8 => f .u8 | .u16 => f .u16 | .u32 => f .u32 | .u64 => f .u64
def fO (k : BinOp) (f : BinOp → α) : α :=
  match k with
  | .add => f .add | .sub => f .sub | .mul => f .mul | .quo => f .quo | .rem => f .rem | .and => f .and | .or => f .or | .xor => f .xor | .shl => f .shl | .shr => f .shr
  | .andNot => f .andNot | .eql => f .eql | .neq => f .neq | .lss => f .lss | .leq => f .leq | .gtr => f .gtr | .geq => f .geq
def fT (b : Bool) (f : Bool → α) : α :=
  match b with
  | true => f true
  | false => f false
def fL : List Nat → (List Nat → α) → α
  | [], f => f []
  | n :: l, f => fN n fun n => fL l fun l => f (n :: l)
def fE : E → (E → α) → α
  | .iv i, f => fN i fun i => f (.iv i)
  | .bv i, f => fN i fun i => f (.bv i)
  | .n k, f => fI k fun k => f (.n k)
  | .t b, f => fT b fun b => f (.t b)
  | .ar o k x y, f => fO o fun o => fK k fun k => fE x fun x => fE y fun y => f (.ar o k x y)
  | .cv k x, f => fK k fun k => fE x fun x => f (.cv k x)
  | .mn x y, f => fE x fun x => fE y fun y => f (.mn x y)
  | .mx x y, f => fE x fun x => fE y fun y => f (.mx x y)
  | .cm o x y, f => fO o fun o => fE x fun x => fE y fun y => f (.cm o x y)
  | .nt x, f => fE x fun x => f (.nt x)
  | .an x y, f => fE x fun x => fE y fun y => f (.an x y)
  | .oo x y, f => fE x fun x => fE y fun y => f (.oo x y)
  | .be x y, f => fE x fun x => fE y fun y => f (.be x y)
  | .bi c x y, f => fE c fun c => fE x fun x => fE y fun y => f (.bi c x y)
  | .ii c x y, f => fE c fun c => fE x fun x => fE y fun y => f (.ii c x y)
  | .tb l x, f => fL l fun l => fE x fun x => f (.tb l x)
def fSc : Sc → (Sc → α) → α
  | .i k e, f => fK k fun k => fE e fun e => f (.i k e)
  | .b e, f => fE e fun e => f (.b e)
  | .p b o, f => fN b fun b => fN o fun o => f (.p b o)
  | .sl b o l c, f => fN b fun b => fN o fun o => fN l fun l => fN c fun c => f (.sl b o l c)
  | .nls, f => f .nls
  | .str s, f => f (.str s)
def fScs : List Sc → (List Sc → α) → α
  | [], f => f []
  | x :: l, f => fSc x fun x => fScs l fun l => f (x :: l)
def fS1 : S1 → (S1 → α) → α
  | .s c, f => fSc c fun c => f (.s c)
  | .agg l, f => fScs l fun l => f (.agg l)
def fS1s : List S1 → (List S1 → α) → α
  | [], f => f []
  | x :: l, f => fS1 x fun x => fS1s l fun l => f (x :: l)
def fSV : SV → (SV → α) → α
  | .o x, f => fS1 x fun x => f (.o x)
  | .tup l, f => fS1s l fun l => f (.tup l)
  | .g c x, f => fE c fun c => fS1 x fun x => f (.g c x)
  | .u, f => f .u
def fHp : List (List Sc) → (List (List Sc) → α) → α
  | [], f => f []
  | x :: l, f => fScs x fun x => fHp l fun l => f (x :: l)
def setF : Tr → Nat → SV → (Tr → α) → α
  | .lf, _, _, f => f .lf
  | .nd l y r, n, x, f => match n with
    | 0 => f (.nd l x r)
    | k + 1 => match Nat.beq (k % 2) 0 with
      | true => fN (k / 2) fun k => setF l k x fun l => f (.nd l y r)
      | false => fN (k / 2) fun k => setF r k x fun r => f (.nd l y r)
def putF (st : St) (d : Option Nat) (x : SV) (f : St → α) : α :=
  match d with
  | none => fN st.nI fun i => fN st.nB fun b => f ⟨st.tm, st.n, st.hp, i, b⟩
  | some t => fSV x fun x => setF st.tm t x fun tm => fN st.nI fun i => fN st.nB fun b => f ⟨tm, st.n, st.hp, i, b⟩
def hpF (st : St) (f : St → α) : α := fHp st.hp fun h => f ⟨st.tm, st.n, h, st.nI, st.nB⟩
theorem fN_eq (n : Nat) (f : Nat → α) : fN n f = f n := by cases n <;> rfl
theorem fI_eq (n : Int) (f : Int → α) : fI n f = f n := by cases n <;> simp [fI, fN_eq]
theorem fK_eq (n : IntKind) (f : IntKind → α) : fK n f = f n := by cases n <;> rfl
theorem fO_eq (n : BinOp) (f : BinOp → α) : fO n f = f n := by cases n <;> rfl
theorem fT_eq (n : Bool) (f : Bool → α) : fT n f = f n := by cases n <;> rfl
theorem fL_eq : ∀ (l : List Nat) (f : List Nat → α), fL l f = f l
  | [], _ => rfl
  | n :: l, f => by simp [fL, fN_eq, fL_eq l]
theorem fE_eq : ∀ (e : E) (f : E → α), fE e f = f e := by
  intro e
  induction e <;> intro f <;> simp only [fE, fN_eq, fI_eq, fK_eq, fO_eq, fT_eq, fL_eq] <;> simp_all
theorem fSc_eq (x : Sc) (f : Sc → α) : fSc x f = f x := by cases x <;> simp [fSc, fK_eq, fE_eq, fN_eq]
theorem fScs_eq : ∀ (x : List Sc) (f : List Sc → α), fScs x f = f x
  | [], _ => rfl
  | x :: l, f => by simp [fScs, fSc_eq, fScs_eq l]
theorem fS1_eq (x : S1) (f : S1 → α) : fS1 x f = f x := by cases x <;> simp [fS1, fSc_eq, fScs_eq]
theorem fS1s_eq : ∀ (x : List S1) (f : List S1 → α), fS1s x f = f x
  | [], _ => rfl
  | x :: l, f => by simp [fS1s, fS1_eq, fS1s_eq l]
theorem fSV_eq (x : SV) (f : SV → α) : fSV x f = f x := by cases x <;> simp [fSV, fS1_eq, fS1s_eq, fE_eq]
theorem fHp_eq : ∀ (x : List (List Sc)) (f : List (List Sc) → α), fHp x f = f x
  | [], _ => rfl
  | x :: l, f => by simp [fHp, fScs_eq, fHp_eq l]
theorem setF_eq : ∀ (l : Tr) (n : Nat) (x : SV) (f : Tr → α), setF l n x f = f (l.set n x)
  | .lf, _, _, _ => rfl
  | .nd l y r, n, x, f => by
    cases n with
    | zero => rfl
    | succ k =>
      simp only [setF, Tr.set]
      cases Nat.beq (k % 2) 0 <;> simp only [fN_eq, setF_eq l, setF_eq r]
theorem putF_eq (st : St) (d : Option Nat) (x : SV) (f : St → α) : putF st d x f = f (st.put d x) := by
  cases d <;> simp [putF, fN_eq, fSV_eq, setF_eq, St.put]
theorem hpF_eq (st : St) (f : St → α) : hpF st f = f st := by simp [hpF, fHp_eq]
end
/-- What is long gets a name. -/
def bnd (s : S1) (st : St) (k : S1 → St → T) : T :=
  match s with
  | .s (.i kk e) => match Nat.ble 7 e.sz with
    | true => .li e (k (.s (.i kk (.iv st.nI))) { st with nI := st.nI + 1 })
    | false => k s st
  | .s (.b e) => match Nat.ble 7 e.sz with
    | true => .lb e (k (.s (.b (.bv st.nB))) { st with nB := st.nB + 1 })
    | false => k s st
  | _ => k s st
theorem bnd_ok {C : Nat → Fn} {s : S1} {st : St} {k : S1 → St → T} {v : Env} {a : Act} {r} (hT : TR v st a) (hs : ∀ v', Later v v' → s.den v' = s.den v) (h : (bnd s st k).den C v.i v.b = some r) :
    ∃ s' st' v' i b, v' = ⟨v.p, v.i ++ i, v.b ++ b⟩ ∧ Later v v' ∧ TR v' st' a ∧ st'.hp = st.hp ∧ (k s' st').den C v'.i v'.b = some r ∧ ∀ v'', Later v' v'' → s'.den v'' = s.den v := by
  have plain : (k s st).den C v.i v.b = some r → ∃ s' st' v' i b, v' = ⟨v.p, v.i ++ i, v.b ++ b⟩ ∧ Later v v' ∧ TR v' st' a ∧ st'.hp = st.hp ∧ (k s' st').den C v'.i v'.b = some r ∧ ∀ v'', Later v' v'' → s'.den v'' = s.den v := fun h =>
    ⟨s, st, v, [], [], by simp, Later.refl v, hT, rfl, h, hs⟩
  unfold bnd at h
  split at h
  · rename_i kk e
    split at h
    · simp only [T.den] at h
      have lt : Later v ⟨v.p, v.i ++ [e.I v.i v.b], v.b⟩ := ⟨[], [e.I v.i v.b], [], by simp⟩
      refine ⟨_, _, ⟨v.p, v.i ++ [e.I v.i v.b], v.b⟩, [e.I v.i v.b], [], by simp, lt, ?_, ?_, h, fun v'' l => ?_⟩
      · exact ⟨fun v' l => hT.tm v' (lt.trans l), hT.df, by simp [hT.hi], hT.hb, hT.ex⟩
      · rfl
      · obtain ⟨p, i, b, rfl⟩ := l
        simp only [S1.den, Sc.den, E.I, List.getD_eq_getElem?_getD]
        rw [← hT.hi]
        simp
    · exact plain h
  · rename_i e
    split at h
    · simp only [T.den] at h
      have lt : Later v ⟨v.p, v.i, v.b ++ [e.B v.i v.b]⟩ := ⟨[], [], [e.B v.i v.b], by simp⟩
      refine ⟨_, _, ⟨v.p, v.i, v.b ++ [e.B v.i v.b]⟩, [], [e.B v.i v.b], by simp, lt, ?_, ?_, h, fun v'' l => ?_⟩
      · exact ⟨fun v' l => hT.tm v' (lt.trans l), hT.df, hT.hi, by simp [hT.hb], hT.ex⟩
      · rfl
      · obtain ⟨p, i, b, rfl⟩ := l
        simp only [S1.den, Sc.den, E.B, List.getD_eq_getElem?_getD]
        rw [← hT.hb]
        simp
    · exact plain h
  · exact plain h
/-- The same under a condition that does not hold: whatever is named, nothing is known of it. -/
theorem bnd_f {C : Nat → Fn} {s : S1} {st : St} {k : S1 → St → T} {v : Env} {a : Act} {r} (hT : TR v st a) (h : (bnd s st k).den C v.i v.b = some r) :
    ∃ s' st' v' i b, v' = ⟨v.p, v.i ++ i, v.b ++ b⟩ ∧ Later v v' ∧ TR v' st' a ∧ st'.hp = st.hp ∧ (k s' st').den C v'.i v'.b = some r := by
  have plain : (k s st).den C v.i v.b = some r → ∃ s' st' v' i b, v' = ⟨v.p, v.i ++ i, v.b ++ b⟩ ∧ Later v v' ∧ TR v' st' a ∧ st'.hp = st.hp ∧ (k s' st').den C v'.i v'.b = some r := fun h =>
    ⟨s, st, v, [], [], by simp, Later.refl v, hT, rfl, h⟩
  unfold bnd at h
  split at h
  · rename_i kk e
    split at h
    · simp only [T.den] at h
      have lt : Later v ⟨v.p, v.i ++ [e.I v.i v.b], v.b⟩ := ⟨[], [e.I v.i v.b], [], by simp⟩
      exact ⟨_, { st with nI := st.nI + 1 }, ⟨v.p, v.i ++ [e.I v.i v.b], v.b⟩, [e.I v.i v.b], [], by simp, lt, ⟨fun v' l => hT.tm v' (lt.trans l), hT.df, by simp [hT.hi], hT.hb, hT.ex⟩, rfl, h⟩
    · exact plain h
  · rename_i e
    split at h
    · simp only [T.den] at h
      have lt : Later v ⟨v.p, v.i, v.b ++ [e.B v.i v.b]⟩ := ⟨[], [], [e.B v.i v.b], by simp⟩
      exact ⟨_, { st with nB := st.nB + 1 }, ⟨v.p, v.i, v.b ++ [e.B v.i v.b]⟩, [], [e.B v.i v.b], by simp, lt, ⟨fun v' l => hT.tm v' (lt.trans l), hT.df, hT.hi, by simp [hT.hb], hT.ex⟩, rfl, h⟩
    · exact plain h
  · exact plain h
def callee? : Op → Option (Nat × List Operand)
  | .call { callee := .value (.func f), args := xs, argTypes := _ } => some (f, xs.toList)
  | _ => none
def putG (G : E) (s : S1) : SV :=
  match G with
  | .t true => .o s
  | G => .g G s
theorem putG_t {G : E} {s : S1} {v : Env} (h : G.B v.i v.b = true) : (putG G s).den v = s.den v := by
  unfold putG
  split
  · rfl
  · simp [SV.den, h]
theorem putG_f {G : E} {s : S1} {v : Env} (h : G.B v.i v.b = false) : (putG G s).den v = undef := by
  unfold putG
  split
  · simp [E.B] at h
  · simp [SV.den, h]
def resG (G : E) : List S1 → Option SV
  | [s] => some (putG G s)
  | l => match G with
    | .t true => some (.tup l)
    | _ => none
theorem resG_t {G : E} {l : List S1} {x : SV} {v : Env} (h : resG G l = some x) (hG : G.B v.i v.b = true) : x.den v = match l.map (S1.den v) with | [y] => y | l => .tuple l.toArray := by
  unfold resG at h
  split at h
  · cases h; rw [putG_t hG]; rfl
  · rename_i hl
    split at h
    · cases h
      match l with
      | [] => rfl
      | [y] => exact absurd rfl (hl y)
      | y :: z :: r => rfl
    · cases h
theorem resG_f {G : E} {l : List S1} {x : SV} {v : Env} (h : resG G l = some x) (hG : G.B v.i v.b = false) : x.den v = undef := by
  unfold resG at h
  split at h
  · cases h; exact putG_f hG
  · split at h
    · simp [E.B] at hG
    · cases h
/-- Several results, moved on. -/
def mvT (st : St) (op : Op) : Option (List S1) :=
  match op with
  | .move (.tmp t) | .assign (.tmp t) => match st.get t with
    | .tup l => some l
    | _ => none
  | _ => none
theorem mvT_ok {P : Program} {o : Oper} {st : St} {l : List S1} {v : Env} {a : Act} (h : mvT st o.op = some l) (hT : TR v st a) (w : World) :
    ∀ v', Later v v' → (execOp a.eval o).run P w = .ok (.value ((SV.tup l).den v')) w := by
  intro v' lt
  obtain ⟨dst, op, ty, pos, after, guard⟩ := o
  simp only at h
  have key : ∀ t, st.get t = .tup l → a.eval (.tmp t) = (SV.tup l).den v' := fun t ht => by
    show a.tmps.getD t undef = _
    rw [hT.get lt t, ht]
  unfold mvT at h
  split at h
  · split at h
    · rename_i t _ ht
      cases h
      simp [execOp, key _ ht]
    · cases h
  · split at h
    · rename_i t _ ht
      cases h
      simp [execOp, key _ ht]
    · cases h
  · cases h
/-! A call that answers a slice: one way each for 0, 1, 2 numbers. -/
def slC (k : IntKind) (n j : Nat) : List (List Sc) :=
  match j with
  | 0 => []
  | 1 => [[.i k (.iv (n + 1))]]
  | _ => [[.i k (.iv (n + 1)), .i k (.iv (n + 2))]]
def slX (h j : Nat) : S1 :=
  match j with
  | 0 => .s .nls
  | j + 1 => .s (.sl h 0 (j + 1) (j + 1))
def slSt (st : St) (k : IntKind) (rest : List Sh) (j : Nat) : St :=
  { st with hp := st.hp ++ slC k st.nI j, nI := st.nI + (3 + cntIs rest), nB := st.nB + cntBs rest }
def slK (st : St) (k : IntKind) (rest : List Sh) (d : Option Nat) (j : Nat) (f : St → T) : T :=
  hpF (slSt st k rest j) fun st' => putF st' d (.tup (slX st.hp.length j :: newS rest (st.nI + 3) st.nB)) f
def slT (st : St) (k : IntKind) (rest : List Sh) (d : Option Nat) (f : St → T) : T :=
  .ite (.cm .eql (.iv st.nI) (.n 0)) (slK st k rest d 0 f) (.ite (.cm .eql (.iv st.nI) (.n 1)) (slK st k rest d 1 f) (.ite (.cm .eql (.iv st.nI) (.n 2)) (slK st k rest d 2 f) .fail))
section
variable (P : Program) (sig : Nat → Option Sig) (tt : Bool) (all : Array Oper)
/-- The operations of a region, one behind the other. -/
def sxOps : List Oper → St → (St → T) → T
  | [], st, k => k st
  | o :: l, st, k =>
    match gd st all o.guard with
    | none => .fail
    | some (.t false) => putF st o.dst .u fun st => sxOps l st k
    | some G => fE G fun G =>
      match callee? o.op with
      | some (f, xs) =>
        match rdL st G xs, sig f with
        | some as, some s =>
          fS1s as fun as =>
          if fits s.a as then
            match s.sl with
            | none =>
              match resG G (newS s.r st.nI st.nB) with
              | some x => .call G f (ints as) (bools as) (cntIs s.r) (cntBs s.r)
                  (putF { st with nI := st.nI + cntIs s.r, nB := st.nB + cntBs s.r } o.dst x fun st => sxOps l st k)
              | none => .fail
            | some (kk, rest) =>
              match tt, G with
              | true, .t true => .call (.t true) f (ints as) (bools as) (3 + cntIs rest) (cntBs rest) (slT st kk rest o.dst fun st => sxOps l st k)
              | _, _ => .fail
          else .fail
        | _, _ => .fail
      | none =>
        match mvT st o.op with
        | some x => match G with
          | .t true => putF st o.dst (.tup x) fun st => sxOps l st k
          | _ => .fail
        | none =>
        match pv P st G o.op with
        | some (s, rq) => fE rq fun rq => fS1 s fun s => mkrq (mkoo (mknt G) rq) (bnd s st fun s st => putF st o.dst (putG G s) fun st => sxOps l st k)
        | none =>
          match G, mv P st o.op with
          | .t true, some (st', x) => hpF st' fun st' => putF st' o.dst x fun st => sxOps l st k
          | _, _ => .fail
end

section
variable {P : Program}
theorem run_call {o : Oper} {a : Act} {f : Nat} {xs : List Operand} (h : callee? o.op = some (f, xs)) (w : World) : (execOp a.eval o).run P w = (callFunc f (xs.map a.eval).toArray).run P w := by
  obtain ⟨dst, op, ty, pos, after, guard⟩ := o
  simp only at h
  unfold callee? at h
  split at h
  · rename_i f' xs' ts
    simp only [Option.some.injEq, Prod.mk.injEq] at h
    obtain ⟨rfl, rfl⟩ := h
    have e : xs'.map a.eval = (xs'.toList.map a.eval).toArray := by apply Array.toList_inj.1; simp
    simp [execOp, resolve, Deferred.ofValue, invoke, Act.eval, e]
  · cases h
theorem zeroS_ok {t : TypeId} {s : S1} (h : zeroS P t = some s) (v : Env) (w : World) : (zeroValue t).run P w = .ok (s.den v) w := by
  unfold zeroS at h
  split at h
  · rename_i i hi
    split at h
    · rename_i z hz
      simp [zeroValue, typeInfo, hi, hz, ofConst_ok h v]
    · cases h
  · cases h
theorem mv_ok {o : Oper} {st st' : St} {x : SV} {v : Env} {a : Act} {w0 w : World} (h : mv P st o.op = some (st', x)) (hT : TR v st a) (hH : HR v st.hp w0 w) :
    ∃ v' w' u, Later v v' ∧ v'.i = v.i ∧ v'.b = v.b ∧ ((execOp a.eval o).run P w = .ok (.value u) w' ∨ ((execOp a.eval o).run P w = .ok .skip w' ∧ u = undef)) ∧
      HR v' st'.hp w0 w' ∧ TR v' (st'.put o.dst x) (a.put o.dst u) := by
  obtain ⟨dst, op, ty, pos, after, guard⟩ := o
  simp only at h
  have hG := GT.t v
  -- a block more
  have key : ∀ (cs : List Sc) (el : TypeId) (C : Array Value), (∀ v', Later v v' → C = (cs.map (Sc.den v')).toArray) → ∀ (y : S1) (u : Value), (∀ v', Later ⟨v.p ++ [w.heap.size], v.i, v.b⟩ v' → u = y.den v') →
      (execOp a.eval { dst, op, type := ty, pos, after, guard }).run P w = .ok (.value u) { w with heap := w.heap.push (.cells C el) } →
      ∃ v' w' u, Later v v' ∧ v'.i = v.i ∧ v'.b = v.b ∧ ((execOp a.eval { dst, op, type := ty, pos, after, guard }).run P w = .ok (.value u) w' ∨ ((execOp a.eval { dst, op, type := ty, pos, after, guard }).run P w = .ok .skip w' ∧ u = undef)) ∧
        HR v' (st.hp ++ [cs]) w0 w' ∧ TR v' (St.put { st with hp := st.hp ++ [cs] } dst (.o y)) (a.put dst u) := by
    intro cs el C hC y u hu hr
    have l1 : Later v ⟨v.p ++ [w.heap.size], v.i, v.b⟩ := ⟨[w.heap.size], [], [], by simp⟩
    refine ⟨⟨v.p ++ [w.heap.size], v.i, v.b⟩, { w with heap := w.heap.push (.cells C el) }, u, l1, rfl, rfl, .inl hr, hH.push cs el C hC, ?_⟩
    have hT' : TR ⟨v.p ++ [w.heap.size], v.i, v.b⟩ { st with hp := st.hp ++ [cs] } a := ⟨fun v' l => hT.tm v' (l1.trans l), hT.df, hT.hi, hT.hb, hT.ex⟩
    exact hT'.put dst (.o y) u hu
  have addr : ∀ v', Later ⟨v.p ++ [w.heap.size], v.i, v.b⟩ v' → v'.p.getD st.hp.length 0 = w.heap.size := fun v' l => by
    rw [l.getD (by simp [hH.ln])]
    rw [← hH.ln]; simp [List.getD_eq_getElem?_getD]
  unfold mv at h
  split at h
  · rename_i el x'
    split at h
    · rename_i s hs
      cases h
      refine key s.cells el (s.cells.map (Sc.den v)).toArray (fun v' l => ?_) (.s (.p st.hp.length 0)) (.pointer (some ⟨w.heap.size, 0, none⟩)) (fun v' l => ?_) ?_
      · rw [← S1.den_cells, ← S1.den_cells, ← rd_ok hT hG hs v (Later.refl v), rd_ok hT hG hs v' l]
      · simp only [S1.den, Sc.den, addr v' l]
      · simp [execOp, Instr.box, newVar, newRow, rd_ok hT hG hs v (Later.refl v), S1.den_cells]
    · cases h
  · rename_i el
    split at h
    · rename_i s hs
      cases h
      have hz := zeroS_ok hs
      refine key s.cells el (s.cells.map (Sc.den v)).toArray (fun v' l => ?_) (.s (.p st.hp.length 0)) (.pointer (some ⟨w.heap.size, 0, none⟩)) (fun v' l => ?_) ?_
      · rw [← S1.den_cells, ← S1.den_cells]
        have := (hz v w).symm.trans (hz v' w)
        simp only [Result.ok.injEq, and_true] at this
        rw [this]
      · simp only [S1.den, Sc.den, addr v' l]
      · simp [execOp, Instr.alloc, newVar, newRow, hz v w, S1.den_cells]
    · cases h
  · rename_i t x' y'
    split at h
    · rename_i b o s i hx hy hi
      split at h
      · rename_i cs hb
        split at h
        · rename_i hc
          cases h
          have hlt : b < v.p.length := by rw [hH.ln]; exact (List.getElem?_eq_some_iff.1 hb).1
          obtain ⟨el, hw⟩ := hH.blk v (Later.refl v) b cs hb
          have hst := run_storeCells_at P (v.p.getD b 0) o el ((s.cells.map (Sc.den v))) 0 (cs.map (Sc.den v)).toArray w hw (by simp; omega) (fun u hu => by
            simp only [List.mem_map] at hu
            obtain ⟨c, _, rfl⟩ := hu
            exact Sc.den_one v c)
          have hC : ∀ v', Later v v' → ((cs.map (Sc.den v)).toArray.toList.take (o + 0) ++ s.cells.map (Sc.den v) ++ (cs.map (Sc.den v)).toArray.toList.drop (o + 0 + (s.cells.map (Sc.den v)).length)).toArray =
              ((cs.take o ++ s.cells ++ cs.drop (o + s.cells.length)).map (Sc.den v')).toArray := fun v' l => by
            have e1 : cs.map (Sc.den v) = cs.map (Sc.den v') := by
              obtain ⟨el', hw'⟩ := hH.blk v' l b cs hb
              rw [hw] at hw'
              simp only [Option.some.injEq, Obj.cells.injEq] at hw'
              exact List.toArray_inj hw'.1
            have e2 : s.cells.map (Sc.den v) = s.cells.map (Sc.den v') := by
              have := congrArg Value.cells ((rd_ok hT hG hy v (Later.refl v)).symm.trans (rd_ok hT hG hy v' l))
              rw [S1.den_cells, S1.den_cells] at this
              exact List.toArray_inj this
            simp only [Nat.add_zero, List.length_map, List.map_append, List.map_take, List.map_drop, e1, e2]
          refine ⟨v, _, undef, Later.refl v, rfl, rfl, .inr ⟨?_, rfl⟩, hH.write b cs _ hb _ hC, ?_⟩
          · simp only [execOp]
            rw [rd_ok hT hG hx v (Later.refl v), rd_ok hT hG hy v (Later.refl v)]
            have hsz : (s.den v).cells.size = i.size := by rw [S1.den_cells]; simpa using hc.1
            have hcl : (s.den v).cells.toList = s.cells.map (Sc.den v) := by rw [S1.den_cells]
            rw [show S1.den v (.s (.p b o)) = .pointer (some ⟨v.p.getD b 0, o, none⟩) from rfl]
            generalize s.den v = q at hsz hcl ⊢
            simp only [Instr.storeAt, Instr.sureAddr, storeVar, Sem.run_bind, Sem.run_pure, Result.andThen_ok, run_sizeOf hi, Sem.run_ite]
            rw [hcl, if_neg (by rw [hsz]; simp)]
            simp only [hst, Result.andThen_ok]
          · have hT' : TR v { st with hp := st.hp.set b (cs.take o ++ s.cells ++ cs.drop (o + s.cells.length)) } a := ⟨hT.tm, hT.df, hT.hi, hT.hb, hT.ex⟩
            exact hT'.put dst .u undef (fun _ _ => rfl)
        · cases h
      · cases h
    · cases h
  · rename_i t len parts
    split at h
    · rename_i l e hp hu
      split at h
      · rename_i ie hie
        split at h
        · rename_i z hz
          split at h
          · rename_i zs hzs
            split at h
            · cases h
            · rename_i hn
              split at h
              · rename_i r hr
                cases h
                have e1 : ∀ v', z.cells.toList = zs.map (Sc.den v') := ofScs_ok hzs
                have ep : ∀ v', Later v v' → (parts.map fun (i, x) => (i, a.eval x)) = (l.map fun (i, x) => (i, x.den v')).toArray := fun v' lt => by
                  have := rdP_ok hT hG hp v' lt
                  apply Array.toList_inj.1
                  rw [← this]; simp
                have ez : ∀ v', ((List.range (len * ie.size)).map fun i => zs.getD (i % zs.length) .nls).toArray.map (Sc.den v') = (Array.range (len * ie.size)).map (fun i => z.cells[i % z.cells.size]!) := fun v' => by
                  have hsz : z.cells.size = zs.length := by rw [← Array.length_toList, e1 v']; simp
                  apply Array.toList_inj.1
                  simp only [List.map_toArray, List.map_map, Array.toList_map, Array.toList_range]
                  apply List.map_congr_left
                  intro i _
                  have hlt : i % zs.length < zs.length := Nat.mod_lt _ (by omega)
                  have h2 : z.cells[i % zs.length]? = some ((zs[i % zs.length]).den v') := by
                    rw [← Array.getElem?_toList, e1 v', List.getElem?_map, List.getElem?_eq_getElem hlt]; rfl
                  simp only [Function.comp, hsz, List.getD_eq_getElem?_getD, List.getElem?_eq_getElem hlt, Option.getD_some]
                  rw [getElem!_def, h2]
                have hf : ∀ v', Later v v' → Instr.fill (fun i => some (i * ie.size, ie.size)) ((Array.range (len * ie.size)).map (fun i => z.cells[i % z.cells.size]!)) (parts.map fun (i, x) => (i, a.eval x)).toList = some (r.map (Sc.den v')) := fun v' lt => by
                  have := fillS_ok (fun i => some (i * ie.size, ie.size)) v' l _ r hr
                  rw [ez v'] at this
                  rw [ep v' lt]; exact this
                refine key r.toList e (r.map (Sc.den v)) (fun v' lt => ?_) (.s (.sl st.hp.length 0 len len)) (.slice (some ⟨w.heap.size, 0, none⟩) len len) (fun v' lt => ?_) ?_
                · have := (hf v (Later.refl v)).symm.trans (hf v' lt)
                  simp only [Option.some.injEq] at this
                  rw [this]
                  apply Array.toList_inj.1; simp
                · simp only [S1.den, Sc.den, addr v' lt]
                · simp only [execOp]
                  have : (Instr.buildSlice t len (parts.map fun (i, x) => (i, a.eval x))).run P w = .ok (.slice (some ⟨w.heap.size, 0, none⟩) len len) { w with heap := w.heap.push (.cells (r.map (Sc.den v)) e) } := by
                    unfold Instr.buildSlice
                    simp only [Sem.run_bind, run_underlying hu, Result.andThen_ok, run_sizeOf hie]
                    rw [if_neg (by omega), if_neg (by omega)]
                    have hzv : (zeroValue e).run P w = .ok z w := by simp [zeroValue, typeInfo, hie, hz]
                    simp only [Sem.run_bind, hzv, Result.andThen_ok, Sem.run_pure, hf v (Later.refl v), newRow, run_newObj]
                  simp only [Sem.run_bind, this, Result.andThen_ok, Sem.run_pure]
              · cases h
          · cases h
        · cases h
      · cases h
    · cases h
  · cases h
end

/-- One more block, as it lies there. -/
theorem HR.add {v : Env} {hp} {w0 w : World} (h : HR v hp w0 w) (cs : List Sc) (b : Nat) (el : TypeId) (C : Array Value) (hw : w.heap[b]? = some (.cells C el (0, 0))) (hb : b ∉ v.p) (hge : w0.heap.size ≤ b) (hC : ∀ v', Later v v' → C = (cs.map (Sc.den v')).toArray) :
    HR ⟨v.p ++ [b], v.i, v.b⟩ (hp ++ [cs]) w0 w := by
  have lt : Later v ⟨v.p ++ [b], v.i, v.b⟩ := ⟨[b], [], [], by simp⟩
  refine ⟨by simp [h.ln], ?_, ?_, ?_, h.bel⟩
  · rw [List.nodup_append]
    refine ⟨h.nd, by simp, ?_⟩
    intro x hx y hy
    simp only [List.mem_singleton] at hy
    subst hy
    exact fun e => hb (e ▸ hx)
  · intro v' l i cs' hc
    by_cases hi : i < hp.length
    · rw [List.getElem?_append_left hi] at hc
      obtain ⟨el', e⟩ := h.blk v' (lt.trans l) i cs' hc
      have hp' : (v.p ++ [b]).getD i 0 = v.p.getD i 0 := by
        simp [List.getD_eq_getElem?_getD, List.getElem?_append_left (show i < v.p.length by rw [h.ln]; exact hi)]
      exact ⟨el', by rw [hp']; exact e⟩
    · have hi2 : i = hp.length := by
        rcases Nat.lt_or_ge hp.length i with h2 | h2
        · rw [List.getElem?_eq_none (by simp; omega)] at hc; cases hc
        · omega
      subst hi2
      simp at hc
      subst hc
      have : (v.p ++ [b]).getD hp.length 0 = b := by
        rw [← h.ln]; simp [List.getD_eq_getElem?_getD]
      exact ⟨el, by rw [this, hw, hC v' (lt.trans l)]⟩
  · intro n hn
    simp only [List.mem_append, List.mem_singleton] at hn
    rcases hn with hn | rfl
    · exact h.ge n hn
    · exact hge
section
variable {P : Program} {sig : Nat → Option Sig} {C : Nat → Fn} {w0 : World}
theorem call_t (hC : ∀ f s, sig f = some s → Good P (fun w => Below w0.heap.size w0 w) f s (C f)) {st : St} {G : E} {f : Nat} {xs : List Operand} {as : List S1} {s : Sig} {x : SV} {v : Env} {a : Act} {d : Option Nat} {k : T} {r}
    (hr : rdL st G xs = some as) (hs : sig f = some s) (hsl : s.sl = none) (hf : fits s.a as = true) (hx : resG G (newS s.r st.nI st.nB) = some x) (hT : TR v st a) (hG : GT v G)
    (h : (T.call G f (ints as) (bools as) (cntIs s.r) (cntBs s.r) k).den C v.i v.b = some r) :
    ∃ is' bs', (∀ w, Below w0.heap.size w0 w → Gives P f (xs.map a.eval).toArray w (mkR s.r is' bs')) ∧ Later v ⟨v.p, v.i ++ is', v.b ++ bs'⟩ ∧
      TR ⟨v.p, v.i ++ is', v.b ++ bs'⟩ (St.put { st with nI := st.nI + cntIs s.r, nB := st.nB + cntBs s.r } d x) (a.put d (mkR s.r is' bs')) ∧ k.den C (v.i ++ is') (v.b ++ bs') = some r := by
  simp only [T.den, hG v (Later.refl v), cond_true] at h
  split at h
  · rename_i is' bs' hc
    split at h
    · rename_i hl
      have hlt : Later v ⟨v.p, v.i ++ is', v.b ++ bs'⟩ := ⟨[], is', bs', by simp⟩
      refine ⟨is', bs', fun w hw => ?_, hlt, ?_, h⟩
      · have := (hC f s hs).plain hsl hc hw
        rw [← (fits_ok v s.a as hf).1, ← rdL_ok hT hG hr v (Later.refl v)] at this
        exact this
      · have h0 : TR ⟨v.p, v.i ++ is', v.b ++ bs'⟩ { st with nI := st.nI + cntIs s.r, nB := st.nB + cntBs s.r } a :=
          ⟨fun v' l => hT.tm v' (hlt.trans l), hT.df, by simp [hT.hi, hl.1], by simp [hT.hb, hl.2], hT.ex⟩
        refine h0.put d x _ fun v' l => ?_
        obtain ⟨p, i, b, rfl⟩ := l
        have hG' : G.B (v.i ++ is' ++ i) (v.b ++ bs' ++ b) = true := hG ⟨v.p ++ p, v.i ++ is' ++ i, v.b ++ bs' ++ b⟩ (hlt.trans ⟨p, i, b, rfl⟩)
        rw [resG_t hx hG', newS_ok]
        unfold mkR
        simp only [← hT.hi, ← hT.hb, List.append_assoc, List.drop_left]
        rw [mkV_app s.r is' i bs' b (by omega) (by omega)]
    · cases h
  · cases h
theorem call_f {st : St} {G : E} {f : Nat} {ii bb : List E} {r' : List Sh} {x : SV} {v : Env} {a : Act} {d : Option Nat} {k : T} {r}
    (hx : resG G (newS r' st.nI st.nB) = some x) (hT : TR v st a) (hG : GF v G) (h : (T.call G f ii bb (cntIs r') (cntBs r') k).den C v.i v.b = some r) :
    ∃ is' bs', Later v ⟨v.p, v.i ++ is', v.b ++ bs'⟩ ∧
      TR ⟨v.p, v.i ++ is', v.b ++ bs'⟩ (St.put { st with nI := st.nI + cntIs r', nB := st.nB + cntBs r' } d x) (a.put d undef) ∧ k.den C (v.i ++ is') (v.b ++ bs') = some r := by
  simp only [T.den, hG v (Later.refl v), cond_false, List.length_replicate, and_self, if_true] at h
  have hlt : Later v ⟨v.p, v.i ++ List.replicate (cntIs r') 0, v.b ++ List.replicate (cntBs r') false⟩ := ⟨[], List.replicate (cntIs r') 0, List.replicate (cntBs r') false, by simp⟩
  refine ⟨_, _, hlt, ?_, h⟩
  have h0 : TR ⟨v.p, v.i ++ List.replicate (cntIs r') 0, v.b ++ List.replicate (cntBs r') false⟩ { st with nI := st.nI + cntIs r', nB := st.nB + cntBs r' } a :=
    ⟨fun v' l => hT.tm v' (hlt.trans l), hT.df, by simp [hT.hi], by simp [hT.hb], hT.ex⟩
  refine h0.put d x _ fun v' l => ?_
  rw [resG_f hx (hG v' (hlt.trans l))]
theorem slT_den {C : Nat → Fn} {st : St} {f : Nat} {ii bb : List E} {kk : IntKind} {rest : List Sh} {d : Option Nat} {F : St → T} {is bs r} (hi : is.length = st.nI) (h : (T.call (.t true) f ii bb (3 + cntIs rest) (cntBs rest) (slT st kk rest d F)).den C is bs = some r) :
    ∃ is' bs', C f (ii.map (E.I is bs)) (bb.map (E.B is bs)) = some (is', bs') ∧ is'.length = 3 + cntIs rest ∧ bs'.length = cntBs rest ∧
      ∃ j : Nat, j ≤ 2 ∧ is'.getD 0 0 = (j : Int) ∧ (F (St.put (slSt st kk rest j) d (.tup (slX st.hp.length j :: newS rest (st.nI + 3) st.nB)))).den C (is ++ is') (bs ++ bs') = some r := by
  simp only [T.den, E.B, cond_true] at h
  split at h
  · rename_i is' bs' hc
    split at h
    · rename_i hl
      refine ⟨is', bs', hc, hl.1, hl.2, ?_⟩
      have e0 : (is ++ is').getD st.nI 0 = is'.getD 0 0 := by
        rw [← hi, List.getD_eq_getElem?_getD, List.getElem?_append_right (Nat.le_refl _), Nat.sub_self, ← List.getD_eq_getElem?_getD]
      simp only [slT, slK, hpF_eq, putF_eq, T.den, E.B, E.I, cmB, e0] at h
      by_cases h0 : is'.getD 0 0 = 0
      · rw [h0] at h; exact ⟨0, by omega, by simpa using h0, h⟩
      · by_cases h1 : is'.getD 0 0 = 1
        · rw [h1] at h; exact ⟨1, by omega, by simpa using h1, h⟩
        · by_cases h2 : is'.getD 0 0 = 2
          · rw [h2] at h; exact ⟨2, by omega, by simpa using h2, h⟩
          · rw [show (is'.getD 0 0 == 0) = false from by simpa using h0, show (is'.getD 0 0 == 1) = false from by simpa using h1, show (is'.getD 0 0 == 2) = false from by simpa using h2] at h
            cases h
    · cases h
  · cases h
/-- Behind a call that answers a slice. -/
theorem slT_ok {st : St} {v : Env} {a : Act} {w w' : World} {kk : IntKind} {rest : List Sh} {d : Option Nat} {is' : List Int} {bs' : List Bool} {j : Nat} {u : Value} (hT : TR v st a) (hH : HR v st.hp w0 w) (hb : Below w.heap.size w w')
    (hi : is'.length = 3 + cntIs rest) (hbl : bs'.length = cntBs rest) (hj : j ≤ 2) (e0 : is'.getD 0 0 = (j : Int)) (hu : SlV kk (is'.getD 0 0) (is'.getD 1 0) (is'.getD 2 0) w w' u) :
    ∃ v', Later v v' ∧ v'.i = v.i ++ is' ∧ v'.b = v.b ++ bs' ∧ HR v' (slSt st kk rest j).hp w0 w' ∧
      TR v' (St.put (slSt st kk rest j) d (.tup (slX st.hp.length j :: newS rest (st.nI + 3) st.nB))) (a.put d (.tuple (u :: mkV rest (is'.drop 3) bs').toArray)) := by
  have hH1 := hH.below hb
  -- what stands behind the slice
  have tail : ∀ v'' : Env, Later ⟨v.p, v.i ++ is', v.b ++ bs'⟩ v'' → (newS rest (st.nI + 3) st.nB).map (S1.den v'') = mkV rest (is'.drop 3) bs' := fun v'' l => by
    obtain ⟨p, i, b, rfl⟩ := l
    rw [newS_ok]
    have e1 : (v.i ++ is' ++ i).drop (st.nI + 3) = is'.drop 3 ++ i := by
      rw [← hT.hi, ← List.drop_drop, List.append_assoc, List.drop_left, List.drop_append_of_le_length (by omega)]
    have e2 : (v.b ++ bs' ++ b).drop st.nB = bs' ++ b := by rw [← hT.hb, List.append_assoc, List.drop_left]
    show mkV rest ((v.i ++ is' ++ i).drop (st.nI + 3)) ((v.b ++ bs' ++ b).drop st.nB) = _
    rw [e1, e2]
    exact mkV_app rest _ _ _ _ (by simp; omega) (by omega)
  have at1 : ∀ v'' : Env, Later ⟨v.p, v.i ++ is', v.b ++ bs'⟩ v'' → ∀ n, n < 3 → v''.i.getD (st.nI + n) 0 = is'.getD n 0 := fun v'' l n hn => by
    obtain ⟨p, i, b, rfl⟩ := l
    show (v.i ++ is' ++ i).getD (st.nI + n) 0 = _
    rw [← hT.hi, List.append_assoc, List.getD_eq_getElem?_getD, List.getElem?_append_right (by omega), Nat.add_sub_cancel_left, List.getElem?_append_left (by omega), ← List.getD_eq_getElem?_getD]
  have l1 : Later v ⟨v.p, v.i ++ is', v.b ++ bs'⟩ := ⟨[], is', bs', by simp⟩
  rcases hu with ⟨hn, rfl⟩ | ⟨b, el, hge, hu⟩
  · obtain rfl : j = 0 := by omega
    refine ⟨⟨v.p, v.i ++ is', v.b ++ bs'⟩, l1, rfl, rfl, by simpa [slSt, slC] using hH1.later (i := is') (b := bs') rfl, ?_⟩
    have h0 : TR ⟨v.p, v.i ++ is', v.b ++ bs'⟩ (slSt st kk rest 0) a := ⟨fun v' l => hT.tm v' (l1.trans l), hT.df, by simp [slSt, hT.hi, hi], by simp [slSt, hT.hb, hbl], hT.ex⟩
    refine h0.put d _ _ fun v'' l => ?_
    simp only [SV.den, List.map_cons, tail v'' l]
    rfl
  · have hnb : b ∉ v.p := fun hm => by
      have := hH.size b hm
      omega
    have l2 : Later v ⟨v.p ++ [b], v.i ++ is', v.b ++ bs'⟩ := ⟨[b], is', bs', by simp⟩
    have l3 : Later ⟨v.p, v.i ++ is', v.b ++ bs'⟩ ⟨v.p ++ [b], v.i ++ is', v.b ++ bs'⟩ := ⟨[b], [], [], by simp⟩
    have addr : ∀ v'', Later ⟨v.p ++ [b], v.i ++ is', v.b ++ bs'⟩ v'' → v''.p.getD st.hp.length 0 = b := fun v'' l => by
      rw [l.getD (by simp [hH.ln])]
      rw [← hH.ln]; simp [List.getD_eq_getElem?_getD]
    have hge0 : w0.heap.size ≤ b := Nat.le_trans hH.bel.size hge
    have fin : ∀ (j : Nat) (cs : List Sc) (C : Array Value), slC kk st.nI j = [cs] → w'.heap[b]? = some (.cells C el (0, 0)) → u = .slice (some ⟨b, 0, none⟩) j j → (∀ v'', Later ⟨v.p, v.i ++ is', v.b ++ bs'⟩ v'' → C = (cs.map (Sc.den v'')).toArray) → (slX st.hp.length j = .s (.sl st.hp.length 0 j j)) →
        ∃ v', Later v v' ∧ v'.i = v.i ++ is' ∧ v'.b = v.b ++ bs' ∧ HR v' (slSt st kk rest j).hp w0 w' ∧
          TR v' (St.put (slSt st kk rest j) d (.tup (slX st.hp.length j :: newS rest (st.nI + 3) st.nB))) (a.put d (.tuple (u :: mkV rest (is'.drop 3) bs').toArray)) := by
      intro j cs C hc hw hu hC hx
      refine ⟨⟨v.p ++ [b], v.i ++ is', v.b ++ bs'⟩, l2, rfl, rfl, ?_, ?_⟩
      · have := (hH1.later (i := is') (b := bs') rfl).add cs b el C hw hnb hge0 hC
        simpa [slSt, hc] using this
      · have h0 : TR ⟨v.p ++ [b], v.i ++ is', v.b ++ bs'⟩ (slSt st kk rest j) a := ⟨fun v' l => hT.tm v' (l2.trans l), hT.df, by simp [slSt, hT.hi, hi], by simp [slSt, hT.hb, hbl], hT.ex⟩
        refine h0.put d _ _ fun v'' l => ?_
        simp only [SV.den, List.map_cons, tail v'' (l3.trans l), hx, S1.den, Sc.den, addr v'' l, hu]
    rcases hu with ⟨hn, hu, hw⟩ | ⟨hn, hu, hw⟩
    · obtain rfl : j = 1 := by omega
      refine fin 1 _ _ rfl hw hu (fun v'' l => ?_) rfl
      simp only [List.map_cons, List.map_nil, Sc.den, E.I, at1 v'' l 1 (by omega)]
    · obtain rfl : j = 2 := by omega
      refine fin 2 _ _ rfl hw hu (fun v'' l => ?_) rfl
      simp only [List.map_cons, List.map_nil, Sc.den, E.I, at1 v'' l 1 (by omega), at1 v'' l 2 (by omega)]
/-- A region in the text's order. -/
theorem ops_ok (hC : ∀ f s, sig f = some s → Good P (fun w => Below w0.heap.size w0 w) f s (C f)) {tt : Bool} {all : Array Oper} {Q : Exit → Act → World → Prop} {r} : ∀ (l : List Oper) (st : St) (k : St → T) (a : Act) (w : World) (v : Env),
    TR v st a → HR v st.hp w0 w → (sxOps P sig tt all l st k).den C v.i v.b = some r →
    (∀ st' v' a' w', Later v v' → TR v' st' a' → HR v' st'.hp w0 w' → (k st').den C v'.i v'.b = some r → Q .normal a' w') → wpList P all Q l a w
  | [], st, k, a, w, v, hT, hH, h, hk => hk st v a w (Later.refl v) hT hH h
  | o :: l, st, k, a, w, v, hT, hH, h, hk => by
    simp only [sxOps, putF_eq, fE_eq, fS1s_eq, fS1_eq, hpF_eq] at h
    unfold wpList
    split at h
    · cases h
    · rename_i hg
      rcases gd_ok hg hT with ⟨_, hG⟩ | ⟨hw, _⟩
      · exact absurd (hG v (Later.refl v)) (by simp [E.B])
      · rw [if_neg (by simp [hw])]
        exact ops_ok hC l _ k _ w v (hT.put o.dst .u undef fun _ _ => rfl) (by cases o.dst <;> exact hH) h hk
    · rename_i G _ hg
      split at h
      · rename_i f xs hcal
        split at h
        · rename_i as s hr hs
          split at h
          · rename_i hf
            split at h
            · rename_i hsl
              split at h
              · rename_i x hx
                rcases gd_ok hg hT with ⟨hw, hG⟩ | ⟨hw, hG⟩
                · rw [if_pos hw]
                  left
                  obtain ⟨is', bs', hgi, lt, hT', h'⟩ := call_t hC hr hs hsl hf hx hT hG h
                  unfold Oper.wp
                  rw [run_call hcal]
                  have hH' : HR ⟨v.p, v.i ++ is', v.b ++ bs'⟩ (St.put { st with nI := st.nI + cntIs s.r, nB := st.nB + cntBs s.r } o.dst x).hp w0 w := by
                    cases o.dst <;> exact hH.later rfl
                  rcases hgi w hH.bel with ⟨h1, h2⟩ | h1
                  · rw [h1]
                    refine h2.mono ?_
                    rintro e w' ⟨rfl, hb⟩
                    exact ops_ok hC l _ k _ w' _ hT' (hH'.below hb) h' fun st' v' a' w'' l' => hk st' v' a' w'' (lt.trans l')
                  · rw [h1]
                    exact ops_ok hC l _ k _ w _ hT' hH' h' fun st' v' a' w'' l' => hk st' v' a' w'' (lt.trans l')
                · rw [if_neg (by simp [hw])]
                  obtain ⟨is', bs', lt, hT', h'⟩ := call_f hx hT hG h
                  exact ops_ok hC l _ k _ w _ hT' (by cases o.dst <;> exact hH.later rfl) h' fun st' v' a' w'' l' => hk st' v' a' w'' (lt.trans l')
              · cases h
            · rename_i kk rest hsl
              split at h
              · rename_i htt
                rcases gd_ok hg hT with ⟨hw, hG⟩ | ⟨_, hG⟩
                · rw [if_pos hw]
                  left
                  obtain ⟨is', bs', hc, hli, hlb, j, hj, e0, h'⟩ := slT_den hT.hi h
                  have hgi := (hC f s hs).slice hsl hc hH.bel
                  rw [← (fits_ok v s.a as hf).1, ← rdL_ok hT hG hr v (Later.refl v)] at hgi
                  obtain ⟨h1, h2⟩ := hgi
                  unfold Oper.wp
                  rw [run_call hcal, h1]
                  refine h2.mono ?_
                  rintro e w' ⟨hb, u, rfl, hu⟩
                  obtain ⟨v', lt, ei, eb, hH', hT'⟩ := slT_ok (w0 := w0) (d := o.dst) hT hH hb hli hlb hj e0 hu
                  rw [← ei, ← eb] at h'
                  exact ops_ok hC l _ k _ w' v' hT' (by cases o.dst <;> exact hH') h' fun st' v'' a' w'' l' => hk st' v'' a' w'' (lt.trans l')
                · exact absurd (hG v (Later.refl v)) (by simp [E.B])
              · cases h
          · cases h
        · cases h
      · split at h
        · rename_i x hx
          split at h
          case h_2 => cases h
          rcases gd_ok hg hT with ⟨hw, hG⟩ | ⟨hw, hG⟩
          · rw [if_pos hw]
            left
            have hrun := mvT_ok (P := P) hx hT w
            unfold Oper.wp
            rw [hrun v (Later.refl v)]
            refine ops_ok hC l _ k _ w v (hT.put o.dst (.tup x) _ fun v' lt => ?_) (by cases o.dst <;> exact hH) h hk
            have := (hrun v (Later.refl v)).symm.trans (hrun v' lt)
            simpa using this
          · exact absurd (hG v (Later.refl v)) (by simp [E.B])
        split at h
        · rename_i s rq hp
          obtain ⟨hq, h'⟩ := mkrq_den h
          rw [mkoo_B, mknt_B] at hq
          rcases gd_ok hg hT with ⟨hw, hG⟩ | ⟨hw, hG⟩
          · rw [if_pos hw]
            left
            have hrun := pv_ok hp hT hG hH (by simpa [hG v (Later.refl v)] using hq)
            have hst : ∀ v', Later v v' → s.den v' = s.den v := fun v' lt => by
              have := (hrun v' lt).symm.trans (hrun v (Later.refl v))
              simpa using this
            obtain ⟨s', st', v', i, b, hv', lt, hT', hh', h'', hs'⟩ := bnd_ok hT hst h'
            unfold Oper.wp
            rw [hrun v (Later.refl v)]
            refine ops_ok hC l _ k _ w v' (hT'.put o.dst (putG G s') _ fun v'' lt' => ?_) (by have := hH.later hv'; rw [← hh'] at this; cases o.dst <;> exact this) h'' fun st2 v2 a2 w2 l2 => hk st2 v2 a2 w2 (lt.trans l2)
            rw [putG_t (hG v'' (lt.trans lt')), hs' v'' lt']
          · rw [if_neg (by simp [hw])]
            obtain ⟨s', st', v', i, b, hv', lt, hT', hh', h''⟩ := bnd_f hT h'
            exact ops_ok hC l _ k _ w v' (hT'.put o.dst (putG G s') _ fun v'' lt' => (putG_f (hG v'' (lt.trans lt'))).symm) (by have := hH.later hv'; rw [← hh'] at this; cases o.dst <;> exact this) h'' fun st2 v2 a2 w2 l2 => hk st2 v2 a2 w2 (lt.trans l2)
        · split at h
          · rename_i st' x hmv _ _
            rcases gd_ok hg hT with ⟨hw, hG⟩ | ⟨hw, hG⟩
            · rw [if_pos hw]
              left
              obtain ⟨v', w', u, lt, ei, eb, hrun, hH', hT'⟩ := mv_ok hmv hT hH
              have h'' : (sxOps P sig tt all l (st'.put o.dst x) k).den C v'.i v'.b = some r := by rw [ei, eb]; exact h
              have hH'' : HR v' (st'.put o.dst x).hp w0 w' := by cases o.dst <;> exact hH'
              unfold Oper.wp
              rcases hrun with hrun | ⟨hrun, rfl⟩
              · rw [hrun]
                exact ops_ok hC l _ k _ w' v' hT' hH'' h'' fun st' v' a' w'' l' => hk st' v' a' w'' (lt.trans l')
              · rw [hrun]
                exact ops_ok hC l _ k _ w' v' hT' hH'' h'' fun st' v' a' w'' l' => hk st' v' a' w'' (lt.trans l')
            · exact absurd (hG v (Later.refl v)) (by simp [E.B])
          · cases h
end

/-- An operation yields v, in every world of C; no memory that was there is written. -/
def Yl (P : Program) (all : Array Oper) (C : World → Prop) (o : Oper) (v : Value) (a : Act) : Prop :=
  (Region.wanted o (yielded all a.tmps) = true ∧ ∀ w, C w → (execOp a.eval o).run P w = .ok (.value v) w ∨
    ∃ f args, (execOp a.eval o).run P w = .ok (.enter f args) w ∧ Calls P f args w (fun e w' => e = .returned v ∧ Below w.heap.size w w')) ∨
  (Region.wanted o (yielded all a.tmps) = false ∧ v = undef)
def LexQ (P : Program) (all : Array Oper) (C : World → Prop) : List (Nat × Oper) → Act → (Act → Prop) → Prop
  | [], a, K => K a
  | (_, o) :: l, a, K => ∃ v, Yl P all C o v a ∧ LexQ P all C l (a.put o.dst v) K
section
variable {P : Program} {sig : Nat → Option Sig} {C : Nat → Fn} {w0 : World}
theorem opsL_ok (hC : ∀ f s, sig f = some s → Good P (fun w => Below w0.heap.size w0 w) f s (C f)) {all : Array Oper} {r} {v0 : Env} {hp : List (List Sc)} {K : Act → Prop} : ∀ (l : List (Nat × Oper)) (st : St) (k : St → T) (a : Act) (v : Env) (i : List Int) (b : List Bool),
    v = ⟨v0.p, v0.i ++ i, v0.b ++ b⟩ → st.hp = hp → (∀ o ∈ l, quietB o.2.op = true) → (∃ w, HR v0 hp w0 w) → TR v st a → (sxOps P sig false all (l.map Prod.snd) st k).den C v.i v.b = some r →
    (∀ st' v' a' i' b', v' = ⟨v0.p, v0.i ++ i', v0.b ++ b'⟩ → Later v v' → TR v' st' a' → st'.hp = hp → (k st').den C v'.i v'.b = some r → K a') →
    LexQ P all (HR v0 hp w0) l a K
  | [], st, k, a, v, i, b, hv, hh, _, _, hT, h, hk => hk st v a i b hv (Later.refl v) hT hh h
  | (_, o) :: l, st, k, a, v, i, b, hv, hh, hq0, hw1, hT, h, hk => by
    obtain ⟨w1, hH1⟩ := hw1
    have hq1 : ∀ o ∈ l, quietB o.2.op = true := fun o' ho => hq0 o' (List.mem_cons_of_mem _ ho)
    simp only [List.map_cons, sxOps, putF_eq, fE_eq, fS1s_eq, fS1_eq, hpF_eq] at h
    unfold LexQ
    split at h
    · cases h
    · rename_i hg
      rcases gd_ok hg hT with ⟨_, hG⟩ | ⟨hw, _⟩
      · exact absurd (hG v (Later.refl v)) (by simp [E.B])
      · exact ⟨undef, .inr ⟨hw, rfl⟩, opsL_ok hC l _ k _ v i b hv (by cases o.dst <;> exact hh) hq1 ⟨w1, hH1⟩ (hT.put o.dst .u undef fun _ _ => rfl) h hk⟩
    · rename_i G _ hg
      split at h
      · rename_i f xs hcal
        split at h
        · rename_i as s hr hs
          split at h
          · rename_i hf
            split at h
            · rename_i hsl
              split at h
              · rename_i x hx
                rcases gd_ok hg hT with ⟨hw, hG⟩ | ⟨hw, hG⟩
                · obtain ⟨is', bs', hgi, lt, hT', h'⟩ := call_t hC hr hs hsl hf hx hT hG h
                  refine ⟨mkR s.r is' bs', .inl ⟨hw, fun w hH => ?_⟩, ?_⟩
                  · rw [run_call hcal]
                    rcases hgi w hH.bel with ⟨h1, h2⟩ | h1
                    · exact .inr ⟨_, _, h1, h2⟩
                    · exact .inl h1
                  · exact opsL_ok hC l _ k _ _ (i ++ is') (b ++ bs') (by subst hv; simp) (by cases o.dst <;> exact hh) hq1 ⟨w1, hH1⟩ hT' h' fun st' v' a' i' b' e l' => hk st' v' a' i' b' e (lt.trans l')
                · obtain ⟨is', bs', lt, hT', h'⟩ := call_f hx hT hG h
                  exact ⟨undef, .inr ⟨hw, rfl⟩, opsL_ok hC l _ k _ _ (i ++ is') (b ++ bs') (by subst hv; simp) (by cases o.dst <;> exact hh) hq1 ⟨w1, hH1⟩ hT' h' fun st' v' a' i' b' e l' => hk st' v' a' i' b' e (lt.trans l')⟩
              · cases h
            · cases h
          · cases h
        · cases h
      · split at h
        · rename_i x hx
          split at h
          case h_2 => cases h
          rcases gd_ok hg hT with ⟨hw, hG⟩ | ⟨hw, hG⟩
          · have hrun := fun w => mvT_ok (P := P) hx hT w
            refine ⟨(SV.tup x).den v, .inl ⟨hw, fun w hH => .inl (hrun w v (Later.refl v))⟩, ?_⟩
            refine opsL_ok hC l _ k _ v i b hv (by cases o.dst <;> exact hh) hq1 ⟨w1, hH1⟩ (hT.put o.dst (.tup x) _ fun v' lt => ?_) h hk
            have := (hrun w1 v (Later.refl v)).symm.trans (hrun w1 v' lt)
            simpa using this
          · exact absurd (hG v (Later.refl v)) (by simp [E.B])
        split at h
        · rename_i s rq hp'
          obtain ⟨hq, h'⟩ := mkrq_den h
          rw [mkoo_B, mknt_B] at hq
          rcases gd_ok hg hT with ⟨hw, hG⟩ | ⟨hw, hG⟩
          · have hrun : ∀ w, HR v0 hp w0 w → ∀ v', Later v v' → (execOp a.eval o).run P w = .ok (.value (s.den v')) w := fun w hH =>
              pv_ok hp' hT hG (w0 := w0) (by rw [hh]; exact hH.later hv) (by simpa [hG v (Later.refl v)] using hq)
            have hst : ∀ v', Later v v' → s.den v' = s.den v := fun v' lt => by
              have := (hrun w1 hH1 v' lt).symm.trans (hrun w1 hH1 v (Later.refl v))
              simpa using this
            obtain ⟨s', st', v', i', b', hv', lt, hT', hh', h'', hs'⟩ := bnd_ok hT hst h'
            refine ⟨s.den v, .inl ⟨hw, fun w hH => .inl (hrun w hH v (Later.refl v))⟩, ?_⟩
            refine opsL_ok hC l _ k _ v' (i ++ i') (b ++ b') (by rw [hv', hv]; simp) (by cases o.dst <;> exact hh'.trans hh) hq1 ⟨w1, hH1⟩ (hT'.put o.dst (putG G s') _ fun v'' lt' => ?_) h'' fun st2 v2 a2 i2 b2 e2 l2 => hk st2 v2 a2 i2 b2 e2 (lt.trans l2)
            rw [putG_t (hG v'' (lt.trans lt')), hs' v'' lt']
          · obtain ⟨s', st', v', i', b', hv', lt, hT', hh', h''⟩ := bnd_f hT h'
            exact ⟨undef, .inr ⟨hw, rfl⟩, opsL_ok hC l _ k _ v' (i ++ i') (b ++ b') (by rw [hv', hv]; simp) (by cases o.dst <;> exact hh'.trans hh) hq1 ⟨w1, hH1⟩ (hT'.put o.dst (putG G s') _ fun v'' lt' => (putG_f (hG v'' (lt.trans lt'))).symm) h'' fun st2 v2 a2 i2 b2 e2 l2 => hk st2 v2 a2 i2 b2 e2 (lt.trans l2)⟩
        · split at h
          · rename_i st' x hmv _ _
            have h1 := mv_quiet hmv
            have h2 := hq0 (_, o) List.mem_cons_self
            rw [h1] at h2; cases h2
          · cases h
end
/-- What the slots hold when the operations of l before the place k have been carried out. -/
structure Slots (l : List (Nat × Oper)) (k : Nat) (V : Nat → Value) (a0 a : Act) : Prop where
  df : a.defers = a0.defers
  sz : a.tmps.size = a0.tmps.size
  el : ∀ t, (∀ j o, (j, o) ∈ l → j < k → o.dst ≠ some t) → a.tmps[t]? = a0.tmps[t]?
  at_ : ∀ j o, (j, o) ∈ l → j < k → ∀ t, o.dst = some t → t < a0.tmps.size → a.tmps[t]? = some (V j)
theorem put_get (a : Act) (d : Option Tmp) (v : Value) (t : Nat) (h : d ≠ some t) : (a.put d v).tmps[t]? = a.tmps[t]? := by
  cases d with
  | none => rfl
  | some d => simp only [Act.put]; rw [Array.getElem?_setIfInBounds_ne (fun e => h (by rw [e]))]
theorem put_size (a : Act) (d : Option Tmp) (v : Value) : (a.put d v).tmps.size = a.tmps.size := by cases d <;> simp [Act.put]
theorem put_at (a : Act) (t : Nat) (v : Value) (h : t < a.tmps.size) : (a.put (some t) v).tmps[t]? = some v := by
  simp [Act.put, h]
theorem put_df (a : Act) (d : Option Tmp) (v : Value) : (a.put d v).defers = a.defers := by cases d <;> rfl
/-- The places grow; each slot is written once. -/
def Rising : List (Nat × Oper) → Prop
  | [] => True
  | (i, o) :: l => (∀ j oj, (j, oj) ∈ l → i < j ∧ ∀ t, o.dst = some t → oj.dst ≠ some t) ∧ Rising l
theorem lex_facts {P : Program} {all : Array Oper} {C : World → Prop} {K : Act → Prop} {m : Nat} : ∀ (l : List (Nat × Oper)) (a0 : Act), Rising l → (∀ j o, (j, o) ∈ l → j < m) → LexQ P all C l a0 K →
    ∃ V : Nat → Value, (∀ k o, (k, o) ∈ l → ∃ A, Yl P all C o (V k) A ∧ Slots l k V a0 A) ∧ ∃ A, K A ∧ Slots l m V a0 A
  | [], a0, _, _, h => ⟨fun _ => undef, fun _ _ hm => (by cases hm), a0, h, ⟨rfl, rfl, fun _ _ => rfl, fun _ _ hm => (by cases hm)⟩⟩
  | (i, o) :: l, a0, hr, hlm, h => by
    obtain ⟨v, hy, h⟩ := h
    obtain ⟨V1, hf, A, hK, hS⟩ := lex_facts l (a0.put o.dst v) hr.2 (fun j oj hm => hlm j oj (List.mem_cons_of_mem _ hm)) h
    have conv : ∀ k A, k > i → Slots l k V1 (a0.put o.dst v) A → Slots ((i, o) :: l) k (fun n => if n = i then v else V1 n) a0 A := fun k A hk hS => by
      refine ⟨hS.df.trans (put_df _ _ _), hS.sz.trans (put_size _ _ _), fun t ht => ?_, fun j oj hm hj t hd hts => ?_⟩
      · rw [hS.el t fun j oj hm hj => ht j oj (List.mem_cons_of_mem _ hm) hj]
        exact put_get _ _ _ _ (ht i o List.mem_cons_self hk)
      · show _ = some (if j = i then v else V1 j)
        rcases List.mem_cons.1 hm with e | hm
        · simp only [Prod.mk.injEq] at e
          obtain ⟨rfl, rfl⟩ := e
          have h1 : A.tmps[t]? = (a0.put oj.dst v).tmps[t]? := hS.el t fun j' oj' hm' _ => (hr.1 j' oj' hm').2 t hd
          rw [h1, hd, put_at _ _ _ hts, if_pos rfl]
        · have h2 := (hr.1 j oj hm).1
          rw [hS.at_ j oj hm hj t hd (by rw [put_size]; exact hts)]
          rw [if_neg (by omega)]
    refine ⟨fun n => if n = i then v else V1 n, fun k ok hm => ?_, A, hK, conv m A (hlm i o List.mem_cons_self) hS⟩
    show ∃ A, Yl P all C ok (if k = i then v else V1 k) A ∧ _
    rcases List.mem_cons.1 hm with e | hm
    · simp only [Prod.mk.injEq] at e
      obtain ⟨rfl, rfl⟩ := e
      refine ⟨a0, by rw [if_pos rfl]; exact hy, rfl, rfl, fun _ _ => rfl, fun j oj hm hj => ?_⟩
      rcases List.mem_cons.1 hm with e | hm
      · simp only [Prod.mk.injEq] at e; omega
      · have := (hr.1 j oj hm).1; omega
    · have h2 := (hr.1 k ok hm).1
      obtain ⟨A', hy', hS'⟩ := hf k ok hm
      exact ⟨A', by rw [if_neg (by omega)]; exact hy', conv k A' h2 hS'⟩

def edgeB (all : Array Oper) (i j : Nat) : Bool :=
  match all[i]? with
  | some o => o.after.toList.any fun e => Region.binds .any e && Nat.beq e.on j
  | none => false
def isAl (o : Oper) : Bool :=
  match o.op, o.guard, o.dst with
  | .alloc _, none, some _ => true
  | _, _, _ => false
/-- A store to the address in a slot: type, slot, what. -/
def stOf (o : Oper) : Option (TypeId × Tmp × Operand) :=
  match o.op, o.guard, o.dst with
  | .store t (.tmp d) y, none, none => some (t, d, y)
  | _, _, _ => none
def allB (all : Array Oper) (m : Nat) (p : Nat → Oper → Bool) : Bool :=
  (List.range m).all fun i => match all[i]? with
    | some o => p i o
    | none => false
theorem allB_ok {all m p} (h : allB all m p = true) {i o} (hi : i < m) (ho : all[i]? = some o) : p i o = true := by
  unfold allB at h
  rw [List.all_eq_true] at h
  have := h i (List.mem_range.2 hi)
  rw [ho] at this
  exact this
def pairB (all : Array Oper) (i : Nat) (oi : Oper) (j : Nat) (oj : Oper) : Bool :=
  (match oj.dst with
   | none => true
   | some d => !(decide (oi.dst = some d)) && (!(oi.looksAt all).contains d || (if j < i then edgeB all i j else edgeB all j i)) && (!(quietB oi.op && isAl oj) || !(oi.looksAt all).contains d)) &&
  (match stOf oi, stOf oj with
   | some (_, d, _), some (_, d', _) => !Nat.beq d d'
   | _, _ => true) &&
  (match stOf oi with
   | some (_, d, y) => (!(isAl oj && decide (oj.dst = some d)) || decide (j < i)) && (match y with
      | .tmp d' => !(decide (oj.dst = some d')) || decide (j < i)
      | _ => true)
   | none => true)
def kindB (all : Array Oper) (m : Nat) (o : Oper) : Bool :=
  quietB o.op || isAl o ||
  (match stOf o with
   | some (_, d, y) => !(allB all m fun _ oj => !(isAl oj && decide (oj.dst = some d))) &&
      (match y with
       | .tmp d' => allB all m fun _ oj => !(isAl oj && decide (oj.dst = some d'))
       | _ => true)
   | none => false)
/-- The operations before the place m may come in any order. -/
def preB (all : Array Oper) (m : Nat) : Bool :=
  decide (m ≤ all.size) && Region.noSelect all && allB all all.size (fun i o => o.after.toList.all fun e => !Region.binds .any e || decide (e.on < i)) &&
  allB all m (fun i o => kindB all m o && allB all m (fun j oj => Nat.beq i j || pairB all i o j oj))
/-- Each operation from the place m on waits for all before it. -/
def sufB (all : Array Oper) (m : Nat) : Bool :=
  (List.range (all.size - m)).all fun i => (List.range (m + i)).all fun j => edgeB all (m + i) j
def preQ (all : Array Oper) (m : Nat) : List (Nat × Oper) :=
  (List.range m).filterMap fun i => match all[i]? with
    | some o => if quietB o.op then some (i, o) else none
    | none => none
def preA (all : Array Oper) (m : Nat) : List (Nat × Oper) :=
  (List.range m).filterMap fun i => match all[i]? with
    | some o => if isAl o then some (i, o) else none
    | none => none
def findSt (all : Array Oper) (m : Nat) (d : Tmp) : Option (Nat × TypeId × Operand) :=
  (List.range m).findSome? fun i => match all[i]? with
    | some o => match stOf o with
      | some (t, d', y) => if Nat.beq d d' then some (i, t, y) else none
      | none => none
    | none => none
def privS (P : Program) (all : Array Oper) (m : Nat) : List (Nat × Oper) → St → Option St
  | [], st => some st
  | (_, o) :: l, st => match o.op, o.dst with
    | .alloc t, some d => match findSt all m d with
      | some (_, t', y) => match zeroS P t, rd st (.t true) y, P.info? t' with
        | some z, some s, some inf =>
          if z.cells.length = s.cells.length ∧ s.cells.length = inf.size ∧ d < st.n then
            privS P all m l (St.put { st with hp := st.hp ++ [s.cells] } (some d) (.o (.s (.p st.hp.length 0)))) else none
        | _, _, _ => none
      | none => none
    | _, _ => none
theorem mem_preQ {all m i o} : (i, o) ∈ preQ all m ↔ i < m ∧ all[i]? = some o ∧ quietB o.op = true := by
  unfold preQ
  simp only [List.mem_filterMap, List.mem_range]
  constructor
  · rintro ⟨j, hj, h⟩
    split at h
    · rename_i o' ho
      split at h
      · rename_i hq
        simp only [Option.some.injEq, Prod.mk.injEq] at h
        obtain ⟨rfl, rfl⟩ := h
        exact ⟨hj, ho, hq⟩
      · cases h
    · cases h
  · rintro ⟨hi, ho, hq⟩
    exact ⟨i, hi, by simp [ho, hq]⟩
theorem mem_preA {all m i o} : (i, o) ∈ preA all m ↔ i < m ∧ all[i]? = some o ∧ isAl o = true := by
  unfold preA
  simp only [List.mem_filterMap, List.mem_range]
  constructor
  · rintro ⟨j, hj, h⟩
    split at h
    · rename_i o' ho
      split at h
      · rename_i hq
        simp only [Option.some.injEq, Prod.mk.injEq] at h
        obtain ⟨rfl, rfl⟩ := h
        exact ⟨hj, ho, hq⟩
      · cases h
    · cases h
  · rintro ⟨hi, ho, hq⟩
    exact ⟨i, hi, by simp [ho, hq]⟩
theorem findSt_ok {all m d i t y} (h : findSt all m d = some (i, t, y)) : i < m ∧ ∃ o, all[i]? = some o ∧ stOf o = some (t, d, y) := by
  unfold findSt at h
  obtain ⟨j, hj, h⟩ := List.exists_of_findSome?_eq_some h
  split at h
  · rename_i o ho
    split at h
    · rename_i t' d' y' hs
      split at h
      · rename_i hd
        simp only [Option.some.injEq, Prod.mk.injEq] at h
        obtain ⟨rfl, rfl, rfl⟩ := h
        have := Nat.eq_of_beq_eq_true hd
        subst this
        exact ⟨List.mem_range.1 hj, o, ho, hs⟩
      · cases h
    · cases h
  · cases h
theorem stOf_ok {o t d y} (h : stOf o = some (t, d, y)) : o.op = .store t (.tmp d) y ∧ o.guard = none ∧ o.dst = none := by
  unfold stOf at h
  split at h
  · rename_i h1 h2 h3
    simp only [Option.some.injEq, Prod.mk.injEq] at h
    obtain ⟨rfl, rfl, rfl⟩ := h
    exact ⟨h1, h2, h3⟩
  · cases h
theorem isAl_ok {o} (h : isAl o = true) : ∃ t d, o.op = .alloc t ∧ o.guard = none ∧ o.dst = some d := by
  unfold isAl at h
  split at h
  · rename_i t d h1 h2 h3; exact ⟨t, d, h1, h2, h3⟩
  · cases h
theorem edgeB_ok {all i j} (h : edgeB all i j = true) : ∃ o, all[i]? = some o ∧ ∃ e ∈ o.after, Region.binds .any e = true ∧ e.on = j := by
  unfold edgeB at h
  split at h
  · rename_i o ho
    rw [List.any_eq_true] at h
    obtain ⟨e, he, hb⟩ := h
    simp only [Bool.and_eq_true] at hb
    exact ⟨o, ho, e, by simpa using he, hb.1, Nat.eq_of_beq_eq_true hb.2⟩
  · cases h
structure PreOk (all : Array Oper) (m : Nat) : Prop where
  le : m ≤ all.size
  sel : ∀ (i : Nat) (o : Oper) cs b, all[i]? = some o → o.op ≠ .select cs b
  ed : ∀ (i : Nat) (o : Oper), all[i]? = some o → ∀ e ∈ o.after, Region.binds .any e = true → e.on < i
  kind : ∀ (i : Nat) (o : Oper), i < m → all[i]? = some o → quietB o.op = true ∨ isAl o = true ∨ ∃ t d y, stOf o = some (t, d, y) ∧ (∃ (j : Nat) (oj : Oper), j < m ∧ all[j]? = some oj ∧ isAl oj = true ∧ oj.dst = some d) ∧
    (∀ d', y = .tmp d' → ∀ (j : Nat) (oj : Oper), j < m → all[j]? = some oj → isAl oj = true → oj.dst ≠ some d')
  dst : ∀ (i j : Nat) (oi oj : Oper), i < m → j < m → i ≠ j → all[i]? = some oi → all[j]? = some oj → ∀ d, oj.dst = some d → oi.dst ≠ some d
  see : ∀ (i j : Nat) (oi oj : Oper), i < m → j < m → i ≠ j → all[i]? = some oi → all[j]? = some oj → ∀ d, oj.dst = some d → d ∈ oi.looksAt all → (j < i → edgeB all i j = true) ∧ (i < j → edgeB all j i = true)
  qal : ∀ (i j : Nat) (oi oj : Oper), i < m → j < m → i ≠ j → all[i]? = some oi → all[j]? = some oj → quietB oi.op = true → isAl oj = true → ∀ d, oj.dst = some d → d ∉ oi.looksAt all
  one : ∀ (i j : Nat) (oi oj : Oper), i < m → j < m → i ≠ j → all[i]? = some oi → all[j]? = some oj → ∀ t d y t' d' y', stOf oi = some (t, d, y) → stOf oj = some (t', d', y') → d ≠ d'
  lt_al : ∀ (j : Nat) (o : Oper), j < m → all[j]? = some o → isAl o = true → ∀ (i : Nat) (oi : Oper), i < m → all[i]? = some oi → ∀ t d y, stOf oi = some (t, d, y) → o.dst = some d → j < i
  st_lt : ∀ (i : Nat) (oi : Oper), i < m → all[i]? = some oi → ∀ t d y, stOf oi = some (t, d, y) → ∀ d', y = .tmp d' → ∀ (j : Nat) (o : Oper), j < m → all[j]? = some o → o.dst = some d' → j < i
theorem preB_ok {all m} (h : preB all m = true) : PreOk all m := by
  unfold preB at h
  simp only [Bool.and_eq_true, decide_eq_true_eq] at h
  obtain ⟨⟨⟨h1, h2⟩, h3⟩, h4⟩ := h
  have pr : ∀ (i j : Nat) (oi oj : Oper), i < m → j < m → i ≠ j → all[i]? = some oi → all[j]? = some oj → pairB all i oi j oj = true := fun i j oi oj hi hj hne ho hoj => by
    have := allB_ok h4 hi ho
    simp only [Bool.and_eq_true] at this
    have := allB_ok this.2 hj hoj
    simp only [Bool.or_eq_true] at this
    exact this.resolve_left fun e => hne (Nat.eq_of_beq_eq_true e)
  refine ⟨h1, fun i o cs b ho => Region.noSelect_spec h2 i o cs b ho, fun i o ho e he hb => ?_, fun i o hi ho => ?_, fun i j oi oj hi hj hne ho hoj d hd => ?_, fun i j oi oj hi hj hne ho hoj d hd hl => ?_,
    fun i j oi oj hi hj hne ho hoj hq ha d hd => ?_, fun i j oi oj hi hj hne ho hoj t d y t' d' y' hs hs' => ?_,
    fun j oj hj hoj ha i oi hi ho t d y hs hd => ?_, fun i oi hi ho t d y hs d' hy j oj hj hoj hd => ?_⟩
  · have hlt : i < all.size := (Array.getElem?_eq_some_iff.1 ho).1
    have := allB_ok h3 hlt ho
    rw [List.all_eq_true] at this
    have := this e (by simpa using he)
    simpa [hb] using this
  · have := allB_ok h4 hi ho
    simp only [Bool.and_eq_true] at this
    have hk := this.1
    unfold kindB at hk
    simp only [Bool.or_eq_true] at hk
    rcases hk with (hk | hk) | hk
    · exact .inl hk
    · exact .inr (.inl hk)
    · refine .inr (.inr ?_)
      split at hk
      · rename_i t d y hs
        simp only [Bool.and_eq_true, Bool.not_eq_true'] at hk
        refine ⟨t, d, y, hs, ?_, fun d' hy j oj hj hoj ha hd => ?_⟩
        · have hk1 := hk.1
          unfold allB at hk1
          rw [List.all_eq_false] at hk1
          obtain ⟨j, hj, hk1⟩ := hk1
          have hjm := List.mem_range.1 hj
          have hlt : j < all.size := by omega
          rw [Array.getElem?_eq_getElem hlt] at hk1
          simp only [Bool.not_eq_true', Bool.and_eq_true, decide_eq_true_eq, Bool.not_eq_false] at hk1
          exact ⟨j, all[j], hjm, Array.getElem?_eq_getElem hlt, hk1.1, hk1.2⟩
        · subst hy
          have := allB_ok hk.2 hj hoj
          simp [ha, hd] at this
      · cases hk
  · have := pr i j oi oj hi hj hne ho hoj
    unfold pairB at this
    rw [hd] at this
    simp only [Bool.and_eq_true, Bool.not_eq_true', decide_eq_false_iff_not] at this
    exact this.1.1.1.1
  · have := pr i j oi oj hi hj hne ho hoj
    unfold pairB at this
    rw [hd] at this
    simp only [Bool.and_eq_true, Bool.not_eq_true', Bool.or_eq_true] at this
    have h5 := this.1.1.1.2.resolve_left (by simp [hl])
    constructor
    · intro hlt; rw [if_pos hlt] at h5; exact h5
    · intro hlt; rw [if_neg (by omega)] at h5; exact h5
  · have := pr i j oi oj hi hj hne ho hoj
    unfold pairB at this
    rw [hd] at this
    simp only [Bool.and_eq_true, Bool.not_eq_true', Bool.or_eq_true, hq, ha] at this
    simpa using this.1.1.2
  · have := pr i j oi oj hi hj hne ho hoj
    unfold pairB at this
    rw [hs, hs'] at this
    simp only [Bool.and_eq_true, Bool.not_eq_true'] at this
    exact fun e => by rw [e] at this; simp [Nat.beq_refl] at this
  · have hne : i ≠ j := fun e => by
      subst e
      rw [ho] at hoj; cases hoj
      obtain ⟨t1, d1, h1, _⟩ := isAl_ok ha
      have := (stOf_ok hs).1
      rw [h1] at this; cases this
    have := pr i j oi oj hi hj hne ho hoj
    unfold pairB at this
    simp only [Bool.and_eq_true] at this
    have := this.2
    rw [hs] at this
    simp only [Bool.and_eq_true] at this
    simpa [ha, hd] using this.1
  · have hne : i ≠ j := fun e => by
      subst e
      rw [ho] at hoj; cases hoj
      have := (stOf_ok hs).2.2
      rw [this] at hd; cases hd
    have := pr i j oi oj hi hj hne ho hoj
    unfold pairB at this
    simp only [Bool.and_eq_true] at this
    have := this.2
    rw [hs, hy] at this
    simp only [Bool.and_eq_true] at this
    simpa [hd] using this.2
theorem rising_preQ {all m} (hp : PreOk all m) : Rising (preQ all m) := by
  have key : ∀ (l : List Nat), l.Pairwise (· < ·) → (∀ i ∈ l, i < m) → Rising (l.filterMap fun i => match all[i]? with
      | some o => if quietB o.op then some (i, o) else none
      | none => none) := by
    intro l
    induction l with
    | nil => intro _ _; trivial
    | cons i l ih =>
      intro hp1 hm
      rw [List.pairwise_cons] at hp1
      have ih' := ih hp1.2 (fun j hj => hm j (List.mem_cons_of_mem _ hj))
      rw [List.filterMap_cons]
      split
      · exact ih'
      · rename_i x hx
        split at hx
        · rename_i o ho
          split at hx
          · simp only [Option.some.injEq] at hx
            subst hx
            refine ⟨fun j oj hj => ?_, ih'⟩
            rw [List.mem_filterMap] at hj
            obtain ⟨j', hj', hx⟩ := hj
            split at hx
            · rename_i o' ho'
              split at hx
              · simp only [Option.some.injEq, Prod.mk.injEq] at hx
                obtain ⟨rfl, rfl⟩ := hx
                have hlt := hp1.1 j' hj'
                refine ⟨hlt, fun t ht => ?_⟩
                exact hp.dst j' i o' o (hm j' (List.mem_cons_of_mem _ hj')) (hm i List.mem_cons_self) (by omega) ho' ho t ht
              · cases hx
            · cases hx
          · cases hx
        · cases hx
  exact key (List.range m) (List.pairwise_lt_range) (fun i hi => List.mem_range.1 hi)

/-- What is known of an operation that makes a block: what is stored there. -/
def AF (P : Program) (all : Array Oper) (m : Nat) (AQ : Act) (o : Oper) : Prop :=
  ∃ t d si t' y inf, o.op = .alloc t ∧ o.dst = some d ∧ findSt all m d = some (si, t', y) ∧ (∃ z : Value, (∀ w, (zeroValue t).run P w = .ok z w) ∧ z.cells.size = (AQ.eval y).cells.size) ∧
    P.info? t' = some inf ∧ inf.size = (AQ.eval y).cells.size ∧ d < AQ.tmps.size ∧ ∀ c ∈ (AQ.eval y).cells.toList, c.oneCell' = true
def ptrV (b : Nat) : Value := .pointer (some ⟨b, 0, none⟩)
structure Ctx (P : Program) (all : Array Oper) (m : Nat) (v : Env) (hp : List (List Sc)) (w0 : World) (a0 AQ : Act) (V : Nat → Value) : Prop where
  ok : PreOk all m
  suf : ∀ i j, m ≤ i → i < all.size → j < i → edgeB all i j = true
  q : ∀ k o, (k, o) ∈ preQ all m → ∃ A, Yl P all (HR v hp w0) o (V k) A ∧ Slots (preQ all m) k V a0 A
  e : Slots (preQ all m) m V a0 AQ
  a : ∀ j o, (j, o) ∈ preA all m → AF P all m AQ o
structure Inv (P : Program) (all : Array Oper) (m : Nat) (v : Env) (hp : List (List Sc)) (w0 : World) (B1 : Nat) (a0 AQ : Act) (V : Nat → Value) (listed : Array Bool) (a : Act) (w : World) (blk : Nat → Nat) : Prop where
  df : a.defers = a0.defers
  sz : a.tmps.size = a0.tmps.size
  ls : listed.size = all.size
  el : ∀ t, (∀ (j : Nat) (o : Oper), j < m → all[j]? = some o → listed.getD j false = true → o.dst ≠ some t) → a.tmps[t]? = a0.tmps[t]?
  at_ : ∀ (j : Nat) (o : Oper), j < m → all[j]? = some o → listed.getD j false = true → ∀ t, o.dst = some t → t < a0.tmps.size → a.tmps[t]? = some (if isAl o = true then ptrV (blk j) else V j)
  hr : HR v hp w0 w
  b1 : ∀ (j : Nat) (o : Oper), (j, o) ∈ preA all m → listed.getD j false = true → B1 ≤ blk j ∧ blk j < w.heap.size
  bd : ∀ (i j : Nat) (oi oj : Oper), (i, oi) ∈ preA all m → (j, oj) ∈ preA all m → listed.getD i false = true → listed.getD j false = true → i ≠ j → blk i ≠ blk j
  bc : ∀ (j : Nat) (o : Oper), (j, o) ∈ preA all m → listed.getD j false = true → ∀ d si t' y, o.dst = some d → findSt all m d = some (si, t', y) →
    ∃ el C, w.heap[blk j]? = some (.cells C el (0, 0)) ∧ C.size = (AQ.eval y).cells.size ∧ (listed.getD si false = true → C = (AQ.eval y).cells)
  cl : ∀ (j : Nat) (o : Oper), all[j]? = some o → listed.getD j false = true → ∀ e ∈ o.after, Region.binds .any e = true → listed.getD e.on false = true
  hb : B1 ≤ w.heap.size
section
variable {P : Program} {all : Array Oper} {m : Nat} {v : Env} {hp : List (List Sc)} {w0 : World} {B1 : Nat} {a0 AQ : Act} {V : Nat → Value} {listed : Array Bool} {a : Act} {w : World} {blk : Nat → Nat}
theorem getD_set {listed : Array Bool} {k j : Nat} (hk : k < listed.size) : (listed.setIfInBounds k true).getD j false = if j = k then true else listed.getD j false := by
  by_cases e : k = j
  · subst e; simp [hk]
  · rw [getD_set_ne false e, if_neg (fun h => e h.symm)]
theorem not_listed {listed : Array Bool} {k : Nat} (hk : k < listed.size) (h : listed.getD k true = false) : listed.getD k false = false := by
  simp [hk] at h ⊢; exact h
theorem closed_edge (hI : Inv P all m v hp w0 B1 a0 AQ V listed a w blk) {i j : Nat} (h : edgeB all i j = true) (hl : listed.getD i false = true) : listed.getD j false = true := by
  obtain ⟨o, ho, e, he, hb, rfl⟩ := edgeB_ok h
  exact hI.cl i o ho hl e he hb
theorem ready_edge {i j : Nat} (hr : i ∈ Region.ready .any all listed) (h : edgeB all i j = true) : listed.getD j false = true := by
  obtain ⟨o, ho, e, he, hb, rfl⟩ := edgeB_ok h
  obtain ⟨_, o', ho', hall⟩ := mem_ready.1 hr
  rw [ho] at ho'
  cases ho'
  exact hall e he hb
/-- A ready operation that is quiet yields what it yields in the text's order. -/
theorem yl_now (hX : Ctx P all m v hp w0 a0 AQ V) (hI : Inv P all m v hp w0 B1 a0 AQ V listed a w blk) {k : Nat} {o : Oper} (hk : k < m) (ho : all[k]? = some o) (hq : quietB o.op = true)
    (hr : k ∈ Region.ready .any all listed) : Yl P all (HR v hp w0) o (V k) a := by
  obtain ⟨A, hY, hS⟩ := hX.q k o (mem_preQ.2 ⟨hk, ho, hq⟩)
  have hks : k < listed.size := by rw [hI.ls]; exact Nat.lt_of_lt_of_le hk hX.ok.le
  have hun := not_listed hks (mem_ready.1 hr).1
  have hnal : isAl o = false := by
    cases h : isAl o
    · rfl
    · obtain ⟨t, d, h1, _⟩ := isAl_ok h
      rw [h1] at hq; cases hq
  have agree : ∀ d ∈ o.looksAt all, a.tmps[d]? = A.tmps[d]? := by
    intro d hd
    by_cases hex : ∃ j oj, j < m ∧ all[j]? = some oj ∧ oj.dst = some d
    · obtain ⟨j, oj, hj, hoj, hdj⟩ := hex
      have uniq : ∀ (i : Nat) (oi : Oper), i < m → all[i]? = some oi → oi.dst = some d → i = j := fun i oi hi hoi hdi => by
        rcases Nat.decEq i j with hne | he
        · exact absurd hdi (hX.ok.dst i j oi oj hi hj hne hoi hoj d hdj)
        · exact he
      have none1 : listed.getD j false = false → a.tmps[d]? = a0.tmps[d]? := fun hl => hI.el d fun i oi hi hoi hli hdi => by
        rw [uniq i oi hi hoi hdi, hl] at hli; cases hli
      have none2 : ¬ j < k → A.tmps[d]? = a0.tmps[d]? := fun hjk => hS.el d fun i oi hi hik hdi => by
        obtain ⟨hi1, hi2, _⟩ := mem_preQ.1 hi
        rw [uniq i oi hi1 hi2 hdi] at hik; exact hjk hik
      by_cases hjk : j = k
      · subst hjk
        rw [none1 hun, none2 (by omega)]
      · have hsee := hX.ok.see k j o oj hk hj (fun e => hjk e.symm) ho hoj d hdj hd
        rcases Nat.lt_or_gt_of_ne hjk with hlt | hgt
        · have hlj := ready_edge hr (hsee.1 hlt)
          have hnalj : isAl oj = false := by
            cases h : isAl oj
            · rfl
            · exact absurd hd (hX.ok.qal k j o oj hk hj (fun e => hjk e.symm) ho hoj hq h d hdj)
          have hqj : quietB oj.op = true := by
            rcases hX.ok.kind j oj hj hoj with h | h | ⟨t, d', y, h, _⟩
            · exact h
            · rw [hnalj] at h; cases h
            · have := (stOf_ok h).2.2; rw [hdj] at this; cases this
          by_cases hts : d < a0.tmps.size
          · rw [hI.at_ j oj hj hoj hlj d hdj hts, hS.at_ j oj (mem_preQ.2 ⟨hj, hoj, hqj⟩) hlt d hdj hts, hnalj]
            rfl
          · rw [Array.getElem?_eq_none (by rw [hI.sz]; exact Nat.le_of_not_lt hts), Array.getElem?_eq_none (by rw [hS.sz]; exact Nat.le_of_not_lt hts)]
        · have hlj : listed.getD j false = false := by
            cases h : listed.getD j false
            · rfl
            · have := closed_edge hI (hsee.2 hgt) h
              rw [hun] at this; cases this
          rw [none1 hlj, none2 (by omega)]
    · have h1 : a.tmps[d]? = a0.tmps[d]? := hI.el d fun i oi hi hoi _ hdi => hex ⟨i, oi, hi, hoi, hdi⟩
      have h2 : A.tmps[d]? = a0.tmps[d]? := hS.el d fun i oi hi _ hdi => by
        obtain ⟨hi1, hi2, _⟩ := mem_preQ.1 hi
        exact hex ⟨i, oi, hi1, hi2, hdi⟩
      rw [h1, h2]
  have hev : execOp a.eval o = execOp A.eval o := execOp_congr o (fun cs b => hX.ok.sel k o cs b ho) fun x hx => by
    cases x with
    | tmp t =>
      have : t ∈ o.looksAt all := List.mem_append_left _ (List.mem_filterMap.2 ⟨.tmp t, by simpa using hx, rfl⟩)
      show a.tmps.getD t undef = A.tmps.getD t undef
      simp only [Array.getD_eq_getD_getElem?, agree t this]
    | _ => rfl
  have hwa : Region.wanted o (yielded all a.tmps) = Region.wanted o (yielded all A.tmps) := by
    unfold Region.wanted
    cases hg : o.guard with
    | none => rfl
    | some gw =>
      obtain ⟨g, want⟩ := gw
      have : yielded all a.tmps g = yielded all A.tmps g := by
        unfold yielded
        cases ht : (all[g]?).bind (·.dst) with
        | none => rfl
        | some t =>
          simp only [Option.bind_some]
          rw [agree t (by simp [Oper.looksAt, hg, ht])]
      simp only [this]
  unfold Yl at hY ⊢
  rw [hev, hwa]
  exact hY
theorem inv_put (hX : Ctx P all m v hp w0 a0 AQ V) (hI : Inv P all m v hp w0 B1 a0 AQ V listed a w blk) {k : Nat} {o : Oper} (hk : k < m) (ho : all[k]? = some o) (hq : quietB o.op = true)
    (hr : k ∈ Region.ready .any all listed) {w' : World} (hb : Below w.heap.size w w') : Inv P all m v hp w0 B1 a0 AQ V (listed.setIfInBounds k true) (a.put o.dst (V k)) w' blk := by
  have hks : k < listed.size := by rw [hI.ls]; exact Nat.lt_of_lt_of_le hk hX.ok.le
  have hnal : isAl o = false := by
    cases h : isAl o
    · rfl
    · obtain ⟨t, d, h1, _⟩ := isAl_ok h
      rw [h1] at hq; cases hq
  have nk : ∀ j oj, (j, oj) ∈ preA all m → j ≠ k := fun j oj hj e => by
    obtain ⟨_, h2, h3⟩ := mem_preA.1 hj
    subst e
    rw [ho] at h2; cases h2
    rw [hnal] at h3; cases h3
  have ns : ∀ (d si : Nat) (t' : TypeId) (y : Operand), findSt all m d = some (si, t', y) → si ≠ k := fun d si t' y h e => by
    obtain ⟨_, os, h1, h2⟩ := findSt_ok h
    subst e
    rw [ho] at h1; cases h1
    rw [(stOf_ok h2).1] at hq; cases hq
  have ll : ∀ j, j ≠ k → (listed.setIfInBounds k true).getD j false = listed.getD j false := fun j hj => by rw [getD_set hks, if_neg hj]
  refine ⟨(put_df _ _ _).trans hI.df, (put_size _ _ _).trans hI.sz, by simp [hI.ls], fun t ht => ?_, fun j oj hj hoj hl t hd hts => ?_, hI.hr.below hb, fun j oj hm hl => ?_, fun i j oi oj hi hj hli hlj hne => ?_,
    fun j oj hm hl d si t' y hd hf => ?_, fun j oj hoj hl e he hbd => ?_, Nat.le_trans hI.hb hb.size⟩
  · rw [put_get _ _ _ _ (ht k o hk ho (by rw [getD_set hks, if_pos rfl]))]
    exact hI.el t fun j oj hj hoj hl => ht j oj hj hoj (by rw [getD_set hks]; split <;> simp_all)
  · by_cases hjk : j = k
    · subst hjk
      rw [ho] at hoj; cases hoj
      rw [hd, put_at _ _ _ (by rw [hI.sz]; exact hts), hnal]; rfl
    · rw [put_get _ _ _ _ (hX.ok.dst k j o oj hk hj (fun e => hjk e.symm) ho hoj t hd)]
      exact hI.at_ j oj hj hoj (by rwa [ll j hjk] at hl) t hd hts
  · rw [ll j (nk j oj hm)] at hl
    have := hI.b1 j oj hm hl
    exact ⟨this.1, Nat.lt_of_lt_of_le this.2 hb.size⟩
  · rw [ll i (nk i oi hi)] at hli
    rw [ll j (nk j oj hj)] at hlj
    exact hI.bd i j oi oj hi hj hli hlj hne
  · rw [ll j (nk j oj hm)] at hl
    obtain ⟨el, C, h1, h2, h3⟩ := hI.bc j oj hm hl d si t' y hd hf
    refine ⟨el, C, ?_, h2, fun hs => h3 (by rwa [ll si (ns d si t' y hf)] at hs)⟩
    rw [hb.block _ (hI.b1 j oj hm hl).2]; exact h1
  · by_cases hek : e.on = k
    · rw [getD_set hks, if_pos hek]
    · rw [ll _ hek]
      by_cases hjk : j = k
      · subst hjk
        rw [ho] at hoj; cases hoj
        obtain ⟨_, o', ho', hall⟩ := mem_ready.1 hr
        rw [ho] at ho'; cases ho'
        exact hall e he hbd
      · rw [ll j hjk] at hl
        exact hI.cl j oj hoj hl e he hbd
theorem inv_alloc (hX : Ctx P all m v hp w0 a0 AQ V) (hI : Inv P all m v hp w0 B1 a0 AQ V listed a w blk) {k : Nat} {o : Oper} (hk : k < m) (ho : all[k]? = some o) (hal : isAl o = true)
    (hr : k ∈ Region.ready .any all listed) {t : TypeId} {z : Value} (hop : o.op = .alloc t) (hz : ∀ d si t' y, o.dst = some d → findSt all m d = some (si, t', y) → z.cells.size = (AQ.eval y).cells.size) :
    Inv P all m v hp w0 B1 a0 AQ V (listed.setIfInBounds k true) (a.put o.dst (ptrV w.heap.size)) { w with heap := w.heap.push (.cells z.cells t) } (fun j => if j = k then w.heap.size else blk j) := by
  have hks : k < listed.size := by rw [hI.ls]; exact Nat.lt_of_lt_of_le hk hX.ok.le
  have ll : ∀ j, j ≠ k → (listed.setIfInBounds k true).getD j false = listed.getD j false := fun j hj => by rw [getD_set hks, if_neg hj]
  have hun := not_listed hks (mem_ready.1 hr).1
  have hbel : Below w.heap.size w { w with heap := w.heap.push (.cells z.cells t) } := (Below.refl _ w).alloc (Nat.le_refl _) _
  obtain ⟨t1, d1, _, _, hd1⟩ := isAl_ok hal
  refine ⟨(put_df _ _ _).trans hI.df, (put_size _ _ _).trans hI.sz, by simp [hI.ls], fun t ht => ?_, fun j oj hj hoj hl t hd hts => ?_, hI.hr.below hbel, fun j oj hm hl => ?_, fun i j oi oj hi hj hli hlj hne => ?_,
    fun j oj hm hl d si t' y hd hf => ?_, fun j oj hoj hl e he hbd => ?_, Nat.le_trans hI.hb hbel.size⟩
  · rw [put_get _ _ _ _ (ht k o hk ho (by rw [getD_set hks, if_pos rfl]))]
    exact hI.el t fun j oj hj hoj hl => ht j oj hj hoj (by rw [getD_set hks]; split <;> simp_all)
  · by_cases hjk : j = k
    · subst hjk
      rw [ho] at hoj; cases hoj
      rw [hd, put_at _ _ _ (by rw [hI.sz]; exact hts), hal, if_pos rfl]; simp
    · rw [put_get _ _ _ _ (hX.ok.dst k j o oj hk hj (fun e => hjk e.symm) ho hoj t hd), if_neg hjk]
      exact hI.at_ j oj hj hoj (by rwa [ll j hjk] at hl) t hd hts
  · show B1 ≤ (if j = k then w.heap.size else blk j) ∧ (if j = k then w.heap.size else blk j) < (w.heap.push _).size
    rw [Array.size_push]
    by_cases hjk : j = k
    · rw [if_pos hjk]; exact ⟨hI.hb, by omega⟩
    · rw [if_neg hjk]
      rw [ll j hjk] at hl
      have := hI.b1 j oj hm hl
      exact ⟨this.1, by omega⟩
  · show (if i = k then w.heap.size else blk i) ≠ (if j = k then w.heap.size else blk j)
    by_cases hik : i = k
    · have hjk : j ≠ k := fun e => hne (hik.trans e.symm)
      rw [if_pos hik, if_neg hjk]
      rw [ll j hjk] at hlj
      have := (hI.b1 j oj hj hlj).2
      omega
    · rw [if_neg hik]
      rw [ll i hik] at hli
      by_cases hjk : j = k
      · rw [if_pos hjk]
        have := (hI.b1 i oi hi hli).2
        omega
      · rw [if_neg hjk]
        rw [ll j hjk] at hlj
        exact hI.bd i j oi oj hi hj hli hlj hne
  · show ∃ el C, (w.heap.push _)[if j = k then w.heap.size else blk j]? = _ ∧ _
    obtain ⟨hsi, os, hos, hst⟩ := findSt_ok hf
    have hnsk : si ≠ k := fun e => by
      subst e
      rw [ho] at hos; cases hos
      have := (stOf_ok hst).1
      rw [hop] at this; cases this
    by_cases hjk : j = k
    · subst hjk
      have hoj := (mem_preA.1 hm).2.1
      rw [ho] at hoj; cases hoj
      rw [if_pos rfl]
      refine ⟨t, z.cells, by simp, hz d si t' y hd hf, fun hs => ?_⟩
      rw [ll si hnsk] at hs
      -- the store waits for the block
      have hlook : d ∈ os.looksAt all := List.mem_append_left _ (List.mem_filterMap.2 ⟨.tmp d, by rw [(stOf_ok hst).1]; simp [Op.operands], rfl⟩)
      have hsee := hX.ok.see si j os o hsi hk hnsk hos ho d hd hlook
      rcases Nat.lt_or_gt_of_ne hnsk with hlt | hgt
      · -- the store ahead of its block: then the block waits for the store, and the store for none: it has been listed: but see the other way
        have h1 := hsee.2 hlt
        obtain ⟨o', ho', e, he, hb, hon⟩ := edgeB_ok h1
        rw [ho] at ho'; cases ho'
        exact absurd (hX.ok.lt_al j o hk ho hal si os hsi hos t' d y hst hd) (by omega)
      · have := closed_edge hI (hsee.1 hgt) hs
        rw [hun] at this; cases this
    · rw [if_neg hjk]
      rw [ll j hjk] at hl
      obtain ⟨el, C, h1, h2, h3⟩ := hI.bc j oj hm hl d si t' y hd hf
      refine ⟨el, C, ?_, h2, fun hs => h3 (by rwa [ll si hnsk] at hs)⟩
      rw [Array.getElem?_push, if_neg (by have := (hI.b1 j oj hm hl).2; omega)]; exact h1
  · by_cases hek : e.on = k
    · rw [getD_set hks, if_pos hek]
    · rw [ll _ hek]
      by_cases hjk : j = k
      · subst hjk
        rw [ho] at hoj; cases hoj
        obtain ⟨_, o', ho', hall⟩ := mem_ready.1 hr
        rw [ho] at ho'; cases ho'
        exact hall e he hbd
      · rw [ll j hjk] at hl
        exact hI.cl j oj hoj hl e he hbd
theorem inv_store (hX : Ctx P all m v hp w0 a0 AQ V) (hI : Inv P all m v hp w0 B1 a0 AQ V listed a w blk) (hB1 : ∀ n ∈ v.p, n < B1) (hB0 : w0.heap.size ≤ B1) {k : Nat} {o : Oper} (hk : k < m) (ho : all[k]? = some o) {t' : TypeId} {d : Tmp} {y : Operand} (hst : stOf o = some (t', d, y))
    (hr : k ∈ Region.ready .any all listed) {ja : Nat} {oa : Oper} (hja : (ja, oa) ∈ preA all m) (hda : oa.dst = some d) (hf : findSt all m d = some (k, t', y)) :
    Inv P all m v hp w0 B1 a0 AQ V (listed.setIfInBounds k true) (a.put o.dst undef) (w.setRow (blk ja) (AQ.eval y).cells) blk := by
  have hks : k < listed.size := by rw [hI.ls]; exact Nat.lt_of_lt_of_le hk hX.ok.le
  have ll : ∀ j, j ≠ k → (listed.setIfInBounds k true).getD j false = listed.getD j false := fun j hj => by rw [getD_set hks, if_neg hj]
  have hlja : listed.getD ja false = true := by
    obtain ⟨h1, h2, h3⟩ := mem_preA.1 hja
    have hlook : d ∈ o.looksAt all := List.mem_append_left _ (List.mem_filterMap.2 ⟨.tmp d, by rw [(stOf_ok hst).1]; simp [Op.operands], rfl⟩)
    have hlt := hX.ok.lt_al ja oa h1 h2 h3 k o hk ho t' d y hst hda
    exact ready_edge hr ((hX.ok.see k ja o oa hk h1 (by omega) ho h2 d hda hlook).1 hlt)
  have nk : ∀ j oj, (j, oj) ∈ preA all m → j ≠ k := fun j oj hj e => by
    obtain ⟨_, h2, h3⟩ := mem_preA.1 hj
    subst e
    rw [ho] at h2; cases h2
    obtain ⟨t1, d1, h1, _⟩ := isAl_ok h3
    have := (stOf_ok hst).1
    rw [h1] at this; cases this
  have hdst := (stOf_ok hst).2.2
  obtain ⟨hb1, hb2⟩ := hI.b1 ja oa hja hlja
  have hHR : HR v hp w0 (w.setRow (blk ja) (AQ.eval y).cells) := by
    refine ⟨hI.hr.ln, hI.hr.nd, fun v' l i cs hc => ?_, hI.hr.ge, below_setRow hI.hr.bel (by omega) _⟩
    obtain ⟨el, e⟩ := hI.hr.blk v' l i cs hc
    refine ⟨el, ?_⟩
    have hlt : i < v.p.length := by rw [hI.hr.ln]; exact (List.getElem?_eq_some_iff.1 hc).1
    have hm : v.p.getD i 0 ∈ v.p := by simp [List.getD_eq_getElem?_getD, hlt]
    have := hB1 _ hm
    rw [setRow_other w _ _ _ (by omega)]; exact e
  rw [hdst]
  refine ⟨hI.df, hI.sz, by simp [hI.ls], fun t ht => ?_, fun j oj hj hoj hl t hd hts => ?_, hHR, fun j oj hm hl => ?_, fun i j oi oj hi hj hli hlj hne => ?_,
    fun j oj hm hl d2 si t2 y2 hd hf2 => ?_, fun j oj hoj hl e he hbd => ?_, by rw [size_setRow]; exact hI.hb⟩
  · exact hI.el t fun j oj hj hoj hl => ht j oj hj hoj (by rw [getD_set hks]; split <;> simp_all)
  · have hjk : j ≠ k := fun e => by
      subst e
      rw [ho] at hoj; cases hoj
      rw [hdst] at hd; cases hd
    exact hI.at_ j oj hj hoj (by rwa [ll j hjk] at hl) t hd hts
  · rw [ll j (nk j oj hm)] at hl
    rw [size_setRow]
    exact hI.b1 j oj hm hl
  · rw [ll i (nk i oi hi)] at hli
    rw [ll j (nk j oj hj)] at hlj
    exact hI.bd i j oi oj hi hj hli hlj hne
  · rw [ll j (nk j oj hm)] at hl
    obtain ⟨el, C, h1, h2, h3⟩ := hI.bc j oj hm hl d2 si t2 y2 hd hf2
    by_cases hjj : j = ja
    · subst hjj
      have hoj := (mem_preA.1 hm).2.1
      have hoj' := (mem_preA.1 hja).2.1
      rw [hoj] at hoj'
      cases hoj'
      rw [hd] at hda; cases hda
      rw [hf] at hf2; cases hf2
      exact ⟨el, (AQ.eval y).cells, setRow_heap w _ C _ el _ h1, rfl, fun _ => rfl⟩
    · have hne := hI.bd j ja oj oa hm hja hl hlja hjj
      refine ⟨el, C, by rw [setRow_other w _ _ _ hne]; exact h1, h2, fun hs => ?_⟩
      by_cases hsk : si = k
      · subst hsk
        obtain ⟨_, os, h5, h6⟩ := findSt_ok hf2
        rw [ho] at h5; cases h5
        rw [hst] at h6; cases h6
        obtain ⟨j1, j2, _⟩ := mem_preA.1 hm
        obtain ⟨a1, a2, _⟩ := mem_preA.1 hja
        exact absurd hd (hX.ok.dst j ja oj oa j1 a1 hjj j2 a2 _ hda)
      · exact h3 (by rwa [ll si hsk] at hs)
  · by_cases hek : e.on = k
    · rw [getD_set hks, if_pos hek]
    · rw [ll _ hek]
      by_cases hjk : j = k
      · subst hjk
        rw [ho] at hoj; cases hoj
        obtain ⟨_, o', ho', hall⟩ := mem_ready.1 hr
        rw [ho] at ho'; cases ho'
        exact hall e he hbd
      · rw [ll j hjk] at hl
        exact hI.cl j oj hoj hl e he hbd
/-- What a store that is ready writes, and where. -/
theorem store_reads (hX : Ctx P all m v hp w0 a0 AQ V) (hI : Inv P all m v hp w0 B1 a0 AQ V listed a w blk) {k : Nat} {o : Oper} (hk : k < m) (ho : all[k]? = some o) {t' : TypeId} {d : Tmp} {y : Operand} (hst : stOf o = some (t', d, y))
    (hy : ∀ d', y = .tmp d' → ∀ (j : Nat) (oj : Oper), j < m → all[j]? = some oj → isAl oj = true → oj.dst ≠ some d') (hr : k ∈ Region.ready .any all listed) : a.eval y = AQ.eval y := by
  have hks : k < listed.size := by rw [hI.ls]; exact Nat.lt_of_lt_of_le hk hX.ok.le
  have hun := not_listed hks (mem_ready.1 hr).1
  cases y with
  | tmp d' =>
    have hlook : d' ∈ o.looksAt all := List.mem_append_left _ (List.mem_filterMap.2 ⟨.tmp d', by rw [(stOf_ok hst).1]; simp [Op.operands], rfl⟩)
    have : a.tmps[d']? = AQ.tmps[d']? := by
      by_cases hex : ∃ j oj, j < m ∧ all[j]? = some oj ∧ oj.dst = some d'
      · obtain ⟨j, oj, hj, hoj, hdj⟩ := hex
        have hjk : j ≠ k := fun e => by
          subst e
          rw [ho] at hoj; cases hoj
          have := (stOf_ok hst).2.2
          rw [this] at hdj; cases hdj
        have hnalj : isAl oj = false := by
          cases h : isAl oj
          · rfl
          · exact absurd hdj (hy d' rfl j oj hj hoj h)
        have hqj : quietB oj.op = true := by
          rcases hX.ok.kind j oj hj hoj with h | h | ⟨t, d2, y2, h, _⟩
          · exact h
          · rw [hnalj] at h; cases h
          · have := (stOf_ok h).2.2; rw [hdj] at this; cases this
        have hsee := hX.ok.see k j o oj hk hj (fun e => hjk e.symm) ho hoj d' hdj hlook
        have hlj : listed.getD j false = true := by
          rcases Nat.lt_or_gt_of_ne hjk with hlt | hgt
          · exact ready_edge hr (hsee.1 hlt)
          · exact absurd (hX.ok.st_lt k o hk ho t' d (.tmp d') hst d' rfl j oj hj hoj hdj) (by omega)
        by_cases hts : d' < a0.tmps.size
        · rw [hI.at_ j oj hj hoj hlj d' hdj hts, hX.e.at_ j oj (mem_preQ.2 ⟨hj, hoj, hqj⟩) hj d' hdj hts, hnalj]
          rfl
        · rw [Array.getElem?_eq_none (by rw [hI.sz]; exact Nat.le_of_not_lt hts), Array.getElem?_eq_none (by rw [hX.e.sz]; exact Nat.le_of_not_lt hts)]
      · have h1 : a.tmps[d']? = a0.tmps[d']? := hI.el d' fun i oi hi hoi _ hdi => hex ⟨i, oi, hi, hoi, hdi⟩
        have h2 : AQ.tmps[d']? = a0.tmps[d']? := hX.e.el d' fun i oi hi _ hdi => by
          obtain ⟨hi1, hi2, _⟩ := mem_preQ.1 hi
          exact hex ⟨i, oi, hi1, hi2, hdi⟩
        rw [h1, h2]
    show a.tmps.getD d' undef = AQ.tmps.getD d' undef
    simp only [Array.getD_eq_getD_getElem?, this]
  | _ => rfl
end

section
variable {P : Program} {all : Array Oper} {m : Nat} {v : Env} {hp : List (List Sc)} {w0 : World} {B1 : Nat} {a0 AQ : Act} {V : Nat → Value} {Q : Exit → Act → World → Prop}
theorem inv_step (hX : Ctx P all m v hp w0 a0 AQ V) (hB1 : ∀ n ∈ v.p, n < B1) (hB0 : w0.heap.size ≤ B1) {listed : Array Bool} {a : Act} {w : World} {blk : Nat → Nat} (hI : Inv P all m v hp w0 B1 a0 AQ V listed a w blk) {k : Nat} (hk : k < m)
    (hr : k ∈ Region.ready .any all listed) : wpOp P all Q k (fun a' w' => ∃ blk', Inv P all m v hp w0 B1 a0 AQ V (listed.setIfInBounds k true) a' w' blk') a w := by
  obtain ⟨_, o, ho, _⟩ := mem_ready.1 hr
  unfold wpOp
  rw [ho]
  simp only
  rcases hX.ok.kind k o hk ho with hq | hal | ⟨t', d, y, hst, ⟨ja, oa, hja, hoa, hala, hda⟩, hy⟩
  · have hput := fun {w'} hb => inv_put (w' := w') hX hI hk ho hq hr hb
    rcases yl_now hX hI hk ho hq hr with ⟨hw, hrun⟩ | ⟨hw, hv⟩
    · rw [if_pos hw]
      left
      unfold Oper.wp
      rcases hrun w hI.hr with hrun | ⟨f, args, hrun, hc⟩
      · rw [hrun]
        exact ⟨blk, hput (Below.refl _ _)⟩
      · rw [hrun]
        refine hc.mono ?_
        rintro e w' ⟨rfl, hb⟩
        exact ⟨blk, hput hb⟩
    · rw [if_neg (by simp [hw])]
      rw [← hv]
      exact ⟨blk, hput (Below.refl _ _)⟩
  · obtain ⟨t, d, si, t', y, inf, hop, hd, hf, ⟨z, hz, hzs⟩, _⟩ := hX.a k o (mem_preA.2 ⟨hk, ho, hal⟩)
    obtain ⟨_, _, _, hg, _⟩ := isAl_ok hal
    rw [if_pos (by simp [Region.wanted, hg])]
    left
    have hinv := inv_alloc hX hI hk ho hal hr hop (z := z) (fun d2 si2 t2 y2 h1 h2 => by
      rw [hd] at h1; cases h1
      rw [hf] at h2; cases h2
      exact hzs)
    have hrun : (execOp a.eval o).run P w = .ok (.value (ptrV w.heap.size)) { w with heap := w.heap.push (.cells z.cells t) } := by
      unfold execOp
      simp [hop, Instr.alloc, hz w, newVar, newRow, ptrV]
    unfold Oper.wp
    rw [hrun]
    exact ⟨_, hinv⟩
  · obtain ⟨hop, hg, hdst⟩ := stOf_ok hst
    rw [if_pos (by simp [Region.wanted, hg])]
    left
    have hma := mem_preA.2 ⟨hja, hoa, hala⟩
    obtain ⟨t, d1, si, t2, y2, inf, hopa, hd1, hf, _, hinf, hsz, hdlt, hone⟩ := hX.a ja oa hma
    rw [hda] at hd1; cases hd1
    have hfk : findSt all m d = some (k, t', y) := by
      obtain ⟨h1, os, h2, h3⟩ := findSt_ok hf
      by_cases e : si = k
      · subst e
        rw [ho] at h2; cases h2
        rw [hst] at h3; cases h3
        exact hf
      · exact absurd rfl (hX.ok.one si k os o h1 hk e h2 ho _ _ _ _ _ _ h3 hst)
    rw [hfk] at hf; cases hf
    have hlook : d ∈ o.looksAt all := List.mem_append_left _ (List.mem_filterMap.2 ⟨.tmp d, by rw [hop]; simp [Op.operands], rfl⟩)
    have hltk := hX.ok.lt_al ja oa hja hoa hala k o hk ho _ _ _ hst hda
    have hlja : listed.getD ja false = true := ready_edge hr ((hX.ok.see k ja o oa hk hja (by omega) ho hoa d hda hlook).1 hltk)
    have hptr : a.eval (.tmp d) = ptrV (blk ja) := by
      have := hI.at_ ja oa hja hoa hlja d hda (by rw [← hX.e.sz]; exact hdlt)
      rw [if_pos hala] at this
      show a.tmps.getD d undef = _
      rw [Array.getD_eq_getD_getElem?, this]; rfl
    have hval := store_reads hX hI hk ho hst hy hr
    obtain ⟨el, C, hcell, hCs, _⟩ := hI.bc ja oa hma hlja d k t' y hda hfk
    have hst2 := run_storeCells_at P (blk ja) 0 el (AQ.eval y).cells.toList 0 C w hcell (by simp; omega) hone
    have hrun : (execOp a.eval o).run P w = .ok .skip (w.setRow (blk ja) (AQ.eval y).cells) := by
      unfold execOp
      rw [hop]
      simp only [hptr, hval, ptrV, Instr.storeAt, Instr.sureAddr, storeVar, Sem.run_bind, Sem.run_pure, Result.andThen_ok, run_sizeOf hinf, Sem.run_ite]
      rw [if_neg (by rw [hsz]; simp)]
      rw [hst2]
      simp only [Result.andThen_ok, Result.ok.injEq, true_and]
      congr 1
      apply Array.toList_inj.1
      simp
      omega
    unfold Oper.wp
    rw [hrun]
    exact ⟨blk, inv_store hX hI hB1 hB0 hk ho hst hr hma hda hfk⟩
/-- Operations that each wait for all before them come one behind the other. -/
theorem seq_ok (hX : Ctx P all m v hp w0 a0 AQ V) : ∀ (fuel i : Nat) (listed : Array Bool) (a : Act) (w : World), listed.size = all.size → (∀ j, j < all.size → (listed.getD j false = true ↔ j < i)) → m ≤ i → i + fuel = all.size →
    wpList P all Q (all.toList.drop i) a w → wpAny P .any all Q fuel listed a w
  | 0, i, listed, a, w, hls, hl, hm, hi, h => by
    refine ⟨?_, ?_⟩
    · rw [List.eq_nil_iff_forall_not_mem]
      intro j hj
      obtain ⟨h1, o, ho, _⟩ := mem_ready.1 hj
      have hlt : j < all.size := (Array.getElem?_eq_some_iff.1 ho).1
      have := (hl j hlt).2 (by omega)
      rw [not_listed (by rw [hls]; exact hlt) h1] at this
      cases this
    · rw [List.drop_of_length_le (by simp; omega)] at h
      exact h
  | fuel + 1, i, listed, a, w, hls, hl, hm, hi, h => by
    have hilt : i < all.size := by omega
    have ho : all[i]? = some all[i] := Array.getElem?_eq_getElem hilt
    have hiu : listed.getD i false = false := by
      cases hh : listed.getD i false
      · rfl
      · have := (hl i hilt).1 hh; omega
    have hir : i ∈ Region.ready .any all listed := by
      refine mem_ready.2 ⟨?_, all[i], ho, fun e he hb => ?_⟩
      · rw [← hls] at hilt
        simp [hilt] at hiu ⊢; exact hiu
      · have := hX.ok.ed i all[i] ho e he hb
        exact (hl _ (by omega)).2 this
    refine ⟨fun h0 => (by rw [h0] at hir; cases hir), fun j hj => ?_⟩
    obtain ⟨h1, o, hoj, hall⟩ := mem_ready.1 hj
    have hjlt : j < all.size := (Array.getElem?_eq_some_iff.1 hoj).1
    have hju := not_listed (by rw [hls]; exact hjlt) h1
    have hji : j = i := by
      rcases Nat.lt_trichotomy j i with hlt | he | hgt
      · rw [(hl j hjlt).2 hlt] at hju; cases hju
      · exact he
      · have := ready_edge hj (hX.suf j i (by omega) hjlt hgt)
        rw [hiu] at this; cases this
    subst hji
    have hdrop : all.toList.drop j = all[j] :: all.toList.drop (j + 1) := by
      rw [List.drop_eq_getElem_cons (by simpa using hilt)]; simp
    rw [hdrop] at h
    unfold wpOp
    rw [ho]
    simp only
    have ih := fun a' w' => seq_ok hX fuel (j + 1) (listed.setIfInBounds j true) a' w' (by simp [hls]) (fun q hq => by
      rw [getD_set (by rw [hls]; exact hilt)]
      split
      · rename_i e; simp; omega
      · rename_i e; rw [hl q hq]; omega) (by omega) (by omega)
    unfold wpList at h
    split at h
    · rename_i hw
      rw [if_pos hw]
      exact h.imp (Oper.wp_mono ih) id
    · rename_i hw
      rw [if_neg hw]
      exact ih _ _ h
theorem any_ok (hX : Ctx P all m v hp w0 a0 AQ V) (hB1 : ∀ n ∈ v.p, n < B1) (hB0 : w0.heap.size ≤ B1)
    (hfin : ∀ listed a w blk, Inv P all m v hp w0 B1 a0 AQ V listed a w blk → (∀ j, j < m → listed.getD j false = true) → wpList P all Q (all.toList.drop m) a w) :
    ∀ (fuel : Nat) (listed : Array Bool) (a : Act) (w : World) (blk : Nat → Nat), Inv P all m v hp w0 B1 a0 AQ V listed a w blk → listed.toList.count false = fuel → (∀ j, m ≤ j → j < all.size → listed.getD j false = false) →
      wpAny P .any all Q fuel listed a w := by
  intro fuel
  induction fuel with
  | zero =>
    intro listed a w blk hI hc hu
    have hall : ∀ j, j < all.size → listed.getD j false = true := fun j hj => by
      have hjl : j < listed.size := by rw [hI.ls]; exact hj
      have h0 : false ∉ listed.toList := List.count_eq_zero.1 hc
      have : listed[j] ≠ false := fun e => h0 (by rw [← e]; simp)
      simp only [Array.getD_eq_getD_getElem?, Array.getElem?_eq_getElem hjl, Option.getD_some]
      simpa using this
    have hnm : all.size ≤ m := by
      rcases Nat.lt_or_ge m all.size with h | h
      · have := hu m (Nat.le_refl _) h
        rw [hall m h] at this; cases this
      · exact h
    refine seq_ok hX 0 all.size listed a w hI.ls (fun j hj => ⟨fun _ => hj, fun _ => hall j hj⟩) hX.ok.le (by omega) ?_
    have := hfin listed a w blk hI (fun j hj => hall j (Nat.lt_of_lt_of_le hj hX.ok.le))
    have e : m = all.size := Nat.le_antisymm hX.ok.le hnm
    rwa [e] at this
  | succ fuel ih =>
    intro listed a w blk hI hc hu
    by_cases hpre : ∀ j, j < m → listed.getD j false = true
    · have hm := hfin listed a w blk hI hpre
      have hlist : ∀ j, j < all.size → (listed.getD j false = true ↔ j < m) := fun j hj => by
        constructor
        · intro h
          rcases Nat.lt_or_ge j m with h2 | h2
          · exact h2
          · rw [hu j h2 hj] at h; cases h
        · exact hpre j
      have hcount : m + (fuel + 1) = all.size := by
        have hle := hX.ok.le
        have e : listed.toList = List.replicate m true ++ List.replicate (all.size - m) false := by
          apply List.ext_getElem?
          intro j
          by_cases hj : j < all.size
          · have hjl : j < listed.size := by rw [hI.ls]; exact hj
            have hg : listed.getD j false = listed[j] := by simp [hjl]
            have := hlist j hj
            rw [hg] at this
            rw [Array.getElem?_toList, Array.getElem?_eq_getElem hjl]
            by_cases hjm : j < m
            · rw [List.getElem?_append_left (by simpa using hjm), List.getElem?_replicate, if_pos hjm, this.2 hjm]
            · rw [List.getElem?_append_right (by simpa using hjm), List.getElem?_replicate, if_pos (by simp; omega)]
              have : listed[j] = false := by
                cases hq : listed[j]
                · rfl
                · exact absurd (this.1 hq) hjm
              rw [this]
          · rw [Array.getElem?_toList, Array.getElem?_eq_none (by rw [hI.ls]; omega), List.getElem?_eq_none (by simp; omega)]
        rw [e, List.count_append, List.count_replicate, List.count_replicate] at hc
        simp at hc
        omega
      exact seq_ok hX (fuel + 1) m listed a w hI.ls hlist (Nat.le_refl _) hcount hm
    · have least : ∀ n j, j ≤ n → j < all.size → Region.ready .any all listed = [] → listed.getD j false = true := by
        intro n
        induction n with
        | zero =>
          intro j hj hja hn
          cases hh : listed.getD j false
          · have hj0 : j = 0 := by omega
            have ho : all[j]? = some all[j] := Array.getElem?_eq_getElem hja
            have : j ∈ Region.ready .any all listed := by
              refine mem_ready.2 ⟨?_, all[j], ho, fun e he hb => ?_⟩
              · have hjl : j < listed.size := by rw [hI.ls]; exact hja
                simp [hjl] at hh ⊢; exact hh
              · have := hX.ok.ed j all[j] ho e he hb; omega
            rw [hn] at this; cases this
          · rfl
        | succ n ihn =>
          intro j hj hja hn
          cases hh : listed.getD j false
          · have ho : all[j]? = some all[j] := Array.getElem?_eq_getElem hja
            have : j ∈ Region.ready .any all listed := by
              refine mem_ready.2 ⟨?_, all[j], ho, fun e he hb => ?_⟩
              · have hjl : j < listed.size := by rw [hI.ls]; exact hja
                simp [hjl] at hh ⊢; exact hh
              · have := hX.ok.ed j all[j] ho e he hb
                exact ihn e.on (by omega) (by omega) hn
            rw [hn] at this; cases this
          · rfl
      refine ⟨fun h0 => absurd (fun j hj => least j j (Nat.le_refl _) (Nat.lt_of_lt_of_le hj hX.ok.le) h0) hpre, fun k hr => ?_⟩
      obtain ⟨h1, o, ho, _⟩ := mem_ready.1 hr
      have hkl : k < all.size := (Array.getElem?_eq_some_iff.1 ho).1
      have hk : k < m := by
        rcases Nat.lt_or_ge k m with h | h
        · exact h
        · exact absurd (fun j hj => ready_edge hr (hX.suf k j h hkl (by omega))) hpre
      have hks : k < listed.size := by rw [hI.ls]; exact hkl
      refine wpOp_mono (fun a' w' ⟨blk', hI'⟩ => ih _ a' w' blk' hI' ?_ fun j hj hja => ?_) (inv_step hX hB1 hB0 hI hk hr)
      · have hf : listed[k] = false := by simp [hks] at h1; exact h1
        have : (listed.setIfInBounds k true).toList = listed.toList.set k true := by simp
        rw [this, List.count_set (by simpa using hks)]
        simp [hf, hc]
      · rw [getD_set hks, if_neg (by omega)]
        exact hu j hj hja
end

theorem drawn_HR {v : Env} {hp} {w0 w : World} (h : HR v hp w0 w) : HR v hp w0 { w with drawn := w.drawn + 1 } := ⟨h.ln, h.nd, h.blk, h.ge, h.bel.drew⟩
theorem TR.more {v : Env} {st : St} {a : Act} (h : TR v st a) (b : Nat) (cs : List Sc) (d : Option Tmp) (hl : v.p.length = st.hp.length) :
    TR ⟨v.p ++ [b], v.i, v.b⟩ (St.put { st with hp := st.hp ++ [cs] } d (.o (.s (.p st.hp.length 0)))) (a.put d (ptrV b)) := by
  have lt : Later v ⟨v.p ++ [b], v.i, v.b⟩ := ⟨[b], [], [], by simp⟩
  have h0 : TR ⟨v.p ++ [b], v.i, v.b⟩ { st with hp := st.hp ++ [cs] } a := ⟨fun v' l => h.tm v' (lt.trans l), h.df, h.hi, h.hb, h.ex⟩
  refine h0.put d _ _ fun v' l => ?_
  have : v'.p.getD st.hp.length 0 = b := by
    rw [l.getD (by simp [hl])]
    rw [← hl]; simp [List.getD_eq_getElem?_getD]
  simp only [SV.den, S1.den, Sc.den, this]; rfl
section
variable {P : Program} {all : Array Oper} {m : Nat}
/-- What is stored in a block that the region makes is read of no such block. -/
theorem st_operand (hok : PreOk all m) {d : Tmp} {si : Nat} {t' : TypeId} {y : Operand} (hf : findSt all m d = some (si, t', y)) {j : Nat} {o : Oper} (hj : (j, o) ∈ preA all m) : ∀ d', o.dst = some d' → y ≠ .tmp d' := by
  intro d' hd hy
  obtain ⟨h1, os, h2, h3⟩ := findSt_ok hf
  obtain ⟨j1, j2, j3⟩ := mem_preA.1 hj
  rcases hok.kind si os h1 h2 with h | h | ⟨t2, d2, y2, hst, _, hy2⟩
  · rw [(stOf_ok h3).1] at h; cases h
  · obtain ⟨t1, d1, h4, _⟩ := isAl_ok h
    rw [(stOf_ok h3).1] at h4; cases h4
  · rw [h3] at hst; cases hst
    exact hy2 d' hy j o j1 j2 j3 hd
theorem af_ok (hok : PreOk all m) {AQ : Act} {st1 : St} : ∀ (l : List (Nat × Oper)) (st : St) (A : Act) (v : Env), privS P all m l st = some st1 → (∀ x ∈ l, x ∈ preA all m) → TR v st A → v.p.length = st.hp.length → A.tmps.size = AQ.tmps.size →
    (∀ y, (∀ x ∈ preA all m, ∀ d, x.2.dst = some d → y ≠ .tmp d) → A.eval y = AQ.eval y) → ∀ x ∈ l, AF P all m AQ x.2
  | [], _, _, _, _, _, _, _, _, _, x, hx => by cases hx
  | (j, o) :: l, st, A, v, h, hl, hT, hlen, hsz, hA, x, hx => by
    simp only [privS] at h
    split at h
    · rename_i t d hop hd
      split at h
      · rename_i si t' y hf
        split at h
        · rename_i z s inf hz hs hinf
          split at h
          · rename_i hc
            have hmem := hl (j, o) List.mem_cons_self
            have hy : A.eval y = AQ.eval y := hA y fun x hx d' hd' => st_operand hok hf (j := x.1) (o := x.2) hx d' hd'
            have hev := rd_ok hT (GT.t v) hs v (Later.refl v)
            have hcells : (AQ.eval y).cells = (s.cells.map (Sc.den v)).toArray := by rw [← hy, hev, S1.den_cells]
            rcases List.mem_cons.1 hx with e | hx
            · subst e
              refine ⟨t, d, si, t', y, inf, hop, hd, hf, ⟨z.den v, fun w => zeroS_ok hz v w, ?_⟩, hinf, ?_, ?_, ?_⟩
              · rw [hcells, S1.den_cells]; simp [hc.1]
              · rw [hcells]; simp [hc.2.1]
              · rw [← hsz]
                exact (hT.lt d).1 hc.2.2
              · intro c hcm
                rw [hcells] at hcm
                simp only [List.mem_map] at hcm
                obtain ⟨sc, _, rfl⟩ := hcm
                exact Sc.den_one v sc
            · have hT' := hT.more 0 s.cells o.dst hlen
              rw [hd] at hT'
              refine af_ok hok l _ _ _ h (fun x hx => hl x (List.mem_cons_of_mem _ hx)) hT' (by simp [St.put, hlen]) (by rw [put_size]; exact hsz) (fun y' hy' => ?_) x hx
              rw [Act.eval_put fun d' hd' => hy' (j, o) hmem d' (by rw [hd]; exact hd')]
              exact hA y' hy'
          · cases h
        · cases h
      · cases h
    · cases h
theorem priv_ok (hok : PreOk all m) {AQ : Act} {st1 : St} {w0 w : World} {blk : Nat → Nat} : ∀ (l : List (Nat × Oper)) (st : St) (A : Act) (v : Env), privS P all m l st = some st1 → (∀ x ∈ l, x ∈ preA all m) → l.Pairwise (fun x y => blk x.1 ≠ blk y.1) → TR v st A → HR v st.hp w0 w →
    (∀ x ∈ l, blk x.1 ∉ v.p ∧ w0.heap.size ≤ blk x.1) →
    (∀ x ∈ l, ∀ d si t' y, x.2.dst = some d → findSt all m d = some (si, t', y) → ∃ el, w.heap[blk x.1]? = some (.cells (AQ.eval y).cells el (0, 0))) →
    (∀ y, (∀ x ∈ preA all m, ∀ d, x.2.dst = some d → y ≠ .tmp d) → A.eval y = AQ.eval y) →
    ∃ v1, Later v v1 ∧ v1.i = v.i ∧ v1.b = v.b ∧ TR v1 st1 (l.foldl (fun A x => A.put x.2.dst (ptrV (blk x.1))) A) ∧ HR v1 st1.hp w0 w
  | [], st, A, v, h, _, _, hT, hH, _, _, _ => by
    simp only [privS, Option.some.injEq] at h
    subst h
    exact ⟨v, Later.refl v, rfl, rfl, hT, hH⟩
  | (j, o) :: l, st, A, v, h, hl, hpw, hT, hH, hb, hc, hA => by
    simp only [privS] at h
    split at h
    · rename_i t d hop hd
      split at h
      · rename_i si t' y hf
        split at h
        · rename_i z s inf hz hs hinf
          split at h
          · rename_i hcc
            have hmem := hl (j, o) List.mem_cons_self
            have hy : A.eval y = AQ.eval y := hA y fun x hx d' hd' => st_operand hok hf (j := x.1) (o := x.2) hx d' hd'
            have hev := rd_ok hT (GT.t v) hs
            have hcells : ∀ v', Later v v' → (AQ.eval y).cells = (s.cells.map (Sc.den v')).toArray := fun v' lt => by rw [← hy, hev v' lt, S1.den_cells]
            obtain ⟨el, hw⟩ := hc (j, o) List.mem_cons_self d si t' y hd hf
            obtain ⟨hb1, hb2⟩ := hb (j, o) List.mem_cons_self
            have hH' := hH.add s.cells (blk j) el _ hw hb1 hb2 hcells
            have hT' := hT.more (blk j) s.cells o.dst hH.ln
            rw [hd] at hT'
            rw [List.pairwise_cons] at hpw
            have g1 : ∀ x ∈ l, blk x.1 ∉ v.p ++ [blk j] ∧ w0.heap.size ≤ blk x.1 := fun x hx => by
              refine ⟨fun hm => ?_, (hb x (List.mem_cons_of_mem _ hx)).2⟩
              simp only [List.mem_append, List.mem_singleton] at hm
              rcases hm with hm | hm
              · exact (hb x (List.mem_cons_of_mem _ hx)).1 hm
              · exact hpw.1 x hx hm.symm
            have g2 : ∀ y, (∀ x ∈ preA all m, ∀ d, x.2.dst = some d → y ≠ .tmp d) → (A.put (some d) (ptrV (blk j))).eval y = AQ.eval y := fun y' hy' => by
              rw [Act.eval_put fun d' hd' => hy' (j, o) hmem d' (by rw [hd]; exact hd')]
              exact hA y' hy'
            obtain ⟨v1, l1, e1, e2, hT1, hH1⟩ := priv_ok hok l _ _ _ h (fun x hx => hl x (List.mem_cons_of_mem _ hx)) hpw.2 hT' (by simpa [St.put] using hH') g1
              (fun x hx => hc x (List.mem_cons_of_mem _ hx)) g2
            refine ⟨v1, Later.trans ⟨[blk j], [], [], by simp⟩ l1, e1, e2, ?_, hH1⟩
            rw [List.foldl_cons, hd]; exact hT1
          · cases h
        · cases h
      · cases h
    · cases h
theorem fold_put (blk : Nat → Nat) : ∀ (l : List (Nat × Oper)) (A : Act), (l.Pairwise fun x y => ∀ d, y.2.dst = some d → x.2.dst ≠ some d) →
    (l.foldl (fun A x => A.put x.2.dst (ptrV (blk x.1))) A).defers = A.defers ∧ (l.foldl (fun A x => A.put x.2.dst (ptrV (blk x.1))) A).tmps.size = A.tmps.size ∧
    (∀ t, (∀ x ∈ l, x.2.dst ≠ some t) → (l.foldl (fun A x => A.put x.2.dst (ptrV (blk x.1))) A).tmps[t]? = A.tmps[t]?) ∧
    (∀ x ∈ l, ∀ t, x.2.dst = some t → t < A.tmps.size → (l.foldl (fun A x => A.put x.2.dst (ptrV (blk x.1))) A).tmps[t]? = some (ptrV (blk x.1)))
  | [], A, _ => ⟨rfl, rfl, fun _ _ => rfl, fun x hx => by cases hx⟩
  | x :: l, A, hp => by
    rw [List.pairwise_cons] at hp
    obtain ⟨h1, h2, h3, h4⟩ := fold_put blk l (A.put x.2.dst (ptrV (blk x.1))) hp.2
    simp only [List.foldl_cons]
    refine ⟨h1.trans (put_df _ _ _), h2.trans (put_size _ _ _), fun t ht => ?_, fun y hy t hd hts => ?_⟩
    · rw [h3 t fun y hy => ht y (List.mem_cons_of_mem _ hy)]
      exact put_get _ _ _ _ (ht x List.mem_cons_self)
    · rcases List.mem_cons.1 hy with e | hy
      · subst e
        rw [h3 t fun z hz hdz => hp.1 z hz t hdz hd, hd, put_at _ _ _ hts]
      · exact h4 y hy t hd (by rw [put_size]; exact hts)
end
def sxDraw (P : Program) (sig : Nat → Option Sig) (all : Array Oper) (st : St) (k : St → T) : T :=
  match (List.range (all.size + 1)).find? (fun m => sufB all m && (preA all m).all fun x => match x.2.dst with
    | some d => (findSt all m d).isSome
    | none => false) with
  | some m =>
    if preB all m then
      sxOps P sig false all ((preQ all m).map Prod.snd) st fun stQ =>
        match privS P all m (preA all m) stQ with
        | some st1 => sxOps P sig true all (all.toList.drop m) st1 k
        | none => .fail
    else .fail
  | none => .fail
theorem preA_pairs {all : Array Oper} {m : Nat} : (preA all m).Pairwise fun x y => x.1 < y.1 := by
  unfold preA
  rw [List.pairwise_filterMap]
  refine List.Pairwise.imp ?_ List.pairwise_lt_range
  intro i j hlt x hx y hy
  have key : ∀ (i : Nat) (x : Nat × Oper), (match all[i]? with
      | some o => if isAl o then some (i, o) else none
      | none => none) = some x → x.1 = i := by
    intro i x hx
    split at hx
    · split at hx
      · cases hx; rfl
      · cases hx
    · cases hx
  rw [key i x hx, key j y hy]
  exact hlt
theorem draw_ok {P : Program} {sig : Nat → Option Sig} {C : Nat → Fn} {w0 : World} (hm : P.follows .mixedOrders = true) (hC : ∀ f s, sig f = some s → Good P (fun w => Below w0.heap.size w0 w) f s (C f)) {all : Array Oper} {id : Nat} {Q : Exit → Act → World → Prop} {r} (st : St) (k : St → T) (a : Act) (w : World) (v : Env)
    (hT : TR v st a) (hH : HR v st.hp w0 w) (h : (sxDraw P sig all st k).den C v.i v.b = some r)
    (hk : ∀ st' v' a' w', Later v v' → TR v' st' a' → HR v' st'.hp w0 w' → (k st').den C v'.i v'.b = some r → Q .normal a' w') : (Code.region id all true).wp P Q a w := by
  unfold sxDraw at h
  split at h
  case h_2 => cases h
  rename_i m hfm
  split at h
  case isFalse => cases h
  rename_i hpre
  have hok := preB_ok hpre
  have hsuf : ∀ i j, m ≤ i → i < all.size → j < i → edgeB all i j = true := by
    have := List.find?_some hfm
    simp only [Bool.and_eq_true] at this
    have := this.1
    unfold sufB at this
    rw [List.all_eq_true] at this
    intro i j h1 h2 h3
    have h4 := this (i - m) (List.mem_range.2 (by omega))
    rw [List.all_eq_true] at h4
    have h5 := h4 j (List.mem_range.2 (by omega))
    rwa [show m + (i - m) = i from by omega] at h5
  have hH1 := drawn_HR hH
  have hlex := opsL_ok hC (w0 := w0) (r := r) (v0 := v) (hp := st.hp) (K := fun A => ∃ stQ vQ i' b', vQ = ⟨v.p, v.i ++ i', v.b ++ b'⟩ ∧ TR vQ stQ A ∧ stQ.hp = st.hp ∧
      (match privS P all m (preA all m) stQ with
        | some st1 => sxOps P sig true all (all.toList.drop m) st1 k
        | none => T.fail).den C vQ.i vQ.b = some r) (preQ all m) st _ a v [] [] (by simp) rfl (fun x hx => (mem_preQ.1 hx).2.2) ⟨w, hH⟩ hT h
    (fun st' v' a' i' b' e _ hT' hh h' => ⟨st', v', i', b', e, hT', hh, h'⟩)
  obtain ⟨V, hV, AQ, ⟨stQ, vQ, i', b', hvQ, hTQ, hhQ, hden⟩, hSQ⟩ := lex_facts (m := m) (preQ all m) a (rising_preQ hok) (fun j o hj => (mem_preQ.1 hj).1) hlex
  split at hden
  case h_2 => cases hden
  rename_i st1 hpriv
  have lQ : Later v vQ := ⟨[], i', b', by rw [hvQ]; simp⟩
  have hpQ : vQ.p = v.p := by rw [hvQ]
  have hX : Ctx P all m v st.hp w0 a AQ V := ⟨hok, hsuf, hV, hSQ, fun j o hj => af_ok hok (preA all m) stQ AQ vQ hpriv (fun _ h => h) hTQ (by rw [hpQ, hhQ]; exact hH.ln) rfl (fun _ _ => rfl) (j, o) hj⟩
  refine wp_region_any hm ?_
  have hI0 : Inv P all m v st.hp w0 w.heap.size a AQ V (Array.replicate all.size false) a { w with drawn := w.drawn + 1 } (fun _ => 0) := by
    have no : ∀ j : Nat, (Array.replicate all.size false).getD j false = false := fun j => by
      simp [Array.getD_eq_getD_getElem?, Array.getElem?_replicate]
      split <;> rfl
    have no' : ∀ {p : Prop} (j : Nat), (Array.replicate all.size false).getD j false = true → p := fun j hl => by rw [no j] at hl; cases hl
    exact ⟨rfl, rfl, by simp, fun _ _ => rfl, fun j o _ _ hl => no' j hl, hH1, fun j o _ hl => no' j hl, fun i j _ _ _ _ hl => no' i hl,
      fun j o _ hl => no' j hl, fun j o _ hl => no' j hl, Nat.le_refl _⟩
  refine any_ok hX (fun n hn => hH.size n hn) hH.bel.size ?_ all.size _ a _ _ hI0 (by simp) (fun j _ _ => by simp [Array.getD_eq_getD_getElem?, Array.getElem?_replicate]; split <;> rfl)
  intro listed a' w' blk hI hall
  have hHQ : HR vQ stQ.hp w0 w' := by rw [hhQ]; exact hI.hr.later hvQ
  have hpos : ∀ x ∈ preA all m, listed.getD x.1 false = true := fun x hx => hall x.1 (mem_preA.1 hx).1
  have hpw : (preA all m).Pairwise fun x y => blk x.1 ≠ blk y.1 := by
    refine List.Pairwise.imp_of_mem ?_ preA_pairs
    intro x y hx hy hlt
    exact hI.bd x.1 y.1 x.2 y.2 hx hy (hpos x hx) (hpos y hy) (by omega)
  obtain ⟨v1, l1, e1, e2, hT1, hH1'⟩ := priv_ok hok (w0 := w0) (w := w') (blk := blk) (AQ := AQ) (preA all m) stQ AQ vQ hpriv (fun _ h => h) hpw hTQ hHQ (fun x hx => by
      have hb := hI.b1 x.1 x.2 hx (hpos x hx)
      refine ⟨fun hm' => ?_, ?_⟩
      · rw [hpQ] at hm'
        have := hH.size _ hm'
        omega
      · have := hH.bel.size
        omega) (fun x hx d si t' y hd hf => by
      obtain ⟨el, C', g1, _, g3⟩ := hI.bc x.1 x.2 hx (hpos x hx) d si t' y hd hf
      exact ⟨el, by rw [← g3 (hall si (findSt_ok hf).1)]; exact g1⟩) (fun _ _ => rfl)
  have hdp : (preA all m).Pairwise fun x y => ∀ d, y.2.dst = some d → x.2.dst ≠ some d := by
    refine List.Pairwise.imp_of_mem ?_ preA_pairs
    intro x y hx hy hlt d hd
    obtain ⟨x1, x2, _⟩ := mem_preA.1 hx
    obtain ⟨y1, y2, _⟩ := mem_preA.1 hy
    exact hok.dst x.1 y.1 x.2 y.2 x1 y1 (by omega) x2 y2 d hd
  obtain ⟨f1, f2, f3, f4⟩ := fold_put blk (preA all m) AQ hdp
  have hact : (preA all m).foldl (fun A x => A.put x.2.dst (ptrV (blk x.1))) AQ = a' := by
    have ht : ((preA all m).foldl (fun A x => A.put x.2.dst (ptrV (blk x.1))) AQ).tmps = a'.tmps := by
      apply Array.ext_getElem?
      intro t
      by_cases hts : t < a.tmps.size
      · by_cases hex : ∃ j o, j < m ∧ all[j]? = some o ∧ o.dst = some t
        · obtain ⟨j, o, hj, ho, hd⟩ := hex
          rw [hI.at_ j o hj ho (hall j hj) t hd hts]
          by_cases hal : isAl o = true
          · rw [if_pos hal]
            exact f4 (j, o) (mem_preA.2 ⟨hj, ho, hal⟩) t hd (by rw [hSQ.sz]; exact hts)
          · rw [if_neg hal, f3 t fun x hx hdx => ?_]
            · have hq : quietB o.op = true := by
                rcases hok.kind j o hj ho with h | h | ⟨t2, d2, y2, h, _⟩
                · exact h
                · exact absurd h hal
                · have := (stOf_ok h).2.2; rw [hd] at this; cases this
              exact hSQ.at_ j o (mem_preQ.2 ⟨hj, ho, hq⟩) hj t hd hts
            · obtain ⟨x1, x2, x3⟩ := mem_preA.1 hx
              have : x.1 ≠ j := fun e => by
                rw [e, ho] at x2
                simp only [Option.some.injEq] at x2
                rw [← x2] at x3; exact hal x3
              exact hok.dst x.1 j x.2 o x1 hj this x2 ho t hd hdx
        · rw [hI.el t fun j o hj ho _ hd => hex ⟨j, o, hj, ho, hd⟩]
          rw [f3 t fun x hx hdx => hex ⟨x.1, x.2, (mem_preA.1 hx).1, (mem_preA.1 hx).2.1, hdx⟩]
          exact hSQ.el t fun j o hj _ hd => hex ⟨j, o, (mem_preQ.1 hj).1, (mem_preQ.1 hj).2.1, hd⟩
      · rw [Array.getElem?_eq_none (by rw [f2, hSQ.sz]; omega), Array.getElem?_eq_none (by rw [hI.sz]; omega)]
    have hd : ((preA all m).foldl (fun A x => A.put x.2.dst (ptrV (blk x.1))) AQ).defers = a'.defers := by rw [f1, hSQ.df, hI.df]
    cases hq : (preA all m).foldl (fun A x => A.put x.2.dst (ptrV (blk x.1))) AQ with
    | mk t1 d1 =>
      rw [hq] at ht hd
      cases a'
      simp only at ht hd
      rw [ht, hd]
  rw [hact] at hT1
  refine ops_ok hC (all := all) (w0 := w0) (r := r) (all.toList.drop m) st1 k a' w' v1 hT1 hH1' (by rw [e1, e2]; exact hden) fun st' v' a'' w'' l' => hk st' v' a'' w'' ((lQ.trans l1).trans l')

/-- How a piece of code is left. -/
inductive X where
  | n
  | ret
  | ex (id : Nat)
def X.exit : X → Exit
  | .n => .normal
  | .ret => .ret
  | .ex id => .exit id
def sxLoop (b : St → (X → St → T) → T) : Nat → St → (X → St → T) → T
  | 0, _, _ => .fail
  | n + 1, st, k => b st fun x st' => match x with
    | .n => sxLoop b n st' k
    | x => k x st'
section
variable (P : Program) (sig : Nat → Option Sig) (N : Nat)
def sx : Code → St → (X → St → T) → T
  | .skip, st, k => k .n st
  | .region _ ops false, st, k => sxOps P sig true ops ops.toList st (k .n)
  | .region _ ops true, st, k => sxDraw P sig ops st (k .n)
  | .seq a b, st, k => sx a st fun x st' => match x with
    | .n => sx b st' k
    | x => k x st'
  | .cond c a b, st, k => match rd st (.t true) c with
    | some (.s (.b (.t true))) => sx a st k
    | some (.s (.b (.t false))) => sx b st k
    | some (.s (.b e)) => fE e fun e => .ite e (sx a st k) (sx b st k)
    | _ => .fail
  | .block id body, st, k => sx body st fun x st' => match x with
    | .ex id' => if id' = id then k .n st' else k (.ex id') st'
    | x => k x st'
  | .loop body, st, k => sxLoop (sx body) N st k
  | .exit id, st, k => k (.ex id) st
  | .ret, st, k => k .ret st
  | _, _, _ => .fail
end
section
variable {P : Program} {sig : Nat → Option Sig} {C : Nat → Fn} {N : Nat} {w0 : World}
theorem sx_ok (hm : P.follows .mixedOrders = true) (hC : ∀ f s, sig f = some s → Good P (fun w => Below w0.heap.size w0 w) f s (C f)) {r} : ∀ (c : Code) (st : St) (k : X → St → T) (a : Act) (w : World) (v : Env) (Q : Exit → Act → World → Prop),
    TR v st a → HR v st.hp w0 w → (sx P sig N c st k).den C v.i v.b = some r →
    (∀ x st' v' a' w', Later v v' → TR v' st' a' → HR v' st'.hp w0 w' → (k x st').den C v'.i v'.b = some r → Q x.exit a' w') → c.wp P Q a w := by
  intro c
  induction c with
  | skip => intro st k a w v Q hT hH h hk; exact wp_skip (hk .n st v a w (Later.refl v) hT hH h)
  | exit id => intro st k a w v Q hT hH h hk; exact wp_exit (hk (.ex id) st v a w (Later.refl v) hT hH h)
  | ret => intro st k a w v Q hT hH h hk; exact wp_ret (hk .ret st v a w (Later.refl v) hT hH h)
  | region id ops draw =>
    intro st k a w v Q hT hH h hk
    cases draw
    · simp only [sx] at h
      exact wp_region_list (ops_ok hC ops.toList st (k .n) a w v hT hH h fun st' v' a' w' l => hk .n st' v' a' w' l)
    · simp only [sx] at h
      exact draw_ok hm hC st (k .n) a w v hT hH h fun st' v' a' w' l => hk .n st' v' a' w' l
  | seq x y ihx ihy =>
    intro st k a w v Q hT hH h hk
    simp only [sx] at h
    refine wp_seq (ihx st _ a w v _ hT hH h fun e st' v' a' w' l hT' hH' h' => ?_)
    cases e with
    | n => exact ihy st' k a' w' v' Q hT' hH' h' fun e st'' v'' a'' w'' l' => hk e st'' v'' a'' w'' (l.trans l')
    | ret => exact hk .ret st' v' a' w' l hT' hH' h'
    | ex id => exact hk (.ex id) st' v' a' w' l hT' hH' h'
  | cond c x y ihx ihy =>
    intro st k a w v Q hT hH h hk
    simp only [sx] at h
    have hrd := fun s (hs : rd st (.t true) c = some s) => rd_ok hT (GT.t v) hs v (Later.refl v)
    split at h
    · rename_i hc
      exact wp_cond_true (hrd _ hc) (ihx st k a w v Q hT hH h hk)
    · rename_i hc
      exact wp_cond_false (hrd _ hc) (ihy st k a w v Q hT hH h hk)
    · rename_i e _ _ hc
      simp only [fE_eq, T.den, cond_eq_ite] at h
      refine wp_cond_split (hrd _ hc) (fun ht => ?_) (fun hf => ?_)
      · rw [if_pos ht] at h
        exact ihx st k a w v Q hT hH h hk
      · rw [if_neg (by simp [hf])] at h
        exact ihy st k a w v Q hT hH h hk
    · cases h
  | block id body ih =>
    intro st k a w v Q hT hH h hk
    simp only [sx] at h
    refine wp_block (ih st _ a w v _ hT hH h fun e st' v' a' w' l hT' hH' h' => ?_)
    cases e with
    | n => exact hk .n st' v' a' w' l hT' hH' h'
    | ret => exact hk .ret st' v' a' w' l hT' hH' h'
    | ex id' =>
      simp only [X.exit, Exit.inBlock]
      simp only at h'
      split at h'
      · rename_i e; rw [if_pos e]; exact hk .n st' v' a' w' l hT' hH' h'
      · rename_i e; rw [if_neg e]; exact hk (.ex id') st' v' a' w' l hT' hH' h'
  | loop body ih =>
    intro st k a w v Q hT hH h hk
    simp only [sx] at h
    refine wp_loop_rounds N ?_
    have key : ∀ n st a w v, TR v st a → HR v st.hp w0 w → (sxLoop (sx P sig N body) n st k).den C v.i v.b = some r →
        (∀ x st' v' a' w', Later v v' → TR v' st' a' → HR v' st'.hp w0 w' → (k x st').den C v'.i v'.b = some r → Q x.exit a' w') → Code.rounds P body Q n a w := by
      intro n
      induction n with
      | zero => intro st a w v _ _ h _; cases h
      | succ n ihn =>
        intro st a w v hT hH h hk
        rw [rounds_succ]
        simp only [sxLoop] at h
        refine ih st _ a w v _ hT hH h fun e st' v' a' w' l hT' hH' h' => ?_
        cases e with
        | n => exact ihn st' a' w' v' hT' hH' h' fun e st'' v'' a'' w'' l' => hk e st'' v'' a'' w'' (l.trans l')
        | ret => exact hk .ret st' v' a' w' l hT' hH' h'
        | ex id => exact hk (.ex id) st' v' a' w' l hT' hH' h'
    exact key N st a w v hT hH h hk
  | _ => intro st k a w v Q hT hH h hk; cases h
end

def resS (P : Program) (st : St) : List ResultVar → Option (List S1)
  | [] => some []
  | .tmp t :: r => match st.get t, resS P st r with
    | .o v, some l => some (v :: l)
    | _, _ => none
  | .cell t ty :: r => match st.get t, resS P st r with
    | .o (.s (.p b o)), some l => match loadS P st.hp ty (.s (.p b o)) with
      | some v => some (v :: l)
      | none => none
    | _, _ => none
def resM (tm : Array Value) (x : ResultVar) : Sem Value :=
  match x with
  | .tmp t => pure (tm.getD t undef)
  | .cell a t => do loadVar t (← asAddr (tm.getD a undef))
theorem results_eq (fn : Func) (tm : Array Value) : results fn tm = (do
    let vs ← fn.results.mapM (resM tm)
    pure (if h : vs.size = 1 then vs[0] else .tuple vs)) := by
  unfold results
  congr 1
def setAll : List S1 → Nat → Tr → Tr
  | [], _, tr => tr
  | x :: l, i, tr => setAll l (i + 1) (tr.set i (.o x))
def initSt (fn : Func) (s : Sig) : St :=
  { tm := setAll (newS s.a 0 0) 0 (Tr.full (Nat.log2 fn.ntmps + 1)), n := s.a.length + (fn.ntmps - s.a.length), hp := [], nI := cntIs s.a, nB := cntBs s.a }
theorem setAll_ex : ∀ (l : List S1) (i : Nat) (tr : Tr) (t : Nat), (setAll l i tr).ex t = tr.ex t
  | [], _, _, _ => rfl
  | x :: l, i, tr, t => by simp only [setAll, setAll_ex l, Tr.ex_set]
theorem setAll_get : ∀ (l : List S1) (i : Nat) (tr : Tr), (∀ t, i ≤ t → t < i + l.length → tr.ex t = true) → ∀ t, (setAll l i tr).get t = if h : i ≤ t ∧ t - i < l.length then .o (l[t - i]'h.2) else tr.get t
  | [], i, tr, _, t => by simp [setAll]
  | x :: l, i, tr, hex, t => by
    simp only [setAll]
    rw [setAll_get l (i + 1) _ (fun t h1 h2 => by rw [Tr.ex_set]; exact hex t (by omega) (by simp; omega))]
    have hi := hex i (Nat.le_refl _) (by simp)
    by_cases e : t = i
    · subst e
      rw [dif_neg (by omega), Tr.get_set _ _ _ _ hi, if_pos rfl, dif_pos ⟨Nat.le_refl _, by simp⟩]
      simp
    · by_cases h : i + 1 ≤ t ∧ t - (i + 1) < l.length
      · rw [dif_pos h, dif_pos ⟨by omega, by simp; omega⟩]
        have : t - i = (t - (i + 1)) + 1 := by omega
        simp only [this, List.getElem_cons_succ]
      · rw [dif_neg h, Tr.get_set _ _ _ _ hi, if_neg e, dif_neg (by simp; omega)]
/-- What stands in a slice that is handed back. -/
def slOf (k : IntKind) (hp : List (List Sc)) : S1 → Option (Nat × E × E)
  | .s .nls => some (0, .n 0, .n 0)
  | .s (.sl b 0 1 1) => match hp[b]? with
    | some [.i k' x] => if k' = k then some (1, x, .n 0) else none
    | _ => none
  | .s (.sl b 0 2 2) => match hp[b]? with
    | some [.i k' x, .i k'' y] => if k' = k ∧ k'' = k then some (2, x, y) else none
    | _ => none
  | _ => none
def finS (P : Program) (fn : Func) (s : Sig) (x : X) (st : St) : T :=
  match x with
  | .ex _ => .fail
  | _ => match resS P st fn.results.toList with
    | some l => match s.sl with
      | none => fS1s l fun l => if fits s.r l then .ret (ints l) (bools l) else .fail
      | some (k, rest) => match l with
        | x :: y :: l => match slOf k st.hp x with
          | some (n, e0, e1) => fN n fun n => fE e0 fun e0 => fE e1 fun e1 => fS1s (y :: l) fun l => if fits rest l then .ret (.n (n : Int) :: e0 :: e1 :: ints l) (bools l) else .fail
          | none => .fail
        | _ => .fail
    | none => .fail
theorem slOf_ok {k : IntKind} {hp : List (List Sc)} {x : S1} {n : Nat} {e0 e1 : E} (h : slOf k hp x = some (n, e0, e1)) {v : Env} {w w' : World} (hH : HR v hp w w') :
    SlV k n (e0.I v.i v.b) (e1.I v.i v.b) w w' (x.den v) := by
  unfold slOf at h
  split at h
  · cases h; exact .inl ⟨rfl, rfl⟩
  · rename_i b
    split at h
    · rename_i k' x hb
      split at h
      · rename_i hk
        cases h
        subst hk
        obtain ⟨el, e⟩ := hH.blk v (Later.refl v) b _ hb
        have hlt : b < v.p.length := by rw [hH.ln]; exact (List.getElem?_eq_some_iff.1 hb).1
        refine .inr ⟨v.p.getD b 0, el, hH.ge _ ?_, .inl ⟨rfl, rfl, e⟩⟩
        rw [List.getD_eq_getElem?_getD, List.getElem?_eq_getElem hlt]; exact List.getElem_mem hlt
      · cases h
    · cases h
  · rename_i b
    split at h
    · rename_i k' x k'' y hb
      split at h
      · rename_i hk
        cases h
        obtain ⟨rfl, rfl⟩ := hk
        obtain ⟨el, e⟩ := hH.blk v (Later.refl v) b _ hb
        have hlt : b < v.p.length := by rw [hH.ln]; exact (List.getElem?_eq_some_iff.1 hb).1
        refine .inr ⟨v.p.getD b 0, el, hH.ge _ ?_, .inr ⟨rfl, rfl, e⟩⟩
        rw [List.getD_eq_getElem?_getD, List.getElem?_eq_getElem hlt]; exact List.getElem_mem hlt
      · cases h
    · cases h
  · cases h
def setAllF {α : Type} : List S1 → Nat → Tr → (Tr → α) → α
  | [], _, tr, f => f tr
  | x :: l, i, tr, f => fS1 x fun x => setF tr i (.o x) fun tr => fN (i + 1) fun i => setAllF l i tr f
theorem setAllF_eq {α : Type} : ∀ (l : List S1) (i : Nat) (tr : Tr) (f : Tr → α), setAllF l i tr f = f (setAll l i tr)
  | [], _, _, _ => rfl
  | x :: l, i, tr, f => by simp only [setAllF, fS1_eq, setF_eq, fN_eq, setAllF_eq l, setAll]
/-- The tree of a function. -/
def sxFn (P : Program) (sig : Nat → Option Sig) (N : Nat) (fn : Func) (c : Code) (s : Sig) : T :=
  setAllF (newS s.a 0 0) 0 (Tr.full (Nat.log2 fn.ntmps + 1)) fun tm => fN (s.a.length + (fn.ntmps - s.a.length)) fun n => fN (cntIs s.a) fun i => fN (cntBs s.a) fun b =>
    match (List.range n).all tm.ex with
    | true => sx P sig N c ⟨tm, n, [], i, b⟩ (finS P fn s)
    | false => .fail
theorem sxFn_eq {P : Program} {sig : Nat → Option Sig} {C : Nat → Fn} {N : Nat} {fn : Func} {c : Code} {s : Sig} {is bs r} (h : (sxFn P sig N fn c s).den C is bs = some r) :
    (sx P sig N c (initSt fn s) (finS P fn s)).den C is bs = some r ∧ ∀ t, t < (initSt fn s).n → (initSt fn s).tm.ex t = true := by
  simp only [sxFn, setAllF_eq, fN_eq] at h
  split at h
  · rename_i hx
    rw [List.all_eq_true] at hx
    exact ⟨h, fun t ht => hx t (List.mem_range.2 ht)⟩
  · cases h
section
variable {P : Program} {I : World → Prop}
theorem resS_ok {st : St} {v : Env} {a : Act} {w0 w : World} (hT : TR v st a) (hH : HR v st.hp w0 w) : ∀ (rs : List ResultVar) (l : List S1), resS P st rs = some l →
    (rs.mapM (resM a.tmps)).run P w = .ok (l.map (S1.den v)) w
  | [], l, h => by simp only [resS, Option.some.injEq] at h; subst h; rfl
  | .tmp t :: r, l, h => by
    simp only [resS] at h
    split at h
    · rename_i x l' hx hl
      cases h
      have e : a.tmps.getD t undef = x.den v := by rw [hT.get (Later.refl v) t, hx]; rfl
      simp only [List.mapM_cons, resM, Sem.run_bind, Sem.run_pure, Result.andThen_ok, resS_ok hT hH r l' hl, List.map_cons, e]
    · cases h
  | .cell t ty :: r, l, h => by
    simp only [resS] at h
    split at h
    · rename_i b o l' hx hl
      split at h
      · rename_i x hx2
        cases h
        have e : a.tmps.getD t undef = .pointer (some ⟨v.p.getD b 0, o, none⟩) := by rw [hT.get (Later.refl v) t, hx]; rfl
        have hl2 : (loadVar ty ⟨v.p.getD b 0, o, none⟩).run P w = .ok (x.den v) w := by
          have := loadS_ok hx2 hH (Later.refl v)
          simpa only [S1.den, Sc.den, Instr.loadAt, Instr.sureAddr, Sem.run_bind, Sem.run_pure, Result.andThen_ok] using this
        simp only [List.mapM_cons, resM, Sem.run_bind, Sem.run_pure, Result.andThen_ok, resS_ok hT hH r l' hl, List.map_cons, e, asAddr, hl2]
      · cases h
    · cases h
theorem results_ok {fn : Func} {st : St} {v : Env} {a : Act} {w0 w : World} (hT : TR v st a) (hH : HR v st.hp w0 w) {l : List S1} (h : resS P st fn.results.toList = some l) :
    (results fn a.tmps).run P w = .ok (match l.map (S1.den v) with | [x] => x | l => .tuple l.toArray) w := by
  have hr := resS_ok hT hH _ _ h
  rw [results_eq, Array.mapM_eq_mapM_toList]
  simp only [Sem.run_bind, Sem.run_map, hr, Result.andThen_ok, Sem.run_pure]
  congr 1
  match l.map (S1.den v) with
  | [] => rfl
  | [x] => rfl
  | x :: y :: r => simp
/-- Who the program is, and that its order is drawn as it is thought. -/
theorem good_of_sx {sig : Nat → Option Sig} {C : Nat → Fn} (hm : P.follows .mixedOrders = true) (hI : ∀ w0 w, I w0 → Below w0.heap.size w0 w → I w) (hC : ∀ f s, sig f = some s → Good P I f s (C f)) {f : Nat} {fn : Func} {c : Code} {s : Sig} (N : Nat)
    (hf : P.funcs[f]? = some fn) (hb : fn.body = some c) (hn : (fn.name == "runtime.NumGoroutine") = false) (F : Fn) (t : T) (ht : sxFn P sig N fn c s = t)
    (hF : ∀ is bs r, F is bs = some r → is.length = cntIs s.a ∧ bs.length = cntBs s.a ∧ t.den C is bs = some r) : Good P I f s F := by
  intro is bs is' bs' hres w hIw
  obtain ⟨hi, hbl, hd⟩ := hF is bs _ hres
  rw [← ht] at hd
  obtain ⟨hd, hex⟩ := sxFn_eq hd
  have hn' : ¬ fn.name = "runtime.NumGoroutine" := by simpa using hn
  have hent : ∀ args, (callFunc f args).run P w = .ok (.enter f args) w := fun args => by simp [callFunc, hf, hn', hb]
  have hargs : (newS s.a 0 0).map (S1.den ⟨[], is, bs⟩) = mkV s.a is bs := by rw [newS_ok]; rfl
  have hlen : (mkV s.a is bs).length = s.a.length := by
    have : ∀ (r : List Sh) i j, (newS r i j).length = r.length := by
      intro r
      induction r with
      | nil => intros; rfl
      | cons x r ih => intros; simp [newS, ih]
    rw [← hargs, List.length_map, this]
  have hT : TR ⟨[], is, bs⟩ (initSt fn s) { tmps := (mkV s.a is bs).toArray ++ Array.replicate (fn.ntmps - (mkV s.a is bs).toArray.size) undef, defers := [] } := by
    refine ⟨fun v' l t => ?_, rfl, hi, hbl, hex⟩
    obtain ⟨p, i, b, rfl⟩ := l
    have e : (newS s.a 0 0).map (S1.den ⟨[] ++ p, is ++ i, bs ++ b⟩) = mkV s.a is bs := by
      rw [newS_ok]
      exact mkV_app s.a is i bs b (by omega) (by omega)
    have hl0 : (newS s.a 0 0).length = s.a.length := by rw [← hlen, ← hargs, List.length_map]
    by_cases ht : t < (initSt fn s).n
    · rw [St.get?_lt ht]
      have hn : (initSt fn s).n = s.a.length + (fn.ntmps - s.a.length) := rfl
      have hg : (initSt fn s).tm.get t = if h : 0 ≤ t ∧ t - 0 < (newS s.a 0 0).length then .o ((newS s.a 0 0)[t - 0]'h.2) else .u := by
        show (setAll (newS s.a 0 0) 0 (Tr.full (Nat.log2 fn.ntmps + 1))).get t = _
        rw [setAll_get _ _ _ (fun t _ h2 => by
          have := hex t (by rw [hn]; omega)
          rwa [show (initSt fn s).tm = setAll (newS s.a 0 0) 0 (Tr.full (Nat.log2 fn.ntmps + 1)) from rfl, setAll_ex] at this)]
        simp only [Tr.get_full]
      rw [hg, List.size_toArray, hlen]
      by_cases h2 : t < s.a.length
      · rw [dif_pos ⟨Nat.zero_le _, by rw [hl0]; simpa using h2⟩, Array.getElem?_append_left (by simpa [hlen] using h2)]
        simp only [List.getElem?_toArray, Option.map_some]
        rw [← e, List.getElem?_map, List.getElem?_eq_getElem (by rw [hl0]; exact h2)]
        rfl
      · rw [dif_neg (by rw [hl0]; simp; omega), Array.getElem?_append_right (by simp [hlen]; omega)]
        simp only [List.size_toArray, hlen, Array.getElem?_replicate]
        rw [if_pos (by omega)]; rfl
    · rw [St.get?_ge ht, Array.getElem?_eq_none]
      · rfl
      · have hn : (initSt fn s).n = s.a.length + (fn.ntmps - s.a.length) := rfl
        rw [hn] at ht
        simp [hlen]; omega
  have hH : HR ⟨[], is, bs⟩ (initSt fn s).hp w w := ⟨rfl, List.nodup_nil, fun _ _ i cs h => by simp [initSt] at h, fun n h => by simp at h, Below.refl _ _⟩
  have hgood : ∀ f s, sig f = some s → Good P (fun w' => Below w.heap.size w w') f s (C f) := fun f s hs is bs is' bs' h w' hb => hC f s hs is bs is' bs' h w' (hI _ _ hIw hb)
  have fin : ∀ (R : Ending → World → Prop), (∀ st' v' a' w', TR v' st' a' → HR v' st'.hp w w' → (finS P fn s .n st').den C v'.i v'.b = some (is', bs') → a'.defers = [] ∧ ∃ u, (results fn a'.tmps).run P w' = .ok u w' ∧ R (.returned u) w') →
      Calls P f (mkV s.a is bs).toArray w R := by
    intro R key
    refine calls_of_wp hf hb ?_
    refine sx_ok (w0 := w) hm hgood c _ _ _ w _ _ hT hH hd fun x st' v' a' w' l hT' hH' h => ?_
    cases x with
    | n => exact key st' v' a' w' hT' hH' h
    | ret => exact key st' v' a' w' hT' hH' h
    | ex id => cases h
  split
  · rename_i hsl
    refine .inl ⟨hent _, fin _ fun st' v' a' w' hT' hH' h => ?_⟩
    simp only [finS, fS1s_eq, hsl] at h
    split at h
    · rename_i l hl
      split at h
      · rename_i hfit
        simp only [T.den, Option.some.injEq, Prod.mk.injEq] at h
        refine ⟨hT'.df, _, results_ok hT' hH' hl, ?_, hH'.bel⟩
        unfold mkR
        rw [(fits_ok v' s.r l hfit).1, h.1, h.2]
        try rfl
      · cases h
    · cases h
  · rename_i k rest hsl
    refine ⟨hent _, fin _ fun st' v' a' w' hT' hH' h => ?_⟩
    simp only [finS, fS1s_eq, fN_eq, fE_eq, hsl] at h
    split at h
    · rename_i l hl
      split at h
      · rename_i x y l' 
        split at h
        · rename_i n e0 e1 hs
          split at h
          · rename_i hfit
            simp only [T.den, Option.some.injEq, Prod.mk.injEq, List.map_cons] at h
            obtain ⟨h1, h2⟩ := h
            refine ⟨hT'.df, _, results_ok hT' hH' hl, hH'.bel, x.den v', ?_, ?_⟩
            · simp only [List.map_cons]
              have := (fits_ok v' rest (y :: l') hfit).1
              simp only [List.map_cons] at this
              rw [this, ← h1, ← h2]
              rfl
            · rw [← h1]; exact slOf_ok hs hH'
          · cases h
        · cases h
      · cases h
    · cases h
end
/-- A table of functions of which something is known. -/
structure Ent where
  f : Nat
  s : Sig
  F : Fn
abbrev Tab := List Ent
def Tab.sig : Tab → Nat → Option Sig
  | [], _ => none
  | e :: r, f => match Nat.beq e.f f with
    | true => some e.s
    | false => Tab.sig r f
def Tab.fn : Tab → Nat → Fn
  | [], _ => fun _ _ => none
  | e :: r, f => match Nat.beq e.f f with
    | true => e.F
    | false => Tab.fn r f
inductive Tab.Good (P : Program) (I : World → Prop) : Tab → Prop
  | nil : Tab.Good P I []
  | cons {e : Ent} {r : Tab} (h : Sx.Good P I e.f e.s e.F) (t : Tab.Good P I r) : Tab.Good P I (e :: r)
theorem Tab.Good.get {P : Program} {I : World → Prop} {t : Tab} (h : t.Good P I) : ∀ f s, t.sig f = some s → Sx.Good P I f s (t.fn f) := by
  induction h with
  | nil => intro f s h; cases h
  | cons he _ ih =>
    intro f s hs
    unfold Tab.sig at hs
    unfold Tab.fn
    cases hb : Nat.beq _ f
    · rw [hb] at hs
      exact ih f s hs
    · rw [hb] at hs
      cases hs
      rw [← Nat.eq_of_beq_eq_true hb]
      exact he
theorem good_of_tab {P : Program} {I : World → Prop} {tab : Tab} (hm : P.follows .mixedOrders = true) (hI : ∀ w0 w, I w0 → Below w0.heap.size w0 w → I w) (ht : tab.Good P I) {f : Nat} {fn : Func} {c : Code} {s : Sig} (N : Nat) (hf : P.funcs[f]? = some fn) (hb : fn.body = some c)
    (hn : (fn.name == "runtime.NumGoroutine") = false) {F : Fn} {t : T} (hx : sxFn P tab.sig N fn c s = t) (hF : ∀ is bs r, F is bs = some r → is.length = cntIs s.a ∧ bs.length = cntBs s.a ∧ t.den tab.fn is bs = some r) : Sx.Good P I f s F :=
  good_of_sx hm hI ht.get N hf hb hn F t hx hF
/-- What a tree tells, of as many numbers and bools. -/
def Fd (n m : Nat) (t : T) (C : Nat → Fn) : Fn := fun is bs =>
  match Nat.beq is.length n, Nat.beq bs.length m with
  | true, true => t.den C is bs
  | _, _ => none
theorem Fd_ok {n m : Nat} {t : T} {C : Nat → Fn} {is bs r} (h : Fd n m t C is bs = some r) : is.length = n ∧ bs.length = m ∧ t.den C is bs = some r := by
  unfold Fd at h
  split at h
  · rename_i h1 h2
    exact ⟨Nat.eq_of_beq_eq_true h1, Nat.eq_of_beq_eq_true h2, h⟩
  · cases h
theorem good_of_tree {P : Program} {I : World → Prop} {tab : Tab} (hm : P.follows .mixedOrders = true) (hI : ∀ w0 w, I w0 → Below w0.heap.size w0 w → I w) (ht : tab.Good P I) {f : Nat} {fn : Func} {c : Code} {s : Sig} (N : Nat) (hf : P.funcs[f]? = some fn) (hb : fn.body = some c)
    (hn : (fn.name == "runtime.NumGoroutine") = false) {t : T} (hx : sxFn P tab.sig N fn c s = t) {n m : Nat} (h1 : n = cntIs s.a) (h2 : m = cntBs s.a) : Sx.Good P I f s (Fd n m t tab.fn) :=
  good_of_tab hm hI ht N hf hb hn hx fun is bs r h => by
    obtain ⟨e1, e2, e3⟩ := Fd_ok h
    exact ⟨e1.trans h1, e2.trans h2, e3⟩
theorem Tab.fn_hd {e : Ent} {r : Tab} : Tab.fn (e :: r) e.f = e.F := by
  unfold Tab.fn
  rw [Nat.beq_refl]
theorem Tab.fn_tl {e : Ent} {r : Tab} {f : Nat} (h : Nat.beq e.f f = false) : Tab.fn (e :: r) f = Tab.fn r f := by
  rw [Tab.fn]
  rw [h]
theorem Fd_of {n m : Nat} {t : T} {C : Nat → Fn} {is : List Int} {bs : List Bool} (h1 : is.length = n) (h2 : bs.length = m) : Fd n m t C is bs = t.den C is bs := by
  unfold Fd
  rw [h1, h2, Nat.beq_refl, Nat.beq_refl]
/-! A tree, step for step. -/
section
variable {C : Nat → Sx.Fn} {is : List Int} {bs : List Bool} {r : Option (List Int × List Bool)}
theorem st_call {G : E} {f : Nat} {ii bb : List E} {ni nb : Nat} {k : T} (is' : List Int) (bs' : List Bool) (h : (bif G.B is bs then C f (ii.map (E.I is bs)) (bb.map (E.B is bs)) else some (List.replicate ni 0, List.replicate nb false)) = some (is', bs'))
    (h1 : is'.length = ni) (h2 : bs'.length = nb) (hk : k.den C (is ++ is') (bs ++ bs') = r) : (T.call G f ii bb ni nb k).den C is bs = r := by
  simp only [T.den]
  rw [h]
  simp only [h1, h2, and_self, if_true]
  exact hk
theorem st_lb {e : E} {k : T} (h : ∀ b, b = e.B is bs → k.den C is (bs ++ [b]) = r) : (T.lb e k).den C is bs = r := h _ rfl
theorem st_li {e : E} {k : T} (h : ∀ i, i = e.I is bs → k.den C (is ++ [i]) bs = r) : (T.li e k).den C is bs = r := h _ rfl
theorem st_rq {e : E} {k : T} (h : e.B is bs = true) (hk : k.den C is bs = r) : (T.rq e k).den C is bs = r := by
  simp only [T.den, h, cond_true]; exact hk
theorem st_ite {e : E} {a b : T} (h1 : e.B is bs = true → a.den C is bs = r) (h2 : e.B is bs = false → b.den C is bs = r) : (T.ite e a b).den C is bs = r := by
  simp only [T.den]
  cases h : e.B is bs
  · exact h2 h
  · exact h1 h
theorem st_itt {e : E} {a b : T} (h1 : e.B is bs = true) (h2 : a.den C is bs = r) : (T.ite e a b).den C is bs = r := by
  simp only [T.den, h1, cond_true]; exact h2
theorem st_itf {e : E} {a b : T} (h1 : e.B is bs = false) (h2 : b.den C is bs = r) : (T.ite e a b).den C is bs = r := by
  simp only [T.den, h1, cond_false]; exact h2
theorem st_lic {e : E} {k : T} {i : Int} (h : e.I is bs = i) (hk : k.den C (is ++ [i]) bs = r) : (T.li e k).den C is bs = r := by subst h; exact hk
theorem st_lbc {e : E} {k : T} {b : Bool} (h : e.B is bs = b) (hk : k.den C is (bs ++ [b]) = r) : (T.lb e k).den C is bs = r := by subst h; exact hk
theorem st_ret {ii bb : List E} (h : some (ii.map (E.I is bs), bb.map (E.B is bs)) = r) : (T.ret ii bb).den C is bs = r := h
/-- A call that is made whatever the test says, as it may be. -/
theorem cl_b {g : Bool} {x : Option (List Int × List Bool)} {b : Bool} (h : x = some ([], [b])) : (bif g then x else some (List.replicate 0 0, List.replicate 1 false)) = some ([], [g && b]) := by
  subst h; cases g <;> rfl
theorem cl_t {x : Option (List Int × List Bool)} {ni nb : Nat} {y} (h : x = y) : (bif true then x else some (List.replicate ni 0, List.replicate nb false)) = y := h
theorem cl_2 {g : Bool} {x : Option (List Int × List Bool)} {i j : Int} (h : x = some ([i, j], [])) : (bif g then x else some (List.replicate 2 0, List.replicate 0 false)) = some ([bif g then i else 0, bif g then j else 0], []) := by
  subst h; cases g <;> rfl
theorem cl_1 {g : Bool} {x : Option (List Int × List Bool)} {i : Int} (h : x = some ([i], [])) : (bif g then x else some (List.replicate 1 0, List.replicate 0 false)) = some ([bif g then i else 0], []) := by
  subst h; cases g <;> rfl
theorem cl_4 {g : Bool} {x : Option (List Int × List Bool)} {i j k l : Int} (h : x = some ([i, j, k, l], [])) : (bif g then x else some (List.replicate 4 0, List.replicate 0 false)) = some ([bif g then i else 0, bif g then j else 0, bif g then k else 0, bif g then l else 0], []) := by
  subst h; cases g <;> rfl
/-- A call that is made under a test: what it answers is asked under the test alone. -/
theorem cl_g {g : Bool} {x : Option (List Int × List Bool)} {ni nb : Nat} {is' : List Int} {bs' : List Bool} (h : g = true → x = some (is', bs')) (h0 : g = false → is' = List.replicate ni 0 ∧ bs' = List.replicate nb false) :
    (bif g then x else some (List.replicate ni 0, List.replicate nb false)) = some (is', bs') := by
  cases g
  · obtain ⟨rfl, rfl⟩ := h0 rfl; rfl
  · exact h rfl
end
/-- What stands at the end: a call of a law. -/
theorem Good.calls {P : Program} {I : World → Prop} {f : Nat} {s : Sig} {F : Fn} (h : Sx.Good P I f s F) {fn : Func} (hf : P.funcs[f]? = some fn) (hb : fn.body.isSome = true) (hn : (fn.name == "runtime.NumGoroutine") = false)
    (hsl : s.sl = none) {is bs is' bs'} (hF : F is bs = some (is', bs')) (w : World) (hw : I w) :
    Calls P f (mkV s.a is bs).toArray w fun e w' => e = .returned (mkR s.r is' bs') ∧ Below w.heap.size w w' := by
  rcases h.plain hsl hF hw with ⟨_, h⟩ | h
  · exact h
  · obtain ⟨c, hc⟩ := Option.isSome_iff_exists.1 hb
    have hn' : ¬ fn.name = "runtime.NumGoroutine" := by simpa using hn
    simp [callFunc, hf, hn', hc] at h
end Go.Proofs.YtghekmcdokgkkaaDoor.Sx
