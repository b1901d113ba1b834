/-
  Symbolic execution of Go functions over whole numbers, bools, strings, slices and structs of them, part 1: a tree of tests is reckoned out of a function's code, and the code is carried out as the tree tells, whatever the world is and whatever order is drawn.
-/
import Derived.Deep.Quiet
import Derived.Deep.MidRow
import Derived.Laws.Tables
import Derived.Laws.StructEq
import Derived.Laws.Small
import Derived.LoopN
import Derived.Below
import Derived.ChangeAlike
import Derived.Lib.AppendZerosOnto
import Derived.Laws.OwnMore
import Derived.BigFrame
import Derived.Laws.CopyRow
import Derived.Laws.CopyOwn
import Derived.Laws.Unary
import Derived.Laws.BytesArg
import Derived.Laws.Concat
import Derived.Laws.Slices
import Derived.Laws.Strings2
namespace Go.Proofs.YtghekmcdokgkkaaDoor.Vx
open Go.RowKit (Below)
set_option linter.all false


/-- Plain data: a number, a bool, what a slice or a string holds, the cells of an element of several cells. -/
inductive D where
  | i (n : Int)
  | b (x : Bool)
  | l (xs : List D)
  | st (xs : List D)
instance : Inhabited D := ⟨.i 0⟩
def D.cell : D → Nat → D
  | .st xs, j => xs.getD j (.i 0)
  | d, _ => d
def D.int : D → Int
  | .i n => n
  | _ => 0
def D.bool : D → Bool
  | .b x => x
  | _ => false
def D.list : D → List D
  | .l xs => xs
  | _ => []
mutual
def D.same : D → D → Bool
  | .i n, .i m => n == m
  | .b x, .b y => x == y
  | .l xs, .l ys => D.sameL xs ys
  | .st xs, .st ys => D.sameL xs ys
  | _, _ => false
def D.sameL : List D → List D → Bool
  | [], [] => true
  | x :: xs, y :: ys => D.same x y && D.sameL xs ys
  | _, _ => false
end
mutual
theorem D.same_eq : ∀ {x y : D}, D.same x y = true → x = y
  | .i n, y, h => by cases y <;> simp [D.same] at h; rw [h]
  | .b n, y, h => by cases y <;> simp [D.same] at h; rw [h]
  | .l xs, y, h => by
    cases y <;> simp only [D.same, Bool.false_eq_true] at h
    rw [D.sameL_eq h]
  | .st xs, y, h => by
    cases y <;> simp only [D.same, Bool.false_eq_true] at h
    rw [D.sameL_eq h]
theorem D.sameL_eq : ∀ {xs ys : List D}, D.sameL xs ys = true → xs = ys
  | [], [], _ => rfl
  | [], _ :: _, h => by simp [D.sameL] at h
  | _ :: _, [], h => by simp [D.sameL] at h
  | x :: xs, y :: ys, h => by
    simp only [D.sameL, Bool.and_eq_true] at h
    rw [D.same_eq h.1, D.sameL_eq h.2]
end
mutual
theorem D.same_refl : ∀ x : D, D.same x x = true
  | .i n => by simp [D.same]
  | .b n => by simp [D.same]
  | .l xs => by simp only [D.same]; exact D.sameL_refl xs
  | .st xs => by simp only [D.same]; exact D.sameL_refl xs
theorem D.sameL_refl : ∀ xs : List D, D.sameL xs xs = true
  | [] => rfl
  | x :: xs => by simp only [D.sameL, Bool.and_eq_true]; exact ⟨D.same_refl x, D.sameL_refl xs⟩
end
theorem D.sameL_iff {xs ys : List D} : D.sameL xs ys = true ↔ xs = ys := ⟨D.sameL_eq, fun h => h ▸ D.sameL_refl xs⟩
abbrev LL := List (List D)
/-- All are bytes. -/
def D.bytesB : List D → Bool
  | [] => true
  | .i n :: r => decide (0 ≤ n ∧ n < 256) && D.bytesB r
  | _ => false
/-- Expressions: whole numbers and bools. -/
inductive E where
  | iv (i : Nat)
  | bv (i : Nat)
  | n (k : Int)
  | t (v : Bool)
  | ar (op : BinOp) (k : IntKind) (x y : E)
  | cv (k : IntKind) (x : E)
  | mn (x y : E)
  | mx (x y : E)
  | cm (op : BinOp) (x y : E)
  | nt (x : E)
  | an (x y : E)
  | oo (x y : E)
  | be (x y : E)
  | bi (c x y : E)
  | ii (c x y : E)
  | tb (l : List Nat) (x : E)
  | ln (c : Nat)
  | ix (c : Nat) (x : E) (j : Nat)
  | bx (c : Nat) (x : E) (j : Nat)
  | lq (c d : Nat)
  | by_ (c : Nat)
  | lc (c : Nat) (l : List Nat)

def arI (op : BinOp) (k : IntKind) (a b : Int) : Int :=
  match op with
  | .add => k.wrap (a + b)
  | .sub => k.wrap (a - b)
  | .mul => k.wrap (a * b)
  | .and => bits .and k a b
  | .or => bits .or k a b
  | .xor => bits .xor k a b
  | .andNot => bits .andNot k a b
  | .quo => k.wrap (a.tdiv b)
  | .rem => a.tmod b
  | .shl => k.wrap (a * 2 ^ (min b.toNat k.bits))
  | .shr => a.fdiv (2 ^ (min b.toNat k.bits))
  | _ => 0
def cmB (op : BinOp) (a b : Int) : Bool :=
  match op with
  | .eql => a == b
  | .neq => a != b
  | .lss => decide (a < b)
  | .leq => decide (a ≤ b)
  | .gtr => decide (a > b)
  | .geq => decide (a ≥ b)
  | _ => false

mutual
def E.I (is : List Int) (bs : List Bool) (ls : LL) : E → Int
  | .iv i => is.getD i 0
  | .n k => k
  | .ar op k x y => arI op k (x.I is bs ls) (y.I is bs ls)
  | .cv k x => k.wrap (x.I is bs ls)
  | .mn x y => if y.I is bs ls < x.I is bs ls then y.I is bs ls else x.I is bs ls
  | .mx x y => if y.I is bs ls > x.I is bs ls then y.I is bs ls else x.I is bs ls
  | .ii c x y => bif c.B is bs ls then x.I is bs ls else y.I is bs ls
  | .tb l x => ((l.getD (x.I is bs ls).toNat 0 : Nat) : Int)
  | .ln c => ((ls.getD c []).length : Int)
  | .ix c x j => (((ls.getD c []).getD (x.I is bs ls).toNat (.i 0)).cell j).int
  | _ => 0
def E.B (is : List Int) (bs : List Bool) (ls : LL) : E → Bool
  | .bv i => bs.getD i false
  | .t v => v
  | .cm op x y => cmB op (x.I is bs ls) (y.I is bs ls)
  | .nt x => !(x.B is bs ls)
  | .an x y => x.B is bs ls && y.B is bs ls
  | .oo x y => x.B is bs ls || y.B is bs ls
  | .be x y => x.B is bs ls == y.B is bs ls
  | .bi c x y => bif c.B is bs ls then x.B is bs ls else y.B is bs ls
  | .bx c x j => (((ls.getD c []).getD (x.I is bs ls).toNat (.i 0)).cell j).bool
  | .lq c d => D.sameL (ls.getD c []) (ls.getD d [])
  | .by_ c => D.bytesB (ls.getD c [])
  | .lc c l => D.sameL (ls.getD c []) (l.map fun (n : Nat) => D.i (n : Int))
  | _ => false
end

/-- One and the same text. -/
def E.same : E → E → Bool
  | .iv i, .iv j => i == j
  | .bv i, .bv j => i == j
  | .n i, .n j => i == j
  | .t i, .t j => i == j
  | .ar o k x y, .ar o' k' x' y' => decide (o = o') && decide (k = k') && x.same x' && y.same y'
  | .cv k x, .cv k' x' => decide (k = k') && x.same x'
  | .mn x y, .mn x' y' => x.same x' && y.same y'
  | .mx x y, .mx x' y' => x.same x' && y.same y'
  | .cm o x y, .cm o' x' y' => decide (o = o') && x.same x' && y.same y'
  | .nt x, .nt x' => x.same x'
  | .an x y, .an x' y' => x.same x' && y.same y'
  | .oo x y, .oo x' y' => x.same x' && y.same y'
  | .be x y, .be x' y' => x.same x' && y.same y'
  | .bi c x y, .bi c' x' y' => c.same c' && x.same x' && y.same y'
  | .ii c x y, .ii c' x' y' => c.same c' && x.same x' && y.same y'
  | .tb l x, .tb l' x' => decide (l = l') && x.same x'
  | .ln c, .ln c' => c == c'
  | .ix c x j, .ix c' x' j' => c == c' && j == j' && x.same x'
  | .bx c x j, .bx c' x' j' => c == c' && j == j' && x.same x'
  | .lq c d, .lq c' d' => c == c' && d == d'
  | .by_ c, .by_ c' => c == c'
  | .lc c l, .lc c' l' => c == c' && decide (l = l')
  | _, _ => false
theorem E.same_eq : ∀ {x y : E}, x.same y = true → x = y := by
  intro x
  induction x <;> intro y h <;> cases y <;> simp [E.same] at h <;> simp_all <;> (try (constructor <;> grind)) <;> grind

/-- c stands among the parts of G. -/
def E.has (c : E) : E → Bool
  | .an x y => (E.an x y).same c || E.has c x || E.has c y
  | e => e.same c
theorem E.has_ok {c : E} {is bs ls} : ∀ {G : E}, E.has c G = true → G.B is bs ls = true → c.B is bs ls = true := by
  intro G
  induction G <;> intro h hG
  case an x y ihx ihy =>
    simp only [E.has, Bool.or_eq_true] at h
    rcases h with (h | h) | h
    · rw [← E.same_eq h]; exact hG
    · simp only [E.B, Bool.and_eq_true] at hG; exact ihx h hG.1
    · simp only [E.B, Bool.and_eq_true] at hG; exact ihy h hG.2
  all_goals (simp only [E.has] at h; rw [← E.same_eq h]; exact hG)
/-- G tells c. -/
def E.imp (G : E) : E → Bool
  | .t b => b
  | .an x y => E.has (.an x y) G || (E.imp G x && E.imp G y)
  | c => E.has c G
theorem E.imp_ok {G : E} {is bs ls} : ∀ {c : E}, E.imp G c = true → G.B is bs ls = true → c.B is bs ls = true := by
  intro c
  induction c <;> intro h hG
  case an x y ihx ihy =>
    simp only [E.imp, Bool.or_eq_true, Bool.and_eq_true] at h
    rcases h with h | ⟨h1, h2⟩
    · exact E.has_ok h hG
    · simp only [E.B, Bool.and_eq_true]; exact ⟨ihx h1 hG, ihy h2 hG⟩
  case t b => simpa [E.imp, E.B] using h
  all_goals (simp only [E.imp] at h; exact E.has_ok h hG)

/-! The words that fold what is known. -/
def mkar (op : BinOp) (k : IntKind) : E → E → E
  | .n a, .n b => .n (arI op k a b)
  | x, y => .ar op k x y
def mkcv (k : IntKind) : E → E
  | .n a => .n (k.wrap a)
  | x => .cv k x
def mkmn : E → E → E
  | .n a, .n b => .n (if b < a then b else a)
  | x, y => .mn x y
def mkmx : E → E → E
  | .n a, .n b => .n (if b > a then b else a)
  | x, y => .mx x y
def mkcm (op : BinOp) : E → E → E
  | .n a, .n b => .t (cmB op a b)
  | x, y => .cm op x y
def mknt : E → E
  | .t b => .t (!b)
  | .nt x => x
  | x => .nt x
def mkan : E → E → E
  | .t true, y => y
  | .t false, _ => .t false
  | x, .t true => x
  | _, .t false => .t false
  | x, y => .an x y
def mkoo : E → E → E
  | .t false, y => y
  | .t true, _ => .t true
  | x, .t false => x
  | _, .t true => .t true
  | x, y => .oo x y
def mkbe : E → E → E
  | .t a, .t b => .t (a == b)
  | x, y => .be x y
def mkbi : E → E → E → E
  | .t true, x, _ => x
  | .t false, _, y => y
  | c, x, .t false => mkan c x
  | c, .t true, y => mkoo c y
  | c, x, y => .bi c x y
def mkii : E → E → E → E
  | .t true, x, _ => x
  | .t false, _, y => y
  | c, x, y => .ii c x y
section
variable (is : List Int) (bs : List Bool) (ls : LL)
theorem mkar_I (op k) (x y : E) : (mkar op k x y).I is bs ls = arI op k (x.I is bs ls) (y.I is bs ls) := by
  unfold mkar; split <;> simp [E.I]
theorem mkcv_I (k) (x : E) : (mkcv k x).I is bs ls = k.wrap (x.I is bs ls) := by unfold mkcv; split <;> simp [E.I]
theorem mkmn_I (x y : E) : (mkmn x y).I is bs ls = if y.I is bs ls < x.I is bs ls then y.I is bs ls else x.I is bs ls := by unfold mkmn; split <;> first | rfl | simp [E.I]
theorem mkmx_I (x y : E) : (mkmx x y).I is bs ls = if y.I is bs ls > x.I is bs ls then y.I is bs ls else x.I is bs ls := by unfold mkmx; split <;> first | rfl | simp [E.I]
theorem mkcm_B (op) (x y : E) : (mkcm op x y).B is bs ls = cmB op (x.I is bs ls) (y.I is bs ls) := by unfold mkcm; split <;> simp [E.I, E.B]
theorem mknt_B (x : E) : (mknt x).B is bs ls = !(x.B is bs ls) := by unfold mknt; split <;> simp [E.B]
theorem mkan_B (x y : E) : (mkan x y).B is bs ls = (x.B is bs ls && y.B is bs ls) := by unfold mkan; split <;> simp [E.B]
theorem mkoo_B (x y : E) : (mkoo x y).B is bs ls = (x.B is bs ls || y.B is bs ls) := by unfold mkoo; split <;> simp [E.B]
theorem mkbe_B (x y : E) : (mkbe x y).B is bs ls = (x.B is bs ls == y.B is bs ls) := by unfold mkbe; split <;> simp [E.B]
theorem mkbi_B (c x y : E) : (mkbi c x y).B is bs ls = bif c.B is bs ls then x.B is bs ls else y.B is bs ls := by
  unfold mkbi; split
  · rfl
  · rfl
  · simp only [mkan_B, E.B]; cases E.B is bs ls _ <;> simp
  · simp only [mkoo_B, E.B]; cases E.B is bs ls _ <;> simp
  · rfl
theorem mkii_I (c x y : E) : (mkii c x y).I is bs ls = bif c.B is bs ls then x.I is bs ls else y.I is bs ls := by
  unfold mkii; split <;> rfl
end

theorem leq_B {x y : E} {is bs ls} (h : (mkcm .leq x y).B is bs ls = true) : x.I is bs ls ≤ y.I is bs ls := by rw [mkcm_B] at h; exact of_decide_eq_true h
theorem an_B {x y : E} {is bs ls} (h : (mkan x y).B is bs ls = true) : x.B is bs ls = true ∧ y.B is bs ls = true := by rw [mkan_B, Bool.and_eq_true] at h; exact h
/-- All variables are among the first ones. -/
def E.cl (nI nB nL : Nat) : E → Bool
  | .iv i => Nat.blt i nI
  | .bv i => Nat.blt i nB
  | .n _ => true
  | .t _ => true
  | .ar _ _ x y => x.cl nI nB nL && y.cl nI nB nL
  | .cv _ x => x.cl nI nB nL
  | .mn x y => x.cl nI nB nL && y.cl nI nB nL
  | .mx x y => x.cl nI nB nL && y.cl nI nB nL
  | .cm _ x y => x.cl nI nB nL && y.cl nI nB nL
  | .nt x => x.cl nI nB nL
  | .an x y => x.cl nI nB nL && y.cl nI nB nL
  | .oo x y => x.cl nI nB nL && y.cl nI nB nL
  | .be x y => x.cl nI nB nL && y.cl nI nB nL
  | .bi c x y => c.cl nI nB nL && x.cl nI nB nL && y.cl nI nB nL
  | .ii c x y => c.cl nI nB nL && x.cl nI nB nL && y.cl nI nB nL
  | .tb _ x => x.cl nI nB nL
  | .ln c => Nat.blt c nL
  | .ix c x _ => Nat.blt c nL && x.cl nI nB nL
  | .bx c x _ => Nat.blt c nL && x.cl nI nB nL
  | .lq c d => Nat.blt c nL && Nat.blt d nL
  | .by_ c => Nat.blt c nL
  | .lc c _ => Nat.blt c nL
theorem E.cl_ok {is : List Int} {bs : List Bool} {ls : LL} {i : List Int} {b : List Bool} {l : LL} : ∀ {e : E}, e.cl is.length bs.length ls.length = true →
    e.I (is ++ i) (bs ++ b) (ls ++ l) = e.I is bs ls ∧ e.B (is ++ i) (bs ++ b) (ls ++ l) = e.B is bs ls := by
  have gi : ∀ k, k < is.length → (is ++ i).getD k 0 = is.getD k 0 := fun k h => by simp [List.getD_eq_getElem?_getD, List.getElem?_append_left h]
  have gb : ∀ k, k < bs.length → (bs ++ b).getD k false = bs.getD k false := fun k h => by simp [List.getD_eq_getElem?_getD, List.getElem?_append_left h]
  have gl : ∀ k, k < ls.length → (ls ++ l).getD k [] = ls.getD k [] := fun k h => by simp [List.getD_eq_getElem?_getD, List.getElem?_append_left h]
  intro e
  induction e <;> intro h <;> simp only [E.cl, Bool.and_eq_true, Nat.blt_eq] at h <;> simp_all [E.I, E.B]

/-- The kind of a cell. -/
inductive CT where
  | i (k : IntKind)
  | b
  | s
  | sl (ct : List CT)
/-- Blocks that are never written again, and what they hold. -/
abbrev Fz := Nat → Option (Array Value)
def Fz.le (f g : Fz) : Prop := ∀ n c, f n = some c → g n = some c
theorem Fz.le_refl (f : Fz) : f.le f := fun _ _ h => h
theorem Fz.le.trans {f g h : Fz} (a : f.le g) (b : g.le h) : f.le h := fun n c e => b n c (a n c e)
def bytesD (s : ByteArray) : List D := s.data.toList.map fun b => .i (b.toNat : Int)
/-- A cell reads as plain data. -/
inductive RC (F : Fz) : CT → Value → D → Prop
  | int (k : IntKind) (n : Int) : RC F (.i k) (.int k n) (.i n)
  | bool (x : Bool) : RC F .b (.bool x) (.b x)
  | str (s : ByteArray) : RC F .s (.string s) (.l (bytesD s))
  | nil (ct : List CT) (a : Option Addr) (c : Nat) : RC F (.sl ct) (.slice a 0 c) (.l [])
  | sl (ct : List CT) (blk off n c : Nat) (cells : Array Value) (xs : List D) (val : Nat → Nat → Value) (hF : F blk = some cells) (hn : xs.length = n) (hc : n ≤ c)
      (hv : ∀ i j, i < n → j < ct.length → cells[off + i * ct.length + j]? = some (val i j))
      (hr : ∀ i j, i < n → ∀ hj : j < ct.length, RC F ct[j] (val i j) ((xs.getD i (.i 0)).cell j)) : RC F (.sl ct) (.slice (some ⟨blk, off, none⟩) n c) (.l xs)
/-- Cells, one behind the other, read as a list. -/
def RL (F : Fz) (ct : List CT) (vs : List Value) (xs : List D) : Prop :=
  vs.length = xs.length * ct.length ∧ ∀ i j, i < xs.length → ∀ hj : j < ct.length, ∃ u, vs[i * ct.length + j]? = some u ∧ RC F ct[j] u ((xs.getD i (.i 0)).cell j)
theorem RC.mono {F G : Fz} (hl : F.le G) {t : CT} {u : Value} {d : D} (h : RC F t u d) : RC G t u d := by
  induction h with
  | int k n => exact .int k n
  | bool x => exact .bool x
  | str s => exact .str s
  | nil ct a c => exact .nil ct a c
  | sl ct blk off n c cells xs val hF hn hc hv _ ih => exact .sl ct blk off n c cells xs val (hl _ _ hF) hn hc hv ih
theorem RL.mono {F G : Fz} (hl : F.le G) {ct : List CT} {vs : List Value} {xs : List D} (h : RL F ct vs xs) : RL G ct vs xs :=
  ⟨h.1, fun i j hi hj => by obtain ⟨u, h1, h2⟩ := h.2 i j hi hj; exact ⟨u, h1, h2.mono hl⟩⟩
theorem RC.head {F : Fz} {ct : List CT} {u : Value} {d : D} (h : RC F (.sl ct) u d) : ∃ a c xs, u = .slice a xs.length c ∧ d = .l xs ∧ xs.length ≤ c := by
  cases h with
  | nil ct a c => exact ⟨a, c, [], rfl, rfl, Nat.zero_le _⟩
  | sl _ blk off n c cells xs val hF hn hc hv hr => subst hn; exact ⟨_, c, xs, rfl, rfl, hc⟩
/-- A cell of a slice that is read. -/
theorem RC.cell {F : Fz} {ct : List CT} {u : Value} {xs : List D} (h : RC F (.sl ct) u (.l xs)) {i j : Nat} (hi : i < xs.length) (hj : j < ct.length) :
    ∃ blk off c cells w, u = .slice (some ⟨blk, off, none⟩) xs.length c ∧ F blk = some cells ∧ cells[off + i * ct.length + j]? = some w ∧ RC F ct[j] w ((xs.getD i (.i 0)).cell j) := by
  cases h with
  | nil ct a c => simp at hi
  | sl _ blk off n c cells xs val hF hn hc hv hr => subst hn; exact ⟨blk, off, c, cells, val i j, rfl, hF, hv i j hi hj, hr i j hi hj⟩
/-- Cells of a block that stays. -/
theorem RC.ofRL {F : Fz} {ct : List CT} {blk off c : Nat} {cells : Array Value} {vs : List Value} {xs : List D} (hF : F blk = some cells) (h : RL F ct vs xs) (hv : ∀ m u, vs[m]? = some u → cells[off + m]? = some u) (hc : xs.length ≤ c) :
    RC F (.sl ct) (.slice (some ⟨blk, off, none⟩) xs.length c) (.l xs) := by
  refine .sl ct blk off xs.length c cells xs (fun i j => vs.getD (i * ct.length + j) undef) hF rfl hc (fun i j hi hj => ?_) (fun i j hi hj => ?_)
  · obtain ⟨u, h1, _⟩ := h.2 i j hi hj
    rw [Nat.add_assoc, hv _ u h1, List.getD_eq_getElem?_getD, h1]; rfl
  · obtain ⟨u, h1, h2⟩ := h.2 i j hi hj
    rw [List.getD_eq_getElem?_getD, h1]; exact h2

/-! Lists. -/
inductive CE where
  | i (e : E)
  | b (e : E)
  | l (c : Nat)
  | s (l : List Nat)
inductive LE where
  | v (c : Nat)
  | nil
  | s (l : List Nat)
  | ap (x y : LE)
  | els (l : List (List CE))
  | cut (x : LE) (lo hi : E)
  | cl (c : Nat) (e : E) (j : Nat)
  | rep (n : E) (cs : List CE)
  | up (c m : Nat) (e : E) (j : Nat) (cs : List CE)
  | cp (c : Nat) (lo : E) (d : Nat)
def CE.D (is : List Int) (bs : List Bool) (ls : LL) : CE → D
  | .i e => .i (e.I is bs ls)
  | .b e => .b (e.B is bs ls)
  | .l c => .l (ls.getD c [])
  | .s t => .l (t.map fun (n : Nat) => D.i (n : Int))
def mkD : List D → D
  | [d] => d
  | l => .st l
theorem mkD_cell : ∀ (l : List D) (j : Nat), j < l.length → (∀ d, l = [d] → d.cell 0 = d) → (mkD l).cell j = l.getD j (.i 0)
  | [], _, h, _ => by simp at h
  | [d], j, h, hd => by
    simp only [List.length_singleton, Nat.lt_one_iff] at h
    subst h
    exact hd d rfl
  | a :: b :: l, j, _, _ => rfl
/-- The cells j .. of an element of m cells, written anew. -/
def D.put (d : D) (m j : Nat) (cs : List D) : D := mkD ((((List.range m).map d.cell).take j) ++ cs ++ (((List.range m).map d.cell).drop (j + cs.length)))
def LE.L (is : List Int) (bs : List Bool) (ls : LL) : LE → List D
  | .v c => ls.getD c []
  | .nil => []
  | .s l => l.map fun (n : Nat) => D.i (n : Int)
  | .ap x y => x.L is bs ls ++ y.L is bs ls
  | .els l => l.map fun cs => mkD (cs.map (CE.D is bs ls))
  | .cut x lo hi => ((x.L is bs ls).take (hi.I is bs ls).toNat).drop (lo.I is bs ls).toNat
  | .cl c e j => (((ls.getD c []).getD (e.I is bs ls).toNat (.i 0)).cell j).list
  | .rep n cs => List.replicate (n.I is bs ls).toNat (mkD (cs.map (CE.D is bs ls)))
  | .up c m e j cs => (ls.getD c []).modify (e.I is bs ls).toNat fun d => d.put m j (cs.map (CE.D is bs ls))
  | .cp c lo d => (ls.getD c []).take (lo.I is bs ls).toNat ++ ((ls.getD d []).take ((ls.getD c []).length - (lo.I is bs ls).toNat)) ++ (ls.getD c []).drop ((lo.I is bs ls).toNat + min (ls.getD d []).length ((ls.getD c []).length - (lo.I is bs ls).toNat))

/-! Values. -/
/-- What one cell holds: a number, a bool, an address in the call's own block number b, a nil slice, a string that is known, slice or string number k, an address in slice number k (elements of m cells; cell j of element e),
    slice number k from an element on, a closure over own blocks. -/
inductive Sc where
  | i (k : IntKind) (e : E)
  | b (e : E)
  | p (b o : Nat)
  | nls
  | str (s : ByteArray)
  | x (k : Nat)
  | xa (k m : Nat) (e : E) (j : Nat)
  | vw (k m : Nat) (lo : E)
  | fn (f : Nat) (fs cs : List (Nat × Nat))
inductive S1 where
  | s (c : Sc)
  | agg (l : List Sc)
/-- What a slot holds: a value, several results, a value under a condition (else nothing), nothing, whatever it is. -/
inductive SV where
  | o (v : S1)
  | tup (l : List S1)
  | g (c : E) (v : S1)
  | u
  | any
structure Env where
  p : List Nat
  i : List Int
  b : List Bool
  l : LL
  x : List Value
  f : Fz
def Value.base : Value → Option Addr
  | .slice a _ _ => a
  | _ => none
def cutV (m lo : Nat) : Value → Value
  | .slice a n c => .slice (if c = lo then a else a.map (·.add (lo * m))) (n - lo) (c - lo)
  | v => v
/-- A slice or a string, whatever it is. -/
def xv : Value → Value
  | .slice a n c => .slice a n c
  | .string s => .string s
  | _ => .slice none 0 0
def ptrs (p : List Nat) (l : List (Nat × Nat)) : Array Value := (l.map fun (b, o) => Value.pointer (some ⟨p.getD b 0, o, none⟩)).toArray
def Sc.den (v : Env) : Sc → Value
  | .i k e => .int k (e.I v.i v.b v.l)
  | .b e => .bool (e.B v.i v.b v.l)
  | .p n o => .pointer (some ⟨v.p.getD n 0, o, none⟩)
  | .nls => .slice none 0 0
  | .str s => .string s
  | .x k => xv (v.x.getD k undef)
  | .xa k m e j => .pointer ((Value.base (v.x.getD k undef)).map fun a => ⟨a.block, a.off + (e.I v.i v.b v.l).toNat * m + j, none⟩)
  | .vw k m lo => cutV m (lo.I v.i v.b v.l).toNat (xv (v.x.getD k undef))
  | .fn f fs cs => .func (.func f) (ptrs v.p fs) (ptrs v.p cs)
def S1.den (v : Env) : S1 → Value
  | .s c => c.den v
  | .agg l => .agg (l.map (Sc.den v)).toArray
def SV.den (v : Env) : SV → Value
  | .o x => x.den v
  | .tup l => .tuple (l.map (S1.den v)).toArray
  | .g c x => bif c.B v.i v.b v.l then x.den v else undef
  | .u => undef
  | .any => undef
def S1.cells : S1 → List Sc
  | .s c => [c]
  | .agg l => l
theorem xv_one (u : Value) : (xv u).oneCell' = true := by cases u <;> rfl
theorem cutV_one (m lo : Nat) (u : Value) : (cutV m lo (xv u)).oneCell' = true := by cases u <;> rfl
theorem Sc.den_one (v : Env) (c : Sc) : (c.den v).oneCell' = true := by
  cases c <;> first | rfl | exact xv_one _ | exact cutV_one _ _ _
theorem cells_one {u : Value} (h : u.oneCell' = true) : u.cells = #[u] := by cases u <;> first | rfl | cases h
theorem Sc.den_cells (v : Env) (c : Sc) : (c.den v).cells = #[c.den v] := cells_one (c.den_one v)
theorem S1.den_cells (v : Env) (x : S1) : (x.den v).cells = (x.cells.map (Sc.den v)).toArray := by
  cases x with
  | s c => simp [S1.den, S1.cells, Sc.den_cells]
  | agg l => rfl
/-- A later environment. -/
def Later (v v' : Env) : Prop := ∃ p i b l x f, v.f.le f ∧ v' = ⟨v.p ++ p, v.i ++ i, v.b ++ b, v.l ++ l, v.x ++ x, f⟩
theorem Later.refl (v : Env) : Later v v := ⟨[], [], [], [], [], v.f, Fz.le_refl _, by simp⟩
theorem Later.trans {a b c : Env} (h : Later a b) (k : Later b c) : Later a c := by
  obtain ⟨p, i, b', l, x, f, hf, rfl⟩ := h
  obtain ⟨p', i', b'', l', x', f', hf', rfl⟩ := k
  exact ⟨p ++ p', i ++ i', b' ++ b'', l ++ l', x ++ x', f', hf.trans hf', by simp⟩
theorem Later.f {v v' : Env} (h : Later v v') : v.f.le v'.f := by obtain ⟨p, i, b, l, x, f, hf, rfl⟩ := h; exact hf
theorem getD_app {α : Type} {l r : List α} {n : Nat} {d : α} (h : n < l.length) : (l ++ r).getD n d = l.getD n d := by
  simp [List.getD_eq_getElem?_getD, List.getElem?_append_left h]
theorem Later.l {v v' : Env} (h : Later v v') {c : Nat} (hc : c < v.l.length) : v'.l.getD c [] = v.l.getD c [] := by
  obtain ⟨p, i, b, l, x, f, hf, rfl⟩ := h; exact getD_app hc
theorem Later.x {v v' : Env} (h : Later v v') {k : Nat} (hk : k < v.x.length) : v'.x.getD k undef = v.x.getD k undef := by
  obtain ⟨p, i, b, l, x, f, hf, rfl⟩ := h; exact getD_app hk
theorem Later.p {v v' : Env} (h : Later v v') {k : Nat} (hk : k < v.p.length) : v'.p.getD k 0 = v.p.getD k 0 := by
  obtain ⟨p, i, b, l, x, f, hf, rfl⟩ := h; exact getD_app hk
/-- Slots, as a tree: the place 0 at the root, the odd ones to the left, the even ones to the right. -/
inductive Tr where
  | lf
  | nd (l : Tr) (x : SV) (r : Tr)
def Tr.get : Tr → Nat → SV
  | .lf, _ => .u
  | .nd l x r, n => match n with
    | 0 => x
    | k + 1 => match Nat.beq (k % 2) 0 with
      | true => l.get (k / 2)
      | false => r.get (k / 2)
def Tr.ex : Tr → Nat → Bool
  | .lf, _ => false
  | .nd l _ r, n => match n with
    | 0 => true
    | k + 1 => match Nat.beq (k % 2) 0 with
      | true => l.ex (k / 2)
      | false => r.ex (k / 2)
def Tr.set : Tr → Nat → SV → Tr
  | .lf, _, _ => .lf
  | .nd l y r, n, x => match n with
    | 0 => .nd l x r
    | k + 1 => match Nat.beq (k % 2) 0 with
      | true => .nd (l.set (k / 2) x) y r
      | false => .nd l y (r.set (k / 2) x)
theorem beq_zero (n : Nat) : Nat.beq n 0 = decide (n = 0) := by cases n <;> rfl
theorem Tr.get_set : ∀ (tr : Tr) (n m : Nat) (x : SV), tr.ex n = true → (tr.set n x).get m = if m = n then x else tr.get m
  | .lf, _, _, _, h => by simp [Tr.ex] at h
  | .nd l y r, n, m, x, h => by
    cases n with
    | zero => cases m <;> simp [Tr.set, Tr.get]
    | succ k =>
      simp only [Tr.ex, beq_zero] at h
      simp only [Tr.set, beq_zero]
      by_cases hk : k % 2 = 0
      · simp only [hk, decide_true] at h ⊢
        cases m with
        | zero => simp [Tr.get]
        | succ j =>
          simp only [Tr.get, beq_zero]
          by_cases hj : j % 2 = 0
          · simp only [hj, decide_true]
            rw [Tr.get_set l _ _ x h]
            by_cases e : j = k
            · subst e; simp
            · rw [if_neg (by omega), if_neg (by omega)]
          · simp only [hj, decide_false]
            rw [if_neg (by omega)]
      · simp only [hk, decide_false] at h ⊢
        cases m with
        | zero => simp [Tr.get]
        | succ j =>
          simp only [Tr.get, beq_zero]
          by_cases hj : j % 2 = 0
          · simp only [hj, decide_true]
            rw [if_neg (by omega)]
          · simp only [hj, decide_false]
            rw [Tr.get_set r _ _ x h]
            by_cases e : j = k
            · subst e; simp
            · rw [if_neg (by omega), if_neg (by omega)]
theorem Tr.ex_set : ∀ (tr : Tr) (n m : Nat) (x : SV), (tr.set n x).ex m = tr.ex m
  | .lf, _, _, _ => rfl
  | .nd l y r, n, m, x => by
    cases n with
    | zero => cases m <;> simp [Tr.set, Tr.ex]
    | succ k =>
      simp only [Tr.set]
      cases Nat.beq (k % 2) 0 <;> cases m <;> simp only [Tr.ex]
      · cases Nat.beq _ 0 <;> simp only [Tr.ex_set r]
      · cases Nat.beq _ 0 <;> simp only [Tr.ex_set l]
def Tr.full : Nat → Tr
  | 0 => .lf
  | n + 1 => .nd (Tr.full n) .u (Tr.full n)
theorem Tr.get_full : ∀ (d n : Nat), (Tr.full d).get n = .u
  | 0, _ => rfl
  | d + 1, n => by
    cases n with
    | zero => rfl
    | succ k => simp only [Tr.full, Tr.get]; cases Nat.beq (k % 2) 0 <;> exact Tr.get_full d _
/-- How slice or string number k stands: read by all, written by none; the call's own; gone (its length alone is known); a string. c: which list it holds. -/
inductive XS where
  | fz (ct : List CT)
  | own (e : TypeId) (ct : List CT)
  | dead
  | str
structure XI where
  c : Nat
  s : XS
structure St where
  tm : Tr
  n : Nat
  hp : List (List Sc)
  nI : Nat
  nB : Nat
  nL : Nat
  xs : List XI
  ks : List E
def St.get? (st : St) (t : Nat) : Option SV :=
  match Nat.ble (t + 1) st.n with
  | true => some (st.tm.get t)
  | false => none
def St.get (st : St) (t : Nat) : SV := (st.get? t).getD .u
def St.put (st : St) (d : Option Nat) (v : SV) : St :=
  match d with
  | some t => { st with tm := st.tm.set t v }
  | none => st
theorem St.get?_lt {st : St} {t : Nat} (h : t < st.n) : st.get? t = some (st.tm.get t) := by
  unfold St.get?; rw [Nat.ble_eq_true_of_le h]
theorem St.get?_ge {st : St} {t : Nat} (h : ¬ t < st.n) : st.get? t = none := by
  unfold St.get?
  have : Nat.ble (t + 1) st.n = false := by
    cases e : Nat.ble (t + 1) st.n
    · rfl
    · exact absurd (Nat.le_of_ble_eq_true e) h
  rw [this]
/-- A slot holds what it is thought to hold. -/
def SVok (v : Env) : Option SV → Option Value → Prop
  | none, r => r = none
  | some .any, r => ∃ u, r = some u
  | some s, r => r = some (s.den v)
structure TR (v : Env) (st : St) (a : Act) : Prop where
  tm : ∀ v', Later v v' → ∀ t : Nat, SVok v' (st.get? t) a.tmps[t]?
  df : a.defers = []
  hi : v.i.length = st.nI
  hb : v.b.length = st.nB
  hl : v.l.length = st.nL
  ex : ∀ t, t < st.n → st.tm.ex t = true
  ks : ∀ e ∈ st.ks, ∀ v', Later v v' → e.B v'.i v'.b v'.l = true
theorem SVok.some_iff {v : Env} {s : SV} (hs : s ≠ .any) {r : Option Value} : SVok v (some s) r ↔ r = some (s.den v) := by
  cases s <;> first | rfl | exact absurd rfl hs
theorem SVok.isSome {v : Env} {s : SV} {r : Option Value} (h : SVok v (some s) r) : r.isSome = true := by
  cases s <;> simp only [SVok] at h <;> first | (rw [h]; rfl) | (obtain ⟨u, rfl⟩ := h; rfl)
theorem TR.get {v : Env} {st : St} {a : Act} (h : TR v st a) {v' : Env} (l : Later v v') (t : Nat) (hx : st.get t ≠ .any) : a.tmps.getD t undef = (st.get t).den v' := by
  have := h.tm v' l t
  rw [Array.getD_eq_getD_getElem?]
  unfold St.get at hx ⊢
  cases hs : st.get? t with
  | none => rw [hs] at this; simp only [SVok] at this; rw [this]; simp [SV.den]
  | some s =>
    rw [hs] at this hx
    simp only [Option.getD_some] at hx ⊢
    rw [(SVok.some_iff hx).1 this]; rfl
theorem TR.lt {v : Env} {st : St} {a : Act} (h : TR v st a) (t : Nat) : t < st.n ↔ t < a.tmps.size := by
  have := h.tm v (Later.refl v) t
  constructor
  · intro ht
    rw [St.get?_lt ht] at this
    have := this.isSome
    exact (Array.getElem?_eq_some_iff.1 (Option.isSome_iff_exists.1 this).choose_spec).1
  · intro ht
    rw [Array.getElem?_eq_getElem ht] at this
    by_cases hs : t < st.n
    · exact hs
    · rw [St.get?_ge hs] at this; cases this
theorem Tr.get_set_ne : ∀ (tr : Tr) (n m : Nat) (x : SV), tr.ex n ≠ true → (tr.set n x).get m = tr.get m := by
  intro tr
  induction tr with
  | lf => intros; rfl
  | nd l y r ihl ihr =>
    intro n m x hx
    cases n with
    | zero => exact absurd rfl hx
    | succ k =>
      simp only [Tr.ex] at hx
      simp only [Tr.set]
      cases hb : Nat.beq (k % 2) 0 <;> rw [hb] at hx <;> cases m with
      | zero => rfl
      | succ j =>
        simp only [Tr.get]
        cases Nat.beq (j % 2) 0 <;> first | rfl | exact ihl _ _ _ hx | exact ihr _ _ _ hx
theorem TR.put {v : Env} {st : St} {a : Act} (h : TR v st a) (d : Option Nat) (x : SV) (u : Value) (hx : ∀ v', Later v v' → SVok v' (some x) (some u)) : TR v (st.put d x) (a.put d u) := by
  cases d with
  | none => exact h
  | some t =>
    refine ⟨fun v' l t' => ?_, h.df, h.hi, h.hb, h.hl, fun t' ht => ?_, h.ks⟩
    · show SVok v' ((St.put st (some t) x).get? t') (a.tmps.setIfInBounds t u)[t']?
      have h0 := h.tm v' l t'
      by_cases hn : t' < st.n
      · rw [St.get?_lt (st := St.put st (some t) x) hn]
        rw [St.get?_lt hn] at h0
        show SVok v' (some ((st.tm.set t x).get t')) _
        by_cases e : t = t'
        · subst e
          rw [Tr.get_set _ _ _ _ (h.ex t hn), if_pos rfl]
          have := hx v' l
          simpa [(h.lt t).1 hn] using this
        · rw [Array.getElem?_setIfInBounds_ne e]
          by_cases hq : st.tm.ex t = true
          · rw [Tr.get_set _ _ _ _ hq, if_neg (fun q => e q.symm)]; exact h0
          · rw [Tr.get_set_ne _ _ _ _ hq]; exact h0
      · rw [St.get?_ge (st := St.put st (some t) x) hn, Array.getElem?_eq_none (by rw [Array.size_setIfInBounds]; exact Nat.le_of_not_lt fun q => hn ((h.lt t').2 q))]
        rfl
    · show (st.tm.set t x).ex t' = true
      rw [Tr.ex_set]; exact h.ex t' ht
theorem TR.later {v v' : Env} {st st' : St} {a : Act} (h : TR v st a) (l : Later v v') (ht : st'.tm = st.tm) (hn : st'.n = st.n) (hi : v'.i.length = st'.nI) (hb : v'.b.length = st'.nB) (hl : v'.l.length = st'.nL) (hk : st'.ks = st.ks) : TR v' st' a :=
  ⟨fun v'' l' t => by have := h.tm v'' (l.trans l') t; simpa [St.get?, ht, hn] using this, h.df, hi, hb, hl, fun t h' => by rw [ht]; exact h.ex t (hn ▸ h'), fun e he v'' l' => h.ks e (hk ▸ he) v'' (l.trans l')⟩

/-- But for blocks in G all that was there is as it was. -/
structure Bel (G : Nat → Prop) (w w' : World) : Prop where
  os : w'.os = w.os
  tape : w'.tape = w.tape
  output : w'.output = w.output
  size : w.heap.size ≤ w'.heap.size
  block : ∀ n, n < w.heap.size → ¬ G n → w'.heap[n]? = w.heap[n]?
theorem Bel.refl (G : Nat → Prop) (w : World) : Bel G w w := ⟨rfl, rfl, rfl, Nat.le_refl _, fun _ _ _ => rfl⟩
theorem Bel.step {M G : Nat → Prop} {a b c : World} (h : Bel M a b) (k : Bel G b c) (hG : ∀ n, G n → n < a.heap.size → M n) : Bel M a c :=
  ⟨k.os.trans h.os, k.tape.trans h.tape, k.output.trans h.output, Nat.le_trans h.size k.size, fun n hn hm =>
    (k.block n (Nat.lt_of_lt_of_le hn h.size) fun g => hm (hG n g hn)).trans (h.block n hn hm)⟩
theorem Bel.mono {G G' : Nat → Prop} {a b : World} (h : Bel G a b) (hG : ∀ n, G n → n < a.heap.size → G' n) : Bel G' a b :=
  ⟨h.os, h.tape, h.output, h.size, fun n hn hm => h.block n hn fun g => hm (hG n g hn)⟩
theorem Bel.below {w w' : World} (h : Bel (fun _ => False) w w') : Below w.heap.size w w' := ⟨h.os, h.tape, h.output, h.size, fun n hn => h.block n hn id⟩
theorem Bel.ofBelow {G : Nat → Prop} {w w' : World} (h : Below w.heap.size w w') : Bel G w w' := ⟨h.os, h.tape, h.output, h.size, fun n hn _ => h.block n hn⟩
theorem Bel.ofGrown {w w' : World} {r : Option Nat} (h : w.grownBy w' r) : Bel (fun n => r = some n) w w' := ⟨h.os, h.tape, h.output, h.size, fun n hn hg => h.block n hn fun e => hg e.symm⟩
theorem Bel.drew (G : Nat → Prop) (w : World) : Bel G w w.drew := ⟨rfl, rfl, rfl, Nat.le_refl _, fun _ _ _ => rfl⟩

def oblk : Value → Option Nat
  | .slice (some a) _ c => if c = 0 then none else some a.block
  | _ => none
/-- A slice that the call owns: its block from its head on, with room behind it. -/
def OwnR (w : World) (e : TypeId) (m : Nat) (u : Value) (n : Nat) (vs : List Value) : Prop :=
  vs.length = n * m ∧ ((∃ a, u = .slice a 0 0 ∧ n = 0) ∨
    ∃ g cap cur, u = .slice (some ⟨g, 0, none⟩) n cap ∧ 0 < cap ∧ w.heap[g]? = some (.cells cur e (0, 0)) ∧ n ≤ cap ∧ cap ≤ maxLen ∧ cur.size = cap * m ∧ cur.toList.take (n * m) = vs)
theorem OwnR.kept {w w' : World} {e m u n vs} (h : OwnR w e m u n vs) (hb : ∀ g, oblk u = some g → w'.heap[g]? = w.heap[g]?) : OwnR w' e m u n vs := by
  refine ⟨h.1, ?_⟩
  rcases h.2 with h0 | ⟨g, cap, cur, rfl, hc, hg, r⟩
  · exact .inl h0
  · exact .inr ⟨g, cap, cur, rfl, hc, by rw [hb g (by simp [oblk]; omega)]; exact hg, r⟩
theorem OwnR.lt {w : World} {e m u n vs} (h : OwnR w e m u n vs) {g : Nat} (hg : oblk u = some g) : g < w.heap.size := by
  rcases h.2 with ⟨a, rfl, _⟩ | ⟨g', cap, cur, rfl, hc, hh, _⟩
  · cases a <;> simp [oblk] at hg
  · simp only [oblk] at hg
    rw [if_neg (by omega)] at hg
    cases hg
    exact (Array.getElem?_eq_some_iff.1 hh).1
theorem OwnR.slice {w : World} {e m u n vs} (h : OwnR w e m u n vs) : ∃ a c, u = .slice a n c ∧ n ≤ c := by
  rcases h.2 with ⟨a, rfl, rfl⟩ | ⟨g', cap, cur, rfl, hc, hh, hn, _⟩
  · exact ⟨a, 0, rfl, Nat.le_refl _⟩
  · exact ⟨_, cap, rfl, hn⟩
theorem OwnR.ofRow {w : World} {base e m u n vs} (h : w.ownsRow base e m u n vs) : OwnR w e m u n vs := by
  refine ⟨h.1, ?_⟩
  rcases h.2 with ⟨rfl, rfl⟩ | ⟨g, cap, cur, rfl, hb, hg, hn, hm, hs, ht⟩
  · exact .inl ⟨none, rfl, rfl⟩
  · by_cases hc : cap = 0
    · subst hc
      obtain rfl : n = 0 := by omega
      exact .inl ⟨_, rfl, rfl⟩
    · exact .inr ⟨g, cap, cur, rfl, by omega, hg, hn, hm, hs, ht⟩
/-- How slice or string number k stands. -/
def XOK (f : Fz) (w : World) (s : XS) (u : Value) (ds : List D) : Prop :=
  match s with
  | .fz ct => 0 < ct.length ∧ RC f (.sl ct) u (.l ds)
  | .own e ct => 0 < ct.length ∧ ∃ vs, OwnR w e ct.length u ds.length vs ∧ RL f ct vs ds
  | .dead => ∃ a c, u = .slice a ds.length c ∧ ds.length ≤ c
  | .str => ∃ s, u = .string s ∧ ds = bytesD s
theorem XOK.slice {f w s u ds} (h : XOK f w s u ds) (hs : s ≠ .str) : ∃ a c, u = .slice a ds.length c ∧ ds.length ≤ c := by
  cases s with
  | fz ct => obtain ⟨a, c, xs, rfl, hx, hc⟩ := h.2.head; cases hx; exact ⟨a, c, rfl, hc⟩
  | own e ct => obtain ⟨_, vs, h1, _⟩ := h; exact h1.slice
  | dead => exact h
  | str => exact absurd rfl hs
theorem XOK.mono {f g : Fz} {w s u ds} (hl : f.le g) (h : XOK f w s u ds) : XOK g w s u ds := by
  cases s with
  | fz ct => exact ⟨h.1, h.2.mono hl⟩
  | own e ct => obtain ⟨h0, vs, h1, h2⟩ := h; exact ⟨h0, vs, h1, h2.mono hl⟩
  | dead => exact h
  | str => exact h
theorem XOK.xv {f w s u ds} (h : XOK f w s u ds) : xv u = u := by
  by_cases hs : s = .str
  · subst hs; obtain ⟨s, rfl, _⟩ := h; rfl
  · obtain ⟨a, c, rfl, _⟩ := h.slice hs; rfl
/-- The block of slice number k, if it is the call's own. -/
def ownAt (xs : List XI) (x : List Value) (k : Nat) : Option Nat :=
  match xs[k]? with
  | some ⟨_, .own _ _⟩ => oblk (x.getD k undef)
  | _ => none
theorem XOK.world {f w w' s u ds} (h : XOK f w s u ds) (hb : ∀ e ct g, s = .own e ct → oblk u = some g → w'.heap[g]? = w.heap[g]?) : XOK f w' s u ds := by
  cases s with
  | fz ct => exact h
  | own e ct => obtain ⟨h0, vs, h1, h2⟩ := h; exact ⟨h0, vs, h1.kept fun g hg => hb e ct g rfl hg, h2⟩
  | dead => exact h
  | str => exact h
/-- Where a call began: the world, what it may write of it, what is never written. -/
structure Cx where
  w0 : World
  M : Nat → Prop
  f0 : Fz
structure HR (v : Env) (hp : List (List Sc)) (xs : List XI) (c : Cx) (w : World) : Prop where
  ln : v.p.length = hp.length
  nd : v.p.Nodup
  blk : ∀ v', Later v v' → ∀ (i : Nat) cs, hp[i]? = some cs → ∃ el, w.heap[v.p.getD i 0]? = some (.cells (cs.map (Sc.den v')).toArray el (0, 0))
  ge : ∀ n ∈ v.p, c.w0.heap.size ≤ n ∨ c.M n
  bel : Bel c.M c.w0 w
  nx : v.x.length = xs.length
  lt : ∀ (k : Nat) xi, xs[k]? = some xi → xi.c < v.l.length
  ok : ∀ (k : Nat) xi, xs[k]? = some xi → XOK v.f w xi.s (v.x.getD k undef) (v.l.getD xi.c [])
  fz : ∀ n cs, v.f n = some cs → ∃ el fr, w.heap[n]? = some (.cells cs el fr)
  f0 : c.f0.le v.f
  fd : ∀ n cs, v.f n = some cs → (c.f0 n).isSome = true ∨ c.w0.heap.size ≤ n ∨ c.M n
  pf : ∀ n ∈ v.p, v.f n = none
  own : ∀ (k g : Nat), ownAt xs v.x k = some g → v.f g = none ∧ g ∉ v.p ∧ (c.w0.heap.size ≤ g ∨ c.M g) ∧ ∀ k', k' ≠ k → ownAt xs v.x k' ≠ some g
section
variable {v : Env} {hp : List (List Sc)} {xs : List XI} {c : Cx} {w : World}
theorem HR.size (h : HR v hp xs c w) : ∀ n ∈ v.p, n < w.heap.size := by
  intro n hn
  obtain ⟨i, hi, rfl⟩ := List.getElem_of_mem hn
  have hlt : i < hp.length := by rw [← h.ln]; exact hi
  obtain ⟨el, e⟩ := h.blk v (Later.refl v) i hp[i] (List.getElem?_eq_getElem hlt)
  have : v.p.getD i 0 = v.p[i] := by simp [List.getD_eq_getElem?_getD, hi]
  rw [this] at e
  exact (Array.getElem?_eq_some_iff.1 e).1
theorem HR.fsize (h : HR v hp xs c w) {n : Nat} {cs : Array Value} (hn : v.f n = some cs) : n < w.heap.size := by
  obtain ⟨el, fr, e⟩ := h.fz n cs hn
  exact (Array.getElem?_eq_some_iff.1 e).1
theorem ownAt_some {x : List Value} {k g : Nat} (h : ownAt xs x k = some g) : ∃ cc e ct, xs[k]? = some ⟨cc, .own e ct⟩ ∧ oblk (x.getD k undef) = some g := by
  unfold ownAt at h
  split at h
  · rename_i cc e ct hk; exact ⟨cc, e, ct, hk, h⟩
  · cases h
theorem ownAt_of {x : List Value} {k g : Nat} {cc e ct} (hk : xs[k]? = some ⟨cc, .own e ct⟩) (h : oblk (x.getD k undef) = some g) : ownAt xs x k = some g := by
  unfold ownAt; rw [hk]; exact h
theorem HR.osize (h : HR v hp xs c w) {k g : Nat} (hg : ownAt xs v.x k = some g) : g < w.heap.size := by
  obtain ⟨cc, e, ct, hk, ho⟩ := ownAt_some hg
  obtain ⟨_, vs, h1, _⟩ := h.ok k _ hk
  exact h1.lt ho
/-- A world that has turned at none of the places that are known. -/
theorem HR.world (h : HR v hp xs c w) {G : Nat → Prop} {w' : World} (hb : Bel G w w') (hG : ∀ n, n < w.heap.size → G n → n ∉ v.p ∧ v.f n = none ∧ (∀ k, ownAt xs v.x k ≠ some n) ∧ (n < c.w0.heap.size → c.M n)) : HR v hp xs c w' := by
  have same : ∀ n, n < w.heap.size → (n ∈ v.p ∨ (∃ cs, v.f n = some cs) ∨ ∃ k, ownAt xs v.x k = some n) → w'.heap[n]? = w.heap[n]? := fun n hn hc => hb.block n hn fun g => by
    obtain ⟨h1, h2, h3, _⟩ := hG n hn g
    rcases hc with hc | ⟨cs, hc⟩ | ⟨k, hc⟩
    · exact h1 hc
    · rw [h2] at hc; cases hc
    · exact h3 k hc
  refine ⟨h.ln, h.nd, fun v' l i cs hc => ?_, h.ge, h.bel.step hb fun n g hn => (hG n (Nat.lt_of_lt_of_le hn h.bel.size) g).2.2.2 hn, h.nx, h.lt, fun k xi hk => ?_, fun n cs hn => ?_, h.f0, h.fd, h.pf, h.own⟩
  · obtain ⟨el, e⟩ := h.blk v' l i cs hc
    have hm : v.p.getD i 0 ∈ v.p := by
      have hi : i < v.p.length := by rw [h.ln]; exact (List.getElem?_eq_some_iff.1 hc).1
      rw [List.getD_eq_getElem?_getD, List.getElem?_eq_getElem hi]; exact List.getElem_mem hi
    exact ⟨el, by rw [same _ (h.size _ hm) (.inl hm)]; exact e⟩
  · refine (h.ok k xi hk).world fun e ct g hs ho => ?_
    have : ownAt xs v.x k = some g := ownAt_of (cc := xi.c) (e := e) (ct := ct) (by rw [hk, ← hs]) ho
    exact same g (h.osize this) (.inr (.inr ⟨k, this⟩))
  · obtain ⟨el, fr, e⟩ := h.fz n cs hn
    exact ⟨el, fr, by rw [same n (h.fsize hn) (.inr (.inl ⟨cs, hn⟩))]; exact e⟩
theorem HR.bel0 (h : HR v hp xs c w) {w' : World} (hb : Below w.heap.size w w') : HR v hp xs c w' :=
  h.world (G := fun _ => False) (Bel.ofBelow hb) fun _ _ g => g.elim
/-- More numbers, bools and lists. -/
theorem HR.later (h : HR v hp xs c w) {v' : Env} {i b l} (hv : v' = ⟨v.p, v.i ++ i, v.b ++ b, v.l ++ l, v.x, v.f⟩) : HR v' hp xs c w := by
  subst hv
  have lt : Later v ⟨v.p, v.i ++ i, v.b ++ b, v.l ++ l, v.x, v.f⟩ := ⟨[], i, b, l, [], v.f, Fz.le_refl _, by simp⟩
  refine ⟨h.ln, h.nd, fun v'' l' j cs hj => h.blk v'' (lt.trans l') j cs hj, h.ge, h.bel, h.nx, fun k xi hk => ?_, fun k xi hk => ?_, h.fz, h.f0, h.fd, h.pf, h.own⟩
  · have := h.lt k xi hk; simp; omega
  · show XOK v.f w xi.s (v.x.getD k undef) ((v.l ++ l).getD xi.c [])
    rw [getD_app (h.lt k xi hk)]; exact h.ok k xi hk
theorem ownAt_app {x y : List Value} {ys : List XI} (hx : x.length = xs.length) {k : Nat} (hk : k < xs.length) : ownAt (xs ++ ys) (x ++ y) k = ownAt xs x k := by
  unfold ownAt
  rw [List.getElem?_append_left hk, getD_app (by omega)]
theorem getElem?_snoc {α : Type} {l : List α} {a b : α} {k : Nat} (h : (l ++ [a])[k]? = some b) : (k < l.length ∧ l[k]? = some b) ∨ (k = l.length ∧ b = a) := by
  rcases Nat.lt_trichotomy k l.length with hk | hk | hk
  · rw [List.getElem?_append_left hk] at h; exact .inl ⟨hk, h⟩
  · subst hk; simp at h; exact .inr ⟨rfl, h.symm⟩
  · rw [List.getElem?_eq_none (by simp; omega)] at h; cases h
/-- One more slice or string. -/
theorem HR.addx (h : HR v hp xs c w) (xi : XI) (u : Value) (hc : xi.c < v.l.length) (hok : XOK v.f w xi.s u (v.l.getD xi.c []))
    (ho : ∀ e ct g, xi.s = .own e ct → oblk u = some g → v.f g = none ∧ g ∉ v.p ∧ (c.w0.heap.size ≤ g ∨ c.M g) ∧ ∀ k, ownAt xs v.x k ≠ some g) :
    HR ⟨v.p, v.i, v.b, v.l, v.x ++ [u], v.f⟩ hp (xs ++ [xi]) c w := by
  have lt : Later v ⟨v.p, v.i, v.b, v.l, v.x ++ [u], v.f⟩ := ⟨[], [], [], [], [u], v.f, Fz.le_refl _, by simp⟩
  have old : ∀ k, k < xs.length → ownAt (xs ++ [xi]) (v.x ++ [u]) k = ownAt xs v.x k := fun k hk => ownAt_app h.nx hk
  have new : ownAt (xs ++ [xi]) (v.x ++ [u]) xs.length = (match xi.s with | .own _ _ => oblk u | _ => none) := by
    unfold ownAt
    have e2 : (v.x ++ [u]).getD xs.length undef = u := by rw [← h.nx]; simp [List.getD_eq_getElem?_getD]
    simp only [List.getElem?_concat_length]
    rw [e2]
    cases xi with
    | mk cc s => cases s <;> rfl
  have out : ∀ k, xs.length < k → ownAt (xs ++ [xi]) (v.x ++ [u]) k = none := fun k hk => by
    unfold ownAt
    rw [List.getElem?_eq_none (by simp; omega)]
  refine ⟨h.ln, h.nd, fun v'' l' j cs hj => h.blk v'' (lt.trans l') j cs hj, h.ge, h.bel, by simp [h.nx], fun k y hk => ?_, fun k y hk => ?_, h.fz, h.f0, h.fd, h.pf, fun k g hg => ?_⟩
  · rcases getElem?_snoc hk with ⟨_, hk⟩ | ⟨rfl, rfl⟩
    · exact h.lt k y hk
    · exact hc
  · show XOK v.f w y.s ((v.x ++ [u]).getD k undef) (v.l.getD y.c [])
    rcases getElem?_snoc hk with ⟨hl, hk⟩ | ⟨rfl, rfl⟩
    · rw [getD_app (by rw [h.nx]; exact hl)]; exact h.ok k y hk
    · have e2 : (v.x ++ [u]).getD xs.length undef = u := by rw [← h.nx]; simp [List.getD_eq_getElem?_getD]
      rw [e2]; exact hok
  · replace hg : ownAt (xs ++ [xi]) (v.x ++ [u]) k = some g := hg
    show v.f g = none ∧ g ∉ v.p ∧ _ ∧ ∀ k', k' ≠ k → ownAt (xs ++ [xi]) (v.x ++ [u]) k' ≠ some g
    rcases Nat.lt_trichotomy k xs.length with hk | hk | hk
    · rw [old k hk] at hg
      obtain ⟨a1, a2, a3, a4⟩ := h.own k g hg
      refine ⟨a1, a2, a3, fun k' hne => ?_⟩
      rcases Nat.lt_trichotomy k' xs.length with hk' | hk' | hk'
      · rw [old k' hk']; exact a4 k' hne
      · subst hk'
        rw [new]
        intro e
        cases hs : xi.s <;> rw [hs] at e <;> simp only at e <;> try cases e
        rename_i e0 ct
        exact (ho e0 ct g hs e).2.2.2 k hg
      · rw [out k' hk']; exact fun e => by cases e
    · subst hk
      rw [new] at hg
      cases hs : xi.s <;> rw [hs] at hg <;> simp only at hg <;> try cases hg
      rename_i e0 ct
      obtain ⟨a1, a2, a3, a4⟩ := ho e0 ct g hs hg
      refine ⟨a1, a2, a3, fun k' hne => ?_⟩
      rcases Nat.lt_trichotomy k' xs.length with hk' | hk' | hk'
      · rw [old k' hk']; exact a4 k'
      · exact absurd hk' hne
      · rw [out k' hk']; exact fun e => by cases e
    · rw [out k hk] at hg; cases hg
theorem ownAt_set {x : List Value} {k : Nat} {xi : XI} (hk : k < xs.length) (j : Nat) : ownAt (xs.set k xi) x j = if j = k then (match xi.s with | .own _ _ => oblk (x.getD k undef) | _ => none) else ownAt xs x j := by
  unfold ownAt
  rw [List.getElem?_set]
  by_cases e : k = j
  · subst e
    simp only [if_true, hk]
    cases xi with
    | mk cc s => cases s <;> rfl
  · rw [if_neg e, if_neg (fun q => e q.symm)]
/-- Slice number k stands otherwise: as one that was not the call's own, or (gone) anyhow. -/
theorem HR.setx (h : HR v hp xs c w) {k : Nat} (hk : k < xs.length) (xi : XI) (hc : xi.c < v.l.length) (hok : XOK v.f w xi.s (v.x.getD k undef) (v.l.getD xi.c []))
    (ho : ∀ e ct g, xi.s = .own e ct → oblk (v.x.getD k undef) = some g → v.f g = none ∧ g ∉ v.p ∧ (c.w0.heap.size ≤ g ∨ c.M g) ∧ ∀ k', k' ≠ k → ownAt xs v.x k' ≠ some g) : HR v hp (xs.set k xi) c w := by
  have hset : ∀ (j : Nat) y, (xs.set k xi)[j]? = some y → (j = k ∧ y = xi) ∨ (j ≠ k ∧ xs[j]? = some y) := fun j y hy => by
    rw [List.getElem?_set] at hy
    by_cases e : k = j
    · subst e
      rw [if_pos rfl, if_pos hk] at hy
      cases hy; exact .inl ⟨rfl, rfl⟩
    · rw [if_neg e] at hy; exact .inr ⟨fun q => e q.symm, hy⟩
  refine ⟨h.ln, h.nd, h.blk, h.ge, h.bel, by simp [h.nx], fun j y hy => ?_, fun j y hy => ?_, h.fz, h.f0, h.fd, h.pf, fun j g hg => ?_⟩
  · rcases hset j y hy with ⟨rfl, rfl⟩ | ⟨_, hy⟩
    · exact hc
    · exact h.lt j y hy
  · rcases hset j y hy with ⟨rfl, rfl⟩ | ⟨_, hy⟩
    · exact hok
    · exact h.ok j y hy
  · rw [ownAt_set hk] at hg
    by_cases e : j = k
    · subst e
      rw [if_pos rfl] at hg
      cases hs : xi.s <;> rw [hs] at hg <;> simp only at hg <;> try cases hg
      rename_i e0 ct
      obtain ⟨a1, a2, a3, a4⟩ := ho e0 ct g hs hg
      refine ⟨a1, a2, a3, fun k' hne => ?_⟩
      rw [ownAt_set hk, if_neg hne]; exact a4 k' hne
    · rw [if_neg e] at hg
      obtain ⟨a1, a2, a3, a4⟩ := h.own j g hg
      refine ⟨a1, a2, a3, fun k' hne => ?_⟩
      rw [ownAt_set hk]
      by_cases e' : k' = k
      · subst e'
        rw [if_pos rfl]
        intro q
        cases hs : xi.s <;> rw [hs] at q <;> simp only at q <;> try cases q
        rename_i e0 ct
        exact (ho e0 ct g hs q).2.2.2 j e hg
      · rw [if_neg e']; exact a4 k' hne
theorem HR.kill (h : HR v hp xs c w) {k : Nat} {cc : Nat} {s : XS} (hk : xs[k]? = some ⟨cc, s⟩) (hs : s ≠ .str) : HR v hp (xs.set k ⟨cc, .dead⟩) c w :=
  h.setx (List.getElem?_eq_some_iff.1 hk).1 ⟨cc, .dead⟩ (h.lt k ⟨cc, s⟩ hk) ((h.ok k _ hk).slice hs) fun _ _ _ e => by cases e
/-- A slice of the call's own changes its block (or gets another one): it is gone. -/
theorem HR.take (h : HR v hp xs c w) {k cc : Nat} {e ct} (hk : xs[k]? = some ⟨cc, .own e ct⟩) {w' : World} (hb : Bel (fun n => oblk (v.x.getD k undef) = some n) w w') : HR v hp (xs.set k ⟨cc, .dead⟩) c w' := by
  have hkl := (List.getElem?_eq_some_iff.1 hk).1
  refine (h.kill hk (by simp)).world hb fun n hn g => ?_
  obtain ⟨a1, a2, a3, a4⟩ := h.own k n (ownAt_of hk g)
  refine ⟨a2, a1, fun k' => ?_, fun hlt => a3.resolve_left (by omega)⟩
  rw [ownAt_set hkl]
  by_cases e' : k' = k
  · rw [if_pos e']; exact fun q => by cases q
  · rw [if_neg e']; exact a4 k' e'
/-- One more block of the call's own. -/
theorem HR.push (h : HR v hp xs c w) (cs : List Sc) (el : TypeId) (C : Array Value) (hC : ∀ v', Later v v' → C = (cs.map (Sc.den v')).toArray) :
    HR ⟨v.p ++ [w.heap.size], v.i, v.b, v.l, v.x, v.f⟩ (hp ++ [cs]) xs c { w with heap := w.heap.push (.cells C el) } := by
  have lt : Later v ⟨v.p ++ [w.heap.size], v.i, v.b, v.l, v.x, v.f⟩ := ⟨[w.heap.size], [], [], [], [], v.f, Fz.le_refl _, by simp⟩
  have hb : Below w.heap.size w { w with heap := w.heap.push (.cells C el) } := (Below.refl _ w).alloc (Nat.le_refl _) _
  have h' := h.bel0 hb
  refine ⟨by simp [h.ln], ?_, ?_, ?_, h'.bel, h.nx, h.lt, h'.ok, h'.fz, h.f0, h.fd, ?_, ?_⟩
  · rw [List.nodup_append]
    refine ⟨h.nd, by simp, ?_⟩
    intro x hx y hy
    simp only [List.mem_singleton] at hy
    have := h.size x hx
    omega
  · intro v' l i cs' hc
    rcases getElem?_snoc hc with ⟨hi, hc⟩ | ⟨rfl, rfl⟩
    · obtain ⟨el', e⟩ := h'.blk v' (lt.trans l) i cs' hc
      exact ⟨el', by rw [getD_app (by rw [h.ln]; exact hi)]; exact e⟩
    · refine ⟨el, ?_⟩
      show (w.heap.push _)[(v.p ++ [w.heap.size]).getD hp.length 0]? = _
      have : (v.p ++ [w.heap.size]).getD hp.length 0 = w.heap.size := by
        rw [← h.ln]; simp [List.getD_eq_getElem?_getD]
      rw [this, Array.getElem?_push, if_pos rfl, hC v' (lt.trans l)]
  · intro n hn
    simp only [List.mem_append, List.mem_singleton] at hn
    rcases hn with hn | rfl
    · exact h.ge n hn
    · exact .inl h.bel.size
  · intro n hn
    simp only [List.mem_append, List.mem_singleton] at hn
    rcases hn with hn | rfl
    · exact h.pf n hn
    · show v.f w.heap.size = none
      cases hf : v.f w.heap.size with
      | none => rfl
      | some cs => have := h.fsize hf; omega
  · intro k g hg
    obtain ⟨a1, a2, a3, a4⟩ := h.own k g hg
    refine ⟨a1, ?_, a3, a4⟩
    simp only [List.mem_append, List.mem_singleton, not_or]
    exact ⟨a2, fun e => by have := h.osize hg; omega⟩
/-- A block that is written. -/
theorem HR.write (h : HR v hp xs c w) (b : Nat) (cs cs' : List Sc) (hb : hp[b]? = some cs) (C : Array Value) (hC : ∀ v', Later v v' → C = (cs'.map (Sc.den v')).toArray) :
    HR v (hp.set b cs') xs c (w.setRow (v.p.getD b 0) C) := by
  have hlt : b < hp.length := (List.getElem?_eq_some_iff.1 hb).1
  have hlp : b < v.p.length := by rw [h.ln]; exact hlt
  have hm : v.p.getD b 0 ∈ v.p := by rw [List.getD_eq_getElem?_getD, List.getElem?_eq_getElem hlp]; exact List.getElem_mem hlp
  have hother : ∀ n, n ≠ v.p.getD b 0 → (w.setRow (v.p.getD b 0) C).heap[n]? = w.heap[n]? := fun n hn => setRow_other w _ n _ hn
  have hbel : Bel (fun n => n = v.p.getD b 0) w (w.setRow (v.p.getD b 0) C) := ⟨rfl, rfl, rfl, by simp, fun n _ hn => hother n hn⟩
  refine ⟨by simp [h.ln], h.nd, ?_, h.ge, h.bel.step hbel fun n e hn => ?_, h.nx, h.lt, fun k xi hk => ?_, fun n cs hn => ?_, h.f0, h.fd, h.pf, h.own⟩
  · intro v' l i ds hd
    rw [List.getElem?_set] at hd
    by_cases e : b = i
    · subst e
      rw [if_pos rfl, if_pos hlt] at hd
      cases hd
      obtain ⟨el, e1⟩ := h.blk v' l b cs hb
      exact ⟨el, by rw [setRow_heap w _ _ C el _ e1, hC v' l]⟩
    · rw [if_neg e] at hd
      obtain ⟨el, e1⟩ := h.blk v' l i ds hd
      have hli : i < v.p.length := by rw [h.ln]; exact (List.getElem?_eq_some_iff.1 hd).1
      refine ⟨el, ?_⟩
      rw [hother]
      · exact e1
      · intro hh
        have h1 : v.p.getD b 0 = v.p[b] := by simp [List.getD_eq_getElem?_getD, hlp]
        have h2 : v.p.getD i 0 = v.p[i] := by simp [List.getD_eq_getElem?_getD, hli]
        rw [h1, h2] at hh
        have hp := List.pairwise_iff_getElem.1 h.nd
        rcases Nat.lt_or_gt_of_ne e with q | q
        · exact hp b i hlp hli q hh.symm
        · exact hp i b hli hlp q hh
  · subst e; exact (h.ge _ hm).resolve_left (by omega)
  · refine (h.ok k xi hk).world fun e ct g hs ho => hother g fun e' => ?_
    have := h.own k g (ownAt_of (cc := xi.c) (e := e) (ct := ct) (by rw [hk, ← hs]) ho)
    exact this.2.1 (e' ▸ hm)
  · obtain ⟨el, fr, e⟩ := h.fz n cs hn
    refine ⟨el, fr, ?_⟩
    rw [hother n fun e' => ?_]
    · exact e
    · have := h.pf _ hm; rw [← e', hn] at this; cases this
end

def GT (v : Env) (G : E) : Prop := ∀ v', Later v v' → G.B v'.i v'.b v'.l = true
def GF (v : Env) (G : E) : Prop := ∀ v', Later v v' → G.B v'.i v'.b v'.l = false
theorem GT.t (v : Env) : GT v (.t true) := fun _ _ => rfl

def ofSc : Value → Option Sc
  | .int k n => some (.i k (.n n))
  | .bool b => some (.b (.t b))
  | .slice none 0 0 => some .nls
  | .string s => some (.str s)
  | _ => none
def ofScs : List Value → Option (List Sc)
  | [] => some []
  | v :: r => match ofSc v, ofScs r with
    | some x, some l => some (x :: l)
    | _, _ => none
def ofConst : Value → Option S1
  | .agg cs => (ofScs cs.toList).map .agg
  | v => (ofSc v).map .s
theorem ofSc_ok {x : Value} {c : Sc} (h : ofSc x = some c) (v : Env) : x = c.den v := by
  unfold ofSc at h
  split at h <;> cases h <;> rfl
theorem ofScs_ok : ∀ {l : List Value} {cs : List Sc}, ofScs l = some cs → ∀ v : Env, l = cs.map (Sc.den v)
  | [], cs, h, v => by simp [ofScs] at h; subst h; rfl
  | x :: r, cs, h, v => by
    simp only [ofScs] at h
    split at h
    · rename_i c l h1 h2
      cases h
      rw [List.map_cons, ← ofSc_ok h1 v, ← ofScs_ok h2 v]
    · cases h
theorem ofConst_ok {x : Value} {s : S1} (h : ofConst x = some s) (v : Env) : x = s.den v := by
  unfold ofConst at h
  split at h
  · rename_i cs
    simp only [Option.map_eq_some_iff] at h
    obtain ⟨l, h1, rfl⟩ := h
    have := ofScs_ok h1 v
    simp [S1.den, ← this]
  · simp only [Option.map_eq_some_iff] at h
    obtain ⟨c, h1, rfl⟩ := h
    exact ofSc_ok h1 v

def rd (st : St) (G : E) : Operand → Option S1
  | .tmp t => match st.get t with
    | .o v => some v
    | .g c v => if E.imp G c then some v else none
    | _ => none
  | .const v => ofConst v
  | .func f => some (.s (.fn f [] []))
  | _ => none
theorem rd_ok {st : St} {G : E} {x : Operand} {s : S1} {v : Env} {a : Act} (hT : TR v st a) (hG : GT v G) (h : rd st G x = some s) : ∀ v', Later v v' → a.eval x = s.den v' := by
  intro v' l
  unfold rd at h
  split at h
  · rename_i t
    show a.tmps.getD t undef = _
    rw [hT.get l t (by intro e; rw [e] at h; cases h)]
    split at h
    · rename_i e; cases h; rw [e]; rfl
    · rename_i c x e
      split at h
      · rename_i hi
        cases h
        rw [e]
        simp only [SV.den, E.imp_ok hi (hG v' l), cond_true]
      · cases h
    · cases h
  · exact ofConst_ok h v'
  · cases h; rfl
  · cases h

def merge (e : E) : S1 → S1 → Option S1
  | .s (.i k x), .s (.i k' y) => if k = k' then some (.s (.i k (mkii e x y))) else none
  | .s (.b x), .s (.b y) => some (.s (.b (mkbi e x y)))
  | _, _ => none
section
variable (P : Program)
/-- A part of a struct's or an array's cells. -/
def partS (t : TypeId) (cs : List Sc) (off : Nat) : Option S1 :=
  match P.underlying t, P.info? t with
  | some d, some i => if d.isRow then some (.agg ((cs.drop off).take i.size)) else (cs[off]?).map .s
  | _, _ => none
theorem run_isAgg {P : Program} {t : TypeId} {d : TypeDesc} (h : P.underlying t = some d) (w : World) : (isAgg t).run P w = .ok d.isRow w := by
  unfold isAgg
  rw [Sem.run_bind, run_underlying h w]
  cases d <;> rfl
theorem run_sizeOf {P : Program} {t : TypeId} {i : TypeInfo} (h : P.info? t = some i) (w : World) : (sizeOf t).run P w = .ok i.size w := by simp [sizeOf, typeInfo, h]
theorem partS_ok {t cs off s} (h : partS P t cs off = some s) (v : Env) (w : World) : (part t (cs.map (Sc.den v)).toArray off).run P w = .ok (s.den v) w := by
  unfold partS at h
  split at h
  · rename_i d i hd hi
    unfold part
    rw [Sem.run_bind, run_isAgg hd w, Result.andThen_ok]
    split at h
    · rename_i hr
      cases h
      rw [if_pos hr, Sem.run_bind, run_sizeOf hi w, Result.andThen_ok, Sem.run_pure]
      congr 2
      apply Array.toList_inj.1
      simp [List.extract, List.map_take, List.map_drop]
    · rename_i hr
      rw [if_neg hr]
      simp only [Option.map_eq_some_iff] at h
      obtain ⟨c, h1, rfl⟩ := h
      simp [h1, S1.den]
  · cases h
/-- Equal, part for part. -/
def eqF (eq : TypeId → S1 → S1 → Option E) (xs ys : List Sc) : List Field → Option E
  | [] => some (.t true)
  | f :: fs => if f.name = "_" then none else
    match partS P f.type xs f.offset, partS P f.type ys f.offset with
    | some x, some y => match eq f.type x y, eqF eq xs ys fs with
      | some e, some r => some (mkan e r)
      | _, _ => none
    | _, _ => none
def eqS : Nat → TypeId → S1 → S1 → Option E
  | 0, _, _, _ => none
  | d + 1, t, x, y => match P.underlying t, x, y with
    | some (.int _), .s (.i k a), .s (.i k' b) => if k = k' then some (mkcm .eql a b) else none
    | some .bool, .s (.b a), .s (.b b) => some (mkbe a b)
    | some (.struct fs), .agg xs, .agg ys => if P.stoodInHeld t then none else eqF P (eqS d) xs ys fs.toList
    | _, _, _ => none
theorem eqF_ok (eq : TypeId → S1 → S1 → Option E) (D : Nat) (v : Env) (w : World) (ih : ∀ {t x y e}, eq t x y = some e → (Op.equalIn D t (x.den v) (y.den v)).run P w = .ok (e.B v.i v.b v.l) w) {xs ys : List Sc} :
    ∀ (fs : List Field) {e}, eqF P eq xs ys fs = some e → (Op.eqFields D (xs.map (Sc.den v)).toArray (ys.map (Sc.den v)).toArray fs).run P w = .ok (e.B v.i v.b v.l) w
  | [], e, h => by
    have h' : some (E.t true) = some e := h
    cases h'; rfl
  | f :: fs, e, h => by
    simp only [eqF] at h
    split at h
    · cases h
    · rename_i hn
      split at h
      · rename_i x y hx hy
        split at h
        · rename_i e1 r h1 h2
          cases h
          have k1 := ih h1
          have k2 := eqF_ok eq D v w ih fs h2
          simp only [Op.eqFields]
          rw [if_pos hn]
          simp only [Sem.run_bind, partS_ok P hx v w, partS_ok P hy v w, Result.andThen_ok, k1, mkan_B]
          cases e1.B v.i v.b v.l
          · rfl
          · simpa using k2
        · cases h
      · cases h
theorem eqS_ok : ∀ (d : Nat) {t x y e}, eqS P d t x y = some e → ∀ (D : Nat) (v : Env) (w : World), (Op.equalIn (D + d) t (x.den v) (y.den v)).run P w = .ok (e.B v.i v.b v.l) w
  | 0, _, _, _, _, h, _, _, _ => by simp [eqS] at h
  | d + 1, t, x, y, e, h, D, v, w => by
    simp only [eqS] at h
    split at h
    · rename_i hu
      split at h
      · rename_i hk
        cases h
        subst hk
        rw [← Nat.add_assoc]
        rw [S1.den, S1.den, Sc.den, Sc.den, run_equalIn_int w _ t _ _ _ _ hu, mkcm_B]; rfl
      · cases h
    · rename_i hu
      cases h
      rw [← Nat.add_assoc]
      rw [S1.den, S1.den, Sc.den, Sc.den, run_equalIn_bool w _ t _ _ hu, mkbe_B]
    · rename_i fs xs ys hu
      split at h
      · cases h
      · rename_i hs
        have hf : P.fieldsOf t = fs := by simp [Program.fieldsOf, hu]
        rw [← Nat.add_assoc]
        rw [S1.den, S1.den, run_equalIn_struct w _ t _ _ (by rw [hf]; exact hu) (by simpa using hs), hf]
        exact eqF_ok P (eqS P d) (D + d) v w (fun h => eqS_ok d h D v w) fs.toList h
    · cases h
/-- What a struct or an array is built of. -/
def fillS (place : Nat → Option (Nat × Nat)) (cells : Array Sc) : List (Nat × S1) → Option (Array Sc)
  | [] => some cells
  | (i, v) :: rest =>
    match place i with
    | none => none
    | some (off, size) =>
      if v.cells.length ≠ size || off + v.cells.length > cells.size then none
      else fillS place (v.cells.toArray.zipIdx.foldl (fun cs (c, j) => cs.setIfInBounds (off + j) c) cells) rest
theorem foldl_den (v : Env) (off : Nat) : ∀ (l : List (Sc × Nat)) (cells : Array Sc),
    ((l.foldl (fun cs (c, j) => cs.setIfInBounds (off + j) c) cells).map (Sc.den v)) = (l.map fun (c, j) => (c.den v, j)).foldl (fun cs (c, j) => cs.setIfInBounds (off + j) c) (cells.map (Sc.den v))
  | [], cells => rfl
  | (c, j) :: l, cells => by
    simp only [List.foldl_cons, List.map_cons]
    rw [foldl_den v off l]
    simp
theorem fillS_ok (place : Nat → Option (Nat × Nat)) (v : Env) : ∀ (l : List (Nat × S1)) (cells r : Array Sc), fillS place cells l = some r →
    Instr.fill place (cells.map (Sc.den v)) (l.map fun (i, x) => (i, x.den v)) = some (r.map (Sc.den v))
  | [], cells, r, h => by simp [fillS] at h; subst h; rfl
  | (i, x) :: l, cells, r, h => by
    simp only [fillS] at h
    simp only [List.map_cons, Instr.fill]
    cases hp : place i with
    | none => simp [hp] at h
    | some os =>
      obtain ⟨off, size⟩ := os
      simp only [hp] at h
      split at h
      · cases h
      · rename_i hc
        simp only
        split
        · rename_i hc'
          rw [S1.den_cells] at hc'
          exact absurd (by simpa using hc') hc
        · have := fillS_ok place v l _ r h
          rw [← this]
          congr 1
          rw [S1.den_cells]
          rw [← Array.foldl_toList, ← Array.foldl_toList, foldl_den]
          congr 1
          simp [List.zipIdx_map]
          try rfl
def builtS (t : TypeId) (parts : List (Nat × S1)) : Option S1 :=
  match P.info? t, P.underlying t with
  | some it, some (.array _ e) =>
    match it.zero, P.info? e with
    | some z, some ie => match ofScs z.cells.toList with
      | some zs => (fillS (fun i => some (i * ie.size, ie.size)) zs.toArray parts).map fun r => .agg r.toList
      | none => none
    | _, _ => none
  | some it, some (.struct fields) =>
    match it.zero, fields.toList.mapM (fun f => (P.info? f.type).map fun i => (f.offset, i.size)) with
    | some z, some places => match ofScs z.cells.toList with
      | some zs => (fillS (places.toArray[·]?) zs.toArray parts).map fun r => .agg r.toList
      | none => none
    | _, _ => none
  | _, _ => none
theorem builtS_ok {t parts s} (h : builtS P t parts = some s) (v : Env) (w : World) : (Instr.build t (parts.map fun (i, x) => (i, x.den v)).toArray).run P w = .ok (s.den v) w := by
  have key : ∃ cells, P.built t (parts.map fun (i, x) => (i, x.den v)) = some cells ∧ s.den v = .agg cells := by
    unfold builtS at h
    unfold Program.built
    cases hi : P.info? t with
    | none => simp [hi] at h
    | some it =>
      cases hu : P.underlying t with
      | none => simp [hi, hu] at h
      | some d =>
        cases hz : it.zero with
        | none => cases d <;> simp [hi, hu, hz] at h
        | some z =>
          cases hzs : ofScs z.cells.toList with
          | none => cases d <;> simp [hi, hu, hz] at h <;> (split at h <;> simp_all)
          | some zs =>
            have e1 := ofScs_ok hzs v
            have e2 : z.cells = zs.toArray.map (Sc.den v) := by apply Array.toList_inj.1; simp [e1]
            cases d <;> try (simp [hi, hu] at h; done)
            case array n e =>
              cases hie : P.info? e with
              | none => simp [hi, hu, hz, hie] at h
              | some ie =>
                simp only [hi, hu, hz, hie, hzs, Option.map_eq_some_iff] at h
                obtain ⟨r, h1, rfl⟩ := h
                refine ⟨r.map (Sc.den v), ?_, congrArg Value.agg (by apply Array.toList_inj.1; simp)⟩
                simp only [hz, hie]
                rw [e2]; exact fillS_ok _ v _ _ _ h1
            case struct fields =>
              cases hpl : fields.toList.mapM (fun f => (P.info? f.type).map fun i => (f.offset, i.size)) with
              | none => simp [hi, hu, hz, hpl] at h
              | some places =>
                simp only [hi, hu, hz, hpl, hzs, Option.map_eq_some_iff] at h
                obtain ⟨r, h1, rfl⟩ := h
                refine ⟨r.map (Sc.den v), ?_, congrArg Value.agg (by apply Array.toList_inj.1; simp)⟩
                simp only [hz, hpl]
                rw [e2]; exact fillS_ok _ v _ _ _ h1
  obtain ⟨cells, h1, h2⟩ := key
  rw [run_build w t _ cells (by simpa using h1), h2]
end

def rdL (st : St) (G : E) : List Operand → Option (List S1)
  | [] => some []
  | x :: r => match rd st G x, rdL st G r with
    | some a, some l => some (a :: l)
    | _, _ => none
def rdP (st : St) (G : E) : List (Nat × Operand) → Option (List (Nat × S1))
  | [] => some []
  | (i, x) :: r => match rd st G x, rdP st G r with
    | some a, some l => some ((i, a) :: l)
    | _, _ => none
section
variable {st : St} {G : E} {v : Env} {a : Act} (hT : TR v st a) (hG : GT v G)
include hT hG
theorem rdL_ok : ∀ {xs : List Operand} {l : List S1}, rdL st G xs = some l → ∀ v', Later v v' → xs.map a.eval = l.map (S1.den v')
  | [], l, h, v', lt => by simp [rdL] at h; subst h; rfl
  | x :: r, l, h, v', lt => by
    simp only [rdL] at h
    split at h
    · rename_i b l' h1 h2
      cases h
      rw [List.map_cons, List.map_cons, rd_ok hT hG h1 v' lt, rdL_ok h2 v' lt]
    · cases h
theorem rdP_ok : ∀ {xs : List (Nat × Operand)} {l : List (Nat × S1)}, rdP st G xs = some l → ∀ v', Later v v' → xs.map (fun (i, x) => (i, a.eval x)) = l.map (fun (i, x) => (i, x.den v'))
  | [], l, h, v', lt => by simp [rdP] at h; subst h; rfl
  | (i, x) :: r, l, h, v', lt => by
    simp only [rdP] at h
    split at h
    · rename_i b l' h1 h2
      cases h
      have e1 := rd_ok hT hG h1 v' lt
      have e2 := rdP_ok h2 v' lt
      simp only [List.map_cons, e1, e2]
    · cases h
end

/-- Slice number k, its list, how many cells an element has. -/
def slK (xs : List XI) (k : Nat) : Option (Nat × List CT) :=
  match xs[k]? with
  | some ⟨c, .fz ct⟩ => some (c, ct)
  | some ⟨c, .own _ ct⟩ => some (c, ct)
  | _ => none
def strK (xs : List XI) (k : Nat) : Option Nat :=
  match xs[k]? with
  | some ⟨c, .str⟩ => some c
  | _ => none
/-- An element that is there. -/
def bnd0 (c : Nat) (e : E) : E := mkan (mkcm .geq e (.n 0)) (mkcm .lss e (.ln c))
/-- A byte of a string that is known. -/
def bytesL (s : ByteArray) : List Nat := s.data.toList.map UInt8.toNat
def intOp (op : BinOp) (k k' : IntKind) (a b : E) : Option (S1 × E) :=
  match op with
  | .shl | .shr => some (.s (.i k (mkar op k a b)), mkcm .geq b (.n 0))
  | .quo | .rem => if k = k' then some (.s (.i k (mkar op k a b)), mkcm .neq b (.n 0)) else none
  | .add | .sub | .mul | .and | .or | .xor | .andNot => if k = k' then some (.s (.i k (mkar op k a b)), .t true) else none
  | .eql | .neq | .lss | .leq | .gtr | .geq => if k = k' then some (.s (.b (mkcm op a b)), .t true) else none
section
variable (P : Program)
def boolOp (op : BinOp) (t : TypeId) (a b : E) : Option (S1 × E) :=
  match P.underlying t, op with
  | some .bool, .eql => some (.s (.b (mkbe a b)), .t true)
  | some .bool, .neq => some (.s (.b (mknt (mkbe a b))), .t true)
  | _, _ => none
def aggOp (op : BinOp) (t : TypeId) (xs ys : List Sc) : Option (S1 × E) :=
  if P.eqGuardType P.depth t then none else
  match eqS P 6 t (.agg xs) (.agg ys), op with
  | some e, .eql => some (.s (.b e), .t true)
  | some e, .neq => some (.s (.b (mknt e)), .t true)
  | _, _ => none
def strOp (op : BinOp) (e : E) : Option (S1 × E) :=
  match op with
  | .eql => some (.s (.b e), .t true)
  | .neq => some (.s (.b (mknt e)), .t true)
  | _ => none
def binS (xs : List XI) (op : BinOp) (t : TypeId) (x y : S1) : Option (S1 × E) :=
  match x, y with
  | .s (.x k), .s (.x k') => match strK xs k, strK xs k' with
    | some c, some d => strOp op (.lq c d)
    | _, _ => none
  | .s (.x k), .s (.str s) => match strK xs k with
    | some c => strOp op (if s.size = 0 then mkcm .eql (.ln c) (.n 0) else .lc c (bytesL s))
    | none => none
  | .s (.str s), .s (.x k) => match strK xs k with
    | some c => strOp op (if s.size = 0 then mkcm .eql (.ln c) (.n 0) else .lc c (bytesL s))
    | none => none
  | .s (.i k a), .s (.i k' b) => intOp op k k' a b
  | .s (.b a), .s (.b b) => boolOp P op t a b
  | .agg xs, .agg ys => aggOp P op t xs ys
  | _, _ => none
def unS (op : UnOp) (x : S1) : Option S1 :=
  match op, x with
  | .not, .s (.b e) => some (.s (.b (mknt e)))
  | .neg, .s (.i k e) => some (.s (.i k (mkar .sub k (.n 0) e)))
  | .xor, .s (.i k e) => some (.s (.i k (mkar .xor k (.n (if k.signed then -1 else k.max)) e)))
  | _, _ => none
def cvS (src dst : TypeId) (x : S1) : Option S1 :=
  match x, P.underlying src, P.underlying dst with
  | .s (.i _ e), some _, some (.int k) => some (.s (.i k (mkcv k e)))
  | _, _, _ => none
def fieldS (t : TypeId) (x : S1) (f : Nat) : Option S1 :=
  match x, P.underlying t with
  | .agg cs, some (.struct fs) => match fs[f]? with
    | some f => partS P f.type cs f.offset
    | none => none
  | _, _ => none
def faddrS (xs : List XI) (s : TypeId) (x : S1) (f : Nat) : Option (S1 × E) :=
  match x, P.underlying s with
  | .s (.p b o), some (.struct fs) => match fs[f]? with
    | some fd => match P.info? fd.type with
      | some i => if i.size = 0 then none else some (.s (.p b (o + fd.offset)), .t true)
      | none => none
    | none => none
  | .s (.xa k m e j), some (.struct fs) => match fs[f]?, slK xs k with
    | some fd, some (c, _) => match P.info? fd.type with
      | some i => if i.size = 0 then none else some (.s (.xa k m e (j + fd.offset)), bnd0 c e)
      | none => none
    | _, _ => none
  | _, _ => none
def iaddrS (xs : List XI) (t : TypeId) (x i : S1) : Option (S1 × E) :=
  match x, i, P.underlying t with
  | .s (.x k), .s (.i _ e), some (.slice te) => match P.info? te, slK xs k with
    | some ie, some (c, ct) => if ie.size = ct.length then some (.s (.xa k ct.length e 0), bnd0 c e) else none
    | _, _ => none
  | .s (.p b o), .s (.i _ (.n m)), some (.array l e) => match P.info? e with
    | some ie => if 0 ≤ m ∧ m < (l : Int) then some (.s (.p b (o + m.toNat * ie.size)), .t true) else none
    | none => none
  | _, _, _ => none
def indexS (t : TypeId) (x i : S1) : Option S1 :=
  match x, i, P.underlying t with
  | .agg cs, .s (.i _ (.n m)), some (.array l e) => match P.info? e with
    | some ie => if 0 ≤ m ∧ m < (l : Int) then partS P e cs (m.toNat * ie.size) else none
    | none => none
  | _, _, _ => none
def idxS (xs : List XI) (t : TypeId) (x i : S1) : Option (S1 × E) :=
  match x, i, P.underlying t with
  | .s (.x k), .s (.i _ e), some .string => match strK xs k with
    | some c => some (.s (.i .u8 (.ix c e 0)), bnd0 c e)
    | none => none
  | .s (.str s), .s (.i _ e), some .string => some (.s (.i .u8 (.tb (bytesL s) e)), mkan (mkcm .geq e (.n 0)) (mkcm .lss e (.n s.size)))
  | x, i, _ => (indexS P t x i).map (·, .t true)
def lenS (xs : List XI) (t : TypeId) (x : S1) : Option S1 :=
  match x, P.underlying t with
  | .s (.x k), some (.slice _) => match xs[k]? with
    | some ⟨c, .fz _⟩ | some ⟨c, .own _ _⟩ | some ⟨c, .dead⟩ => some (.s (.i .i64 (.ln c)))
    | _ => none
  | .s (.x k), some .string => match strK xs k with
    | some c => some (.s (.i .i64 (.ln c)))
    | none => none
  | .s .nls, some (.slice _) => some (.s (.i .i64 (.n 0)))
  | .s (.str s), some .string => some (.s (.i .i64 (.n s.size)))
  | _, _ => none
def bltS (xs : List XI) (b : Builtin) (ts : List TypeId) (l : List S1) : Option S1 :=
  match b, ts, l with
  | .min, _, [.s (.i k a), .s (.i _ b)] => some (.s (.i k (mkmn a b)))
  | .max, _, [.s (.i k a), .s (.i _ b)] => some (.s (.i k (mkmx a b)))
  | .len, [t], [x] => lenS P xs t x
  | _, _, _ => none
/-- What an operation yields that only reckons, and what must hold for it not to panic. -/
def pvw (st : St) (G : E) (op : Op) : Option (S1 × E) :=
  match op with
  | .move x | .assign x => (rd st G x).map (·, .t true)
  | .pick c x y => match rd st G c with
    | some (.s (.b e)) => match e with
      | .t true => (rd st G x).map (·, .t true)
      | .t false => (rd st G y).map (·, .t true)
      | e => match rd st (mkan G e) x, rd st (mkan G (mknt e)) y with
        | some a, some b => (merge e a b).map (·, .t true)
        | none, some b => some (b, mknt e)
        | some a, none => some (a, e)
        | none, none => none
    | _ => none
  | .build t parts => match rdP st G parts.toList with
    | some l => (builtS P t l).map (·, .t true)
    | none => none
  | .field t x f => match rd st G x with
    | some x => (fieldS P t x f).map (·, .t true)
    | none => none
  | .extract (.tmp t) ix => match st.get t with
    | .tup l => (l[ix]?).map (·, .t true)
    | _ => none
  | .binOp op t x y _ => match rd st G x, rd st G y with
    | some x, some y => binS P st.xs op t x y
    | _, _ => none
  | .unOp op _ x => match rd st G x with
    | some x => (unS op x).map (·, .t true)
    | none => none
  | .convert src dst x => match rd st G x with
    | some x => (cvS P src dst x).map (·, .t true)
    | none => none
  | .nilCheck x => match rd st G x with
    | some (.s (.p b o)) => some (.s (.p b o), .t true)
    | some (.s (.xa k m e j)) => match slK st.xs k with
      | some (c, _) => some (.s (.xa k m e j), bnd0 c e)
      | none => none
    | _ => none
  | .fieldAddr s x f => match rd st G x with
    | some x => faddrS P st.xs s x f
    | none => none
  | .indexAddr t x i => match rd st G x, rd st G i with
    | some x, some i => iaddrS P st.xs t x i
    | _, _ => none
  | .index t x i => match rd st G x, rd st G i with
    | some x, some i => idxS P st.xs t x i
    | _, _ => none
  | .call { callee := .builtin b, args := xs, argTypes := ts } => match rdL st G xs.toList with
    | some l => (bltS P st.xs b ts.toList l).map (·, .t true)
    | none => none
  | _ => none
variable {P}
/-- Run of an operation that hands back a value in the world that it got. -/
theorem run_v {s : Sem Value} {w : World} {u : Value} (h : s.run P w = .ok u w) : (do pure (Next.value (← s))).run P w = .ok (.value u) w := by
  simp [h]
theorem intOp_ok {op k k' x y s rq} (h : intOp op k k' x y = some (s, rq)) (t : TypeId) (ox oy : Operand) (v : Env) (w : World) (hrq : rq.B v.i v.b v.l = true) :
    (do eqGuard op t ox oy (.int k (x.I v.i v.b v.l)) (.int k' (y.I v.i v.b v.l)); binOp op t (.int k (x.I v.i v.b v.l)) (.int k' (y.I v.i v.b v.l))).run P w = .ok (s.den v) w := by
  rw [eqGuard_at_int]
  simp only [Sem.run_bind, Sem.run_pure, Result.andThen_ok]
  unfold intOp at h
  split at h
  · cases h
    simp only [mkcm_B, cmB, E.I, ge_iff_le, decide_eq_true_eq] at hrq
    simp only [binOp_shl, S1.den, Sc.den, mkar_I, arI, Op.shift]
    rw [if_neg (by omega)]; rfl
  · cases h
    simp only [mkcm_B, cmB, E.I, ge_iff_le, decide_eq_true_eq] at hrq
    simp only [binOp_shr, S1.den, Sc.den, mkar_I, arI, Op.shift]
    rw [if_neg (by omega)]; rfl
  · split at h
    · rename_i hk; subst hk; cases h
      simp only [mkcm_B, cmB, E.I, bne_iff_ne, ne_eq] at hrq
      simp only [binOp_quo, S1.den, Sc.den, mkar_I, arI, Op.intDiv]
      rw [if_neg hrq]; rfl
    · cases h
  · split at h
    · rename_i hk; subst hk; cases h
      simp only [mkcm_B, cmB, E.I, bne_iff_ne, ne_eq] at hrq
      simp only [binOp_rem, S1.den, Sc.den, mkar_I, arI, Op.intDiv]
      rw [if_neg hrq]; rfl
    · cases h
  all_goals
    split at h
    · rename_i hk; subst hk; cases h
      first
        | (simp only [binOp_add, binOp_sub, binOp_mul, binOp_and, binOp_or, binOp_xor, binOp_andNot, Op.intArith, intBits_and, intBits_or, intBits_xor, intBits_andNot, S1.den, Sc.den, mkar_I, arI, Sem.run_pure]; done)
        | (simp only [binOp_eql, binOp_neq, binOp_lss, binOp_leq, binOp_gtr, binOp_geq, S1.den, Sc.den, mkcm_B, cmB, Sem.run_pure]; done)
        | (simp only [binOp_eql, binOp_neq, binOp_lss, binOp_leq, binOp_gtr, binOp_geq, S1.den, Sc.den, mkcm_B, cmB, Sem.run_pure]; rfl)
    · cases h
theorem boolOp_ok {op t x y s rq} (h : boolOp P op t x y = some (s, rq)) (ox oy : Operand) (v : Env) (w : World) :
    (do eqGuard op t ox oy (.bool (x.B v.i v.b v.l)) (.bool (y.B v.i v.b v.l)); binOp op t (.bool (x.B v.i v.b v.l)) (.bool (y.B v.i v.b v.l))).run P w = .ok (s.den v) w := by
  rw [eqGuard_at_bool]
  simp only [Sem.run_bind, Sem.run_pure, Result.andThen_ok]
  unfold boolOp at h
  split at h
  · rename_i hu
    cases h
    simp only [binOp, Sem.run_bind, Op.equal, Op.maxDepth]
    rw [run_equalIn_bool w 9999 t _ _ hu]
    simp [S1.den, Sc.den, mkbe_B]
  · rename_i hu
    cases h
    simp only [binOp, Sem.run_bind, Op.equal, Op.maxDepth]
    rw [run_equalIn_bool w 9999 t _ _ hu]
    simp [S1.den, Sc.den, mkbe_B, mknt_B]
  · cases h
theorem aggOp_ok {op t xs ys s rq} (h : aggOp P op t xs ys = some (s, rq)) (ox oy : Operand) (v : Env) (w : World) :
    (do eqGuard op t ox oy (S1.den v (.agg xs)) (S1.den v (.agg ys)); binOp op t (S1.den v (.agg xs)) (S1.den v (.agg ys))).run P w = .ok (s.den v) w := by
  unfold aggOp at h
  split at h
  · cases h
  · rename_i hg
    have e0 := run_eqGuard_agg (P := P) w op t ox oy (xs.map (Sc.den v)).toArray (ys.map (Sc.den v)).toArray (by simpa using hg)
    simp only [S1.den, Sem.run_bind, e0, Result.andThen_ok]
    split at h
    · rename_i e he
      cases h
      have k := eqS_ok P 6 he 9994 v w
      rw [run_eql_struct]
      simp only [S1.den, Nat.reduceAdd] at k
      rw [k]; rfl
    · rename_i e he
      cases h
      have k := eqS_ok P 6 he 9994 v w
      rw [run_neq_struct]
      simp only [S1.den, Nat.reduceAdd] at k
      rw [k]; simp [Sc.den, mknt_B]
    · cases h
/-- What is known of the slices and strings, whatever memory holds. -/
def XH (v : Env) (xs : List XI) : Prop :=
  ∀ (k : Nat) xi, xs[k]? = some xi → xi.c < v.l.length ∧ k < v.x.length ∧
    (xi.s = .str → ∃ s, v.x.getD k undef = .string s ∧ v.l.getD xi.c [] = bytesD s) ∧
    (xi.s ≠ .str → ∃ a c, v.x.getD k undef = .slice a (v.l.getD xi.c []).length c ∧ (v.l.getD xi.c []).length ≤ c ∧ (xi.s ≠ .dead → 0 < (v.l.getD xi.c []).length → ∃ b o, a = some ⟨b, o, none⟩))
theorem XH.later {v v' : Env} {xs : List XI} (h : XH v xs) (l : Later v v') : XH v' xs := fun k xi hk => by
  obtain ⟨h1, h2, h3, h4⟩ := h k xi hk
  have e1 := l.l h1
  have e2 := l.x h2
  obtain ⟨p, i, b, l, x, f, hf, rfl⟩ := l
  rw [e1, e2]
  refine ⟨by simp; omega, by simp; omega, h3, h4⟩
theorem HR.xh {v : Env} {hp : List (List Sc)} {xs : List XI} {c : Cx} {w : World} (h : HR v hp xs c w) : XH v xs := fun k xi hk => by
  have ho := h.ok k xi hk
  refine ⟨h.lt k xi hk, by rw [h.nx]; exact (List.getElem?_eq_some_iff.1 hk).1, fun e => by rw [e] at ho; exact ho, fun e => ?_⟩
  obtain ⟨a, c, e1, e2⟩ := ho.slice e
  refine ⟨a, c, e1, e2, fun hd hl => ?_⟩
  cases hs : xi.s with
  | fz ct =>
    rw [hs] at ho
    have hct := ho.1
    obtain ⟨b, o, c', cs, w', e3, _⟩ := ho.2.cell (i := 0) (j := 0) hl hct
    rw [e1] at e3; cases e3; exact ⟨b, o, rfl⟩
  | own e' ct =>
    rw [hs] at ho
    obtain ⟨_, vs, h1, _⟩ := ho
    rcases h1.2 with ⟨a', e3, e4⟩ | ⟨g, cap, cur, e3, _⟩
    · omega
    · rw [e1] at e3; cases e3; exact ⟨g, 0, rfl⟩
  | dead => exact absurd hs hd
  | str => exact absurd hs e
theorem strK_ok {v : Env} {xs : List XI} (h : XH v xs) {k c : Nat} (hk : strK xs k = some c) : c < v.l.length ∧ ∃ s, v.x.getD k undef = .string s ∧ v.l.getD c [] = bytesD s := by
  unfold strK at hk
  split at hk
  · rename_i c' hx
    cases hk
    obtain ⟨h1, _, h3, _⟩ := h k _ hx
    exact ⟨h1, h3 rfl⟩
  · cases hk
theorem slK_ok {v : Env} {xs : List XI} (h : XH v xs) {k c : Nat} {ct} (hk : slK xs k = some (c, ct)) : c < v.l.length ∧ k < v.x.length ∧ (∃ s, xs[k]? = some ⟨c, s⟩ ∧ (s = .fz ct ∨ ∃ e, s = .own e ct)) ∧
    ∃ a cap, v.x.getD k undef = .slice a (v.l.getD c []).length cap ∧ (v.l.getD c []).length ≤ cap ∧ (0 < (v.l.getD c []).length → ∃ b o, a = some ⟨b, o, none⟩) := by
  unfold slK at hk
  split at hk
  · rename_i c' ct' hx
    cases hk
    obtain ⟨h1, h2, _, h4⟩ := h k _ hx
    obtain ⟨a, cap, e1, e2, e3⟩ := h4 (by simp)
    exact ⟨h1, h2, ⟨_, hx, .inl rfl⟩, a, cap, e1, e2, e3 (by simp)⟩
  · rename_i c' e' ct' hx
    cases hk
    obtain ⟨h1, h2, _, h4⟩ := h k _ hx
    obtain ⟨a, cap, e1, e2, e3⟩ := h4 (by simp)
    exact ⟨h1, h2, ⟨_, hx, .inr ⟨e', rfl⟩⟩, a, cap, e1, e2, e3 (by simp)⟩
  · cases hk
theorem bytes_inj {a b : ByteArray} : (a.toList == b.toList) = D.sameL (bytesD a) (bytesD b) := by
  rw [ByteArray.toList_eq, ByteArray.toList_eq, Bool.eq_iff_iff, D.sameL_iff, beq_iff_eq]
  unfold bytesD
  constructor
  · intro h; rw [h]
  · intro h
    refine List.map_inj_right (f := fun (b : UInt8) => D.i (b.toNat : Int)) ?_ |>.1 h
    intro x y e
    simp only [D.i.injEq, Int.natCast_inj] at e
    exact UInt8.toNat_inj.1 e
theorem bytesL_D (s : ByteArray) : ((bytesL s).map fun (n : Nat) => D.i (n : Int)) = bytesD s := by simp [bytesL, bytesD]
theorem length_bytesD (s : ByteArray) : (bytesD s).length = s.size := by
  unfold bytesD; rw [List.length_map, Array.length_toList]; rfl
theorem size0 {s : ByteArray} (h : s.size = 0) : bytesD s = [] := List.eq_nil_of_length_eq_zero (by rw [length_bytesD]; exact h)
theorem strOp_ok {op e s rq} (h : strOp op e = some (s, rq)) (t : TypeId) (ox oy : Operand) (a b : ByteArray) (v : Env) (w : World) (he : e.B v.i v.b v.l = (a.toList == b.toList)) :
    (do eqGuard op t ox oy (.string a) (.string b); binOp op t (.string a) (.string b)).run P w = .ok (s.den v) w := by
  unfold strOp at h
  split at h
  · cases h
    simp [eqGuard, binOp_string_eql, S1.den, Sc.den, he]
  · cases h
    simp [eqGuard, binOp_string_neq, S1.den, Sc.den, he, mknt_B]
  · cases h
theorem strC_ok {c : Nat} {s : ByteArray} {v : Env} {a : ByteArray} (ha : v.l.getD c [] = bytesD a) : (if s.size = 0 then mkcm .eql (.ln c) (.n 0) else .lc c (bytesL s)).B v.i v.b v.l = D.sameL (bytesD a) (bytesD s) := by
  split
  · rename_i h0
    rw [mkcm_B, E.I, E.I, size0 h0, ha, Bool.eq_iff_iff, D.sameL_iff]
    simp only [cmB, beq_iff_eq]
    constructor
    · intro h; exact List.eq_nil_of_length_eq_zero (by omega)
    · intro h; rw [h]; rfl
  · simp only [E.B]; rw [bytesL_D, ha]
theorem sameL_comm (x y : List D) : D.sameL x y = D.sameL y x := by
  rw [Bool.eq_iff_iff, D.sameL_iff, D.sameL_iff]; exact eq_comm
theorem binS_ok {xs : List XI} {op t x y s rq} (h : binS P xs op t x y = some (s, rq)) (ox oy : Operand) (v : Env) (hX : XH v xs) (w : World) (hrq : rq.B v.i v.b v.l = true) :
    (do eqGuard op t ox oy (x.den v) (y.den v); binOp op t (x.den v) (y.den v)).run P w = .ok (s.den v) w := by
  unfold binS at h
  split at h
  · split at h
    · rename_i c d hc hd
      obtain ⟨_, a, e1, e2⟩ := strK_ok hX hc
      obtain ⟨_, b, e3, e4⟩ := strK_ok hX hd
      simp only [S1.den, Sc.den, e1, e3, xv]
      exact strOp_ok h t ox oy a b v w (by simp only [E.B]; rw [e2, e4, bytes_inj])
    · cases h
  · split at h
    · rename_i c hc
      obtain ⟨_, a, e1, e2⟩ := strK_ok hX hc
      simp only [S1.den, Sc.den, e1, xv]
      exact strOp_ok h t ox oy a _ v w (by rw [strC_ok e2, bytes_inj])
    · cases h
  · split at h
    · rename_i c hc
      obtain ⟨_, a, e1, e2⟩ := strK_ok hX hc
      simp only [S1.den, Sc.den, e1, xv]
      exact strOp_ok h t ox oy _ a v w (by rw [strC_ok e2, bytes_inj, sameL_comm])
    · cases h
  · exact intOp_ok h t ox oy v w hrq
  · exact boolOp_ok h ox oy v w
  · exact aggOp_ok h ox oy v w
  · cases h
theorem unS_ok {op x s} (h : unS op x = some s) (v : Env) (w : World) : (Op.unary op (x.den v)).run P w = .ok (s.den v) w := by
  unfold unS at h
  split at h <;> cases h
  · simp [Sc.den, S1.den, unary_not, mknt_B]
  · simp [S1.den, Sc.den, unary_neg, Op.intArith, mkar_I, arI, E.I]
  · simp [S1.den, Sc.den, unary_xor, intBits_xor, mkar_I, arI, E.I]
theorem cvS_ok {src dst x s} (h : cvS P src dst x = some s) (v : Env) (w : World) : (convert src dst (x.den v)).run P w = .ok (s.den v) w := by
  unfold cvS at h
  split at h
  · rename_i k0 e d k hs hd
    cases h
    simp [S1.den, Sc.den, convert, run_underlying hs, run_underlying hd, Conv.intToInt, mkcv_I]
  · cases h
theorem fieldS_ok {t x f s} (h : fieldS P t x f = some s) (v : Env) (w : World) : (Instr.field t (x.den v) f).run P w = .ok (s.den v) w := by
  unfold fieldS at h
  split at h
  · rename_i cs fs hu
    split at h
    · rename_i fd hf
      unfold Instr.field
      simp only [Sem.run_bind, run_underlying hu, Result.andThen_ok, hf, S1.den, asAgg, Sem.run_pure]
      exact partS_ok P h v w
    · cases h
  · cases h
theorem bnd0_ok {c : Nat} {e : E} {v : Env} (h : (bnd0 c e).B v.i v.b v.l = true) : 0 ≤ e.I v.i v.b v.l ∧ e.I v.i v.b v.l < ((v.l.getD c []).length : Int) := by
  simp only [bnd0, mkan_B, mkcm_B, cmB, E.I, Bool.and_eq_true, decide_eq_true_eq, ge_iff_le] at h
  exact ⟨h.1, of_decide_eq_true h.2⟩
/-- The head of slice number k, where an element is there. -/
theorem slK_at {v : Env} {xs : List XI} (h : XH v xs) {k c : Nat} {ct} (hk : slK xs k = some (c, ct)) {e : E} (he : (bnd0 c e).B v.i v.b v.l = true) :
    ∃ b o cap, v.x.getD k undef = .slice (some ⟨b, o, none⟩) (v.l.getD c []).length cap ∧ (e.I v.i v.b v.l).toNat < (v.l.getD c []).length := by
  obtain ⟨_, _, _, a, cap, e1, _, e3⟩ := slK_ok h hk
  obtain ⟨h0, h1⟩ := bnd0_ok he
  obtain ⟨b, o, rfl⟩ := e3 (by omega)
  exact ⟨b, o, cap, e1, by omega⟩
theorem xa_den {v : Env} {k m j : Nat} {e : E} {b o n cap : Nat} (h : v.x.getD k undef = .slice (some ⟨b, o, none⟩) n cap) : (Sc.xa k m e j).den v = .pointer (some ⟨b, o + (e.I v.i v.b v.l).toNat * m + j, none⟩) := by
  simp only [Sc.den, h, Value.base, Option.map_some]
theorem faddrS_ok {xs : List XI} {t x f s rq} (h : faddrS P xs t x f = some (s, rq)) (v : Env) (hX : XH v xs) (w : World) (hrq : rq.B v.i v.b v.l = true) : (Instr.fieldAt t (x.den v) f).run P w = .ok (s.den v) w := by
  unfold faddrS at h
  split at h
  · rename_i b o fs hu
    split at h
    · rename_i fd hf
      split at h
      · rename_i i hi
        split at h
        · cases h
        · rename_i hz
          cases h
          unfold Instr.fieldAt
          simp only [Sem.run_bind, run_underlying hu, Result.andThen_ok, hf, S1.den, Sc.den, Instr.sureAddr, Sem.run_pure, fieldPlace, run_sizeOf hi, if_neg hz, Addr.add_mid]
      · cases h
    · cases h
  · rename_i k m e j fs hu
    split at h
    · rename_i fd c ct hf hk
      split at h
      · rename_i i hi
        split at h
        · cases h
        · rename_i hz
          cases h
          obtain ⟨b, o, cap, e1, _⟩ := slK_at hX hk hrq
          unfold Instr.fieldAt
          simp only [Sem.run_bind, run_underlying hu, Result.andThen_ok, hf, S1.den, xa_den e1, Instr.sureAddr, Sem.run_pure, fieldPlace, run_sizeOf hi, if_neg hz, Addr.add_mid, Nat.add_assoc]
      · cases h
    · cases h
  · cases h
theorem iaddrS_ok {xs : List XI} {t x i s rq} (h : iaddrS P xs t x i = some (s, rq)) (v : Env) (hX : XH v xs) (w : World) (hrq : rq.B v.i v.b v.l = true) : (Instr.indexAt t (x.den v) (i.den v)).run P w = .ok (s.den v) w := by
  unfold iaddrS at h
  split at h
  · rename_i k kk e te hu
    split at h
    · rename_i ie c ct hi hk
      split at h
      · rename_i hm
        cases h
        obtain ⟨b, o, cap, e1, h1⟩ := slK_at hX hk hrq
        obtain ⟨h2, h3⟩ := bnd0_ok hrq
        simp only [S1.den, xa_den e1]
        simp only [Sc.den, e1, xv]
        rw [run_indexAt_slice w t _ _ _ _ _ (by simp [hu, Program.elem])]
        have : P.elem t = te := by simp [Program.elem, hu]
        rw [if_pos ⟨h2, h3⟩, this, run_sizeOf hi, Result.andThen_ok, Addr.add_mid, hm]; rfl
      · cases h
    · cases h
  · rename_i b o k m l e hu
    split at h
    · rename_i ie hi
      split at h
      · rename_i hm
        cases h
        simp only [S1.den, Sc.den, E.I]
        have h2 : P.elem t = e := by simp [Program.elem, hu]
        have h3 : P.arrayLen t = l := by simp [Program.arrayLen, hu]
        rw [run_indexAt_array w t _ k m (by rw [h2, h3]; exact hu), h3, if_pos hm, h2, run_sizeOf hi, Result.andThen_ok, Addr.add_mid]
      · cases h
    · cases h
  · cases h
theorem indexS_ok {t x i s} (h : indexS P t x i = some s) (v : Env) (w : World) : (Instr.index t (x.den v) (i.den v)).run P w = .ok (s.den v) w := by
  unfold indexS at h
  split at h
  · rename_i cs k m l e hu
    split at h
    · rename_i ie hi
      split at h
      · rename_i hm
        simp only [S1.den, Sc.den, E.I, Instr.index, asIntOf, Sem.run_bind, Sem.run_pure, Result.andThen_ok, run_underlying hu, if_pos hm, run_sizeOf hi]
        exact partS_ok P h v w
      · cases h
    · cases h
  · cases h
theorem idxS_ok {xs : List XI} {t x i s rq} (h : idxS P xs t x i = some (s, rq)) (v : Env) (hX : XH v xs) (w : World) (hrq : rq.B v.i v.b v.l = true) : (Instr.index t (x.den v) (i.den v)).run P w = .ok (s.den v) w := by
  unfold idxS at h
  split at h
  · rename_i k kk e hu
    split at h
    · rename_i c hk
      cases h
      obtain ⟨_, sb, e1, e2⟩ := strK_ok hX hk
      obtain ⟨h0, h1⟩ := bnd0_ok hrq
      rw [e2, length_bytesD] at h1
      simp only [S1.den, Sc.den, e1, xv]
      rw [run_index_string w t sb _ _ hu, dif_pos ⟨h0, h1⟩]
      congr 2
      have hsz : sb.size = sb.data.toList.length := by rw [Array.length_toList]; rfl
      have hlt2 : (e.I v.i v.b v.l).toNat < sb.data.toList.length := by omega
      simp only [E.I, e2, bytesD, List.getD_eq_getElem?_getD, List.getElem?_map, List.getElem?_eq_getElem hlt2, Option.map_some, Option.getD_some, D.cell, D.int]
      rfl
    · cases h
  · rename_i sb k e hu
    cases h
    simp only [mkan_B, mkcm_B, cmB, E.I, Bool.and_eq_true, decide_eq_true_eq, ge_iff_le] at hrq
    simp only [S1.den, Sc.den, E.I, Instr.index, asIntOf, Sem.run_bind, Sem.run_pure, Result.andThen_ok, run_underlying hu]
    have ha : 0 ≤ e.I v.i v.b v.l := hrq.1
    have hb : e.I v.i v.b v.l < (sb.size : Int) := of_decide_eq_true hrq.2
    have hlt : (e.I v.i v.b v.l).toNat < sb.size := by generalize e.I v.i v.b v.l = z at *; omega
    rw [if_pos ha]
    have h1 : sb[(e.I v.i v.b v.l).toNat]? = some (sb[(e.I v.i v.b v.l).toNat]) := by simp [hlt]
    simp only [h1, Sem.run_pure]
    congr 2
    have hlt2 : (e.I v.i v.b v.l).toNat < sb.data.toList.length := by simpa using hlt
    simp only [bytesL, List.getD_eq_getElem?_getD, List.getElem?_map, List.getElem?_eq_getElem hlt2, Option.map_some, Option.getD_some]
    rfl
  · simp only [Option.map_eq_some_iff, Prod.mk.injEq] at h
    obtain ⟨s', h1, rfl, rfl⟩ := h
    exact indexS_ok h1 v w
theorem lenS_ok {xs : List XI} {t x s} (h : lenS P xs t x = some s) (v : Env) (hX : XH v xs) (w : World) (ty : TypeId) : (Builtin.len_ #[t] ty #[x.den v]).run P w = .ok (s.den v) w := by
  unfold lenS at h
  split at h
  · rename_i k te hu
    have key : ∀ c s, xs[k]? = some ⟨c, s⟩ → s ≠ .str → (Builtin.len_ #[t] ty #[S1.den v (.s (.x k))]).run P w = .ok (S1.den v (.s (.i .i64 (.ln c)))) w := fun c s hk hs => by
      obtain ⟨_, _, _, h4⟩ := hX k _ hk
      obtain ⟨a, cap, e1, _⟩ := h4 hs
      simp only [S1.den, Sc.den, e1, xv]
      rw [run_len_slice w t ty _ _ _ (by simp [hu, Program.elem])]; rfl
    split at h <;> first | cases h | skip
    · rename_i hk; exact key _ _ hk (by simp)
    · rename_i hk; exact key _ _ hk (by simp)
    · rename_i hk; exact key _ _ hk (by simp)
  · rename_i k hu
    split at h
    · rename_i c hk
      cases h
      obtain ⟨_, sb, e1, e2⟩ := strK_ok hX hk
      simp only [S1.den, Sc.den, e1, xv]
      rw [run_len_string w t ty _ hu]
      simp only [E.I]
      rw [e2, length_bytesD]; rfl
    · cases h
  · rename_i te hu
    cases h
    simp only [S1.den, Sc.den]
    rw [run_len_slice w t ty _ _ _ (by simp [hu, Program.elem])]; rfl
  · rename_i sb hu
    cases h
    simp only [S1.den, Sc.den]
    rw [run_len_string w t ty _ hu]; rfl
  · cases h
theorem bltS_ok {xs : List XI} {b ts l s} (h : bltS P xs b ts l = some s) (v : Env) (hX : XH v xs) (w : World) (ty : TypeId) (cs : Array Bool) : (builtin b ts.toArray ty cs (l.map (S1.den v)).toArray).run P w = .ok (.value (s.den v)) w := by
  unfold bltS at h
  split at h
  · cases h
    simp [BigFrame.builtin_min, S1.den, Sc.den, run_min_int2, mkmn_I]
  · cases h
    simp [BigFrame.builtin_max, S1.den, Sc.den, run_max_int2, mkmx_I]
  · rename_i t x
    simp [BigFrame.builtin_len, lenS_ok h v hX w ty]
  · cases h
theorem pvw_ok {o : Oper} {st : St} {G : E} {s : S1} {rq : E} {v : Env} {a : Act} (h : pvw P st G o.op = some (s, rq)) (hT : TR v st a) (hG : GT v G)
    (hX : XH v st.xs) (hrq : GT v rq) (w : World) : ∀ v', Later v v' → (execOp a.eval o).run P w = .ok (.value (s.den v')) w := by
  intro v' l
  obtain ⟨dst, op, ty, pos, after, guard⟩ := o
  simp only at h
  unfold pvw at h
  split at h
  · rename_i x
    simp only [Option.map_eq_some_iff, Prod.mk.injEq] at h
    obtain ⟨s', h1, rfl, rfl⟩ := h
    simp [execOp, rd_ok hT hG h1 v' l]
  · rename_i x
    simp only [Option.map_eq_some_iff, Prod.mk.injEq] at h
    obtain ⟨s', h1, rfl, rfl⟩ := h
    simp [execOp, rd_ok hT hG h1 v' l]
  · rename_i c x y
    split at h
    · rename_i e hc
      have ec : ∀ v'', Later v v'' → a.eval c = .bool (e.B v''.i v''.b v''.l) := fun v'' l' => rd_ok hT hG hc v'' l'
      have est : ∀ v'', Later v v'' → e.B v''.i v''.b v''.l = e.B v.i v.b v.l := fun v'' l' => by
        have := (ec v'' l').symm.trans (ec v (Later.refl v)); simpa using this
      have hrun : (execOp a.eval { dst := dst, op := .pick c x y, type := ty, pos := pos, after := after, guard := guard }).run P w = .ok (.value (if e.B v.i v.b v.l = true then a.eval x else a.eval y)) w := by
        simp [execOp, asBool, ec v (Later.refl v)]
      rw [hrun]
      split at h
      · simp only [Option.map_eq_some_iff, Prod.mk.injEq] at h
        obtain ⟨s', h1, rfl, rfl⟩ := h
        simp [E.B, rd_ok hT hG h1 v' l]
      · simp only [Option.map_eq_some_iff, Prod.mk.injEq] at h
        obtain ⟨s', h1, rfl, rfl⟩ := h
        simp [E.B, rd_ok hT hG h1 v' l]
      · split at h
        · rename_i sa sb ha hb
          simp only [Option.map_eq_some_iff, Prod.mk.injEq] at h
          obtain ⟨s', h1, rfl, rfl⟩ := h
          cases hb0 : e.B v.i v.b v.l
          · have hG' : GT v (mkan G (mknt e)) := fun v'' l' => by simp [mkan_B, mknt_B, hG v'' l', est v'' l', hb0]
            rw [if_neg (by simp), rd_ok hT hG' hb v' l]
            have hb1 := (est v' l).trans hb0
            unfold merge at h1
            split at h1
            · split at h1
              · rename_i hk; subst hk; cases h1; simp [S1.den, Sc.den, mkii_I, hb1]
              · cases h1
            · cases h1; simp [S1.den, Sc.den, mkbi_B, hb1]
            · cases h1
          · have hG' : GT v (mkan G e) := fun v'' l' => by simp [mkan_B, hG v'' l', est v'' l', hb0]
            rw [if_pos rfl, rd_ok hT hG' ha v' l]
            have hb1 := (est v' l).trans hb0
            unfold merge at h1
            split at h1
            · split at h1
              · rename_i hk; subst hk; cases h1; simp [S1.den, Sc.den, mkii_I, hb1]
              · cases h1
            · cases h1; simp [S1.den, Sc.den, mkbi_B, hb1]
            · cases h1
        · rename_i sb ha hb
          simp only [Option.some.injEq, Prod.mk.injEq] at h
          obtain ⟨h1, h2⟩ := h
          rw [← h2] at hrq
          rw [← h1]
          have hb0 : e.B v.i v.b v.l = false := by have := hrq v (Later.refl v); simpa [mknt_B] using this
          have hG' : GT v (mkan G (mknt e)) := fun v'' l' => by simp [mkan_B, mknt_B, hG v'' l', est v'' l', hb0]
          rw [if_neg (by simp [hb0]), rd_ok hT hG' hb v' l]
        · rename_i sa ha hb
          simp only [Option.some.injEq, Prod.mk.injEq] at h
          obtain ⟨h1, h2⟩ := h
          rw [← h2] at hrq
          rw [← h1]
          have hb0 : e.B v.i v.b v.l = true := hrq v (Later.refl v)
          have hG' : GT v (mkan G e) := fun v'' l' => by simp [mkan_B, hG v'' l', est v'' l', hb0]
          rw [if_pos hb0, rd_ok hT hG' ha v' l]
        · cases h
    · cases h
  · rename_i t parts
    split at h
    · rename_i lp hp
      simp only [Option.map_eq_some_iff, Prod.mk.injEq] at h
      obtain ⟨s', h1, rfl, rfl⟩ := h
      have e1 := rdP_ok hT hG hp v' l
      have e2 : (parts.map fun (i, x) => (i, a.eval x)) = (lp.map fun (i, x) => (i, x.den v')).toArray := by
        apply Array.toList_inj.1
        rw [← e1]; simp
      have := builtS_ok P h1 v' w
      simp only [execOp]
      refine run_v ?_
      rw [e2]; exact this
    · cases h
  · rename_i t x f
    split at h
    · rename_i sx hx
      simp only [Option.map_eq_some_iff, Prod.mk.injEq] at h
      obtain ⟨s', h1, rfl, rfl⟩ := h
      simp only [execOp]
      refine run_v ?_
      rw [rd_ok hT hG hx v' l]
      exact fieldS_ok h1 v' w
    · cases h
  · rename_i t ix
    split at h
    · rename_i lt hl
      simp only [Option.map_eq_some_iff, Prod.mk.injEq] at h
      obtain ⟨s', h1, rfl, rfl⟩ := h
      have e1 : a.eval (.tmp t) = .tuple (lt.map (S1.den v')).toArray := by
        show a.tmps.getD t undef = _
        rw [hT.get l t (by rw [hl]; exact SV.noConfusion), hl]; rfl
      simp only [execOp]
      refine run_v ?_
      rw [e1]
      simp [Instr.extract, h1]
    · cases h
  · rename_i op t x y yt
    split at h
    · rename_i sx sy hx hy
      simp only [execOp]
      refine run_v ?_
      have ey := rd_ok hT hG hy
      rw [rd_ok hT hG hx v' l, ey v' l]
      exact binS_ok h x y v' (hX.later l) w (hrq v' l)
    · cases h
  · rename_i op t x
    split at h
    · rename_i sx hx
      simp only [Option.map_eq_some_iff, Prod.mk.injEq] at h
      obtain ⟨s', h1, rfl, rfl⟩ := h
      simp only [execOp]
      refine run_v ?_
      rw [rd_ok hT hG hx v' l]
      exact unS_ok h1 v' w
    · cases h
  · rename_i src d x
    split at h
    · rename_i sx hx
      simp only [Option.map_eq_some_iff, Prod.mk.injEq] at h
      obtain ⟨s', h1, rfl, rfl⟩ := h
      simp only [execOp]
      refine run_v ?_
      rw [rd_ok hT hG hx v' l]
      exact cvS_ok h1 v' w
    · cases h
  · rename_i x
    split at h
    · rename_i b o hx
      cases h
      simp only [execOp]
      rw [rd_ok hT hG hx v' l]
      rfl
    · rename_i k m e j hx
      split at h
      · rename_i c ct hk
        cases h
        obtain ⟨b, o, cap, e1, _⟩ := slK_at (hX.later l) hk (hrq v' l)
        simp only [execOp]
        rw [rd_ok hT hG hx v' l]
        simp only [S1.den, xa_den e1]
        rfl
      · cases h
    · cases h
  · rename_i t x f
    split at h
    · rename_i sx hx
      simp only [execOp]
      refine run_v ?_
      rw [rd_ok hT hG hx v' l]
      exact faddrS_ok h v' (hX.later l) w (hrq v' l)
    · cases h
  · rename_i t x i
    split at h
    · rename_i sx si hx hi
      simp only [execOp]
      refine run_v ?_
      rw [rd_ok hT hG hx v' l, rd_ok hT hG hi v' l]
      exact iaddrS_ok h v' (hX.later l) w (hrq v' l)
    · cases h
  · rename_i t x i
    split at h
    · rename_i sx si hx hi
      simp only [execOp]
      refine run_v ?_
      have ei := rd_ok hT hG hi
      rw [rd_ok hT hG hx v' l, ei v' l]
      exact idxS_ok h v' (hX.later l) w (hrq v' l)
    · cases h
  · rename_i b xs ts
    split at h
    · rename_i lx hx
      simp only [Option.map_eq_some_iff, Prod.mk.injEq] at h
      obtain ⟨s', h1, rfl, rfl⟩ := h
      rw [BigFrame.execOp_builtin]
      have e1 := rdL_ok hT hG hx v' l
      have e2 : xs.map a.eval = (lx.map (S1.den v')).toArray := by
        apply Array.toList_inj.1
        rw [← e1]; simp
      rw [e2]
      obtain ⟨tl, rfl⟩ : ∃ tl : List TypeId, ts = tl.toArray := ⟨ts.toList, by simp⟩
      exact bltS_ok (by simpa using h1) v' (hX.later l) w ty _
    · cases h
  · cases h
end

/-! What a block of the call's own holds. -/
section
variable {P : Program}
def loadS (P : Program) (hp : List (List Sc)) (t : TypeId) (x : S1) : Option S1 :=
  match x with
  | .s (.p b o) => match hp[b]?, P.underlying t, P.info? t with
    | some cs, some d, some i =>
      if d.isRow then (if o + i.size ≤ cs.length then some (.agg ((cs.drop o).take i.size)) else none) else (cs[o]?).map .s
    | _, _, _ => none
  | _ => none
theorem run_loadVar_cell {w : World} {t : TypeId} {d : TypeDesc} {b o : Nat} {u : Value} (hu : P.underlying t = some d) (hr : ¬ d.isRow = true) (hc : w.cell? ⟨b, o, none⟩ = some u) : (Instr.loadAt t (.pointer (some ⟨b, o, none⟩))).run P w = .ok u w := by
  have ha : (isAgg t).run P w = .ok false w := by
    rw [run_isAgg hu]; simpa using hr
  simp only [Instr.loadAt, Instr.sureAddr, Sem.run_bind, Sem.run_pure, Result.andThen_ok, loadVar, ha, Bool.false_eq_true, if_false, run_load, hc]
theorem loadS_okB {hp t x s} (h : loadS P hp t x = some s) {v : Env} {w : World} {v' : Env} (hB : ∀ (b o : Nat) cs, x = .s (.p b o) → hp[b]? = some cs → b < v.p.length ∧ ∃ el, w.heap[v.p.getD b 0]? = some (.cells (cs.map (Sc.den v')).toArray el (0, 0))) (l : Later v v') : (Instr.loadAt t (x.den v')).run P w = .ok (s.den v') w := by
  unfold loadS at h
  split at h
  · rename_i b o
    split at h
    · rename_i cs d i hb hu hi
      obtain ⟨hlt, el, hw⟩ := hB b _ cs rfl hb
      have hcell : ∀ (j : Nat), w.cell? ⟨v.p.getD b 0, j, none⟩ = (cs.map (Sc.den v'))[j]? := fun j => by
        rw [cell_of_row w _ j _ el (0, 0) hw]; simp
      simp only [S1.den, Sc.den]
      rw [l.p hlt]
      split at h
      · rename_i hr
        split at h
        · rename_i hle
          cases h
          have hr' : w.rangeAt (v.p.getD b 0) o (((cs.drop o).take i.size).map (Sc.den v')) := fun j u hu' => by
            rw [hcell]
            simp only [List.getElem?_map, List.getElem?_take, List.getElem?_drop] at hu' ⊢
            split at hu'
            · exact hu'
            · cases hu'
          rw [run_loadAt_mid w (v.p.getD b 0) o t (((cs.drop o).take i.size).map (Sc.den v')) d hr' hu hr (by simp [hi]; omega)]
        · cases h
      · rename_i hr
        simp only [Option.map_eq_some_iff] at h
        obtain ⟨c, hc, rfl⟩ := h
        exact run_loadVar_cell hu hr (by rw [hcell, List.getElem?_map, hc]; rfl)
    · cases h
  · cases h
theorem loadS_ok {hp t x s} (h : loadS P hp t x = some s) {v : Env} {xs : List XI} {c : Cx} {w : World} (hH : HR v hp xs c w) {v' : Env} (l : Later v v') : (Instr.loadAt t (x.den v')).run P w = .ok (s.den v') w :=
  loadS_okB h (fun b _ cs _ hb => ⟨by rw [hH.ln]; exact (List.getElem?_eq_some_iff.1 hb).1, hH.blk v' l b cs hb⟩) l
end

/-! Elements of slices. -/
theorem RC.one {F : Fz} {t : CT} {u : Value} {d : D} (h : RC F t u d) : u.oneCell' = true := by cases h <;> rfl
/-- The cells of an element. -/
theorem slK_cells {v : Env} {hp : List (List Sc)} {xs : List XI} {c : Cx} {w : World} (h : HR v hp xs c w) {k cc : Nat} {ct} (hk : slK xs k = some (cc, ct)) {i : Nat} (hi : i < (v.l.getD cc []).length) :
    0 < ct.length ∧ ∃ b o cap, v.x.getD k undef = .slice (some ⟨b, o, none⟩) (v.l.getD cc []).length cap ∧
      ∀ j, ∀ hj : j < ct.length, ∃ u, w.cell? ⟨b, o + i * ct.length + j, none⟩ = some u ∧ RC v.f ct[j] u (((v.l.getD cc []).getD i (.i 0)).cell j) := by
  obtain ⟨_, _, ⟨s, hx, hs⟩, _⟩ := slK_ok h.xh hk
  have ho := h.ok k _ hx
  rcases hs with rfl | ⟨e, rfl⟩
  · obtain ⟨h0, ho⟩ := ho
    refine ⟨h0, ?_⟩
    obtain ⟨b, o, cap, cells, u, e1, hF, _, _⟩ := ho.cell hi h0
    refine ⟨b, o, cap, e1, fun j hj => ?_⟩
    obtain ⟨b', o', cap', cells', u', e1', hF', hc', hr'⟩ := ho.cell hi hj
    rw [e1] at e1'
    cases e1'
    obtain ⟨el, fr, hw⟩ := h.fz _ _ hF'
    exact ⟨u', by rw [cell_of_row w _ _ _ el fr hw]; exact hc', hr'⟩
  · obtain ⟨h0, vs, ho, hr⟩ := ho
    refine ⟨h0, ?_⟩
    rcases ho.2 with ⟨a, _, e2⟩ | ⟨g, cap, cur, e1, hc, hg, hn, hm, hs, ht⟩
    · simp only at hi e2; omega
    · refine ⟨g, 0, cap, e1, fun j hj => ?_⟩
      obtain ⟨u, h1, h2⟩ := hr.2 i j hi hj
      refine ⟨u, ?_, h2⟩
      rw [cell_of_row w _ _ _ e (0, 0) hg, Nat.zero_add]
      rw [← ht, List.getElem?_take] at h1
      split at h1
      · simpa using h1
      · cases h1
theorem RC.str_inv {F : Fz} {u : Value} {d : D} (h : RC F .s u d) : ∃ s, u = .string s ∧ d = .l (bytesD s) := by
  cases h; exact ⟨_, rfl, rfl⟩
def ldC (c : Nat) (e : E) : List CT → Nat → Nat → Option (List Sc × List (LE × XS))
  | [], _, _ => some ([], [])
  | .i k :: r, j, n => (ldC c e r (j + 1) n).map fun (l, sp) => (.i k (.ix c e j) :: l, sp)
  | .b :: r, j, n => (ldC c e r (j + 1) n).map fun (l, sp) => (.b (.bx c e j) :: l, sp)
  | .s :: r, j, n => (ldC c e r (j + 1) (n + 1)).map fun (l, sp) => (.x n :: l, (.cl c e j, .str) :: sp)
  | .sl ct :: r, j, n => match ct with
    | [] => none
    | a :: l => (ldC c e r (j + 1) (n + 1)).map fun (l', sp) => (.x n :: l', (.cl c e j, .fz (a :: l)) :: sp)
/-- Lists that are named. -/
def specL (v : Env) (sp : List (LE × XS)) : LL := sp.map fun x => x.1.L v.i v.b v.l
def SpOK (v : Env) (w : World) (sp : List (LE × XS)) (us : List Value) : Prop :=
  us.length = sp.length ∧ ∀ (i : Nat) le s, sp[i]? = some (le, s) → (∀ e ct, s ≠ .own e ct) ∧ XOK v.f w s (us.getD i undef) (le.L v.i v.b v.l)
def extX (v : Env) (sp : List (LE × XS)) (us : List Value) : Env := ⟨v.p, v.i, v.b, v.l ++ specL v sp, v.x ++ us, v.f⟩
theorem extX_later (v : Env) (sp us) : Later v (extX v sp us) := ⟨[], [], [], specL v sp, us, v.f, Fz.le_refl _, by simp [extX]⟩
theorem SpOK.nil (v : Env) (w : World) : SpOK v w [] [] := ⟨rfl, fun i le s h => by simp at h⟩
theorem SpOK.cons {v : Env} {w : World} {le s u sp us} (h1 : ∀ e ct, s ≠ .own e ct) (h2 : XOK v.f w s u (le.L v.i v.b v.l)) (h : SpOK v w sp us) : SpOK v w ((le, s) :: sp) (u :: us) := by
  refine ⟨by simp [h.1], fun i le' s' hi => ?_⟩
  cases i with
  | zero => simp only [List.getElem?_cons_zero, Option.some.injEq, Prod.mk.injEq] at hi; obtain ⟨rfl, rfl⟩ := hi; exact ⟨h1, by simpa using h2⟩
  | succ i => simpa using h.2 i le' s' (by simpa using hi)
theorem ldC_ok {v : Env} {w : World} {c : Nat} {e : E} (hc : c < v.l.length) (he : e.cl v.i.length v.b.length v.l.length = true) : ∀ (cts : List CT) (j n : Nat) (l : List Sc) (sp : List (LE × XS)) (us : Nat → Value), ldC c e cts j n = some (l, sp) →
    (∀ q, ∀ hq : q < cts.length, RC v.f cts[q] (us q) (((v.l.getD c []).getD (e.I v.i v.b v.l).toNat (.i 0)).cell (j + q))) →
    ∃ xs : List Value, SpOK v w sp xs ∧ l.length = cts.length ∧ ∀ v', Later v v' → (∀ i, i < xs.length → v'.x.getD (n + i) undef = xs.getD i undef) → ∀ q, q < cts.length → (l.map (Sc.den v'))[q]? = some (us q)
  | [], j, n, l, sp, us, h, _ => by
    simp only [ldC, Option.some.injEq, Prod.mk.injEq] at h
    obtain ⟨rfl, rfl⟩ := h
    exact ⟨[], SpOK.nil v w, rfl, fun v' _ _ q hq => by simp at hq⟩
  | t :: r, j, n, l, sp, us, h, hr => by
    have h0 := hr 0 (by simp)
    simp only [List.getElem_cons_zero, Nat.add_zero] at h0
    have hr' : ∀ q, ∀ hq : q < r.length, RC v.f r[q] (us (q + 1)) (((v.l.getD c []).getD (e.I v.i v.b v.l).toNat (.i 0)).cell (j + 1 + q)) := fun q hq => by
      have := hr (q + 1) (by simp; omega)
      simp only [List.getElem_cons_succ] at this
      rw [Nat.add_assoc, Nat.add_comm 1 q]; exact this
    have st : ∀ v', Later v v' → e.I v'.i v'.b v'.l = e.I v.i v.b v.l ∧ v'.l.getD c [] = v.l.getD c [] := fun v' l => by
      refine ⟨?_, l.l hc⟩
      obtain ⟨p, i, b, l, x, f, hf, rfl⟩ := l
      exact (E.cl_ok he).1
    cases t with
    | i k =>
      simp only [ldC, Option.map_eq_some_iff] at h
      obtain ⟨⟨l', sp'⟩, h1, h2⟩ := h
      cases h2
      obtain ⟨xs, hsp, hl, hx⟩ := ldC_ok hc he r (j + 1) n l' sp' (fun q => us (q + 1)) h1 hr'
      refine ⟨xs, hsp, by simp [hl], fun v' lt hv q hq => ?_⟩
      cases q with
      | zero =>
        obtain ⟨e1, e2⟩ := st v' lt
        generalize hd : ((v.l.getD c []).getD (e.I v.i v.b v.l).toNat (.i 0)).cell j = d at h0
        generalize hu : us 0 = u at h0
        cases h0
        simp only [List.map_cons, List.getElem?_cons_zero, Sc.den, E.I, e1, e2, hd, D.int]
      | succ q => simpa using hx v' lt hv q (by simp at hq; omega)
    | b =>
      simp only [ldC, Option.map_eq_some_iff] at h
      obtain ⟨⟨l', sp'⟩, h1, h2⟩ := h
      cases h2
      obtain ⟨xs, hsp, hl, hx⟩ := ldC_ok hc he r (j + 1) n l' sp' (fun q => us (q + 1)) h1 hr'
      refine ⟨xs, hsp, by simp [hl], fun v' lt hv q hq => ?_⟩
      cases q with
      | zero =>
        obtain ⟨e1, e2⟩ := st v' lt
        generalize hd : ((v.l.getD c []).getD (e.I v.i v.b v.l).toNat (.i 0)).cell j = d at h0
        generalize hu : us 0 = u at h0
        cases h0
        simp only [List.map_cons, List.getElem?_cons_zero, Sc.den, E.B, e1, e2, hd, D.bool]
      | succ q => simpa using hx v' lt hv q (by simp at hq; omega)
    | s =>
      simp only [ldC, Option.map_eq_some_iff] at h
      obtain ⟨⟨l', sp'⟩, h1, h2⟩ := h
      cases h2
      obtain ⟨xs, hsp, hl, hx⟩ := ldC_ok hc he r (j + 1) (n + 1) l' sp' (fun q => us (q + 1)) h1 hr'
      have hok : XOK v.f w .str (us 0) ((LE.cl c e j).L v.i v.b v.l) := by
        simp only [LE.L]
        obtain ⟨s, e1, e2⟩ := h0.str_inv
        exact ⟨s, e1, by rw [e2]; rfl⟩
      refine ⟨us 0 :: xs, SpOK.cons (by simp) hok hsp, by simp [hl], fun v' lt hv q hq => ?_⟩
      cases q with
      | zero =>
        have := hv 0 (by simp)
        simp only [Nat.add_zero, List.getD_cons_zero] at this
        simp only [List.map_cons, List.getElem?_cons_zero, Sc.den, this, hok.xv]
      | succ q => simpa using hx v' lt (fun i hi => by have := hv (i + 1) (by simp; omega); rw [Nat.add_assoc, Nat.add_comm 1 i]; simpa using this) q (by simp at hq; omega)
    | sl ct =>
      cases ct with
      | nil => simp [ldC] at h
      | cons a ct =>
      simp only [ldC, Option.map_eq_some_iff] at h
      obtain ⟨⟨l', sp'⟩, h1, h2⟩ := h
      cases h2
      obtain ⟨xs, hsp, hl, hx⟩ := ldC_ok hc he r (j + 1) (n + 1) l' sp' (fun q => us (q + 1)) h1 hr'
      have hok : XOK v.f w (.fz (a :: ct)) (us 0) ((LE.cl c e j).L v.i v.b v.l) := by
        simp only [LE.L]
        obtain ⟨ad, cap, ds, e1, e2, _⟩ := h0.head
        rw [e2] at h0 ⊢
        exact ⟨by simp, h0⟩
      refine ⟨us 0 :: xs, SpOK.cons (by simp) hok hsp, by simp [hl], fun v' lt hv q hq => ?_⟩
      cases q with
      | zero =>
        have := hv 0 (by simp)
        simp only [Nat.add_zero, List.getD_cons_zero] at this
        simp only [List.map_cons, List.getElem?_cons_zero, Sc.den, this, hok.xv]
      | succ q => simpa using hx v' lt (fun i hi => by have := hv (i + 1) (by simp; omega); rw [Nat.add_assoc, Nat.add_comm 1 i]; simpa using this) q (by simp at hq; omega)
/-- A part of a slice. -/
theorem RC.cut {F : Fz} {ct : List CT} {a : Option Addr} {n c lo hi : Nat} {xs : List D} (h : RC F (.sl ct) (.slice a n c) (.l xs)) (hl : lo ≤ hi) (hh : hi ≤ xs.length) :
    RC F (.sl ct) (.slice (if c = lo then a else a.map (·.add (lo * ct.length))) (hi - lo) (c - lo)) (.l ((xs.take hi).drop lo)) := by
  have hlen : ((xs.take hi).drop lo).length = hi - lo := by simp; omega
  by_cases h0 : hi - lo = 0
  · rw [h0]
    have : (xs.take hi).drop lo = [] := List.eq_nil_of_length_eq_zero (by omega)
    rw [this]; exact .nil _ _ _
  · cases h with
    | nil => simp at hh; omega
    | sl _ blk off _ _ cells _ val hF hn hc hv hr =>
      subst hn
      rw [if_neg (by omega)]
      simp only [Option.map_some, Addr.add_mid]
      refine .sl ct blk (off + lo * ct.length) (hi - lo) (c - lo) cells _ (fun i j => val (i + lo) j) hF hlen (by omega) (fun i j hi' hj => ?_) (fun i j hi' hj => ?_)
      · have := hv (i + lo) j (by omega) hj
        rw [← this]; congr 1; rw [Nat.add_mul]; omega
      · have := hr (i + lo) j (by omega) hj
        have e : ((xs.take hi).drop lo).getD i (.i 0) = xs.getD (i + lo) (.i 0) := by
          simp only [List.getD_eq_getElem?_getD, List.getElem?_drop, List.getElem?_take]
          rw [if_pos (by omega), Nat.add_comm lo i]
        rw [e]; exact this
theorem bytesD_extract (s : ByteArray) (lo hi : Nat) : bytesD (s.extract lo hi) = ((bytesD s).take hi).drop lo := by
  unfold bytesD
  rw [← List.map_take, ← List.map_drop]
  congr 1
  rw [ByteArray.data_extract, Array.toList_extract]
  simp [List.extract, List.drop_take]
theorem bytesD_app (a b : ByteArray) : bytesD (a ++ b) = bytesD a ++ bytesD b := by
  unfold bytesD; rw [ByteArray.data_append, Array.toList_append, List.map_append]

/-- More slices and strings, none of them the call's own. -/
def specX (nL : Nat) : List (LE × XS) → List XI
  | [] => []
  | (_, s) :: r => ⟨nL, s⟩ :: specX (nL + 1) r
theorem specX_get : ∀ (sp : List (LE × XS)) (n i : Nat) (xi : XI), (specX n sp)[i]? = some xi → ∃ le, sp[i]? = some (le, xi.s) ∧ xi.c = n + i
  | [], n, i, xi, h => by simp [specX] at h
  | (le, s) :: r, n, 0, xi, h => by simp [specX] at h; subst h; exact ⟨le, by simp, by simp⟩
  | (le, s) :: r, n, i + 1, xi, h => by
    obtain ⟨le', h1, h2⟩ := specX_get r (n + 1) i xi (by simpa [specX] using h)
    exact ⟨le', by simpa using h1, by omega⟩
theorem specX_length : ∀ (sp : List (LE × XS)) (n : Nat), (specX n sp).length = sp.length
  | [], _ => rfl
  | (_, _) :: r, n => by simp [specX, specX_length r]
theorem HR.addl {hp : List (List Sc)} {c : Cx} {w : World} : ∀ (ys : List XI) (us : List Value) {v : Env} {xs : List XI}, HR v hp xs c w → us.length = ys.length →
    (∀ (i : Nat) y, ys[i]? = some y → y.c < v.l.length ∧ (∀ e ct, y.s ≠ .own e ct) ∧ XOK v.f w y.s (us.getD i undef) (v.l.getD y.c [])) → HR ⟨v.p, v.i, v.b, v.l, v.x ++ us, v.f⟩ hp (xs ++ ys) c w
  | [], us, v, xs, h, hl, _ => by
    obtain rfl : us = [] := List.eq_nil_of_length_eq_zero (by simpa using hl)
    simpa using h
  | y :: ys, [], v, xs, h, hl, _ => by simp at hl
  | y :: ys, u :: us, v, xs, h, hl, hy => by
    obtain ⟨h1, h2, h3⟩ := hy 0 y (by simp)
    have := HR.addl ys us (h.addx y u h1 (by simpa using h3) fun e ct g hs => absurd hs (h2 e ct)) (by simpa using hl) fun i y' hi => by
      have := hy (i + 1) y' (by simpa using hi)
      simpa using this
    simpa using this
theorem HR.spec {v : Env} {hp : List (List Sc)} {xs : List XI} {c : Cx} {w : World} (h : HR v hp xs c w) {sp : List (LE × XS)} {us : List Value} (hs : SpOK v w sp us) : HR (extX v sp us) hp (xs ++ specX v.l.length sp) c w := by
  have h1 := h.later (i := []) (b := []) (l := specL v sp) rfl
  have := h1.addl (ys := specX v.l.length sp) (us := us) (by rw [hs.1, specX_length]) fun i y hi => by
    obtain ⟨le, e1, e2⟩ := specX_get _ _ _ _ hi
    obtain ⟨h2, h3⟩ := hs.2 i le y.s e1
    have hil : i < sp.length := (List.getElem?_eq_some_iff.1 e1).1
    refine ⟨by simp [specL, e2]; omega, h2, ?_⟩
    have : (v.l ++ specL v sp).getD y.c [] = le.L v.i v.b v.l := by
      rw [e2, List.getD_eq_getElem?_getD, List.getElem?_append_right (by omega), Nat.add_sub_cancel_left]
      simp [specL, e1]
    rw [this]; exact h3
  simpa [extX] using this

section
variable {P : Program}
/-- Slices and strings, cut. -/
theorem run_slice_opt (w : World) (t te : TypeId) (ie : TypeInfo) (hu : P.underlying t = some (.slice te)) (hi : P.info? te = some ie) (a : Option Addr) (n cap : Nat) (lo hi : Option Value) (l h : Nat)
    (hlo : (lo = none ∧ l = 0) ∨ ∃ k, lo = some (.int k (l : Int))) (hhi : (hi = none ∧ h = n) ∨ ∃ k, hi = some (.int k (h : Int))) (h1 : l ≤ h) (h2 : h ≤ n) (h3 : n ≤ cap) :
    (Instr.sliceAt t (.slice a n cap) lo hi none).run P w = .ok (.slice (if cap = l then a else a.map (·.add (l * ie.size))) (h - l) (cap - l)) w := by
  have ht : P.underlying t = some (.slice (P.elem t)) := by simp [Program.elem, hu]
  have he : P.elem t = te := by simp [Program.elem, hu]
  rw [run_sliceAt_slice w t _ _ _ _ ht]
  rcases hlo with ⟨rfl, rfl⟩ | ⟨kl, rfl⟩ <;> rcases hhi with ⟨rfl, rfl⟩ | ⟨kh, rfl⟩
  · rw [run_slice_all w t a h cap ht, he, run_sizeOf hi]; rfl
  · rw [run_slice_h w t a n cap ht kh _ (by omega) (by omega), he, run_sizeOf hi]; rfl
  · rw [run_slice_l w t a h cap ht kl _ (by omega) (by omega), he, run_sizeOf hi]; simp [Result.andThen, sliced]
  · rw [run_slice_lh w t a n cap ht kl kh _ _ (by omega) (by omega) (by omega), he, run_sizeOf hi]; simp [Result.andThen, sliced]
theorem run_slice_str (w : World) (t : TypeId) (hu : P.underlying t = some .string) (s : ByteArray) (lo hi : Option Value) (l h : Nat)
    (hlo : (lo = none ∧ l = 0) ∨ ∃ k, lo = some (.int k (l : Int))) (hhi : (hi = none ∧ h = s.size) ∨ ∃ k, hi = some (.int k (h : Int))) (h1 : l ≤ h) (h2 : h ≤ s.size) :
    (Instr.sliceAt t (.string s) lo hi none).run P w = .ok (.string (s.extract l h)) w := by
  rw [run_sliceAt_string w t _ _ _ _ hu]
  rcases hlo with ⟨rfl, rfl⟩ | ⟨kl, rfl⟩ <;> rcases hhi with ⟨rfl, rfl⟩ | ⟨kh, rfl⟩
  · rw [run_slice_string_all w t s hu]
  · rw [run_slice_string_h w t s hu kh _ (by omega) (by omega)]; simp
  · rw [run_slice_string_l w t s hu kl _ (by omega) (by omega)]; simp
  · rw [run_slice_string (P := P) (w := w) t s kl kh _ _ hu (by omega) (by omega) (by omega)]; simp
variable (P)
def sbE (st : St) (d : E) : Option Operand → Option E
  | none => some d
  | some o => match rd st (.t true) o with
    | some (.s (.i _ e)) => some e
    | _ => none
def strLE (xs : List XI) : S1 → Option (LE × E)
  | .s (.x k) => (strK xs k).map fun c => (.v c, mkcm .leq (.ln c) (.n 1099511627776))
  | .s (.str s) => some (.s (bytesL s), .t (decide (s.size ≤ 1099511627776)))
  | _ => none
def cutRq (c : Nat) (lo hi : E) : E := mkan (mkcm .leq (.n 0) lo) (mkan (mkcm .leq lo hi) (mkcm .leq hi (.ln c)))
def fzK (xs : List XI) (k : Nat) : Option (Nat × List CT) :=
  match xs[k]? with
  | some ⟨c, .fz ct⟩ => some (c, ct)
  | _ => none
/-- Operations that read memory and name new slices and strings: what is yielded, what must hold, what is named. -/
def xq (st : St) (op : Op) : Option (S1 × E × List (LE × XS)) :=
  match op with
  | .load t x => match rd st (.t true) x with
    | some (.s (.xa k m e j)) => match slK st.xs k, P.underlying t, P.info? t with
      | some (c, ct), some d, some i =>
        if m = ct.length ∧ e.cl st.nI st.nB st.nL = true ∧ j + i.size ≤ ct.length then
          match ldC c e ((ct.drop j).take i.size) j st.xs.length with
          | some (l, sp) => match d.isRow with
            | true => some (.agg l, bnd0 c e, sp)
            | false => match l with
              | [x] => some (.s x, bnd0 c e, sp)
              | _ => none
          | none => none
        else none
      | _, _, _ => none
    | _ => none
  | .slice t x lo hi none => match rd st (.t true) x, P.underlying t with
    | some (.s (.x k)), some (.slice te) => match fzK st.xs k, P.info? te with
      | some (c, ct), some ie => match sbE st (.n 0) lo, sbE st (.ln c) hi with
        | some l, some h => if ie.size = ct.length then some (.s (.x st.xs.length), cutRq c l h, [(.cut (.v c) l h, .fz ct)]) else none
        | _, _ => none
      | _, _ => none
    | some (.s (.x k)), some .string => match strK st.xs k with
      | some c => match sbE st (.n 0) lo, sbE st (.ln c) hi with
        | some l, some h => some (.s (.x st.xs.length), cutRq c l h, [(.cut (.v c) l h, .str)])
        | _, _ => none
      | none => none
    | _, _ => none
  | .binOp .add _ x y _ => match rd st (.t true) x, rd st (.t true) y with
    | some x, some y => match strLE st.xs x, strLE st.xs y with
      | some (l, r), some (l', r') => some (.s (.x st.xs.length), mkan r r', [(.ap l l', .str)])
      | _, _ => none
    | _, _ => none
  | .convert src dst x => match rd st (.t true) x, P.underlying src, P.underlying dst with
    | some (.s (.x k)), some (.slice te), some .string => match slK st.xs k, P.underlying te with
      | some (c, [.i .u8]), some (.int .u8) => some (.s (.x st.xs.length), .by_ c, [(.v c, .str)])
      | _, _ => none
    | some (.s (.i _ e)), some (.int _), some .string => some (.s (.x st.xs.length), mkan (mkcm .leq (.n 0) e) (mkcm .leq e (.n 127)), [(.els [[.i e]], .str)])
    | _, _, _ => none
  | _ => none
variable {P}
theorem sbE_ok {st : St} {d e : E} {lo : Option Operand} {v : Env} {a : Act} (h : sbE st d lo = some e) (hT : TR v st a) (he : 0 ≤ e.I v.i v.b v.l) :
    (lo = none ∧ e = d) ∨ ∃ o k, lo = some o ∧ a.eval o = .int k ((e.I v.i v.b v.l).toNat : Int) := by
  unfold sbE at h
  split at h
  · cases h; exact .inl ⟨rfl, rfl⟩
  · rename_i o
    split at h
    · rename_i k e' hr
      cases h
      exact .inr ⟨o, k, rfl, by rw [rd_ok hT (GT.t v) hr v (Later.refl v)]; simp only [S1.den, Sc.den]; rw [Int.toNat_of_nonneg he]⟩
    · cases h
theorem bytesD_encode {n : Int} (h0 : 0 ≤ n) (h1 : n ≤ 127) : bytesD (Utf8.encode n) = [D.i n] := by
  have hv : Utf8.valid n = true := by
    unfold Utf8.valid
    simp only [Bool.or_eq_true, Bool.and_eq_true, decide_eq_true_eq]
    exact .inl ⟨h0, by omega⟩
  have hc : n.toNat < 128 := by omega
  have hl : (Utf8.encode n).data.toList = [UInt8.ofNat n.toNat] := by
    unfold Utf8.encode
    simp only [hv, if_true, hc]
  unfold bytesD
  rw [hl]
  simp only [List.map_cons, List.map_nil, UInt8.toNat_ofNat']
  have : ((n.toNat % 2 ^ 8 : Nat) : Int) = n := by omega
  rw [this]
theorem run_convert_int_str (w : World) (src dst : TypeId) (k k' : IntKind) (n : Int) (hs : P.underlying src = some (.int k')) (hd : P.underlying dst = some .string) :
    (convert src dst (.int k n)).run P w = .ok (.string (Utf8.encode n)) w := by
  simp [convert, run_underlying hs, run_underlying hd, Conv.intToString]
theorem strLE_ok {v : Env} {xs : List XI} (hX : XH v xs) {s : S1} {l : LE} {r : E} (h : strLE xs s = some (l, r)) (hr : r.B v.i v.b v.l = true) : ∃ b, s.den v = .string b ∧ l.L v.i v.b v.l = bytesD b ∧ b.size ≤ 1099511627776 := by
  unfold strLE at h
  split at h
  · rename_i k
    simp only [Option.map_eq_some_iff, Prod.mk.injEq] at h
    obtain ⟨c, hk, rfl, rfl⟩ := h
    obtain ⟨_, b, e1, e2⟩ := strK_ok hX hk
    refine ⟨b, by simp only [S1.den, Sc.den, e1, xv], by simp only [LE.L, e2], ?_⟩
    simp only [mkcm_B, cmB, E.I, e2, length_bytesD, decide_eq_true_eq] at hr
    omega
  · rename_i b
    simp only [Option.some.injEq, Prod.mk.injEq] at h
    obtain ⟨rfl, rfl⟩ := h
    refine ⟨b, rfl, by simp only [LE.L]; exact bytesL_D b, ?_⟩
    simpa [E.B] using hr
  · cases h
theorem by_get : ∀ {l : List D}, D.bytesB l = true → ∃ ns : List Int, l = ns.map D.i ∧ ∀ n ∈ ns, 0 ≤ n ∧ n < 256
  | [], _ => ⟨[], rfl, by simp⟩
  | .i n :: r, h => by
    simp only [D.bytesB, Bool.and_eq_true, decide_eq_true_eq] at h
    obtain ⟨ns, rfl, h2⟩ := by_get h.2
    exact ⟨n :: ns, rfl, by simp only [List.mem_cons, forall_eq_or_imp]; exact ⟨h.1, h2⟩⟩
  | .b _ :: _, h => by simp [D.bytesB] at h
  | .l _ :: _, h => by simp [D.bytesB] at h
  | .st _ :: _, h => by simp [D.bytesB] at h
theorem bytesD_nums {ns : List Int} (h : ∀ n ∈ ns, 0 ≤ n ∧ n < 256) : bytesD (strOfNums ns) = ns.map D.i := by
  unfold bytesD
  rw [strOfNums_data, List.map_map]
  refine List.map_congr_left fun n hn => ?_
  have := h n hn
  simp only [Function.comp_apply, D.i.injEq, UInt8.toNat_ofNat']
  omega
theorem cutRq_ok {c : Nat} {lo hi : E} {v : Env} (h : (cutRq c lo hi).B v.i v.b v.l = true) : 0 ≤ lo.I v.i v.b v.l ∧ lo.I v.i v.b v.l ≤ hi.I v.i v.b v.l ∧ hi.I v.i v.b v.l ≤ ((v.l.getD c []).length : Int) := by
  simp only [cutRq, mkan_B, mkcm_B, cmB, E.I, Bool.and_eq_true, decide_eq_true_eq] at h
  exact ⟨of_decide_eq_true h.1, h.2.1, of_decide_eq_true h.2.2⟩
theorem extX_at {v : Env} {xs : List XI} (hn : v.x.length = xs.length) {sp : List (LE × XS)} {us : List Value} {v' : Env} (l : Later (extX v sp us) v') {i : Nat} (hi : i < us.length) : v'.x.getD (xs.length + i) undef = us.getD i undef := by
  rw [l.x (by simp [extX, hn]; exact hi), ← hn]
  simp only [extX, List.getD_eq_getElem?_getD]
  rw [List.getElem?_append_right (by omega), Nat.add_sub_cancel_left]
theorem xq_ok {o : Oper} {st : St} {s : S1} {rq : E} {sp : List (LE × XS)} {v : Env} {a : Act} {c : Cx} {w : World} (h : xq P st o.op = some (s, rq, sp)) (hT : TR v st a) (hH : HR v st.hp st.xs c w) (hrq : rq.B v.i v.b v.l = true) :
    ∃ us, SpOK v w sp us ∧ ∀ v', Later (extX v sp us) v' → (execOp a.eval o).run P w = .ok (.value (s.den v')) w := by
  obtain ⟨dst, op, ty, pos, after, guard⟩ := o
  simp only at h
  have hX := hH.xh
  unfold xq at h
  split at h
  · rename_i t x
    split at h
    · rename_i k m e j hx
      split at h
      · rename_i cc ct d inf hk hu hi
        split at h
        · rename_i hc
          obtain ⟨rfl, hcl, hj⟩ := hc
          split at h
          · rename_i l sp' hld
            have hcl' : e.cl v.i.length v.b.length v.l.length = true := by rw [hT.hi, hT.hb, hT.hl]; exact hcl
            have hck := (slK_ok hX hk).1
            -- whatever stands there
            have key : ∀ (hb : (bnd0 cc e).B v.i v.b v.l = true), ∃ us, SpOK v w sp' us ∧ l.length = inf.size ∧ ∃ b q, a.eval x = .pointer (some ⟨b, q, none⟩) ∧
                ∀ v', Later (extX v sp' us) v' → ∀ n u, (l.map (Sc.den v'))[n]? = some u → w.cell? ⟨b, q + n, none⟩ = some u := fun hb => by
              obtain ⟨b0, b1⟩ := bnd0_ok hb
              obtain ⟨hct, b, q, cap, e1, hcells⟩ := slK_cells hH hk (i := (e.I v.i v.b v.l).toNat) (by omega)
              have hlen : ((ct.drop j).take inf.size).length = inf.size := by simp; omega
              have hch : ∀ n, n < inf.size → ∃ u, w.cell? ⟨b, q + (e.I v.i v.b v.l).toNat * ct.length + (j + n), none⟩ = some u ∧ ∀ hn : j + n < ct.length, RC v.f ct[j + n] u (((v.l.getD cc []).getD (e.I v.i v.b v.l).toNat (.i 0)).cell (j + n)) := fun n hn => by
                obtain ⟨u, g1, g2⟩ := hcells (j + n) (by omega)
                exact ⟨u, g1, fun _ => g2⟩
              let us : Nat → Value := fun n => if hn : n < inf.size then (hch n hn).choose else undef
              obtain ⟨xs, g1, g2, g3⟩ := ldC_ok (w := w) hck hcl' _ j st.xs.length l sp' us hld fun n hn => by
                have hn' : n < inf.size := by omega
                have := (hch n hn').choose_spec.2 (by omega)
                simp only [us, dif_pos hn', List.getElem_take, List.getElem_drop]
                exact this
              refine ⟨xs, g1, by omega, b, q + (e.I v.i v.b v.l).toNat * ct.length + j, ?_, fun v' lt n u hn => ?_⟩
              · rw [rd_ok hT (GT.t v) hx v (Later.refl v)]; simp only [S1.den, xa_den e1]
              · have hnl : n < l.length := by
                  have := (List.getElem?_eq_some_iff.1 hn).1
                  simpa using this
                have hn' : n < inf.size := by omega
                have := g3 v' ((extX_later v sp' xs).trans lt) (fun i hi => extX_at hH.nx lt hi) n (by omega)
                rw [this] at hn
                cases hn
                have := (hch n hn').choose_spec.1
                simp only [us, dif_pos hn']
                rw [Nat.add_assoc]; exact this
            split at h
            · rename_i hrow
              simp only [Option.some.injEq, Prod.mk.injEq] at h
              obtain ⟨rfl, rfl, rfl⟩ := h
              obtain ⟨us, g1, g2, b, q, g3, g4⟩ := key hrq
              refine ⟨us, g1, fun v' lt => ?_⟩
              simp only [execOp]
              refine run_v ?_
              rw [g3, run_loadAt_mid w b q t (l.map (Sc.den v')) d (fun n u hn => g4 v' lt n u hn) hu hrow (by simp [hi, g2])]
              rfl
            · rename_i hrow
              split at h
              · rename_i y
                simp only [Option.some.injEq, Prod.mk.injEq] at h
                obtain ⟨rfl, rfl, rfl⟩ := h
                obtain ⟨us, g1, g2, b, q, g3, g4⟩ := key hrq
                refine ⟨us, g1, fun v' lt => ?_⟩
                simp only [execOp]
                refine run_v ?_
                have g5 := g4 v' lt 0 (y.den v') (by simp)
                rw [Nat.add_zero] at g5
                rw [g3, run_loadVar_cell hu (by simp [hrow]) g5]
                rfl
              · cases h
          · cases h
        · cases h
      · cases h
    · cases h
  · rename_i t x lo hi
    split at h
    · rename_i k te hx hu
      split at h
      · rename_i cc ct ie hk hi'
        split at h
        · rename_i l h' hl hh
          split at h
          · rename_i hsz
            simp only [Option.some.injEq, Prod.mk.injEq] at h
            obtain ⟨rfl, rfl, rfl⟩ := h
            obtain ⟨c0, c1, c2⟩ := cutRq_ok hrq
            have hxk : st.xs[k]? = some ⟨cc, .fz ct⟩ := by
              unfold fzK at hk
              split at hk
              · rename_i c' ct' e; cases hk; exact e
              · cases hk
            have ho' := hH.ok k _ hxk
            dsimp only at ho'
            obtain ⟨ho0, ho⟩ := ho'
            obtain ⟨ad, cap, ds, e1, e2, e3⟩ := ho.head
            cases e2
            have hcut := RC.cut (lo := (l.I v.i v.b v.l).toNat) (hi := (h'.I v.i v.b v.l).toNat) (a := ad) (n := (v.l.getD cc []).length) (c := cap) (by rw [← e1]; exact ho) (by omega) (by omega)
            refine ⟨[_], SpOK.cons (by simp) (s := .fz ct) ⟨ho0, hcut⟩ (SpOK.nil v w), fun v' lt => ?_⟩
            have hn := extX_at hH.nx lt (i := 0) (by simp)
            simp only [Nat.add_zero, List.getD_cons_zero] at hn
            simp only [execOp]
            refine run_v ?_
            simp only [S1.den, Sc.den, hn, xv]
            rw [rd_ok hT (GT.t v) hx v (Later.refl v)]
            simp only [S1.den, Sc.den, e1, xv]
            have r1 := sbE_ok hl hT c0
            have r2 := sbE_ok hh hT (by omega)
            have := run_slice_opt w t te ie hu hi' ad (v.l.getD cc []).length cap (lo.map a.eval) (hi.map a.eval) (l.I v.i v.b v.l).toNat (h'.I v.i v.b v.l).toNat
              (by rcases r1 with ⟨rfl, rfl⟩ | ⟨o, k, rfl, e⟩
                  · exact .inl ⟨rfl, rfl⟩
                  · exact .inr ⟨k, by simp [e]⟩)
              (by rcases r2 with ⟨rfl, rfl⟩ | ⟨o, k, rfl, e⟩
                  · exact .inl ⟨rfl, by simp only [E.I, Int.toNat_natCast]⟩
                  · exact .inr ⟨k, by simp [e]⟩) (by omega) (by omega) e3
            rw [hsz] at this
            exact this
          · cases h
        · cases h
      · cases h
    · rename_i k hx hu
      split at h
      · rename_i cc hk
        split at h
        · rename_i l h' hl hh
          simp only [Option.some.injEq, Prod.mk.injEq] at h
          obtain ⟨rfl, rfl, rfl⟩ := h
          obtain ⟨c0, c1, c2⟩ := cutRq_ok hrq
          obtain ⟨_, sb, e1, e2⟩ := strK_ok hX hk
          rw [e2, length_bytesD] at c2
          refine ⟨[.string (sb.extract (l.I v.i v.b v.l).toNat (h'.I v.i v.b v.l).toNat)], SpOK.cons (by simp) (s := .str) ⟨_, rfl, ?_⟩ (SpOK.nil v w), fun v' lt => ?_⟩
          · simp only [LE.L, e2, bytesD_extract]
          · have hn := extX_at hH.nx lt (i := 0) (by simp)
            simp only [Nat.add_zero, List.getD_cons_zero] at hn
            simp only [execOp]
            refine run_v ?_
            simp only [S1.den, Sc.den, hn, xv]
            rw [rd_ok hT (GT.t v) hx v (Later.refl v)]
            simp only [S1.den, Sc.den, e1, xv]
            have r1 := sbE_ok hl hT c0
            have r2 := sbE_ok hh hT (by omega)
            exact run_slice_str w t hu sb (lo.map a.eval) (hi.map a.eval) (l.I v.i v.b v.l).toNat (h'.I v.i v.b v.l).toNat
              (by rcases r1 with ⟨rfl, rfl⟩ | ⟨o, k, rfl, e⟩
                  · exact .inl ⟨rfl, rfl⟩
                  · exact .inr ⟨k, by simp [e]⟩)
              (by rcases r2 with ⟨rfl, rfl⟩ | ⟨o, k, rfl, e⟩
                  · exact .inl ⟨rfl, by simp only [E.I, e2, length_bytesD, Int.toNat_natCast]⟩
                  · exact .inr ⟨k, by simp [e]⟩) (by omega) (by omega)
        · cases h
      · cases h
    · cases h
  · rename_i t x y yt
    split at h
    · rename_i sx sy hx hy
      split at h
      · rename_i l r l' r' hl hl'
        simp only [Option.some.injEq, Prod.mk.injEq] at h
        obtain ⟨rfl, rfl, rfl⟩ := h
        simp only [mkan_B, Bool.and_eq_true] at hrq
        obtain ⟨b, e1, e2, e3⟩ := strLE_ok hX hl hrq.1
        obtain ⟨b', e1', e2', e3'⟩ := strLE_ok hX hl' hrq.2
        refine ⟨[.string (b ++ b')], SpOK.cons (by simp) (s := .str) ⟨_, rfl, ?_⟩ (SpOK.nil v w), fun v' lt => ?_⟩
        · simp only [LE.L, e2, e2', bytesD_app]
        · have hn := extX_at hH.nx lt (i := 0) (by simp)
          simp only [Nat.add_zero, List.getD_cons_zero] at hn
          simp only [execOp]
          refine run_v ?_
          simp only [S1.den, Sc.den, hn, xv]
          rw [rd_ok hT (GT.t v) hx v (Later.refl v), rd_ok hT (GT.t v) hy v (Later.refl v), e1, e1']
          have := run_string_add_sum (P := P) w b b' (by omega)
          simp [eqGuard, binOp_string_add, this]
      · cases h
    · cases h
  · rename_i src d x
    split at h
    · rename_i k te hx hs hd
      split at h
      · rename_i cc hk hte
        simp only [Option.some.injEq, Prod.mk.injEq] at h
        obtain ⟨rfl, rfl, rfl⟩ := h
        simp only [E.B] at hrq
        obtain ⟨ns, hns, hb⟩ := by_get hrq
        have hlen : ns.length = (v.l.getD cc []).length := by rw [hns, List.length_map]
        refine ⟨[.string (strOfNums ns)], SpOK.cons (by simp) (s := .str) ⟨_, rfl, ?_⟩ (SpOK.nil v w), fun v' lt => ?_⟩
        · simp only [LE.L, hns, bytesD_nums hb]
        · have hn := extX_at hH.nx lt (i := 0) (by simp)
          simp only [Nat.add_zero, List.getD_cons_zero] at hn
          simp only [execOp]
          refine run_v ?_
          simp only [S1.den, Sc.den, hn, xv]
          rw [rd_ok hT (GT.t v) hx v (Later.refl v)]
          obtain ⟨_, _, _, ad, cap, e1, e2, e3⟩ := slK_ok hX hk
          simp only [S1.den, Sc.den, e1, xv]
          by_cases h0 : ns.length = 0
          · obtain rfl : ns = [] := List.eq_nil_of_length_eq_zero h0
            rw [run_convert_bytes_string w src d te ad _ cap hs hte hd, ← hlen]
            cases ad <;> simp [Conv.bytesToString, loadCells, loadCellsFrom, strOfNums, ByteArray.empty, ByteArray.emptyWithCapacity] <;> rfl
          · obtain ⟨b, q, rfl⟩ := e3 (by omega)
            refine run_convert_bytes_arg w src te hs hte b q _ cap ns hlen (fun i hi => ?_) d hd
            obtain ⟨_, b', q', cap', e1', hc⟩ := slK_cells hH hk hi
            rw [e1] at e1'
            cases e1'
            obtain ⟨u, g1, g2⟩ := hc 0 (by simp)
            simp only [List.length_singleton, Nat.mul_one, Nat.add_zero] at g1
            rw [g1]
            have hd' : ((v.l.getD cc []).getD i (.i 0)).cell 0 = .i (ns.getD i 0) := by
              rw [hns]
              have : i < ns.length := by omega
              simp [List.getD_eq_getElem?_getD, this, D.cell]
            rw [hd'] at g2
            simp only [List.getElem_cons_zero] at g2
            cases g2; rfl
      · cases h
    · rename_i k e ki hx hs hd
      simp only [Option.some.injEq, Prod.mk.injEq] at h
      obtain ⟨rfl, rfl, rfl⟩ := h
      obtain ⟨q1, q2⟩ := an_B hrq
      have q1 := leq_B q1
      have q2 := leq_B q2
      simp only [E.I] at q1 q2
      refine ⟨[.string (Utf8.encode (e.I v.i v.b v.l))], SpOK.cons (by simp) (s := .str) ⟨_, rfl, ?_⟩ (SpOK.nil v w), fun v' lt => ?_⟩
      · rw [bytesD_encode q1 q2]; rfl
      · have hn := extX_at hH.nx lt (i := 0) (by simp)
        simp only [Nat.add_zero, List.getD_cons_zero] at hn
        simp only [execOp]
        refine run_v ?_
        simp only [S1.den, Sc.den, hn, xv]
        rw [rd_ok hT (GT.t v) hx v (Later.refl v)]
        exact run_convert_int_str w src d k ki _ hs hd
    · cases h
  · cases h
end
end Go.Proofs.YtghekmcdokgkkaaDoor.Vx
