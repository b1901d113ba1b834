/-
  What trees tell: one step at a time.
-/
import Derived.Test.YtghekmcdokgkkaaDoorVx
namespace Go.Proofs.YtghekmcdokgkkaaDoor.Vd
open Go.Proofs.YtghekmcdokgkkaaDoor.Vx
theorem sameLI_refl : ∀ l : List Int, sameLI l l = true
  | [] => rfl
  | x :: l => by simp [sameLI, sameLI_refl l]
theorem sameLB_refl : ∀ l : List Bool, sameLB l l = true
  | [] => rfl
  | x :: l => by simp [sameLB, sameLB_refl l]
theorem sameLL_refl : ∀ l : LL, sameLL l l = true
  | [] => rfl
  | x :: l => by simp [sameLL, sameLL_refl l, D.sameL_refl]
theorem out_refl (o : Out) : o.same o = true := by
  cases o <;> simp [Out.same, Vx.R.same, sameLI_refl, sameLB_refl, sameLL_refl]
theorem of_ret {t : Vx.T} {C : Nat → Vx.Fn} {is bs ls r} (h : t.den C is bs ls = some (.ret r)) : Vx.Fd t C is bs ls = some r := by
  unfold Vx.Fd; rw [h]
theorem d_call {C : Nat → Vx.Fn} {f : Nat} {ii bb : List E} {ll : List Vx.LE} {ni nb nl : Nat} {k : Vx.T} {is bs ls} {F : Vx.Fn} (r : Vx.R) {o} (hC : C f = F)
    (h : F (ii.map (Vx.E.I is bs ls)) (bb.map (Vx.E.B is bs ls)) (ll.map (Vx.LE.L is bs ls)) = some r) (hf : r.fits ni nb nl = true) (hk : k.den C (is ++ r.1) (bs ++ r.2.1) (ls ++ r.2.2) = o) : (Vx.T.call f ii bb ll ni nb nl k).den C is bs ls = o := by
  simp only [Vx.T.den, hC, h, hf, hk]
theorem d_callx {C : Nat → Vx.Fn} {f : Nat} {ii bb : List E} {ll : List Vx.LE} {ni nb nl : Nat} {k : Vx.T} {is bs ls} {F : Vx.Fn} (l : List Int) (m : List Bool) (q : LL) (r : Vx.R) {o} (hC : C f = F) (hl : ii.map (Vx.E.I is bs ls) = l) (hm : bb.map (Vx.E.B is bs ls) = m) (hq : ll.map (Vx.LE.L is bs ls) = q)
    (h : F l m q = some r) (hf : r.fits ni nb nl = true) (hk : k.den C (is ++ r.1) (bs ++ r.2.1) (ls ++ r.2.2) = o) : (Vx.T.call f ii bb ll ni nb nl k).den C is bs ls = o := by
  subst hl hm hq
  exact d_call r hC h hf hk
theorem d_ite {C : Nat → Vx.Fn} {c : E} {a b : Vx.T} {is bs ls o} (h1 : c.B is bs ls = true → a.den C is bs ls = o) (h2 : c.B is bs ls = false → b.den C is bs ls = o) : (Vx.T.ite c a b).den C is bs ls = o := by
  simp only [Vx.T.den]
  cases h : c.B is bs ls
  · exact h2 h
  · exact h1 h
theorem d_rq {C : Nat → Vx.Fn} {c : E} {k : Vx.T} {is bs ls o} (h : c.B is bs ls = true) (hk : k.den C is bs ls = o) : (Vx.T.rq c k).den C is bs ls = o := by
  simp only [Vx.T.den, h, cond_true, hk]
theorem d_itT {C : Nat → Vx.Fn} {c : E} {a b : Vx.T} {is bs ls o} (h : c.B is bs ls = true) (hk : a.den C is bs ls = o) : (Vx.T.ite c a b).den C is bs ls = o := by
  simp only [Vx.T.den, h, cond_true, hk]
theorem d_itF {C : Nat → Vx.Fn} {c : E} {a b : Vx.T} {is bs ls o} (h : c.B is bs ls = false) (hk : b.den C is bs ls = o) : (Vx.T.ite c a b).den C is bs ls = o := by
  simp only [Vx.T.den, h, cond_false, hk]
theorem d_lst {C : Nat → Vx.Fn} {l : List Vx.LE} {k : Vx.T} {is bs ls o} (q : LL) (hq : l.map (Vx.LE.L is bs ls) = q) (hk : k.den C is bs (ls ++ q) = o) : (Vx.T.lst l k).den C is bs ls = o := by
  subst hq; simp only [Vx.T.den, hk]
theorem d_lb {C : Nat → Vx.Fn} {e : E} {k : Vx.T} {is bs ls o} (q : Bool) (hq : e.B is bs ls = q) (hk : k.den C is (bs ++ [q]) ls = o) : (Vx.T.lb e k).den C is bs ls = o := by
  subst hq; simp only [Vx.T.den, hk]
theorem d_li {C : Nat → Vx.Fn} {e : E} {k : Vx.T} {is bs ls o} (q : Int) (hq : e.I is bs ls = q) (hk : k.den C (is ++ [q]) bs ls = o) : (Vx.T.li e k).den C is bs ls = o := by
  subst hq; simp only [Vx.T.den, hk]
theorem d_rt {C : Nat → Vx.Fn} {k : Vx.T} {is bs ls r} (h : k.den C is bs ls = some (.ret r)) : (Vx.T.rt k).den C is bs ls = some (.ret r) := by
  simp only [Vx.T.den, h]
theorem d_nzN {C : Nat → Vx.Fn} {c : Nat} {a b : Vx.T} {is bs ls o} (h : ls.getD c [] ≠ []) (hk : b.den C is bs ls = o) : (Vx.T.nz c a b).den C is bs ls = o := by
  simp only [Vx.T.den]
  split
  · rename_i e; exact absurd e h
  · exact hk
theorem lt_t {a b : Int} (h : a < b) : decide (a < b) = true := decide_eq_true h
theorem ge_t {a b : Int} (h : b ≤ a) : decide (a ≥ b) = true := decide_eq_true h
theorem gt_t {a b : Int} (h : b < a) : decide (a > b) = true := decide_eq_true h
theorem gt_f {a b : Int} (h : a ≤ b) : decide (a > b) = false := decide_eq_false (by omega)
theorem ge_f {a b : Int} (h : a < b) : decide (a ≥ b) = false := decide_eq_false (by omega)
theorem le_t {a b : Int} (h : a ≤ b) : decide (a ≤ b) = true := decide_eq_true h
theorem lt_f {a b : Int} (h : b ≤ a) : decide (a < b) = false := decide_eq_false (by omega)
theorem eq_t {a b : Int} (h : a = b) : (a == b) = true := by simp [h]
theorem eq_f {a b : Int} (h : a ≠ b) : (a == b) = false := by simp [h]
theorem ne_t {a b : Int} (h : a ≠ b) : (a != b) = true := by simp [h]
theorem ne_f {a b : Int} (h : a = b) : (a != b) = false := by simp [h]
theorem an_t {a b : Bool} (h : a = true) (h' : b = true) : (a && b) = true := by simp [h, h']
theorem d_nz {C : Nat → Vx.Fn} {c : Nat} {a b : Vx.T} {is bs ls} {o : Out} (h1 : ls.getD c [] = [] → a.den C is bs ls = some o) (h2 : b.den C is bs ls = some o) : (Vx.T.nz c a b).den C is bs ls = some o := by
  simp only [Vx.T.den]
  split
  · rename_i h
    rw [h1 h, h2]
    simp only [out_refl]
  · exact h2
theorem d_both {C : Nat → Vx.Fn} {a b : Vx.T} {is bs ls} {o : Out} (h1 : a.den C is bs ls = some o) (h2 : b.den C is bs ls = some o) : (Vx.T.both a b).den C is bs ls = some o := by
  simp only [Vx.T.den, h1, h2, out_refl]
theorem d_lp {C : Nat → Vx.Fn} {ii bb : List E} {ll : List Vx.LE} {ni nb nl : Nat} {body k : Vx.T} {is bs ls} {t : Nat} (r : Vx.R) {o} (h : iterT ni nb nl (fun r => body.den C (is ++ r.1) (bs ++ r.2.1) (ls ++ r.2.2)) fuel (vals ii bb ll is bs ls) = some (.brk t r)) (hf : r.fits ni nb nl = true)
    (hk : k.den C (is ++ (t : Int) :: r.1) (bs ++ r.2.1) (ls ++ r.2.2) = o) : (Vx.T.lp ii bb ll ni nb nl body k).den C is bs ls = o := by
  simp only [Vx.T.den, h, hf, hk]
theorem d_lp_ret {C : Nat → Vx.Fn} {ii bb : List E} {ll : List Vx.LE} {ni nb nl : Nat} {body k : Vx.T} {is bs ls} {r : Vx.R} (h : iterT ni nb nl (fun r => body.den C (is ++ r.1) (bs ++ r.2.1) (ls ++ r.2.2)) fuel (vals ii bb ll is bs ls) = some (.ret r)) :
    (Vx.T.lp ii bb ll ni nb nl body k).den C is bs ls = some (.ret r) := by
  simp only [Vx.T.den, h]
theorem d_jn {C : Nat → Vx.Fn} {a k : Vx.T} {ni nb nl : Nat} {is bs ls} (t : Nat) (r : Vx.R) {o} (h : a.den C is bs ls = some (.brk t r)) (hf : r.fits ni nb nl = true)
    (hk : k.den C (is ++ (t : Int) :: r.1) (bs ++ r.2.1) (ls ++ r.2.2) = o) : (Vx.T.jn a ni nb nl k).den C is bs ls = o := by
  simp only [Vx.T.den, h, hf, hk]
theorem d_jn_ret {C : Nat → Vx.Fn} {a k : Vx.T} {ni nb nl : Nat} {is bs ls} {r : Vx.R} (h : a.den C is bs ls = some (.ret r)) : (Vx.T.jn a ni nb nl k).den C is bs ls = some (.ret r) := by
  simp only [Vx.T.den, h]
theorem it_nxt {ni nb nl : Nat} {step : Vx.R → Option Out} {n : Nat} {r r' : Vx.R} {o} (h : step r = some (.nxt r')) (hf : r'.fits ni nb nl = true) (hk : iterT ni nb nl step n r' = o) : iterT ni nb nl step (n + 1) r = o := by
  simp only [iterT, h, hf, hk]
theorem it_brk {ni nb nl : Nat} {step : Vx.R → Option Out} {n : Nat} {r r' : Vx.R} {t : Nat} (h : step r = some (.brk t r')) : iterT ni nb nl step (n + 1) r = some (.brk t r') := by
  simp only [iterT, h]
theorem it_ret {ni nb nl : Nat} {step : Vx.R → Option Out} {n : Nat} {r r' : Vx.R} (h : step r = some (.ret r')) : iterT ni nb nl step (n + 1) r = some (.ret r') := by
  simp only [iterT, h]
theorem fuel_eq (n : Nat) (h : n ≤ 18446744073709551616) : ∃ k, fuel = k + n := ⟨18446744073709551616 - n, by unfold fuel; omega⟩
theorem tab_hd {e : Ent} {r : Tab} {f : Nat} (h : Nat.beq e.f f = true) : Tab.fn (e :: r) f = e.F := by simp [Tab.fn, h]
theorem tab_tl {e : Ent} {r : Tab} {f : Nat} {F : Vx.Fn} (h : Nat.beq e.f f = false) (hr : Tab.fn r f = F) : Tab.fn (e :: r) f = F := by simp [Tab.fn, h, hr]
end Go.Proofs.YtghekmcdokgkkaaDoor.Vd
