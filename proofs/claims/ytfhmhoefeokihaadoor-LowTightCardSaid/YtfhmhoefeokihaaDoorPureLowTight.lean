/-
  As many low bits are told as are known of both, or more; all that is told is right (of numbers alone).
-/
import Derived.Test.YtfhmhoefeokihaaDoorPLowTightx
import Derived.Test.YtfhmhoefeokihaaDoorSLowTight
import Derived.Test.YtfhmhoefeokihaaDoorTypesLowTight
namespace Go.Proofs.YtfhmhoefeokihaaDoor.Pure
open Go.RowKit Go.Proofs.YtfhmhoefeokihaaDoor.PLowTight Go.Proofs.YtfhmhoefeokihaaDoorW.PrintWords Go.Proofs.YtfhmhoefeokihaaDoorW.PrintLast Go.Proofs.YtfhmhoefeokihaaDoorW.PrintMore Go.Proofs.YtfhmhoefeokihaaDoor.Nums Go.Proofs.YtfhmhoefeokihaaDoor.SLowTight

theorem is_awake : Ev (fun k => trammellaw17_awake.f k) true := Ev.of (fun k => trammellaw17_awake.mono k) (k := 12) (by decide +kernel)
def Rt (p : Nat × Nat) : Prop := p.1 ≤ 64 ∧ p.2 < 2 ^ p.1
theorem right_rt {p : Nat × Nat} (h : Rt p) : low_Right.f (p.1 : Int) (p.2 : Int) = some true := by
  have h2 : p.2 < 2 ^ 64 := Nat.lt_of_lt_of_le h.2 (pow_le h.1)
  have h1 := h.1
  rw [right_eq h2, Int.toNat_natCast, decide_eq_true ⟨by omega, by omega, h.2⟩]
theorem wd_rt {n r w : Nat} (h : n ≤ 64) : Rt (wd n r w) := by
  unfold wd Rt
  split
  · refine ⟨Nat.le_refl _, ?_⟩
    show r % 2 ^ 32 < 2 ^ 64
    omega
  · refine ⟨h, ?_⟩
    show r % 2 ^ min n 64 < 2 ^ n
    rw [Nat.min_eq_left h]
    exact mod_lt_pow _ _
theorem wd_n (n r w : Nat) : (wd n r w).1 = n ∨ (w = 32 ∧ 32 ≤ n ∧ (wd n r w).1 = 64) := by
  unfold wd
  split
  · rename_i h; exact Or.inr ⟨h.1, h.2, rfl⟩
  · exact Or.inl rfl
theorem ct_rt {r n : Nat} (hr : r < 2 ^ 64) (h : n ≤ 64) : Rt (ct 64 r n) := by
  unfold ct Rt
  split
  · exact ⟨Nat.le_refl _, hr⟩
  · refine ⟨h, ?_⟩
    show r % 2 ^ min n 64 < 2 ^ n
    rw [Nat.min_eq_left h]
    exact mod_lt_pow _ _
theorem ct_n {r n : Nat} (h : n ≤ 64) : (ct 64 r n).1 = n := by
  unfold ct
  split
  · show 64 = n; omega
  · rfl
theorem an_rt {n r m q : Nat} (hr : r < 2 ^ 64) (hn : n ≤ 64) (hm : m ≤ 64) : Rt (an n r m q) := by
  unfold an
  split
  · refine ⟨?_, pow_pos _⟩
    show max (nt n r) (nt m q) ≤ 64
    unfold nt; omega
  · exact ct_rt (Nat.lt_of_le_of_lt Nat.and_le_left hr) (by omega)
theorem an_n {n r m q : Nat} (hn : n ≤ 64) : min n m ≤ (an n r m q).1 := by
  unfold an
  split
  · rename_i h; show min n m ≤ max (nt n r) (nt m q); omega
  · rw [ct_n (by omega)]; exact Nat.le_refl _
theorem sl_rt {n r s w : Nat} (hw : w = 32 ∨ w = 64) : Rt (sl n r s w) := wd_rt (by have := hw; omega)
theorem sl_n {n r s w : Nat} (hw : w = 32 ∨ w = 64) (hn : n ≤ 64) : min (n + s % w) w ≤ (sl n r s w).1 := by
  unfold sl
  have := wd_n (min (min n 64 + s % w) w) (r * 2 ^ (s % w) % 2 ^ 64) w
  omega
theorem l0_step (x4 : Int) (w n : Nat) (y : List S25) (i : Nat) (z : Nat × Nat) (A B C D : Int) (hi : i < y.length) (hl : y.length ≤ 10) (hz : rd_T25 y (i : Int) = ⟨(z.1 : Int), (z.2 : Int)⟩) (hr : Rt z)
    (hn : z.1 = n ∨ (w = 32 ∧ 32 ≤ n ∧ z.1 = 64)) (h : Ev (fun k => trammellaw17_LowTight.l0 k x4 w n y (y.length : Int) ((i + 1 : Nat) : Int) A B C D) true) :
    Ev (fun k => trammellaw17_LowTight.l0 k x4 w n y (y.length : Int) (i : Int) A B C D) true := by
  refine Ev.step (fun k => ?_) h
  have e2 := up_one i (by omega)
  simp only [trammellaw17_LowTight.l0]
  rw [if_pos (by omega), if_pos (by omega), if_pos (by omega)]
  simp only [hz]
  rw [right_rt hr, Option.bind_some, if_pos rfl, e2]
  rcases hn with hn | ⟨h1, h2, h3⟩
  · rw [if_pos (by omega)]
  · by_cases e : (z.1 : Int) = (n : Int)
    · rw [if_pos e]
    · rw [if_neg e, if_pos (by omega), if_pos (by omega), if_pos (by omega)]
theorem l0_end (s w : Nat) (y : List S25) (n r m q : Nat) (hw : w = 32 ∨ w = 64) (hs : s < 2 ^ 64) (hr : r < 2 ^ 64) (hq : q < 2 ^ 64) (hn : n ≤ 64) (hm : m ≤ 64) :
    Ev (fun k => trammellaw17_LowTight.l0 k s w (min n m : Nat) y (y.length : Int) (y.length : Int) n r m q) true := by
  have hsl := shl_ev n r s w hw hs
  have ho : Rt (ct 64 (r ||| q) (min n m)) := ct_rt (Nat.or_lt_two_pow hr hq) (by omega)
  have hx : Rt (ct 64 (r ^^^ q) (min n m)) := ct_rt (Nat.xor_lt_two_pow hr hq) (by omega)
  have ha : Rt (an n r m q) := an_rt hr hn hm
  have hu : Rt (sl n r s w) := sl_rt hw
  have hlt : s % w < 64 := by rcases hw with rfl | rfl <;> omega
  have ew : IntKind.u64.wrap (w : Int) = (w : Int) := wraps_u64 _ (by omega) (by omega)
  have et : wrap64 (Int.tmod (s : Int) (w : Int)) = ((s % w : Nat) : Int) := by
    rw [Int.tmod_eq_emod_of_nonneg (by omega), show (s : Int) % (w : Int) = ((s % w : Nat) : Int) from rfl, wrap64_id _ (by omega) (by omega)]
  have ea : wrap64 ((n : Int) + ((s % w : Nat) : Int)) = ((n + s % w : Nat) : Int) := by rw [wrap64_id _ (by omega) (by omega)]; omega
  refine Ev.step (fun k => by simp only [trammellaw17_LowTight.l0]; rw [if_neg (by omega)]) (Ev.bind hsl ?_)
  have ko : (ct 64 (r ||| q) (min n m)).1 = min n m := ct_n (by omega)
  have kx : (ct 64 (r ^^^ q) (min n m)).1 = min n m := ct_n (by omega)
  have ka : min n m ≤ (an n r m q).1 := an_n hn
  have ku : min (n + s % w) w ≤ (sl n r s w).1 := sl_n hw hn
  have ho' := right_rt ho
  have hx' := right_rt hx
  rw [ko] at ho'
  rw [kx] at hx'
  have ha' := right_rt ha
  have hu' := right_rt hu
  have eo := or_eq n m hr hq
  have ex := xor_eq n m hr hq
  have ea2 := and_eq n m hr hq
  generalize ct 64 (r ||| q) (min n m) = O at *
  generalize ct 64 (r ^^^ q) (min n m) = X at *
  generalize an n r m q = N at *
  generalize sl n r s w = U at *
  refine Ev.congr (f := fun _ => some true) (fun k => ?_) (Ev.now true)
  simp only [eo, ex, ea2, Option.bind_some, ii, ho', hx', ha', hu', ew, et, ea, ko, kx, if_true, mn_nat]
  rw [if_pos (by omega), if_neg (by rcases hw with rfl | rfl <;> decide), decide_eq_true (by omega)]
theorem j0_ok (a b k l s w : Nat) (ha : a < 2 ^ 64) (hb : b < 2 ^ 64) (hk : k < 256) (hl : l < 256) (hs : s < 2 ^ 64) (hw : w = 32 ∨ w = 64) :
    Ev (fun f => trammellaw17_LowTight.j0 f a b k l s w) true := by
  have h1 := sm_lt a k ha
  have h2 := sm_lt b l hb
  have h3 := sm_le a k
  have h4 := sm_le b l
  refine Ev.step (fun f => by simp only [trammellaw17_LowTight.j0]; rfl) (Ev.bind (some_ev a k ha hk) (Ev.bind (some_ev b l hb hl) ?_))
  generalize sm a k = p at *
  generalize sm b l = q at *
  obtain ⟨n, r⟩ := p
  obtain ⟨m, q⟩ := q
  simp only at h1 h2 h3 h4
  refine Ev.bind (add_ev n r m q w) (Ev.bind (sub_ev n r m q w h1 h2) (Ev.bind (mul_ev n r m q w) ?_))
  have hle : min n m ≤ 64 := by omega
  have z1 := wd_rt (n := min n m) (r := (r + q) % 2 ^ 64) (w := w) hle
  have z2 := wd_rt (n := min n m) (r := (r + (2 ^ 64 - q)) % 2 ^ 64) (w := w) hle
  have z3 := wd_rt (n := min n m) (r := r * q % 2 ^ 64) (w := w) hle
  have n1 := wd_n (min n m) ((r + q) % 2 ^ 64) w
  have n2 := wd_n (min n m) ((r + (2 ^ 64 - q)) % 2 ^ 64) w
  have n3 := wd_n (min n m) (r * q % 2 ^ 64) w
  generalize wd (min n m) ((r + q) % 2 ^ 64) w = Z1 at *
  generalize wd (min n m) ((r + (2 ^ 64 - q)) % 2 ^ 64) w = Z2 at *
  generalize wd (min n m) (r * q % 2 ^ 64) w = Z3 at *
  simp only [Option.bind_some, ii, mn_nat]
  generalize hy : ([⟨(Z1.1 : Int), (Z1.2 : Int)⟩, ⟨(Z2.1 : Int), (Z2.2 : Int)⟩, ⟨(Z3.1 : Int), (Z3.2 : Int)⟩] : List S25) = y
  have hlen : y.length = 3 := by rw [← hy]; rfl
  have r0 : rd_T25 y ((0 : Nat) : Int) = ⟨(Z1.1 : Int), (Z1.2 : Int)⟩ := by rw [← hy]; rfl
  have r1 : rd_T25 y ((1 : Nat) : Int) = ⟨(Z2.1 : Int), (Z2.2 : Int)⟩ := by rw [← hy]; rfl
  have r2 : rd_T25 y ((2 : Nat) : Int) = ⟨(Z3.1 : Int), (Z3.2 : Int)⟩ := by rw [← hy]; rfl
  refine l0_step s w (min n m) y 0 Z1 n r m q (by omega) (by omega) r0 z1 n1 ?_
  refine l0_step s w (min n m) y 1 Z2 n r m q (by omega) (by omega) r1 z2 n2 ?_
  refine l0_step s w (min n m) y 2 Z3 n r m q (by omega) (by omega) r2 z3 n3 ?_
  have := l0_end s w y n r m q hw hs h1 h2 h3 h4
  rw [hlen] at this ⊢
  exact this
theorem LowTight : Go.Proofs.YtfhmhoefeokihaaDoor.TLowTight.Pure := by
  intro a0 a1 a2 a3 a4 a5 w0 w1 w2 w3 w4
  obtain ⟨a, rfl, ha⟩ := wf_u64 w0
  obtain ⟨b, rfl, hb⟩ := wf_u64 w1
  obtain ⟨k, rfl, hk⟩ := wf_u8 w2
  obtain ⟨l, rfl, hl⟩ := wf_u8 w3
  obtain ⟨s, rfl, hs⟩ := wf_u64 w4
  refine Ev.rounds (g := fun f => trammellaw17_LowTight.f f a b k l s a5) ?_
  unfold trammellaw17_LowTight.f
  refine Ev.bind is_awake ?_
  simp only [if_true]
  cases a5 with
  | true => exact j0_ok a b k l s 64 ha hb hk hl hs (Or.inr rfl)
  | false => exact j0_ok a b k l s 32 ha hb hk hl hs (Or.inl rfl)
end Go.Proofs.YtfhmhoefeokihaaDoor.Pure
