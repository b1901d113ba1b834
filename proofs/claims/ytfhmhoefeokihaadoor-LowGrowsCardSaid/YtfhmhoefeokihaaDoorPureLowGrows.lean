/-
  Of fewer known bits no more are told, and the same ones; sums, products, and, or, exclusive or go both ways (of numbers alone).
-/
import Derived.Test.YtfhmhoefeokihaaDoorPLowGrowsx
import Derived.Test.YtfhmhoefeokihaaDoorSLowGrows
import Derived.Test.YtfhmhoefeokihaaDoorTypesLowGrows
namespace Go.Proofs.YtfhmhoefeokihaaDoor.Pure
open Go.RowKit Go.Proofs.YtfhmhoefeokihaaDoor.PLowGrows Go.Proofs.YtfhmhoefeokihaaDoorW.PrintWords Go.Proofs.YtfhmhoefeokihaaDoorW.PrintLast Go.Proofs.YtfhmhoefeokihaaDoorW.PrintMore Go.Proofs.YtfhmhoefeokihaaDoor.Nums Go.Proofs.YtfhmhoefeokihaaDoor.SLowGrows

theorem is_awake : Ev (fun k => trammellaw17_awake.f k) true := Ev.of (fun k => trammellaw17_awake.mono k) (k := 12) (by decide +kernel)
/-! ### what agrees in the lowest bits -/
theorem cong_le {u t i l : Nat} (hi : i ≤ l) (h : u % 2 ^ l = t % 2 ^ l) : u % 2 ^ i = t % 2 ^ i := by
  rw [← mod_mod_pow u hi, h, mod_mod_pow t hi]
theorem cong_64 {u l : Nat} (h : l ≤ 64) : u % 2 ^ 64 % 2 ^ l = u % 2 ^ l := mod_mod_pow u h
theorem cong_add {a b c d M : Nat} (h : a % M = c % M) (h' : b % M = d % M) : (a + b) % M = (c + d) % M := by rw [Nat.add_mod, h, h', ← Nat.add_mod]
theorem cong_mul {a b c d M : Nat} (h : a % M = c % M) (h' : b % M = d % M) : (a * b) % M = (c * d) % M := by rw [Nat.mul_mod, h, h', ← Nat.mul_mod]
/-- A number less another one, on 64 bits: it agrees if they do. -/
theorem cong_sub {a b c d l : Nat} (hl : l ≤ 64) (hb : b < 2 ^ 64) (hd : d < 2 ^ 64) (h : a % 2 ^ l = c % 2 ^ l) (h' : b % 2 ^ l = d % 2 ^ l) : (a + (2 ^ 64 - b)) % 2 ^ l = (c + (2 ^ 64 - d)) % 2 ^ l := by
  refine cong_add h ?_
  obtain ⟨e, he⟩ := Nat.pow_dvd_pow 2 hl
  rw [he] at hb hd ⊢
  have hp := pow_pos l
  generalize 2 ^ l = P at *
  have hx := Nat.div_add_mod b P
  have hy := Nat.div_add_mod d P
  have hm := Nat.mod_lt b hp
  have hm' := Nat.mod_lt d hp
  rw [h'] at hx hm
  generalize d % P = t at *
  have q1 : b / P < e := by
    refine Nat.lt_of_mul_lt_mul_left (a := P) ?_
    omega
  have q2 : d / P < e := by
    refine Nat.lt_of_mul_lt_mul_left (a := P) ?_
    omega
  obtain ⟨x, hx'⟩ : ∃ x, e = b / P + 1 + x := ⟨e - (b / P + 1), by omega⟩
  obtain ⟨y, hy'⟩ : ∃ y, e = d / P + 1 + y := ⟨e - (d / P + 1), by omega⟩
  have r1 : P * e - b = (P - t) + P * x := by
    have : P * e = P * (b / P) + P + P * x := by rw [congrArg (P * ·) hx']; simp only [Nat.mul_add, Nat.mul_one]
    omega
  have r2 : P * e - d = (P - t) + P * y := by
    have : P * e = P * (d / P) + P + P * y := by rw [congrArg (P * ·) hy']; simp only [Nat.mul_add, Nat.mul_one]
    omega
  rw [r1, r2, Nat.add_mul_mod_self_left, Nat.add_mul_mod_self_left]
theorem ctz_mod (r : Nat) (hr : r < 2 ^ 64) : r % 2 ^ Lib.ctz 64 r = 0 := by
  unfold Lib.ctz
  split
  · rename_i h; rw [h, Nat.zero_mod]
  · rename_i h
    obtain ⟨m, hm, _⟩ := Lib.ctzFrom_spec 64 r (by omega) hr
    exact Nat.mod_eq_zero_of_dvd ⟨2 * m + 1, hm⟩
theorem nt_mod {n r p : Nat} (hr : r < 2 ^ 64) (h : p % 2 ^ n = r % 2 ^ n) : p % 2 ^ nt n r = 0 := by
  have h1 : nt n r ≤ n := by unfold nt; omega
  have h2 : nt n r ≤ Lib.ctz 64 r := by unfold nt; omega
  rw [cong_le h1 h, ← mod_mod_pow r h2, ctz_mod r hr, Nat.zero_mod]
theorem and_cong {p q r s l : Nat} (h : p % 2 ^ l = r % 2 ^ l) (h' : q % 2 ^ l = s % 2 ^ l) : (p &&& q) % 2 ^ l = (r &&& s) % 2 ^ l := by
  rw [Nat.and_mod_two_pow, h, h', ← Nat.and_mod_two_pow]
theorem or_cong {p q r s l : Nat} (h : p % 2 ^ l = r % 2 ^ l) (h' : q % 2 ^ l = s % 2 ^ l) : (p ||| q) % 2 ^ l = (r ||| s) % 2 ^ l := by
  rw [Nat.or_mod_two_pow, h, h', ← Nat.or_mod_two_pow]
theorem xor_cong {p q r s l : Nat} (h : p % 2 ^ l = r % 2 ^ l) (h' : q % 2 ^ l = s % 2 ^ l) : (p ^^^ q) % 2 ^ l = (r ^^^ s) % 2 ^ l := by
  rw [Nat.xor_mod_two_pow, h, h', ← Nat.xor_mod_two_pow]
theorem le_ctz {r t : Nat} (hr : r < 2 ^ 64) (ht : t ≤ 64) (h : r % 2 ^ t = 0) : t ≤ Lib.ctz 64 r := by
  unfold Lib.ctz
  split
  · exact ht
  · rename_i h0
    obtain ⟨m, hm, _⟩ := Lib.ctzFrom_spec 64 r (by omega) hr
    generalize Lib.ctzFrom 64 r = c at *
    refine Nat.le_of_not_lt (fun hlt => ?_)
    have h1 : r % 2 ^ (c + 1) = 0 := by rw [← mod_mod_pow r (show c + 1 ≤ t by omega), h, Nat.zero_mod]
    rw [hm, Nat.pow_succ, Nat.mul_mod_mul_left] at h1
    have h2 : (2 * m + 1) % 2 = 1 := by omega
    rw [h2, Nat.mul_one] at h1
    have := pow_pos c
    omega
/-- Told within: of no more bits, and the same ones. -/
def Wn (p q : Nat × Nat) : Prop := q.1 ≤ p.1 ∧ p.2 % 2 ^ min q.1 64 = q.2 % 2 ^ min q.1 64
theorem wn_true {p q : Nat × Nat} (hp : p.2 < 2 ^ 64) (hq : q.2 < 2 ^ 64) (h : Wn p q) : low_Within.f (p.1 : Int) (p.2 : Int) (q.1 : Int) (q.2 : Int) = some true := by
  have := within_eq hp hq (p.1 : Int) (q.1 : Int)
  rw [Int.toNat_natCast, decide_eq_true ⟨by have := h.1; omega, h.2⟩] at this
  exact this
theorem wn_wd {u v l m w : Nat} (hw : w = 32 ∨ w = 64) (hl : l ≤ 64) (hm : m ≤ l) (h : u % 2 ^ m = v % 2 ^ m) : Wn (wd l u w) (wd m v w) := by
  unfold wd Wn
  by_cases c : w = 32 ∧ 32 ≤ m
  · rw [if_pos c, if_pos ⟨c.1, by omega⟩]
    refine ⟨Nat.le_refl _, ?_⟩
    show u % 2 ^ 32 % 2 ^ 64 = v % 2 ^ 32 % 2 ^ 64
    rw [cong_le c.2 h]
  · rw [if_neg c]
    by_cases c' : w = 32 ∧ 32 ≤ l
    · rw [if_pos c']
      refine ⟨show m ≤ 64 by omega, ?_⟩
      show u % 2 ^ 32 % 2 ^ min m 64 = v % 2 ^ min m 64 % 2 ^ min m 64
      rw [Nat.min_eq_left (by omega), Nat.mod_mod, mod_mod_pow u (by omega), h]
    · rw [if_neg c']
      refine ⟨hm, ?_⟩
      show u % 2 ^ min l 64 % 2 ^ min m 64 = v % 2 ^ min m 64 % 2 ^ min m 64
      rw [Nat.min_eq_left (show m ≤ 64 by omega), Nat.min_eq_left hl, Nat.mod_mod, mod_mod_pow u hm, h]
theorem ct_fst {r n : Nat} (h : n ≤ 64) : (ct 64 r n).1 = n := by
  unfold ct
  split
  · show 64 = n; omega
  · rfl
theorem ct_snd {r n i : Nat} (h : n ≤ 64) (hi : i ≤ n) : (ct 64 r n).2 % 2 ^ i = r % 2 ^ i := by
  unfold ct
  split
  · rfl
  · show r % 2 ^ min n 64 % 2 ^ i = r % 2 ^ i
    rw [Nat.min_eq_left h, mod_mod_pow r hi]
theorem wn_ct {u v l m : Nat} (hl : l ≤ 64) (hm : m ≤ l) (h : u % 2 ^ m = v % 2 ^ m) : Wn (ct 64 u l) (ct 64 v m) := by
  unfold Wn
  rw [ct_fst hl, ct_fst (by omega), Nat.min_eq_left (by omega), ct_snd hl hm, ct_snd (by omega) (Nat.le_refl m)]
  exact ⟨hm, h⟩
theorem an_fst {n r m s : Nat} (hn : n ≤ 64) : (an n r m s).1 = max (min n m) (max (nt n r) (nt m s)) := by
  unfold an
  split
  · show max (nt n r) (nt m s) = _; omega
  · rw [ct_fst (by omega)]; omega
theorem an_snd {n r m s i : Nat} (hr : r < 2 ^ 64) (hs : s < 2 ^ 64) (hn : n ≤ 64) (hi : i ≤ (an n r m s).1) : (an n r m s).2 % 2 ^ i = (r &&& s) % 2 ^ i := by
  unfold an at hi ⊢
  split
  · rename_i h
    rw [if_pos h] at hi
    have hi' : i ≤ max (nt n r) (nt m s) := hi
    show 0 % 2 ^ i = _
    rw [Nat.zero_mod, Nat.and_mod_two_pow]
    rcases Nat.le_total (nt n r) (nt m s) with h | h
    · have h0 := nt_mod (p := s) (n := m) hs rfl
      have : s % 2 ^ i = 0 := by rw [← mod_mod_pow s (show i ≤ nt m s by omega), h0, Nat.zero_mod]
      rw [this, Nat.and_zero]
    · have h0 := nt_mod (p := r) (n := n) hr rfl
      have : r % 2 ^ i = 0 := by rw [← mod_mod_pow r (show i ≤ nt n r by omega), h0, Nat.zero_mod]
      rw [this, Nat.zero_and]
  · rename_i h
    rw [if_neg h, ct_fst (by omega)] at hi
    exact ct_snd (by omega) hi
theorem nt_le {n r p q : Nat} (hr : r < 2 ^ 64) (hq : q < 2 ^ 64) (hn : n ≤ 64) (hp : p ≤ n) (h : q % 2 ^ p = r % 2 ^ p) : nt p q ≤ nt n r := by
  have h1 : nt p q ≤ p := by unfold nt; omega
  have h2 : r % 2 ^ nt p q = 0 := nt_mod hq h.symm
  have h3 := le_ctz hr (show nt p q ≤ 64 by omega) h2
  show nt p q ≤ min n (Lib.ctz 64 r)
  omega
theorem wn_an {n r m s p q : Nat} (hr : r < 2 ^ 64) (hs : s < 2 ^ 64) (hq : q < 2 ^ 64) (hn : n ≤ 64) (hm : m ≤ 64) (hp : p ≤ n) (h : q % 2 ^ p = r % 2 ^ p) : Wn (an n r m s) (an p q m s) := by
  have h1 := nt_le hr hq hn hp h
  have f1 := an_fst (r := r) (m := m) (s := s) hn
  have f2 := an_fst (n := p) (r := q) (m := m) (s := s) (by omega)
  have hle : (an p q m s).1 ≤ (an n r m s).1 := by rw [f1, f2]; omega
  have h64 : (an p q m s).1 ≤ 64 := by
    rw [f2]
    have : nt p q ≤ p := by unfold nt; omega
    have : nt m s ≤ m := by unfold nt; omega
    omega
  refine ⟨hle, ?_⟩
  rw [Nat.min_eq_left h64, an_snd hr hs hn hle, an_snd hq hs (by omega) (Nat.le_refl _)]
  by_cases hc : (an p q m s).1 ≤ p
  · exact and_cong (cong_le hc h.symm) rfl
  · have hz : (an p q m s).1 = nt m s := by
      have : nt p q ≤ p := by unfold nt; omega
      omega
    have h0 := nt_mod (p := s) (n := m) hs rfl
    rw [hz, Nat.and_mod_two_pow, Nat.and_mod_two_pow, h0, Nat.and_zero, Nat.and_zero]
theorem mod64_lt (n : Nat) : n % 2 ^ 64 < 2 ^ 64 := mod_lt_pow n 64
theorem wd_lt (n r w : Nat) (hr : r < 2 ^ 64) : (wd n r w).2 < 2 ^ 64 := by
  unfold wd
  split
  · exact Nat.lt_of_le_of_lt (Nat.mod_le _ _) hr
  · exact Nat.lt_of_le_of_lt (Nat.mod_le _ _) hr
theorem ct_lt (r n : Nat) (hr : r < 2 ^ 64) : (ct 64 r n).2 < 2 ^ 64 := by
  unfold ct
  split
  · exact hr
  · exact Nat.lt_of_le_of_lt (Nat.mod_le _ _) hr
theorem an_lt (n r m s : Nat) (hr : r < 2 ^ 64) : (an n r m s).2 < 2 ^ 64 := by
  unfold an
  by_cases h : max (nt n r) (nt m s) > min n m
  · rw [if_pos h]
    exact Nat.lt_of_le_of_lt (Nat.zero_le r) hr
  · rw [if_neg h]
    exact ct_lt _ _ (Nat.lt_of_le_of_lt Nat.and_le_left hr)
theorem an_comm (n r m s : Nat) : an n r m s = an m s n r := by
  unfold an
  rw [Nat.max_comm (nt n r), Nat.min_comm n, Nat.and_comm r]
/-- What is cut to fewer. -/
theorem cut_is (N R n : Nat) (hN : N ≤ 64) (hR : R < 2 ^ 64) : (ct N R n).1 ≤ N ∧ (ct N R n).2 < 2 ^ 64 ∧ (ct N R n).2 % 2 ^ (ct N R n).1 = R % 2 ^ (ct N R n).1 := by
  unfold ct
  split
  · exact ⟨Nat.le_refl _, hR, rfl⟩
  · refine ⟨show n ≤ N by omega, Nat.lt_of_le_of_lt (Nat.mod_le _ _) hR, ?_⟩
    show R % 2 ^ min n 64 % 2 ^ n = R % 2 ^ n
    rw [Nat.min_eq_left (by omega), Nat.mod_mod]
theorem ev_if {g : Nat → Option Bool} {r : Bool} (b : Bool) (hb : b = true) (x : Option Bool) (h : Ev g r) : Ev (fun k => if b = true then g k else x) r := Ev.congr (fun k => if_pos hb) h
theorem j0_ok (a b k l few w : Nat) (ha : a < 2 ^ 64) (hb : b < 2 ^ 64) (hk : k < 256) (hl : l < 256) (hf : few < 256) (hw : w = 32 ∨ w = 64) :
    Ev (fun f => trammellaw17_LowGrows.j0 f a b k l few w) true := by
  have h1 := sm_lt a k ha
  have h2 := sm_lt b l hb
  have h3 := sm_le a k
  have h4 := sm_le b l
  refine Ev.step (fun f => by simp only [trammellaw17_LowGrows.j0]; rw [wrap64_id (few : Int) (by omega) (by omega)]) (Ev.bind (some_ev a k ha hk) (Ev.bind (some_ev b l hb hl) ?_))
  generalize sm a k = p at *
  generalize sm b l = q at *
  obtain ⟨n, r⟩ := p
  obtain ⟨m, s⟩ := q
  simp only at h1 h2 h3 h4
  have hc := cut_is n r few h3 h1
  simp only [ii]
  rw [cut_nat h1]
  simp only [Option.bind_some, ii]
  generalize ct n r few = z at *
  obtain ⟨c, t⟩ := z
  simp only at hc ⊢
  obtain ⟨hc1, hc2, hc3⟩ := hc
  have hle : min n m ≤ 64 := by omega
  have hmm : min c m ≤ min n m := by omega
  have cr : r % 2 ^ min c m = t % 2 ^ min c m := cong_le (by omega) hc3.symm
  have k1 : Wn (wd (min n m) ((r + s) % 2 ^ 64) w) (wd (min c m) ((t + s) % 2 ^ 64) w) := wn_wd hw hle hmm (by rw [cong_64 (by omega), cong_64 (by omega)]; exact cong_add cr rfl)
  have k2 : Wn (wd (min n m) ((r + (2 ^ 64 - s)) % 2 ^ 64) w) (wd (min c m) ((t + (2 ^ 64 - s)) % 2 ^ 64) w) := wn_wd hw hle hmm (by rw [cong_64 (by omega), cong_64 (by omega)]; exact cong_add cr rfl)
  have k3 : Wn (wd (min n m) (r * s % 2 ^ 64) w) (wd (min c m) (t * s % 2 ^ 64) w) := wn_wd hw hle hmm (by rw [cong_64 (by omega), cong_64 (by omega)]; exact cong_mul cr rfl)
  have w1 := wn_true (wd_lt _ _ _ (mod64_lt _)) (wd_lt _ _ _ (mod64_lt _)) k1
  have w2 := wn_true (wd_lt _ _ _ (mod64_lt _)) (wd_lt _ _ _ (mod64_lt _)) k2
  have w3 := wn_true (wd_lt _ _ _ (mod64_lt _)) (wd_lt _ _ _ (mod64_lt _)) k3
  have w4 := wn_true (an_lt n r m s h1) (an_lt c t m s hc2) (wn_an h1 h2 hc2 h3 h4 hc1 hc3)
  have w5 := wn_true (ct_lt (r ||| s) (min n m) (Nat.or_lt_two_pow h1 h2)) (ct_lt (t ||| s) (min c m) (Nat.or_lt_two_pow hc2 h2)) (wn_ct hle hmm (or_cong cr rfl))
  have w6 := wn_true (ct_lt (r ^^^ s) (min n m) (Nat.xor_lt_two_pow h1 h2)) (ct_lt (t ^^^ s) (min c m) (Nat.xor_lt_two_pow hc2 h2)) (wn_ct hle hmm (xor_cong cr rfl))
  have a4 := and_eq n m h1 h2
  have a4' := and_eq c m hc2 h2
  have a4'' := and_eq m n h2 h1
  have a5 := or_eq n m h1 h2
  have a5' := or_eq c m hc2 h2
  have a5'' := or_eq m n h2 h1
  have a6 := xor_eq n m h1 h2
  have a6' := xor_eq c m hc2 h2
  have a6'' := xor_eq m n h2 h1
  rw [← an_comm n r m s] at a4''
  rw [Nat.min_comm m n, Nat.or_comm s r] at a5''
  rw [Nat.min_comm m n, Nat.xor_comm s r] at a6''
  have s1 := add_ev m s n r w
  have s3 := mul_ev m s n r w
  rw [Nat.min_comm m n, Nat.add_comm s r] at s1
  rw [Nat.min_comm m n, Nat.mul_comm s r] at s3
  refine Ev.bind (add_ev n r m s w) (Ev.bind (add_ev c t m s w) ?_)
  simp only [ii]
  rw [w1]
  refine Ev.congr (fun n => (Option.bind_some _ _).trans (if_pos rfl)) ?_
  refine Ev.bind (sub_ev n r m s w h1 h2) (Ev.bind (sub_ev c t m s w hc2 h2) ?_)
  simp only [ii]
  rw [w2]
  refine Ev.congr (fun n => (Option.bind_some _ _).trans (if_pos rfl)) ?_
  refine Ev.bind (mul_ev n r m s w) (Ev.bind (mul_ev c t m s w) ?_)
  simp only [ii]
  rw [w3]
  refine Ev.congr (fun n => (Option.bind_some _ _).trans (if_pos rfl)) ?_
  simp only [ii] at a4 a4' a4'' a5 a5' a5'' a6 a6' a6''
  simp only [a4, a4', a4'', a5, a5', a5'', a6, a6', a6'', Option.bind_some, w4, w5, w6, beq_self_eq_true, Bool.and_self, if_true]
  refine Ev.bind (add_ev n r m s w) (Ev.bind s1 ?_)
  refine ev_if _ (by rw [beq_self_eq_true, beq_self_eq_true]; rfl) _ ?_
  refine Ev.bind (mul_ev n r m s w) (Ev.bind s3 ?_)
  refine ev_if _ (by rw [beq_self_eq_true, beq_self_eq_true]; rfl) _ ?_
  exact Ev.now true
theorem LowGrows : Go.Proofs.YtfhmhoefeokihaaDoor.TLowGrows.Pure := by
  intro a0 a1 a2 a3 a4 a5 w0 w1 w2 w3 w4
  obtain ⟨a, rfl, ha⟩ := wf_u64 w0
  obtain ⟨b, rfl, hb⟩ := wf_u64 w1
  obtain ⟨k, rfl, hk⟩ := wf_u8 w2
  obtain ⟨l, rfl, hl⟩ := wf_u8 w3
  obtain ⟨s, rfl, hs⟩ := wf_u8 w4
  refine Ev.rounds (g := fun f => trammellaw17_LowGrows.f f a b k l s a5) ?_
  unfold trammellaw17_LowGrows.f
  refine Ev.bind is_awake ?_
  simp only [if_true]
  cases a5 with
  | true => exact j0_ok a b k l s 64 ha hb hk hl hs (Or.inr rfl)
  | false => exact j0_ok a b k l s 32 ha hb hk hl hs (Or.inl rfl)
end Go.Proofs.YtfhmhoefeokihaaDoor.Pure
