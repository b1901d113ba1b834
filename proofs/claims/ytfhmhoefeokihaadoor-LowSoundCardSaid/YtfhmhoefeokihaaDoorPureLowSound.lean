/-
  What is reckoned of any number of one and any of another one is in what is told, on 32 and 64 bits (of numbers alone).
-/
import Derived.Test.YtfhmhoefeokihaaDoorPLowSoundx
import Derived.Test.YtfhmhoefeokihaaDoorSLowSound
import Derived.Test.YtfhmhoefeokihaaDoorTypesLowSound
namespace Go.Proofs.YtfhmhoefeokihaaDoor.Pure
open Go.RowKit Go.Proofs.YtfhmhoefeokihaaDoor.PLowSound Go.Proofs.YtfhmhoefeokihaaDoorW.PrintWords Go.Proofs.YtfhmhoefeokihaaDoorW.PrintLast Go.Proofs.YtfhmhoefeokihaaDoorW.PrintMore Go.Proofs.YtfhmhoefeokihaaDoor.Nums Go.Proofs.YtfhmhoefeokihaaDoor.SLowSound

theorem is_awake : Ev (fun k => trammellaw17_awake.f k) true := Ev.of (fun k => trammellaw17_awake.mono k) (k := 12) (by decide +kernel)
/-! ### what agrees in the lowest bits -/
theorem cong_le {u t i l : Nat} (hi : i ≤ l) (h : u % 2 ^ l = t % 2 ^ l) : u % 2 ^ i = t % 2 ^ i := by
  rw [← mod_mod_pow u hi, h, mod_mod_pow t hi]
theorem cong_64 {u l : Nat} (h : l ≤ 64) : u % 2 ^ 64 % 2 ^ l = u % 2 ^ l := mod_mod_pow u h
theorem cong_add {a b c d M : Nat} (h : a % M = c % M) (h' : b % M = d % M) : (a + b) % M = (c + d) % M := by rw [Nat.add_mod, h, h', ← Nat.add_mod]
theorem cong_mul {a b c d M : Nat} (h : a % M = c % M) (h' : b % M = d % M) : (a * b) % M = (c * d) % M := by rw [Nat.mul_mod, h, h', ← Nat.mul_mod]
/-- A number less another one, on 64 bits: it agrees if they do. -/
theorem cong_sub {a b c d l : Nat} (hl : l ≤ 64) (hb : b < 2 ^ 64) (hd : d < 2 ^ 64) (h : a % 2 ^ l = c % 2 ^ l) (h' : b % 2 ^ l = d % 2 ^ l) : (a + (2 ^ 64 - b)) % 2 ^ l = (c + (2 ^ 64 - d)) % 2 ^ l := by
  refine cong_add h ?_
  obtain ⟨e, he⟩ := Nat.pow_dvd_pow 2 hl
  rw [he] at hb hd ⊢
  have hp := pow_pos l
  generalize 2 ^ l = P at *
  have hx := Nat.div_add_mod b P
  have hy := Nat.div_add_mod d P
  have hm := Nat.mod_lt b hp
  have hm' := Nat.mod_lt d hp
  rw [h'] at hx hm
  generalize d % P = t at *
  have q1 : b / P < e := by
    refine Nat.lt_of_mul_lt_mul_left (a := P) ?_
    omega
  have q2 : d / P < e := by
    refine Nat.lt_of_mul_lt_mul_left (a := P) ?_
    omega
  obtain ⟨x, hx'⟩ : ∃ x, e = b / P + 1 + x := ⟨e - (b / P + 1), by omega⟩
  obtain ⟨y, hy'⟩ : ∃ y, e = d / P + 1 + y := ⟨e - (d / P + 1), by omega⟩
  have r1 : P * e - b = (P - t) + P * x := by
    have : P * e = P * (b / P) + P + P * x := by rw [congrArg (P * ·) hx']; simp only [Nat.mul_add, Nat.mul_one]
    omega
  have r2 : P * e - d = (P - t) + P * y := by
    have : P * e = P * (d / P) + P + P * y := by rw [congrArg (P * ·) hy']; simp only [Nat.mul_add, Nat.mul_one]
    omega
  rw [r1, r2, Nat.add_mul_mod_self_left, Nat.add_mul_mod_self_left]
theorem has_wd {u t l w : Nat} (hw : w = 32 ∨ w = 64) (hl : l ≤ 64) (h : u % 2 ^ l = t % 2 ^ l) : (t % 2 ^ w) % 2 ^ min (wd l u w).1 64 = (wd l u w).2 % 2 ^ min (wd l u w).1 64 := by
  unfold wd
  by_cases hc : w = 32 ∧ 32 ≤ l
  · rw [if_pos hc, hc.1]
    show t % 2 ^ 32 % 2 ^ 64 = u % 2 ^ 32 % 2 ^ 64
    rw [cong_le hc.2 h]
  · rw [if_neg hc]
    show t % 2 ^ w % 2 ^ min l 64 = u % 2 ^ min l 64 % 2 ^ min l 64
    rw [Nat.min_eq_left hl, Nat.mod_mod, mod_mod_pow t (by omega), h]
theorem has_ct {u t l : Nat} (hl : l ≤ 64) (h : u % 2 ^ l = t % 2 ^ l) : t % 2 ^ min (ct 64 u l).1 64 = (ct 64 u l).2 % 2 ^ min (ct 64 u l).1 64 := by
  unfold ct
  by_cases hc : 64 ≤ l
  · rw [if_pos hc]
    show t % 2 ^ 64 = u % 2 ^ 64
    rw [cong_le hc h]
  · rw [if_neg hc]
    show t % 2 ^ min l 64 = u % 2 ^ min l 64 % 2 ^ min l 64
    rw [Nat.min_eq_left hl, Nat.mod_mod, h]
theorem ctz_mod (r : Nat) (hr : r < 2 ^ 64) : r % 2 ^ Lib.ctz 64 r = 0 := by
  unfold Lib.ctz
  split
  · rename_i h; rw [h, Nat.zero_mod]
  · rename_i h
    obtain ⟨m, hm, _⟩ := Lib.ctzFrom_spec 64 r (by omega) hr
    exact Nat.mod_eq_zero_of_dvd ⟨2 * m + 1, hm⟩
theorem nt_mod {n r p : Nat} (hr : r < 2 ^ 64) (h : p % 2 ^ n = r % 2 ^ n) : p % 2 ^ nt n r = 0 := by
  have h1 : nt n r ≤ n := by unfold nt; omega
  have h2 : nt n r ≤ Lib.ctz 64 r := by unfold nt; omega
  rw [cong_le h1 h, ← mod_mod_pow r h2, ctz_mod r hr, Nat.zero_mod]
theorem and_cong {p q r s l : Nat} (h : p % 2 ^ l = r % 2 ^ l) (h' : q % 2 ^ l = s % 2 ^ l) : (p &&& q) % 2 ^ l = (r &&& s) % 2 ^ l := by
  rw [Nat.and_mod_two_pow, h, h', ← Nat.and_mod_two_pow]
theorem or_cong {p q r s l : Nat} (h : p % 2 ^ l = r % 2 ^ l) (h' : q % 2 ^ l = s % 2 ^ l) : (p ||| q) % 2 ^ l = (r ||| s) % 2 ^ l := by
  rw [Nat.or_mod_two_pow, h, h', ← Nat.or_mod_two_pow]
theorem xor_cong {p q r s l : Nat} (h : p % 2 ^ l = r % 2 ^ l) (h' : q % 2 ^ l = s % 2 ^ l) : (p ^^^ q) % 2 ^ l = (r ^^^ s) % 2 ^ l := by
  rw [Nat.xor_mod_two_pow, h, h', ← Nat.xor_mod_two_pow]
theorem has_an {n m r s p q : Nat} (hr : r < 2 ^ 64) (hs : s < 2 ^ 64) (hn : n ≤ 64) (hp : p % 2 ^ n = r % 2 ^ n) (hq : q % 2 ^ m = s % 2 ^ m) :
    (p &&& q) % 2 ^ min (an n r m s).1 64 = (an n r m s).2 % 2 ^ min (an n r m s).1 64 := by
  unfold an
  split
  · show (p &&& q) % 2 ^ min (max (nt n r) (nt m s)) 64 = 0 % 2 ^ min (max (nt n r) (nt m s)) 64
    rw [Nat.zero_mod, Nat.and_mod_two_pow]
    rcases Nat.le_total (nt n r) (nt m s) with h | h
    · have h0 := nt_mod hs hq
      have : q % 2 ^ min (max (nt n r) (nt m s)) 64 = 0 := by rw [← mod_mod_pow q (show min (max (nt n r) (nt m s)) 64 ≤ nt m s by omega), h0, Nat.zero_mod]
      rw [this, Nat.and_zero]
    · have h0 := nt_mod hr hp
      have : p % 2 ^ min (max (nt n r) (nt m s)) 64 = 0 := by rw [← mod_mod_pow p (show min (max (nt n r) (nt m s)) 64 ≤ nt n r by omega), h0, Nat.zero_mod]
      rw [this, Nat.zero_and]
  · exact has_ct (by omega) (and_cong (cong_le (by omega) hp.symm) (cong_le (by omega) hq.symm))
/-! ### a number with these low bits -/
theorem i0 {i d : Nat} (h : i + (d + 1) = 64) : i < 64 := by omega
theorem i1 {i : Nat} (h : i < 64) : (i : Int) < 64 := by omega
theorem i2 (i : Nat) : (0 : Int) ≤ (i : Int) := by omega
theorem i3 {i : Nat} (h : i < 64) : (i : Int) < 2 ^ 64 := by omega
theorem i4 {i : Nat} (h : i < 64) : i ≤ 4611686018427387904 := by omega
theorem other_loop (N w x : Nat) (hw : w ≤ 64) (hx : x < 2 ^ w) : ∀ (d i v : Nat), N ≤ i → i + d = 64 → v < 2 ^ w →
    ∃ p : Nat, Ev (fun k => trammellaw17_other.l0 k x v i) (p : Int) ∧ p < 2 ^ w ∧ p % 2 ^ N = v % 2 ^ N
  | 0, i, v, hN, hi, hv => by
    refine ⟨v, Ev.step (f := fun _ => some (v : Int)) (fun k => ?_) (Ev.now _), hv, rfl⟩
    simp only [trammellaw17_other.l0]
    rw [if_neg (by omega)]
  | d + 1, i, v, hN, hi, hv => by
    have h64 : 2 ^ w ≤ 2 ^ 64 := pow_le hw
    have ha : x &&& 2 ^ i < 2 ^ w := Nat.lt_of_le_of_lt Nat.and_le_left hx
    obtain ⟨p, h1, h2, h3⟩ := other_loop N w x hw hx d (i + 1) (v ||| (x &&& 2 ^ i)) (by omega) (by omega) (Nat.or_lt_two_pow hv ha)
    refine ⟨p, Ev.step (fun k => ?_) h1, h2, ?_⟩
    · have hx64 := Nat.lt_of_lt_of_le hx h64
      have ha64 := Nat.lt_of_lt_of_le ha h64
      have hv64 := Nat.lt_of_lt_of_le hv h64
      have hi64 : i < 64 := i0 hi
      simp only [trammellaw17_other.l0]
      rw [if_pos (i1 hi64), wraps_u64 (i : Int) (i2 i) (i3 hi64), if_pos (i2 i), shl_one hi64, band hx64 (pow_lt hi64), bor hv64 ha64, up_one i (i4 hi64)]
    · rw [h3]
      refine Nat.eq_of_testBit_eq (fun j => ?_)
      rw [Nat.testBit_mod_two_pow, Nat.testBit_mod_two_pow, Nat.testBit_or, Nat.testBit_and, Nat.testBit_two_pow]
      by_cases hj : j < N
      · simp [hj, show ¬ i = j from by omega]
      · simp [hj]
theorem other_ev (N w r x : Nat) (hN : N ≤ 64) (hw : w ≤ 64) (hx : x < 2 ^ w) (hr : r < 2 ^ w) : ∃ p : Nat, Ev (fun k => trammellaw17_other.f k N r x) (p : Int) ∧ p < 2 ^ w ∧ p % 2 ^ N = r % 2 ^ N := by
  unfold trammellaw17_other.f
  exact other_loop N w x hw hx (64 - N) N r (Nat.le_refl _) (by omega) hr
/-! ### what the program reckons -/
theorem bin32 (c : Int) (h0 : 0 ≤ c) (h1 : c ≤ 14) (p q r t : Int) (h : Ev (fun k => num_reckon.f k c (p % 4294967296) (q % 4294967296) 32) (r, t)) : Ev (fun k => num_Bin.f k (106 + c) p q) (r % 4294967296, t, true) := by
  unfold num_Bin.f
  simp only [if_pos (show (106 + c) ≥ 70 from by omega), decide_eq_false (show ¬ (106 + c) ≤ 79 from by omega)]
  refine Ev.step (fun k => by simp only [num_Bin.j0]; rw [if_neg (by decide), if_pos (by omega), decide_eq_false (show ¬ (106 + c) ≤ 90 from by omega)]) ?_
  refine Ev.step (fun k => by simp only [num_Bin.j1]; rw [if_neg (by decide), if_pos (by omega), decide_eq_true (show (106 + c) ≤ 120 from by omega)]) ?_
  refine Ev.step (fun k => by simp only [num_Bin.j2]; rw [if_pos trivial, show wrap64 (106 + c - 106) = c from by rw [wrap64_id _ (by omega) (by omega)]; omega]) ?_
  exact Ev.bind h (Ev.now _)
theorem bin64 (c : Int) (h0 : 0 ≤ c) (h1 : c ≤ 14) (p q r t : Int) (h : Ev (fun k => num_reckon.f k c p q 64) (r, t)) : Ev (fun k => num_Bin.f k (124 + c) p q) (r, t, true) := by
  unfold num_Bin.f
  simp only [if_pos (show (124 + c) ≥ 70 from by omega), decide_eq_false (show ¬ (124 + c) ≤ 79 from by omega)]
  refine Ev.step (fun k => by simp only [num_Bin.j0]; rw [if_neg (by decide), if_pos (by omega), decide_eq_false (show ¬ (124 + c) ≤ 90 from by omega)]) ?_
  refine Ev.step (fun k => by simp only [num_Bin.j1]; rw [if_neg (by decide), if_pos (by omega), decide_eq_false (show ¬ (124 + c) ≤ 120 from by omega)]) ?_
  refine Ev.step (fun k => by simp only [num_Bin.j2]; rw [if_neg (by decide), if_pos (by omega), if_pos (by omega), show wrap64 (124 + c - 124) = c from by rw [wrap64_id _ (by omega) (by omega)]; omega]) ?_
  exact Ev.bind h (Ev.now _)
/-- What an operation answers of 64 bits, before it is cut. -/
def raw (c p q w : Nat) : Nat := if c = 0 then (p + q) % 2 ^ 64 else if c = 1 then (p + (2 ^ 64 - q)) % 2 ^ 64 else if c = 2 then p * q % 2 ^ 64 else p * 2 ^ (q % w) % 2 ^ 64
theorem raw0 (p q w : Nat) : raw 0 p q w = (p + q) % 2 ^ 64 := by unfold raw; rw [if_pos rfl]
theorem raw1 (p q w : Nat) : raw 1 p q w = (p + (2 ^ 64 - q)) % 2 ^ 64 := by unfold raw; rw [if_neg (by decide), if_pos rfl]
theorem raw2 (p q w : Nat) : raw 2 p q w = p * q % 2 ^ 64 := by unfold raw; rw [if_neg (by decide), if_neg (by decide), if_pos rfl]
theorem raw10 (p q w : Nat) : raw 10 p q w = p * 2 ^ (q % w) % 2 ^ 64 := by unfold raw; rw [if_neg (by decide), if_neg (by decide), if_neg (by decide)]
theorem reckon_j0 (c p q w : Nat) (x10 x11 x12 : Int) (hc : c = 0 ∨ c = 1 ∨ c = 2 ∨ c = 10) (hw : w = 32 ∨ w = 64) (hp : p < 2 ^ 64) (hq : q < 2 ^ 64) : Ev (fun k => num_reckon.j0 k c p q w x10 x11 x12) (((raw c p q w : Nat) : Int), 0) := by
  have ew : IntKind.u64.wrap (w : Int) = (w : Int) := wraps_u64 _ (by omega) (by omega)
  have hlt : q % w < 64 := by rcases hw with rfl | rfl <;> omega
  have hwne : ¬ (w : Int) = 0 := by omega
  rcases hc with rfl | rfl | rfl | rfl
  · refine Ev.step (f := fun _ => some (((raw 0 p q w : Nat) : Int), 0)) (fun k => ?_) (Ev.now _)
    simp only [num_reckon.j0]
    rw [ew, if_neg hwne, if_pos (by rfl), show (p : Int) + (q : Int) = ((p + q : Nat) : Int) from rfl, wrap_u64_nat, raw0]
  · refine Ev.step (f := fun _ => some (((raw 1 p q w : Nat) : Int), 0)) (fun k => ?_) (Ev.now _)
    simp only [num_reckon.j0]
    have e : IntKind.u64.wrap ((p : Int) - (q : Int)) = (((p + (2 ^ 64 - q)) % 2 ^ 64 : Nat) : Int) := by rw [wrap_u64]; omega
    rw [ew, if_neg hwne, if_neg (by decide), if_pos (by rfl), e]
    rfl
  · refine Ev.step (f := fun _ => some (((raw 2 p q w : Nat) : Int), 0)) (fun k => ?_) (Ev.now _)
    simp only [num_reckon.j0]
    rw [ew, if_neg hwne, if_neg (by decide), if_neg (by decide), if_pos (by rfl), show (p : Int) * (q : Int) = ((p * q : Nat) : Int) from (Int.natCast_mul p q).symm, wrap_u64_nat]
    rfl
  · have et : Int.tmod (q : Int) (w : Int) = ((q % w : Nat) : Int) := by
      rw [Int.tmod_eq_emod_of_nonneg (by omega)]; rfl
    refine Ev.step (fun k => ?_) (show Ev (fun k => num_reckon.j1 k ((10 : Nat) : Int) p q w x10 x11 x12 ((q % w : Nat) : Int) ((10 : Nat) : Int) false) (((raw 10 p q w : Nat) : Int), 0) from ?_)
    · simp only [num_reckon.j0]
      rw [ew, et, if_neg hwne, if_neg (by decide), if_neg (by decide), if_neg (by decide), if_neg (by decide), if_neg (by decide), if_neg (by decide)]
      rfl
    · refine Ev.step (f := fun _ => some (((raw 10 p q w : Nat) : Int), 0)) (fun k => ?_) (Ev.now _)
      simp only [num_reckon.j1]
      rw [if_neg (by decide), if_neg (by decide), if_neg (by decide), if_neg (by decide), if_pos (by rfl), if_pos (by omega), shl_nat _ _ (by omega)]
      rfl
theorem reckon_ev (c p q w : Nat) (hc : c = 0 ∨ c = 1 ∨ c = 2 ∨ c = 10) (hw : w = 32 ∨ w = 64) (hp : p < 2 ^ 64) (hq : q < 2 ^ 64) : Ev (fun k => num_reckon.f k c p q w) (((raw c p q w : Nat) : Int), 0) := by
  have h := fun x10 x11 x12 => reckon_j0 c p q w x10 x11 x12 hc hw hp hq
  unfold num_reckon.f
  rcases hw with rfl | rfl
  · simp only [if_pos (show (((32 : Nat) : Int)) = 32 from rfl)]
    exact h _ _ _
  · simp only [if_neg (show ¬ (((64 : Nat) : Int)) = 32 from by decide)]
    exact h _ _ _
def base (w : Nat) : Int := if w = 32 then 106 else 124
theorem bin_ev (c p q w : Nat) (hc : c = 0 ∨ c = 1 ∨ c = 2 ∨ c = 10) (hw : w = 32 ∨ w = 64) (hp : p < 2 ^ w) (hq : q < 2 ^ w) : Ev (fun k => num_Bin.f k (base w + (c : Int)) p q) (((raw c p q w % 2 ^ w : Nat) : Int), 0, true) := by
  rcases hw with rfl | rfl
  · have h := reckon_ev c p q 32 hc (Or.inl rfl) (by omega) (by omega)
    have e1 : (p : Int) % 4294967296 = p := by omega
    have e2 : (q : Int) % 4294967296 = q := by omega
    have := bin32 (c : Int) (by omega) (by omega) p q _ _ (by rw [e1, e2]; exact h)
    exact this
  · have h := reckon_ev c p q 64 hc (Or.inr rfl) (by omega) (by omega)
    have := bin64 (c : Int) (by omega) (by omega) p q _ _ h
    have e : raw c p q 64 % 2 ^ 64 = raw c p q 64 := by
      unfold raw
      repeat' split
      all_goals exact Nat.mod_mod _ _
    rw [e]
    exact this
theorem base0 (w : Nat) : base w + ((0 : Nat) : Int) = base w := by omega
theorem base1 {w : Nat} (hw : w = 32 ∨ w = 64) : wrap64 (base w + 1) = base w + ((1 : Nat) : Int) := by rcases hw with rfl | rfl <;> decide +kernel
theorem base2 {w : Nat} (hw : w = 32 ∨ w = 64) : wrap64 (base w + 2) = base w + ((2 : Nat) : Int) := by rcases hw with rfl | rfl <;> decide +kernel
theorem base3 {w : Nat} (hw : w = 32 ∨ w = 64) : wrap64 (base w + 10) = base w + ((10 : Nat) : Int) := by rcases hw with rfl | rfl <;> decide +kernel
theorem has_true {p : Nat × Nat} {t : Nat} (ht : t < 2 ^ 64) (hp : p.2 < 2 ^ 64) (h : t % 2 ^ min p.1 64 = p.2 % 2 ^ min p.1 64) : low_Has.f (ii p).1 (ii p).2 (t : Int) = some true := by
  show low_Has.f (p.1 : Int) (p.2 : Int) (t : Int) = some true
  rw [has_eq ht hp, Int.toNat_natCast, decide_eq_true h]
theorem wd_lt (n r w : Nat) (hr : r < 2 ^ 64) : (wd n r w).2 < 2 ^ 64 := by
  unfold wd
  split
  · exact Nat.lt_of_le_of_lt (Nat.mod_le _ _) hr
  · exact Nat.lt_of_le_of_lt (Nat.mod_le _ _) hr
theorem ct_lt (r n : Nat) (hr : r < 2 ^ 64) : (ct 64 r n).2 < 2 ^ 64 := by
  unfold ct
  split
  · exact hr
  · exact Nat.lt_of_le_of_lt (Nat.mod_le _ _) hr
theorem an_lt (n r m s : Nat) (hr : r < 2 ^ 64) : (an n r m s).2 < 2 ^ 64 := by
  unfold an
  by_cases h : max (nt n r) (nt m s) > min n m
  · rw [if_pos h]
    exact Nat.lt_of_le_of_lt (Nat.zero_le r) hr
  · rw [if_neg h]
    exact ct_lt _ _ (Nat.lt_of_le_of_lt Nat.and_le_left hr)
theorem mod64_lt (n : Nat) : n % 2 ^ 64 < 2 ^ 64 := mod_lt_pow n 64
theorem t3_ (N M R S p q w : Nat) (hw : w = 32 ∨ w = 64) (hle : min N M ≤ 64) (cp : R % 2 ^ min N M = p % 2 ^ min N M) (cq : S % 2 ^ min N M = q % 2 ^ min N M) (hr : raw 2 p q w % 2 ^ w < 2 ^ 64) :
    low_Has.f (ii (wd (min N M) (R * S % 2 ^ 64) w)).1 (ii (wd (min N M) (R * S % 2 ^ 64) w)).2 ((raw 2 p q w % 2 ^ w : Nat) : Int) = some true := by
  have h : R * S % 2 ^ 64 % 2 ^ min N M = raw 2 p q w % 2 ^ min N M := by
    rw [raw2, cong_64 hle, cong_64 hle]
    exact cong_mul cp cq
  have hlt := mod64_lt (R * S)
  generalize R * S % 2 ^ 64 = u at *
  generalize raw 2 p q w = t at *
  exact has_true hr (wd_lt _ _ _ hlt) (has_wd hw hle h)
theorem j0_ok (a b n m k l w : Nat) (ha : a < 2 ^ 64) (hb : b < 2 ^ 64) (hn : n < 2 ^ 64) (hm : m < 2 ^ 64) (hk : k < 256) (hl : l < 256) (hw : w = 32 ∨ w = 64) :
    Ev (fun f => trammellaw17_LowSound.j0 f a b n m k l w (base w) ((2 ^ w - 1 : Nat) : Int)) true := by
  have hwle : 2 ^ w ≤ 2 ^ 64 := pow_le (by omega)
  have hw0 := pow_pos w
  have hmask : 2 ^ w - 1 < 2 ^ 64 := by omega
  have ea : a % 2 ^ w < 2 ^ w := mod_lt_pow _ _
  have eb : b % 2 ^ w < 2 ^ w := mod_lt_pow _ _
  have en : n % 2 ^ w < 2 ^ w := mod_lt_pow _ _
  have em : m % 2 ^ w < 2 ^ w := mod_lt_pow _ _
  have hx1 := sm_le (a % 2 ^ w) k
  have hy1 := sm_le (b % 2 ^ w) l
  have hx2 : (sm (a % 2 ^ w) k).2 < 2 ^ w := Nat.lt_of_le_of_lt (Nat.mod_le _ _) ea
  have hy2 : (sm (b % 2 ^ w) l).2 < 2 ^ w := Nat.lt_of_le_of_lt (Nat.mod_le _ _) eb
  refine Ev.step (fun f => by simp only [trammellaw17_LowSound.j0]; rw [band ha hmask, band hb hmask, band hn hmask, band hm hmask, and_mask, and_mask, and_mask, and_mask]) ?_
  refine Ev.bind (some_ev (a % 2 ^ w) k (by omega) hk) (Ev.bind (some_ev (b % 2 ^ w) l (by omega) hl) ?_)
  generalize sm (a % 2 ^ w) k = x at *
  generalize sm (b % 2 ^ w) l = y at *
  obtain ⟨N, R⟩ := x
  obtain ⟨M, S⟩ := y
  simp only at hx1 hx2 hy1 hy2
  obtain ⟨p, hp, hp1, hp2⟩ := other_ev N w R (n % 2 ^ w) hx1 (by omega) en hx2
  obtain ⟨q, hq, hq1, hq2⟩ := other_ev M w S (m % 2 ^ w) hy1 (by omega) em hy2
  have b0 := bin_ev 0 p q w (by decide) hw hp1 hq1
  have b1 := bin_ev 1 p q w (by decide) hw hp1 hq1
  have b2 := bin_ev 2 p q w (by decide) hw hp1 hq1
  have b3 := bin_ev 10 p q w (by decide) hw hp1 hq1
  rw [base0] at b0
  rw [base1 hw, base2 hw, base3 hw]
  refine Ev.bind hp (Ev.bind hq (Ev.bind b0 (Ev.bind b1 (Ev.bind b2 (Ev.bind b3 ?_)))))
  have hR : R < 2 ^ 64 := by omega
  have hS : S < 2 ^ 64 := by omega
  have hpL : p < 2 ^ 64 := by omega
  have hqL : q < 2 ^ 64 := by omega
  have hle : min N M ≤ 64 := by omega
  have cp : R % 2 ^ min N M = p % 2 ^ min N M := cong_le (by omega) hp2.symm
  have cq : S % 2 ^ min N M = q % 2 ^ min N M := cong_le (by omega) hq2.symm
  have rlt : ∀ z : Nat, z % 2 ^ w < 2 ^ 64 := fun z => Nat.lt_of_lt_of_le (mod_lt_pow _ _) hwle
  refine Ev.bind (add_ev N R M S w) ?_
  have t1 : low_Has.f (ii (wd (min N M) ((R + S) % 2 ^ 64) w)).1 (ii (wd (min N M) ((R + S) % 2 ^ 64) w)).2 ((raw 0 p q w % 2 ^ w : Nat) : Int) = some true :=
    has_true (rlt _) (wd_lt _ _ _ (mod64_lt _)) (has_wd hw hle (by
      rw [raw0, cong_64 hle, cong_64 hle]; exact cong_add cp cq))
  rw [t1]
  refine Ev.congr (fun n => (Option.bind_some _ _).trans (if_pos rfl)) ?_
  refine Ev.bind (sub_ev N R M S w hR hS) ?_
  have t2 : low_Has.f (ii (wd (min N M) ((R + (2 ^ 64 - S)) % 2 ^ 64) w)).1 (ii (wd (min N M) ((R + (2 ^ 64 - S)) % 2 ^ 64) w)).2 ((raw 1 p q w % 2 ^ w : Nat) : Int) = some true :=
    has_true (rlt _) (wd_lt _ _ _ (mod64_lt _)) (has_wd hw hle (by
      rw [raw1, cong_64 hle, cong_64 hle]; exact cong_sub hle hS hqL cp cq))
  rw [t2]
  refine Ev.congr (fun n => (Option.bind_some _ _).trans (if_pos rfl)) ?_
  refine Ev.bind (mul_ev N R M S w) ?_
  have t3 := t3_ N M R S p q w hw hle cp cq (rlt _)
  rw [t3]
  refine Ev.congr (fun n => (Option.bind_some _ _).trans (if_pos rfl)) ?_
  have t4 : low_Has.f (ii (an N R M S)).1 (ii (an N R M S)).2 (Go.bits .and .u64 (p : Int) (q : Int)) = some true := by
    rw [band hpL hqL]
    exact has_true (Nat.lt_of_le_of_lt Nat.and_le_left hpL) (an_lt _ _ _ _ hR) (has_an hR hS hx1 hp2 hq2)
  have t5 : low_Has.f (ii (ct 64 (R ||| S) (min N M))).1 (ii (ct 64 (R ||| S) (min N M))).2 (Go.bits .or .u64 (p : Int) (q : Int)) = some true := by
    rw [bor hpL hqL]
    exact has_true (Nat.or_lt_two_pow hpL hqL) (ct_lt _ _ (Nat.or_lt_two_pow hR hS)) (has_ct hle (or_cong cp cq))
  have t6 : low_Has.f (ii (ct 64 (R ^^^ S) (min N M))).1 (ii (ct 64 (R ^^^ S) (min N M))).2 (Go.bits .xor .u64 (p : Int) (q : Int)) = some true := by
    rw [bxor hpL hqL]
    exact has_true (Nat.xor_lt_two_pow hpL hqL) (ct_lt _ _ (Nat.xor_lt_two_pow hR hS)) (has_ct hle (xor_cong cp cq))
  have a4 := and_eq N M hR hS
  have a5 := or_eq N M hR hS
  have a6 := xor_eq N M hR hS
  simp only [ii] at t4 t5 t6 a4 a5 a6 ⊢
  simp only [a4, a5, a6, t4, t5, t6, Option.bind_some, if_true]
  refine Ev.bind (shl_ev N R q w hw hqL) ?_
  have t7 : low_Has.f (ii (sl N R q w)).1 (ii (sl N R q w)).2 ((raw 10 p q w % 2 ^ w : Nat) : Int) = some true :=
    has_true (rlt _) (wd_lt _ _ _ (mod64_lt _)) (has_wd hw (by omega) (by
      rw [raw10, cong_64 (by omega), cong_64 (by omega)]
      refine cong_le (l := N + q % w) (by omega) ?_
      rw [Nat.pow_add, Nat.mul_mod_mul_right, Nat.mul_mod_mul_right, hp2]))
  simp only [ii] at t7 ⊢
  rw [t7]
  exact Ev.now true
theorem LowSound : Go.Proofs.YtfhmhoefeokihaaDoor.TLowSound.Pure := by
  intro a0 a1 a2 a3 a4 a5 a6 w0 w1 w2 w3 w4 w5
  obtain ⟨a, rfl, ha⟩ := wf_u64 w0
  obtain ⟨b, rfl, hb⟩ := wf_u64 w1
  obtain ⟨n, rfl, hn⟩ := wf_u64 w2
  obtain ⟨m, rfl, hm⟩ := wf_u64 w3
  obtain ⟨k, rfl, hk⟩ := wf_u8 w4
  obtain ⟨l, rfl, hl⟩ := wf_u8 w5
  refine Ev.rounds (g := fun f => trammellaw17_LowSound.f f a b n m k l a6) ?_
  unfold trammellaw17_LowSound.f
  refine Ev.bind is_awake ?_
  simp only [if_true]
  cases a6 with
  | true => exact j0_ok a b n m k l 64 ha hb hn hm hk hl (Or.inr rfl)
  | false => exact j0_ok a b n m k l 32 ha hb hn hm hk hl (Or.inl rfl)
end Go.Proofs.YtfhmhoefeokihaaDoor.Pure
