/-
  InstrPuts: what was read is formed, and put again it is no longer.
-/
import Derived.Test.YtmfjapphmmlppaaInRdInstrPuts
namespace Go.Proofs.Ytmfjapphmmlppaa.PInstrPuts
set_option linter.all false
open Go.Proofs.Ytmfjapphmmlppaa.Vx Go.Proofs.Ytmfjapphmmlppaa.XInstrPuts Go.Proofs.Ytmfjapphmmlppaa.Vd Go.Proofs.Ytmfjapphmmlppaa.Vn Go.Proofs.Ytmfjapphmmlppaa.Vl Go.Proofs.Ytmfjapphmmlppaa.Vp Go.Proofs.Ytmfjapphmmlppaa.Vb Go.Proofs.Ytmfjapphmmlppaa.SInstrPuts Go.Proofs.Ytmfjapphmmlppaa.Vo Go.Proofs.Ytmfjapphmmlppaa.Vt Go.Proofs.Ytmfjapphmmlppaa.IInstrPuts
/-! what forms there are -/
def nor : Vx.T → Bool
  | .brk _ _ _ _ => true
  | .ite _ a b => nor a && nor b
  | .jn x _ _ _ k => nor x && nor k
  | .rq _ k => nor k
  | _ => false
def okv : Vx.T → Bool
  | .ret [.n z] [] [] => decide (0 ≤ z ∧ z ≤ 11)
  | .ite _ a b => okv a && okv b
  | .jn x _ _ _ k => nor x && okv k
  | .rq _ k => okv k
  | .call _ _ _ _ _ _ _ k => okv k
  | _ => false
theorem nor_ok {C : Nat → Vx.Fn} : ∀ (t : Vx.T) {is bs ls r}, nor t = true → t.den C is bs ls = some (.ret r) → False
  | .brk _ _ _ _, is, bs, ls, r, h, hd => by simp [T.den] at hd
  | .ite e a b, is, bs, ls, r, h, hd => by
    simp only [nor, Bool.and_eq_true] at h
    simp only [T.den] at hd
    cases he : e.B is bs ls with
    | true => rw [he] at hd; exact nor_ok a h.1 hd
    | false => rw [he] at hd; exact nor_ok b h.2 hd
  | .jn x ni nb nl k, is, bs, ls, r, h, hd => by
    simp only [nor, Bool.and_eq_true] at h
    simp only [T.den] at hd
    split at hd
    · split at hd
      · exact nor_ok k h.2 hd
      · cases hd
    · exact nor_ok x h.1 hd
  | .rq e k, is, bs, ls, r, h, hd => by
    simp only [nor] at h
    simp only [T.den] at hd
    cases he : e.B is bs ls with
    | true => rw [he] at hd; exact nor_ok k h hd
    | false => rw [he] at hd; cases hd
  | .ret _ _ _, is, bs, ls, r, h, hd => by simp [nor] at h
  | .lb _ _, is, bs, ls, r, h, hd => by simp [nor] at h
  | .li _ _, is, bs, ls, r, h, hd => by simp [nor] at h
  | .lst _ _, is, bs, ls, r, h, hd => by simp [nor] at h
  | .call _ _ _ _ _ _ _ _, is, bs, ls, r, h, hd => by simp [nor] at h
  | .nz _ _ _, is, bs, ls, r, h, hd => by simp [nor] at h
  | .both _ _, is, bs, ls, r, h, hd => by simp [nor] at h
  | .fail _, is, bs, ls, r, h, hd => by simp [nor] at h
  | .need _ _, is, bs, ls, r, h, hd => by simp [nor] at h
  | .nxt _ _ _, is, bs, ls, r, h, hd => by simp [nor] at h
  | .rt _, is, bs, ls, r, h, hd => by simp [nor] at h
  | .lp _ _ _ _ _ _ _ _, is, bs, ls, r, h, hd => by simp [nor] at h
theorem okv_ok {C : Nat → Vx.Fn} : ∀ (t : Vx.T) {is bs ls r}, okv t = true → t.den C is bs ls = some (.ret r) → ∃ z : Int, r.1 = [z] ∧ 0 ≤ z ∧ z ≤ 11
  | .ret ii bb ll, is, bs, ls, r, h, hd => by
    unfold okv at h
    split at h
    · rename_i z he
      cases he
      simp only [T.den, Option.some.injEq, Out.ret.injEq] at hd
      subst hd
      have := of_decide_eq_true h
      exact ⟨z, rfl, this.1, this.2⟩
    all_goals first | (cases h; done) | (rename_i he; cases he; done) | simp_all
  | .ite e a b, is, bs, ls, r, h, hd => by
    simp only [okv, Bool.and_eq_true] at h
    simp only [T.den] at hd
    cases he : e.B is bs ls with
    | true => rw [he] at hd; exact okv_ok a h.1 hd
    | false => rw [he] at hd; exact okv_ok b h.2 hd
  | .jn x ni nb nl k, is, bs, ls, r, h, hd => by
    simp only [okv, Bool.and_eq_true] at h
    simp only [T.den] at hd
    split at hd
    · split at hd
      · exact okv_ok k h.2 hd
      · cases hd
    · exact (nor_ok x h.1 hd).elim
  | .rq e k, is, bs, ls, r, h, hd => by
    simp only [okv] at h
    simp only [T.den] at hd
    cases he : e.B is bs ls with
    | true => rw [he] at hd; exact okv_ok k h hd
    | false => rw [he] at hd; cases hd
  | .call f ii bb ll ni nb nl k, is, bs, ls, r, h, hd => by
    simp only [okv] at h
    simp only [T.den] at hd
    split at hd
    · split at hd
      · exact okv_ok k h hd
      · cases hd
    · cases hd
  | .brk _ _ _ _, is, bs, ls, r, h, hd => by simp [okv] at h
  | .lb _ _, is, bs, ls, r, h, hd => by simp [okv] at h
  | .li _ _, is, bs, ls, r, h, hd => by simp [okv] at h
  | .lst _ _, is, bs, ls, r, h, hd => by simp [okv] at h
  | .nz _ _ _, is, bs, ls, r, h, hd => by simp [okv] at h
  | .both _ _, is, bs, ls, r, h, hd => by simp [okv] at h
  | .fail _, is, bs, ls, r, h, hd => by simp [okv] at h
  | .need _ _, is, bs, ls, r, h, hd => by simp [okv] at h
  | .nxt _ _ _, is, bs, ls, r, h, hd => by simp [okv] at h
  | .rt _, is, bs, ls, r, h, hd => by simp [okv] at h
  | .lp _ _ _ _ _ _ _ _, is, bs, ls, r, h, hd => by simp [okv] at h
theorem fm_range (n : Nat) : 0 ≤ fm n ∧ fm n ≤ 11 := by
  have h := q_formI n
  have hk : okv t33 = true := by kernel_rfl
  have hd : t33.den (Tab.fn a33) [(n : Int)] [] [] = some (.ret ([fmI n], [], [])) := by
    have h : Vx.Fd t33 (Tab.fn a33) [(n : Int)] [] [] = _ := h
    unfold Vx.Fd at h
    split at h
    · rename_i r hr; rw [hr]; cases h; rfl
    · cases h
  obtain ⟨z, h1, h2, h3⟩ := okv_ok _ hk hd
  have h1 : fmI n = z := by cases h1; rfl
  unfold fm
  omega
/-! what was read has no shorter form -/
theorem u_min {l : List Int} {v n : Nat} (h : uP 32 l = .ok v n) : v < 4294967296 ∧ (uBytes v).length ≤ n ∧ 1 ≤ n := by
  unfold uP at h
  split at h
  · split at h
    · rename_i hv
      cases h
      have := vl_lt l (ends l + 1)
      have h32 : vl l (ends l + 1) < 4294967296 := hv
      exact ⟨h32, (uBytes_len (by omega) (by omega)).2 this, by omega⟩
    · cases h
  · split at h <;> cases h
theorem s_min {bits : Nat} (hbits : bits ≤ 64) (h1 : 1 ≤ bits) {l : List Int} {v : Int} {n : Nat} (h : sP bits l = .ok v n) : (-((2 ^ (bits - 1) : Nat) : Int) ≤ v ∧ v < ((2 ^ (bits - 1) : Nat) : Int)) ∧ (sBytes v).length ≤ n ∧ 1 ≤ n := by
  unfold sP at h
  split at h
  · split at h
    · rename_i hv
      cases h
      have hp : 2 ^ (bits - 1) ≤ 2 ^ 63 := Nat.pow_le_pow_right (by decide) (by omega)
      have h63 : (2 : Nat) ^ 63 = 9223372036854775808 := by decide
      refine ⟨hv, (sBytes_len (by omega) (by omega) (ends l)).2 ?_, by omega⟩
      have hl := vl_lt l (ends l + 1)
      have e7 : 2 ^ (7 * (ends l + 1)) = 2 * 2 ^ (7 * ends l + 6) := by rw [show 7 * (ends l + 1) = (7 * ends l + 6) + 1 by omega, Nat.pow_succ]; omega
      have e8 : 2 ^ (7 * ends l + 7) = 2 * 2 ^ (7 * ends l + 6) := by rw [show 7 * ends l + 7 = (7 * ends l + 6) + 1 by omega, Nat.pow_succ]; omega
      unfold sv
      split <;> omega
    · cases h
  · split at h <;> cases h
theorem valE_0 {x : Int} (h : valE x = 0) : x = 127 ∨ x = 126 := by
  unfold valE at h
  split at h
  · assumption
  · split at h <;> cases h
theorem b_min {l : List Int} {v : Int} {n : Nat} (h : blockP l = .ok v n) : okBk v = true ∧ (sBytes v).length ≤ n := by
  have small : ∀ {v : Int} {n : Nat}, 1 ≤ n → -64 ≤ v → v < 64 → (sBytes v).length ≤ n := fun {v n} h0 h1 h2 => by
    have := (sBytes_len (n := v) (by omega) (by omega) 0).2 ⟨by omega, by omega⟩
    omega
  unfold blockP at h
  split at h
  · cases h
    exact ⟨rfl, small (by omega) (by omega) (by omega)⟩
  · cases l with
    | nil => cases h
    | cons x r =>
      have hv := valP_cons x r
      by_cases h0 : valE x = 0
      · rw [if_pos h0] at hv
        rw [hv] at h
        cases h
        rcases valE_0 h0 with rfl | rfl
        · exact ⟨rfl, small (by omega) (by omega) (by omega)⟩
        · exact ⟨rfl, small (by omega) (by omega) (by omega)⟩
      · rw [if_neg h0] at hv
        rw [hv] at h
        have h : (if valE x ≠ 2 then Res.err (valE x) else match sP 33 (x :: r) with | .err e => .err e | .ok n k => if n < 0 then .err 2 else .ok n k) = Res.ok v n := h
        split at h
        · cases h
        · cases e : sP 33 (x :: r) with
          | err y => rw [e] at h; cases h
          | ok y k =>
            rw [e] at h
            have h : (if y < 0 then Res.err 2 else Res.ok y k : Res Int) = Res.ok v n := h
            split at h
            · cases h
            · cases h
              obtain ⟨⟨g1, g2⟩, g3, _⟩ := s_min (by decide) (by decide) e
              refine ⟨?_, g3⟩
              unfold okBk right
              have g2 : v < 4294967296 := g2
              rw [decide_eq_true (show v ≥ 0 by omega), decide_eq_true g2]
              simp
def lbB (vs : List Int) : List Int := (vs.map fun v => uBytes v.toNat).flatten
theorem loopU_min : ∀ (d : Nat) {l : List Int} {vs : List Int} {n : Nat}, loopU d l = .ok vs n → vs.length = d ∧ (∀ v ∈ vs, 0 ≤ v ∧ v < 4294967296) ∧ (lbB vs).length ≤ n
  | 0, l, vs, n, h => by cases h; exact ⟨rfl, fun v hv => (by cases hv), Nat.le_refl _⟩
  | d + 1, l, vs, n, h => by
    obtain ⟨v, n1, k, e1, e2, rfl⟩ := bind_ok h
    obtain ⟨r, n2, k2, e3, e4, rfl⟩ := bind_ok e2
    cases e4
    obtain ⟨g1, g2, g3⟩ := u_min e1
    obtain ⟨g4, g5, g6⟩ := loopU_min d e3
    refine ⟨by rw [List.length_cons, g4], fun x hx => ?_, ?_⟩
    · rcases List.mem_cons.1 hx with rfl | hx
      · omega
      · exact g5 x hx
    · show (uBytes (v : Int).toNat ++ (r.map fun v => uBytes v.toNat).flatten).length ≤ _
      rw [List.length_append, Int.toNat_natCast]
      have : ((r.map fun v => uBytes v.toNat).flatten).length ≤ n2 := g6
      omega
def codeB (op : Nat) : List Int := if 256 ≤ op then 252 :: uBytes (op - 256) else [(op : Int)]
def argB (x : Ins) : List Int :=
  if fm x.op = 2 then sBytes x.a
  else if fm x.op = 3 then uBytes x.a.toNat
  else if fm x.op = 4 then uBytes x.L.length ++ lbB x.L ++ uBytes x.a.toNat
  else if fm x.op = 5 then uBytes x.a.toNat ++ uBytes x.b.toNat
  else if fm x.op = 6 then [0]
  else if fm x.op = 7 then [0, 0]
  else if fm x.op = 8 then sBytes x.k
  else if fm x.op = 9 then sBytes x.k
  else if fm x.op = 10 then uBytes x.a.toNat ++ [0]
  else []
def insB (x : Ins) : List Int := codeB x.op ++ argB x
def u32 (v : Int) : Prop := 0 ≤ v ∧ v < 4294967296
/-- An instruction that is formed. -/
structure Gd (x : Ins) : Prop where
  op : x.op < 512
  L : ∀ v ∈ x.L, u32 v
  Ll : x.L.length ≤ 64
  nf : fm x.op ≠ 0 ∧ fm x.op ≠ 11
  f1 : fm x.op = 1 ∨ fm x.op = 6 ∨ fm x.op = 7 → x.a = 0 ∧ x.b = 0 ∧ x.k = 0 ∧ x.L = []
  f2 : fm x.op = 2 → okBk x.a = true ∧ x.b = 0 ∧ x.k = 0 ∧ x.L = []
  f3 : fm x.op = 3 ∨ fm x.op = 10 → u32 x.a ∧ x.b = 0 ∧ x.k = 0 ∧ x.L = []
  f4 : fm x.op = 4 → u32 x.a ∧ x.b = 0 ∧ x.k = 0
  f5 : fm x.op = 5 → u32 x.a ∧ u32 x.b ∧ x.k = 0 ∧ x.L = []
  f8 : fm x.op = 8 → (-2147483648 ≤ x.k ∧ x.k < 2147483648) ∧ x.a = 0 ∧ x.b = 0 ∧ x.L = []
  f9 : fm x.op = 9 → (-9223372036854775808 ≤ x.k ∧ x.k < 9223372036854775808) ∧ x.a = 0 ∧ x.b = 0 ∧ x.L = []
theorem code_min {l : List Int} (hb : Bytes l) {op n : Nat} (h : codeP l = .ok op n) : op < 512 ∧ fm op ≠ 0 ∧ fm op ≠ 11 ∧ (codeB op).length ≤ n ∧ 1 ≤ n := by
  have ck : ∀ {o : Nat} {m : List Int} {op n : Nat}, chk o m = .ok op n → op = o ∧ n = 0 ∧ fm op ≠ 0 ∧ fm op ≠ 11 := fun {o m op n} h => by
    unfold chk at h
    split at h
    · cases h
    split at h
    · cases h
    · cases h; exact ⟨rfl, rfl, by assumption, by assumption⟩
  obtain ⟨x, n1, k, e1, e2, rfl⟩ := bind_ok h
  have hx : (0 ≤ x ∧ x < 256) ∧ n1 = 1 := by
    cases l with
    | nil => cases e1
    | cons y r => cases e1; exact ⟨hb _ List.mem_cons_self, rfl⟩
  obtain ⟨hx, rfl⟩ := hx
  have e2 : (if x = 252 then (uP 32).bind (fun n => if 255 < n then fun _ => .err 2 else chk (256 + n)) else chk x.toNat : Rd Nat) (l.drop 1) = .ok op k := e2
  split at e2
  · obtain ⟨v, n2, k2, e3, e4, rfl⟩ := bind_ok e2
    obtain ⟨g1, g2, g3⟩ := u_min e3
    split at e4
    · cases e4
    · obtain ⟨rfl, rfl, g4, g5⟩ := ck e4
      refine ⟨by omega, g4, g5, ?_, by omega⟩
      unfold codeB
      rw [if_pos (by omega), List.length_cons, show 256 + v - 256 = v by omega]
      omega
  · obtain ⟨rfl, rfl, g4, g5⟩ := ck e2
    refine ⟨by omega, g4, g5, ?_, by omega⟩
    unfold codeB
    rw [if_neg (by omega)]
    exact Nat.le_refl _
theorem arg_min {l : List Int} {op : Nat} (ho : op < 512) (h0 : fm op ≠ 0) (h11 : fm op ≠ 11) {x : Ins} {n : Nat} (h : argP op l = .ok x n) : x.op = op ∧ Gd x ∧ (argB x).length ≤ n := by
  have hr := fm_range op
  unfold argP at h
  split at h
  · rename_i f
    obtain ⟨a, n1, k, e1, e2, rfl⟩ := bind_ok h
    cases e2
    obtain ⟨g1, g2⟩ := b_min e1
    refine ⟨rfl, ⟨ho, fun v hv => (by cases hv), Nat.zero_le _, ⟨h0, h11⟩, fun h => ?_, fun h => ⟨g1, rfl, rfl, rfl⟩, fun h => ?_, fun h => ?_, fun h => ?_, fun h => ?_, fun h => ?_⟩, ?_⟩
    all_goals first | (exfalso; simp only [f] at h; omega) | (unfold argB; simp only [f]; exact g2)
  split at h
  · rename_i _ f
    obtain ⟨a, n1, k, e1, e2, rfl⟩ := bind_ok h
    cases e2
    obtain ⟨g1, g2, _⟩ := u_min e1
    refine ⟨rfl, ⟨ho, fun v hv => (by cases hv), Nat.zero_le _, ⟨h0, h11⟩, fun h => ?_, fun h => ?_, fun h => ⟨⟨Int.natCast_nonneg _, show ((a : Nat) : Int) < 4294967296 by omega⟩, rfl, rfl, rfl⟩, fun h => ?_, fun h => ?_, fun h => ?_, fun h => ?_⟩, ?_⟩
    all_goals first | (exfalso; simp only [f] at h; omega) | (unfold argB; simp only [f]; exact g2)
  split at h
  · rename_i _ _ f
    obtain ⟨L, n1, k, e1, e2, rfl⟩ := bind_ok h
    obtain ⟨a, n2, k2, e3, e4, rfl⟩ := bind_ok e2
    cases e4
    obtain ⟨g1, g2, _⟩ := u_min e3
    obtain ⟨c, n3, k3, e5, e6, rfl⟩ := bind_ok e1
    obtain ⟨g3, g4, _⟩ := u_min e5
    split at e6
    · cases e6
    rename_i h64
    obtain ⟨g5, g6, g7⟩ := loopU_min c e6
    refine ⟨rfl, ⟨ho, g6, show L.length ≤ 64 by omega, ⟨h0, h11⟩, fun h => ?_, fun h => ?_, fun h => ?_, fun h => ⟨⟨Int.natCast_nonneg _, show ((a : Nat) : Int) < 4294967296 by omega⟩, rfl, rfl⟩, fun h => ?_, fun h => ?_, fun h => ?_⟩, ?_⟩
    all_goals first | (exfalso; simp only [f] at h; omega) | skip
    unfold argB
    simp only [f]
    show (uBytes L.length ++ lbB L ++ uBytes (a : Int).toNat).length ≤ _
    rw [List.length_append, List.length_append, Int.toNat_natCast, g5]
    omega
  split at h
  · rename_i _ _ _ f
    obtain ⟨a, n1, k, e1, e2, rfl⟩ := bind_ok h
    obtain ⟨b, n2, k2, e3, e4, rfl⟩ := bind_ok e2
    cases e4
    obtain ⟨g1, g2, _⟩ := u_min e1
    obtain ⟨g3, g4, _⟩ := u_min e3
    refine ⟨rfl, ⟨ho, fun v hv => (by cases hv), Nat.zero_le _, ⟨h0, h11⟩, fun h => ?_, fun h => ?_, fun h => ?_, fun h => ?_, fun h => ⟨⟨Int.natCast_nonneg _, show ((a : Nat) : Int) < 4294967296 by omega⟩, ⟨Int.natCast_nonneg _, show ((b : Nat) : Int) < 4294967296 by omega⟩, rfl, rfl⟩, fun h => ?_, fun h => ?_⟩, ?_⟩
    all_goals first | (exfalso; simp only [f] at h; omega) | skip
    unfold argB
    simp only [f]
    show (uBytes (a : Int).toNat ++ uBytes (b : Int).toNat).length ≤ _
    rw [List.length_append, Int.toNat_natCast, Int.toNat_natCast]
    omega
  have z1 : ∀ {l : List Int} {n : Nat}, zeroP l = .ok () n → 1 ≤ n := fun {l n} h => by
    obtain ⟨x, n1, k, e1, e2, rfl⟩ := bind_ok h
    cases l with
    | nil => cases e1
    | cons y r => cases e1; omega
  split at h
  · rename_i _ _ _ _ f
    obtain ⟨a, n1, k, e1, e2, rfl⟩ := bind_ok h
    cases e2
    have := z1 e1
    refine ⟨rfl, ⟨ho, fun v hv => (by cases hv), Nat.zero_le _, ⟨h0, h11⟩, fun h => ⟨rfl, rfl, rfl, rfl⟩, fun h => ?_, fun h => ?_, fun h => ?_, fun h => ?_, fun h => ?_, fun h => ?_⟩, ?_⟩
    all_goals first | (exfalso; simp only [f] at h; omega) | (unfold argB; simp only [f]; show 1 ≤ _; omega)
  split at h
  · rename_i _ _ _ _ _ f
    obtain ⟨a, n1, k, e1, e2, rfl⟩ := bind_ok h
    obtain ⟨b, n2, k2, e3, e4, rfl⟩ := bind_ok e2
    cases e4
    have := z1 e1
    have := z1 e3
    refine ⟨rfl, ⟨ho, fun v hv => (by cases hv), Nat.zero_le _, ⟨h0, h11⟩, fun h => ⟨rfl, rfl, rfl, rfl⟩, fun h => ?_, fun h => ?_, fun h => ?_, fun h => ?_, fun h => ?_, fun h => ?_⟩, ?_⟩
    all_goals first | (exfalso; simp only [f] at h; omega) | (unfold argB; simp only [f]; show 2 ≤ _; omega)
  split at h
  · rename_i _ _ _ _ _ _ f
    obtain ⟨a, n1, k, e1, e2, rfl⟩ := bind_ok h
    cases e2
    obtain ⟨g1, g2, _⟩ := s_min (by decide) (by decide) e1
    refine ⟨rfl, ⟨ho, fun v hv => (by cases hv), Nat.zero_le _, ⟨h0, h11⟩, fun h => ?_, fun h => ?_, fun h => ?_, fun h => ?_, fun h => ?_, fun h => ⟨g1, rfl, rfl, rfl⟩, fun h => ?_⟩, ?_⟩
    all_goals first | (exfalso; simp only [f] at h; omega) | (unfold argB; simp only [f]; exact g2)
  split at h
  · rename_i _ _ _ _ _ _ _ f
    obtain ⟨a, n1, k, e1, e2, rfl⟩ := bind_ok h
    cases e2
    obtain ⟨g1, g2, _⟩ := s_min (by decide) (by decide) e1
    refine ⟨rfl, ⟨ho, fun v hv => (by cases hv), Nat.zero_le _, ⟨h0, h11⟩, fun h => ?_, fun h => ?_, fun h => ?_, fun h => ?_, fun h => ?_, fun h => ?_, fun h => ⟨g1, rfl, rfl, rfl⟩⟩, ?_⟩
    all_goals first | (exfalso; simp only [f] at h; omega) | (unfold argB; simp only [f]; exact g2)
  split at h
  · rename_i _ _ _ _ _ _ _ _ f
    obtain ⟨a, n1, k, e1, e2, rfl⟩ := bind_ok h
    obtain ⟨b, n2, k2, e3, e4, rfl⟩ := bind_ok e2
    cases e4
    obtain ⟨g1, g2, _⟩ := u_min e1
    have := z1 e3
    refine ⟨rfl, ⟨ho, fun v hv => (by cases hv), Nat.zero_le _, ⟨h0, h11⟩, fun h => ?_, fun h => ?_, fun h => ⟨⟨Int.natCast_nonneg _, show ((a : Nat) : Int) < 4294967296 by omega⟩, rfl, rfl, rfl⟩, fun h => ?_, fun h => ?_, fun h => ?_, fun h => ?_⟩, ?_⟩
    all_goals first | (exfalso; simp only [f] at h; omega) | skip
    unfold argB
    simp only [f]
    show (uBytes (a : Int).toNat ++ [0]).length ≤ _
    rw [List.length_append, Int.toNat_natCast]
    show (uBytes a).length + 1 ≤ _
    omega
  · rename_i f2 f3 f4 f5 f6 f7 f8 f9 f10
    cases h
    have f : fm op = 1 := by omega
    refine ⟨rfl, ⟨ho, fun v hv => (by cases hv), Nat.zero_le _, ⟨h0, h11⟩, fun h => ⟨rfl, rfl, rfl, rfl⟩, fun h => ?_, fun h => ?_, fun h => ?_, fun h => ?_, fun h => ?_, fun h => ?_⟩, ?_⟩
    all_goals first | (exfalso; simp only [f] at h; omega) | (unfold argB; simp only [f]; exact Nat.zero_le _)
theorem instr_min {l : List Int} (hb : Bytes l) {x : Ins} {n : Nat} (h : instrP l = .ok x n) : Gd x ∧ (insB x).length ≤ n ∧ 1 ≤ n := by
  obtain ⟨op, n1, k, e1, e2, rfl⟩ := bind_ok h
  obtain ⟨g1, g2, g3, g4, g5⟩ := code_min hb e1
  obtain ⟨rfl, g6, g7⟩ := arg_min g1 g2 g3 e2
  refine ⟨g6, ?_, by omega⟩
  unfold insB
  rw [List.length_append]; omega
/-! what the functions answer -/
theorem q_numT {L : List D} (hl : L.length ≤ 1000000) (h : ∀ k, k < L.length → 0 ≤ ((L.getD k (.i 0)).cell 0).int ∧ ((L.getD k (.i 0)).cell 0).int < 4294967296) : F36 [] [] [L] = some ([], [true], []) := by
  refine of_ret ?_
  unfold t36
  refine d_loop (fun i => ([0, (i : Int)], [], [])) L.length (by omega) 2 ([0, (L.length : Int)], [], []) rfl (fun i hi => ?_) (fun _ _ => rfl) ?_ rfl ?_
  · show Vx.T.den _ l36_1 [0, (i : Int)] [] [L] = _
    unfold l36_1
    obtain ⟨h1, h2⟩ := h i hi
    rw [← up1 i (by omega)]
    refine d_itT (lt_t (show (i : Int) < (L.length : Int) by omega)) (d_rq (ge_t (show (0 : Int) ≤ (i : Int) by omega)) (d_lb false ?_ (d_itF rfl rfl)))
    show (decide (((L.getD i (.i 0)).cell 0).int < 0) || decide (((L.getD i (.i 0)).cell 0).int ≥ 4294967296)) = false
    rw [lt_f h1, ge_f h2]; rfl
  · unfold l36_1
    exact d_itF (lt_f (show (L.length : Int) ≤ (L.length : Int) by omega)) rfl
  · unfold k36_2
    exact d_itF rfl (d_rq rfl rfl)
theorem q_bareT {op a b k : Int} {ba bb bk bl : Bool} {L : List D} (h1 : ba = true ∨ a = 0) (h2 : bb = true ∨ b = 0) (h3 : bk = true ∨ k = 0) (h4 : bl = true ∨ L = []) : F34 [op, a, b, k] [ba, bb, bk, bl] [L] = some ([], [true], []) := by
  refine of_ret ?_
  unfold t34
  have g : ∀ {b : Bool} {v : Int}, (b = true ∨ v = 0) → (b || (v == 0)) = true := by
    rintro b v (h | h)
    · rw [h]; rfl
    · rw [h]; simp
  refine d_lb true (by show ((ba || (a == 0)) && (bb || (b == 0))) = true; rw [g h1, g h2]; rfl) (d_lb true (by show (true && (bk || (k == 0))) = true; rw [g h3]; rfl) (d_lb true ?_ rfl))
  show (true && (bl || ((L.length : Int) == 0))) = true
  rw [g (v := (L.length : Int)) (by rcases h4 with h | h; exact .inl h; exact .inr (by rw [h]; rfl))]; rfl
theorem num1 {a : Int} (h : u32 a) : F36 [] [] [[.i a]] = some ([], [true], []) := q_numT (by simp) fun k hk => by
  have : k = 0 := by simpa using hk
  subst this; exact h
theorem q_formedT {x : Ins} (g : Gd x) : F16 [(x.op : Int), x.a, x.b, x.k] [] [dl x.L] = some ([], [true], []) := by
  have hr := fm_range x.op
  have hf := q_form g.op
  have b3 : (fm x.op = 3 ∨ fm x.op = 10) → b16_1.den (Tab.fn a16) [(x.op : Int), x.a, x.b, x.k, fm x.op] [] [dl x.L] = some (.ret ([], [true], [])) := fun h => by
    obtain ⟨h1, h2, h3, h4⟩ := g.f3 h
    unfold b16_1
    refine d_lst [[.i x.a]] rfl (d_callx [] [] [[.i x.a]] ([], [true], []) e16_36 rfl rfl rfl (num1 h1) rfl (d_itT rfl ?_))
    exact d_callx [(x.op : Int), x.a, x.b, x.k] [true, false, false, false] [dl x.L] ([], [true], []) e16_34 rfl rfl rfl (q_bareT (.inl rfl) (.inr h2) (.inr h3) (.inr (by rw [h4]; rfl))) rfl rfl
  have bare0 : (fm x.op = 1 ∨ fm x.op = 6 ∨ fm x.op = 7) → F34 [(x.op : Int), x.a, x.b, x.k] [false, false, false, false] [dl x.L] = some ([], [true], []) := fun h => by
    obtain ⟨h1, h2, h3, h4⟩ := g.f1 h
    exact q_bareT (.inr h1) (.inr h2) (.inr h3) (.inr (by rw [h4]; rfl))
  refine of_ret ?_
  unfold t16
  refine d_callx [(x.op : Int)] [] [] ([fm x.op], [], []) e16_33 rfl rfl rfl hf rfl ?_
  show Vx.T.den _ _ [(x.op : Int), x.a, x.b, x.k, fm x.op] [] [dl x.L] = _
  by_cases f1 : fm x.op = 1
  · exact d_itT (eq_t f1) (d_itT (eq_t f1) (d_callx [(x.op : Int), x.a, x.b, x.k] [false, false, false, false] [dl x.L] ([], [true], []) e16_34 rfl rfl rfl (bare0 (.inl f1)) rfl rfl))
  refine d_itF (eq_f f1) ?_
  by_cases f6 : fm x.op = 6
  · exact d_itT (eq_t f6) (d_itT (eq_t f6) (d_callx [(x.op : Int), x.a, x.b, x.k] [false, false, false, false] [dl x.L] ([], [true], []) e16_34 rfl rfl rfl (bare0 (.inr (.inl f6))) rfl rfl))
  refine d_itF (eq_f f6) ?_
  by_cases f7 : fm x.op = 7
  · exact d_itT (eq_t f7) (d_callx [(x.op : Int), x.a, x.b, x.k] [false, false, false, false] [dl x.L] ([], [true], []) e16_34 rfl rfl rfl (bare0 (.inr (.inr f7))) rfl rfl)
  refine d_itF (eq_f f7) ?_
  unfold b16_3
  by_cases f2 : fm x.op = 2
  · obtain ⟨h1, h2, h3, h4⟩ := g.f2 f2
    have hp := q_putBlock [] x.a (by simp)
    rw [if_pos h1] at hp
    refine d_itT (eq_t f2) (d_callx [x.a] [] [[]] _ e16_35 rfl rfl rfl hp rfl (d_itT rfl ?_))
    exact d_callx [(x.op : Int), x.a, x.b, x.k] [true, false, false, false] [dl x.L] ([], [true], []) e16_34 rfl rfl rfl (q_bareT (.inl rfl) (.inr h2) (.inr h3) (.inr (by rw [h4]; rfl))) rfl rfl
  refine d_itF (eq_f f2) ?_
  by_cases f3 : fm x.op = 3
  · exact d_itT (eq_t f3) (d_itT (eq_t f3) (b3 (.inl f3)))
  refine d_itF (eq_f f3) ?_
  by_cases f10 : fm x.op = 10
  · exact d_itT (eq_t f10) (b3 (.inr f10))
  refine d_itF (eq_f f10) ?_
  unfold b16_2
  by_cases f4 : fm x.op = 4
  · obtain ⟨h1, h2, h3⟩ := g.f4 f4
    have hll := g.Ll
    have hnL : F36 [] [] [dl x.L] = some ([], [true], []) := q_numT (by rw [dl_len]; omega) fun k hk => by
      rw [dl_len] at hk
      rw [ix_dl]
      refine g.L _ ?_
      rw [List.getD_eq_getElem?_getD, List.getElem?_eq_getElem hk]
      exact List.getElem_mem hk
    refine d_itT (eq_t f4) (d_lst [[.i x.a]] rfl (d_callx [] [] [[.i x.a]] ([], [true], []) e16_36 rfl rfl rfl (num1 h1) rfl (d_itT rfl ?_)))
    refine d_callx [] [] [dl x.L] ([], [true], []) e16_36 rfl rfl rfl hnL rfl (d_itT ?_ ?_)
    · show (true && decide (((dl x.L).length : Int) ≤ 64)) = true
      rw [dl_len, le_t (by omega)]; rfl
    · exact d_callx [(x.op : Int), x.a, x.b, x.k] [true, false, false, true] [dl x.L] ([], [true], []) e16_34 rfl rfl rfl (q_bareT (.inl rfl) (.inr h2) (.inr h3) (.inl rfl)) rfl rfl
  refine d_itF (eq_f f4) ?_
  by_cases f5 : fm x.op = 5
  · obtain ⟨h1, h2, h3, h4⟩ := g.f5 f5
    have hn2 : F36 [] [] [[.i x.a, .i x.b]] = some ([], [true], []) := q_numT (by simp) fun k hk => by
      have : k = 0 ∨ k = 1 := by have : k < 2 := hk; omega
      rcases this with rfl | rfl
      · exact h1
      · exact h2
    refine d_itT (eq_t f5) (d_lst [[.i x.a, .i x.b]] rfl (d_callx [] [] [[.i x.a, .i x.b]] ([], [true], []) e16_36 rfl rfl rfl hn2 rfl (d_itT rfl ?_)))
    exact d_callx [(x.op : Int), x.a, x.b, x.k] [true, true, false, false] [dl x.L] ([], [true], []) e16_34 rfl rfl rfl (q_bareT (.inl rfl) (.inl rfl) (.inr h3) (.inr (by rw [h4]; rfl))) rfl rfl
  refine d_itF (eq_f f5) ?_
  by_cases f8 : fm x.op = 8
  · obtain ⟨h1, h2, h3, h4⟩ := g.f8 f8
    refine d_itT (eq_t f8) (d_lb true (an_t (ge_t h1.1) (lt_t h1.2)) (d_itT rfl ?_))
    exact d_callx [(x.op : Int), x.a, x.b, x.k] [false, false, true, false] [dl x.L] ([], [true], []) e16_34 rfl rfl rfl (q_bareT (.inr h2) (.inr h3) (.inl rfl) (.inr (by rw [h4]; rfl))) rfl rfl
  refine d_itF (eq_f f8) ?_
  have f9 : fm x.op = 9 := by have := g.nf; omega
  obtain ⟨h1, h2, h3, h4⟩ := g.f9 f9
  refine d_itT (eq_t f9) ?_
  exact d_callx [(x.op : Int), x.a, x.b, x.k] [false, false, true, false] [dl x.L] ([], [true], []) e16_34 rfl rfl rfl (q_bareT (.inr h2) (.inr h3) (.inl rfl) (.inr (by rw [h4]; rfl))) rfl rfl
theorem u_wrap {a : Int} (h : u32 a) : ∃ n : Nat, a = n ∧ n < 4294967296 ∧ IntKind.u64.wrap a = (n : Int) ∧ a.toNat = n := ⟨a.toNat, by have := h.1; omega, by have := h.1; have := h.2; omega, by rw [wu h.1 (by have := h.2; omega)]; have := h.1; omega, rfl⟩
theorem lbB_succ {L : List Int} {i : Nat} (hi : i < L.length) : lbB (L.take (i + 1)) = lbB (L.take i) ++ uBytes (L.getD i 0).toNat := by
  unfold lbB
  rw [List.take_succ, List.map_append, List.flatten_append, List.getD_eq_getElem?_getD, List.getElem?_eq_getElem hi]
  simp
theorem uBl {n : Nat} (h : n < 4294967296) : (uBytes n).length ≤ 10 := uBytes_ten (by omega)
theorem q_put {x : Ins} (g : Gd x) (b : List D) (hb : b.length ≤ 100000000) : F29 [(x.op : Int), x.a, x.b, x.k] [] [b, dl x.L] = some ([], [], [b ++ dl (insB x)]) := by
  have hr := fm_range x.op
  have hf := q_form g.op
  have hop := g.op
  have cl : (codeB x.op).length ≤ 11 := by
    unfold codeB
    split
    · rw [List.length_cons]; have := uBl (n := x.op - 256) (by omega); omega
    · simp
  have hins : b ++ dl (insB x) = (b ++ dl (codeB x.op)) ++ dl (argB x) := by unfold insB; rw [dl_app, List.append_assoc]
  rw [hins]
  obtain ⟨B, hB⟩ : ∃ B, B = b ++ dl (codeB x.op) := ⟨_, rfl⟩
  have hBl : B.length ≤ 100000100 := by rw [hB, List.length_append, dl_len]; omega
  rw [← hB]
  refine of_ret ?_
  unfold t29
  refine d_jn 0 ([], [], [B]) ?_ rfl (d_rq rfl ?_)
  · by_cases h256 : 256 ≤ x.op
    · have es : IntKind.u64.wrap (arI .sub .i64 (x.op : Int) 256) = ((x.op - 256 : Nat) : Int) := by
        have : arI .sub .i64 (x.op : Int) 256 = ((x.op - 256 : Nat) : Int) := by show IntKind.i64.wrap ((x.op : Int) - 256) = _; rw [wi (by omega) (by omega)]; omega
        rw [this, wu (by omega) (by omega)]
      have hq := q_putU (n := x.op - 256) (by omega) (b ++ [.i 252]) (by rw [List.length_append]; simp only [List.length_singleton]; omega)
      refine d_itT (ge_t (show (256 : Int) ≤ (x.op : Int) by omega)) (d_lst [[.i 252]] rfl (d_rq (an_t (le_t (show (b.length : Int) ≤ 17592186044416 by omega)) rfl) (d_lst [b ++ [.i 252]] rfl ?_)))
      refine d_callx [((x.op - 256 : Nat) : Int)] [] [b ++ [.i 252]] _ e29_48 (congrArg (fun z => [z]) es) rfl rfl hq rfl ?_
      have : B = b ++ [.i 252] ++ dl (uBytes (x.op - 256)) := by
        rw [hB]; unfold codeB; rw [if_pos h256, List.append_assoc]; generalize uBytes (x.op - 256) = q; rfl
      rw [this]; generalize dl (uBytes (x.op - 256)) = q; rfl
    · have ew : IntKind.u8.wrap (x.op : Int) = (x.op : Int) := by rw [wrap_u8]; omega
      have : B = b ++ [.i (x.op : Int)] := by rw [hB]; unfold codeB; rw [if_neg h256]; rfl
      refine d_itF (ge_f (show (x.op : Int) < 256 by omega)) (d_lst [[.i (x.op : Int)]] (congrArg (fun z => [[D.i z]]) ew) (d_rq (an_t (le_t (show (b.length : Int) ≤ 17592186044416 by omega)) rfl) (d_lst [b ++ [.i (x.op : Int)]] rfl ?_)))
      rw [this]; rfl
  clear hB hins cl
  refine d_callx [(x.op : Int)] [] [] ([fm x.op], [], []) e29_33 rfl rfl rfl hf rfl ?_
  show Vx.T.den _ _ [(x.op : Int), x.a, x.b, x.k, 0, fm x.op] [] [b, dl x.L, B] = _
  have U : ∀ {a : Int} (h : u32 a) (C : List D), C.length ≤ 200000000 → F48 [IntKind.u64.wrap a] [] [C] = some ([], [], [C ++ dl (uBytes a.toNat)]) := fun {a} h C hC => by
    obtain ⟨n, rfl, h1, h2, h3⟩ := u_wrap h
    rw [h2, h3]
    exact q_putU (by omega) C (by omega)
  by_cases f2 : fm x.op = 2
  · have ea : argB x = sBytes x.a := by unfold argB; rw [if_pos f2]
    have hp := q_putBlock B x.a (by omega)
    rw [if_pos (g.f2 f2).1] at hp
    rw [ea]
    exact d_itT (eq_t f2) (d_callx [x.a] [] [B] _ e29_35 rfl rfl rfl hp rfl rfl)
  refine d_itF (eq_f f2) ?_
  by_cases f3 : fm x.op = 3
  · have ea : argB x = uBytes x.a.toNat := by unfold argB; rw [if_neg f2, if_pos f3]
    rw [ea]
    exact d_itT (eq_t f3) (d_callx [IntKind.u64.wrap x.a] [] [B] _ e29_48 rfl rfl rfl (U (g.f3 (.inl f3)).1 B (by omega)) rfl rfl)
  refine d_itF (eq_f f3) ?_
  by_cases f4 : fm x.op = 4
  · have ea : argB x = uBytes x.L.length ++ lbB x.L ++ uBytes x.a.toNat := by unfold argB; rw [if_neg f2, if_neg f3, if_pos f4]
    have hll := g.Ll
    have hlb : ∀ i, i ≤ x.L.length → (lbB (x.L.take i)).length ≤ 10 * i := by
      intro i
      induction i with
      | zero => intro _; simp [lbB]
      | succ i ih =>
        intro hi
        have := ih (by omega)
        have hm : u32 (x.L.getD i 0) := g.L _ (by rw [List.getD_eq_getElem?_getD, List.getElem?_eq_getElem (by omega)]; exact List.getElem_mem _)
        obtain ⟨n, h1, h2, h3, h4⟩ := u_wrap hm
        have h10 := uBl h2
        rw [lbB_succ (by omega), List.length_append, h4]
        omega
    obtain ⟨C, hC⟩ : ∃ C, C = B ++ dl (uBytes x.L.length) := ⟨_, rfl⟩
    have hCl : C.length ≤ 100000200 := by rw [hC, List.length_append, dl_len]; have := uBl (n := x.L.length) (by omega); omega
    have h1 : F48 [IntKind.u64.wrap ((dl x.L).length : Int)] [] [B] = some ([], [], [C]) := by
      rw [hC, dl_len, wu (by omega) (by omega)]; exact q_putU (by omega) B (by omega)
    have hfin : B ++ dl (argB x) = C ++ dl (lbB x.L) ++ dl (uBytes x.a.toNat) := by rw [ea, hC, dl_app, dl_app]; simp only [List.append_assoc]
    rw [hfin]
    refine d_itT (eq_t f4) (d_callx [IntKind.u64.wrap ((dl x.L).length : Int)] [] [B] ([], [], [C]) e29_48 rfl rfl rfl h1 rfl ?_)
    show Vx.T.den _ _ [(x.op : Int), x.a, x.b, x.k, 0, fm x.op] [] [b, dl x.L, B, C] = _
    have hfull := hlb x.L.length (by omega)
    rw [List.take_length] at hfull
    refine d_loop (fun i => ([(i : Int)], [], [C ++ dl (lbB (x.L.take i))])) x.L.length (by omega) 3 ([(x.L.length : Int)], [], [C ++ dl (lbB x.L)]) (by show (([(0 : Int)], [], [C]) : Vx.R) = ([(0 : Int)], [], [C ++ []]); rw [List.append_nil]) (fun i hi => ?_) (fun _ _ => rfl) ?_ rfl ?_
    · show Vx.T.den _ l29_1 [(x.op : Int), x.a, x.b, x.k, 0, fm x.op, (i : Int)] [] [b, dl x.L, B, C, C ++ dl (lbB (x.L.take i))] = some (.nxt ([((i + 1 : Nat) : Int)], [], [C ++ dl (lbB (x.L.take (i + 1)))]))
      have hm : u32 (x.L.getD i 0) := g.L _ (by rw [List.getD_eq_getElem?_getD, List.getElem?_eq_getElem (by omega)]; exact List.getElem_mem _)
      have hbi := hlb i (by omega)
      have e1 : C ++ dl (lbB (x.L.take (i + 1))) = (C ++ dl (lbB (x.L.take i))) ++ dl (uBytes (x.L.getD i 0).toNat) := by rw [lbB_succ hi, dl_app, List.append_assoc]
      have e2 : (C ++ dl (lbB (x.L.take i))).length ≤ 200000000 := by rw [List.length_append, dl_len]; omega
      rw [e1]
      generalize C ++ dl (lbB (x.L.take i)) = A at *
      have hu := U hm A e2
      rw [← ix_dl] at hu ⊢
      unfold l29_1
      rw [← up1 i (by omega)]
      refine d_itT (lt_t (show (i : Int) < ((dl x.L).length : Int) by rw [dl_len]; omega)) (d_rq (ge_t (show (0 : Int) ≤ (i : Int) by omega)) ?_)
      exact d_callx [IntKind.u64.wrap (((dl x.L).getD i (.i 0)).cell 0).int] [] [A] _ e29_48 rfl rfl rfl hu rfl rfl
    · show Vx.T.den _ l29_1 [(x.op : Int), x.a, x.b, x.k, 0, fm x.op, (x.L.length : Int)] [] [b, dl x.L, B, C, C ++ dl (lbB (x.L.take x.L.length))] = _
      rw [List.take_length]
      unfold l29_1
      exact d_itF (lt_f (show ((dl x.L).length : Int) ≤ (x.L.length : Int) by rw [dl_len]; omega)) rfl
    · unfold k29_2
      have e2 : (C ++ dl (lbB x.L)).length ≤ 200000000 := by rw [List.length_append, dl_len]; omega
      generalize C ++ dl (lbB x.L) = A at *
      exact d_rq rfl (d_callx [IntKind.u64.wrap x.a] [] [A] _ e29_48 rfl rfl rfl (U (g.f4 f4).1 A e2) rfl rfl)
  refine d_itF (eq_f f4) ?_
  by_cases f5 : fm x.op = 5
  · have ea : argB x = uBytes x.a.toNat ++ uBytes x.b.toNat := by unfold argB; rw [if_neg f2, if_neg f3, if_neg f4, if_pos f5]
    obtain ⟨h1, h2, _⟩ := g.f5 f5
    obtain ⟨n, q1, q2, q3, q4⟩ := u_wrap h1
    have h10 := uBl q2
    have e2 : (B ++ dl (uBytes x.a.toNat)).length ≤ 200000000 := by rw [List.length_append, dl_len, q4]; omega
    have hfin : B ++ dl (argB x) = B ++ dl (uBytes x.a.toNat) ++ dl (uBytes x.b.toNat) := by rw [ea, dl_app, List.append_assoc]
    rw [hfin]
    have hu1 := U h1 B (by omega)
    generalize B ++ dl (uBytes x.a.toNat) = A at *
    refine d_itT (eq_t f5) (d_callx [IntKind.u64.wrap x.a] [] [B] ([], [], [A]) e29_48 rfl rfl rfl hu1 rfl ?_)
    exact d_callx [IntKind.u64.wrap x.b] [] [A] _ e29_48 rfl rfl rfl (U h2 A e2) rfl rfl
  refine d_itF (eq_f f5) ?_
  by_cases f6 : fm x.op = 6
  · have ea : argB x = [0] := by unfold argB; rw [if_neg f2, if_neg f3, if_neg f4, if_neg f5, if_pos f6]
    rw [ea]
    exact d_itT (eq_t f6) (d_lst [[.i 0]] rfl (d_rq (an_t (le_t (show (B.length : Int) ≤ 17592186044416 by omega)) rfl) (d_lst [B ++ [.i 0]] rfl rfl)))
  refine d_itF (eq_f f6) ?_
  by_cases f7 : fm x.op = 7
  · have ea : argB x = [0, 0] := by unfold argB; rw [if_neg f2, if_neg f3, if_neg f4, if_neg f5, if_neg f6, if_pos f7]
    rw [ea]
    exact d_itT (eq_t f7) (d_lst [[.i 0, .i 0]] rfl (d_rq (an_t (le_t (show (B.length : Int) ≤ 17592186044416 by omega)) rfl) (d_lst [B ++ [.i 0, .i 0]] rfl rfl)))
  refine d_itF (eq_f f7) ?_
  by_cases f8 : fm x.op = 8
  · have ea : argB x = sBytes x.k := by unfold argB; rw [if_neg f2, if_neg f3, if_neg f4, if_neg f5, if_neg f6, if_neg f7, if_pos f8]
    rw [ea]
    have hk := (g.f8 f8).1
    exact d_itT (eq_t f8) (d_itT (eq_t f8) (d_callx [x.k] [] [B] _ e29_49 rfl rfl rfl (q_putS (by omega) (by omega) B (by omega)) rfl rfl))
  refine d_itF (eq_f f8) ?_
  by_cases f9 : fm x.op = 9
  · have ea : argB x = sBytes x.k := by unfold argB; rw [if_neg f2, if_neg f3, if_neg f4, if_neg f5, if_neg f6, if_neg f7, if_neg f8, if_pos f9]
    rw [ea]
    have hk := (g.f9 f9).1
    exact d_itT (eq_t f9) (d_callx [x.k] [] [B] _ e29_49 rfl rfl rfl (q_putS (by omega) (by omega) B (by omega)) rfl rfl)
  refine d_itF (eq_f f9) ?_
  by_cases f10 : fm x.op = 10
  · have ea : argB x = uBytes x.a.toNat ++ [0] := by unfold argB; rw [if_neg f2, if_neg f3, if_neg f4, if_neg f5, if_neg f6, if_neg f7, if_neg f8, if_neg f9, if_pos f10]
    obtain ⟨h1, _⟩ := g.f3 (.inr f10)
    obtain ⟨n, q1, q2, q3, q4⟩ := u_wrap h1
    have h10 := uBl q2
    have e2 : (B ++ dl (uBytes x.a.toNat)).length ≤ 200000000 := by rw [List.length_append, dl_len, q4]; omega
    have hfin : B ++ dl (argB x) = B ++ dl (uBytes x.a.toNat) ++ [.i 0] := by rw [ea, dl_app, List.append_assoc]; rfl
    rw [hfin]
    have hu1 := U h1 B (by omega)
    generalize B ++ dl (uBytes x.a.toNat) = A at *
    refine d_itT (eq_t f10) (d_callx [IntKind.u64.wrap x.a] [] [B] ([], [], [A]) e29_48 rfl rfl rfl hu1 rfl ?_)
    exact d_lst [[.i 0]] rfl (d_rq (an_t (le_t (show (A.length : Int) ≤ 17592186044416 by omega)) rfl) (d_lst [A ++ [.i 0]] rfl rfl))
  · have ea : argB x = [] := by unfold argB; rw [if_neg f2, if_neg f3, if_neg f4, if_neg f5, if_neg f6, if_neg f7, if_neg f8, if_neg f9, if_neg f10]
    rw [ea]
    refine d_itF (eq_f f10) ?_
    show some (Out.ret ([], [], [B])) = some (Out.ret ([], [], [B ++ []]))
    rw [List.append_nil]
theorem q_Put {x : Ins} (g : Gd x) : F14 [(x.op : Int), x.a, x.b, x.k] [] [[], dl x.L] = some ([0], [], [dl (insB x)]) := by
  refine of_ret ?_
  unfold t14
  refine d_callx [(x.op : Int), x.a, x.b, x.k] [] [dl x.L] ([], [true], []) e14_16 rfl rfl rfl (q_formedT g) rfl (d_itF rfl ?_)
  refine d_callx [] [] [[]] ([], [], [[]]) e14_28 rfl rfl rfl (q_clone [] (by simp)) rfl ?_
  exact d_callx [(x.op : Int), x.a, x.b, x.k] [] [[], dl x.L] _ e14_29 rfl rfl rfl (q_put g [] (by simp)) rfl rfl
theorem q_One {l : List Int} (hb : Bytes l) (hl : l.length ≤ 100000000) : (∃ e : Int, e ≠ 0 ∧ instrP l = .err e ∧ F23 [] [] [dl l] = some ([0, 0, 0, 0, 0, e], [], [[]])) ∨ ∃ x n, instrP l = .ok x n ∧ F23 [] [] [dl l] = some ([(x.op : Int), x.a, x.b, x.k, (n : Int), 0], [], [dl x.L]) := by
  obtain ⟨op, a, b, k, p', L, h1, h2⟩ := q_instr hb hl (p := 0) (by omega)
  rw [List.drop_zero] at h1 h2
  cases e : instrP l with
  | err y =>
    rw [e] at h1
    have hy := instrP_stbl.nz _ _ e
    refine .inl ⟨y, hy, rfl, of_ret ?_⟩
    unfold t23
    exact d_callx [0, 0] [] [dl l] _ e23_25 rfl rfl rfl h1 rfl (d_itT (ne_t hy) rfl)
  | ok x n =>
    obtain ⟨rfl, rfl, rfl, rfl, rfl, rfl⟩ := h2 x n e
    rw [e] at h1
    refine .inr ⟨x, n, rfl, of_ret ?_⟩
    unfold t23
    refine d_callx [0, 0] [] [dl l] _ e23_25 rfl rfl rfl h1 rfl (d_itF rfl ?_)
    show some (Out.ret ([(x.op : Int), x.a, x.b, x.k, ((0 + n : Nat) : Int), 0], [], [dl x.L])) = _
    rw [Nat.zero_add]
/-! bodies -/
/-- A list of instructions whose last one, and no other, ends it. -/
def Run : List Ins → List D → Prop
  | [], _ => False
  | x :: r, o => (stE x.op o).1 = 0 ∧ (((stE x.op o).2.1 = true ∧ r = []) ∨ ((stE x.op o).2.1 = false ∧ Run r (stE x.op o).2.2))
def bodyB (xs : List Ins) : List Int := (xs.map insB).flatten
theorem body_run : ∀ (f : Nat) (out o : List D) (l : List Int) (res : List D) (n : Nat), Bytes l → bodyP f out o l = .ok res n → ∃ xs : List Ins, res = out ++ xs.map Ins.D ∧ Run xs o ∧ (∀ x ∈ xs, Gd x) ∧ (bodyB xs).length ≤ n ∧ xs.length ≤ n ∧ out.length + xs.length ≤ 2000
  | 0, out, o, l, res, n, hb, h => by cases h
  | f + 1, out, o, l, res, n, hb, h => by
    obtain ⟨x, n1, k, e1, e2, rfl⟩ := bind_ok h
    obtain ⟨g1, g2, g3⟩ := instr_min hb e1
    have e2 : (if 2000 ≤ out.length then fun _ => .err 4 else if (stE x.op o).1 ≠ 0 then fun _ => .err (stE x.op o).1 else if (stE x.op o).2.1 = true then fun _ => .ok (out ++ [x.D]) 0 else bodyP f (out ++ [x.D]) (stE x.op o).2.2 : Rd (List D)) (l.drop n1) = .ok res k := e2
    split at e2
    · cases e2
    rename_i h2k
    split at e2
    · cases e2
    rename_i he
    have he : (stE x.op o).1 = 0 := Decidable.not_not.1 he
    split at e2
    · rename_i ho
      cases e2
      refine ⟨[x], rfl, ⟨he, .inl ⟨ho, rfl⟩⟩, fun y hy => ?_, ?_, by simp; omega, by simp; omega⟩
      · rw [List.mem_singleton.1 hy]; exact g1
      · show (insB x ++ []).length ≤ _; rw [List.append_nil]; omega
    · rename_i ho
      obtain ⟨xs, rfl, h1, h2, h3, h4, h5⟩ := body_run f _ _ _ _ _ (hb.drop n1) e2
      rw [List.length_append, List.length_singleton] at h5
      refine ⟨x :: xs, by simp, ⟨he, .inr ⟨Bool.eq_false_iff.2 ho, h1⟩⟩, fun y hy => ?_, ?_, ?_, ?_⟩
      · rcases List.mem_cons.1 hy with rfl | hy
        · exact g1
        · exact h2 y hy
      · show (insB x ++ (xs.map insB).flatten).length ≤ _
        rw [List.length_append]
        have : ((xs.map insB).flatten).length ≤ k := h3
        omega
      · rw [List.length_cons]; omega
      · rw [List.length_cons]; omega
theorem getD_D {xs : List Ins} {i : Nat} (hi : i < xs.length) : (xs.map Ins.D).getD i (.i 0) = (xs[i]).D := by
  rw [List.getD_eq_getElem?_getD, List.getElem?_map, List.getElem?_eq_getElem hi]; rfl
theorem q_closedT {xs : List Ins} (hr : Run xs []) (hg : ∀ x ∈ xs, Gd x) (hl : xs.length ≤ 2000) : F12 [] [] [xs.map Ins.D] = some ([], [true], []) := by
  have hll : (xs.map Ins.D).length = xs.length := List.length_map _
  have loop : ∀ (r pre : List Ins) (o : List D) (k : Nat), xs = pre ++ r → Run r o → o.length ≤ 64 → iterT 1 1 1 (fun r => l12_1.den (Tab.fn a12) ([] ++ r.1) ([] ++ r.2.1) ([xs.map Ins.D] ++ r.2.2)) (k + r.length) ([(pre.length : Int)], [false], [o]) = some (.ret ([], [true], [])) := by
    intro r
    induction r with
    | nil => intro pre o k h1 h2; exact h2.elim
    | cons x r ih =>
      intro pre o k h1 h2 h3
      have hi : pre.length < xs.length := by rw [h1, List.length_append, List.length_cons]; omega
      have hx : (xs.map Ins.D).getD pre.length (.i 0) = x.D := by
        rw [getD_D hi]
        congr 1
        have := h1
        subst this
        simp
      have gx : Gd x := hg x (by rw [h1]; simp)
      have hs := q_step (op := (x.op : Int)) (a := x.a) (b := x.b) (k := x.k) (L := dl x.L) h3
      have hsl := stE_len (op := (x.op : Int)) h3
      obtain ⟨h4, h5⟩ := h2
      generalize stE (x.op : Int) o = z at *
      obtain ⟨ze, zo, zn⟩ := z
      have h4 : ze = 0 := h4
      subst h4
      have hstart : ∀ {w : Out}, some w = (if zo = true then some (.ret ([], [(pre.length : Int) == arI .sub .i64 (xs.map Ins.D).length 1], [])) else some (.nxt ([((pre.length + 1 : Nat) : Int)], [false], [zn]))) → (fun r : Vx.R => l12_1.den (Tab.fn a12) ([] ++ r.1) ([] ++ r.2.1) ([xs.map Ins.D] ++ r.2.2)) ([(pre.length : Int)], [false], [o]) = some w := by
        intro w hw
        rw [hw]
        generalize xs.map Ins.D = M at *
        show Vx.T.den _ l12_1 [(pre.length : Int)] [false] [M, o] = _
        unfold l12_1
        refine d_itT (lt_t (show (pre.length : Int) < (M.length : Int) by omega)) (d_rq (ge_t (show (0 : Int) ≤ (pre.length : Int) by omega)) (d_lst [dl x.L] ?_ ?_))
        · show [((M.getD pre.length (.i 0)).cell 4).list] = _
          rw [hx]; rfl
        have ha : [((M.getD pre.length (.i 0)).cell 0).int, ((M.getD pre.length (.i 0)).cell 1).int, ((M.getD pre.length (.i 0)).cell 2).int, ((M.getD pre.length (.i 0)).cell 3).int] = [(x.op : Int), x.a, x.b, x.k] := by rw [hx]; rfl
        refine d_callx [(x.op : Int), x.a, x.b, x.k] [] [dl x.L] ([], [true], []) e12_16 ha rfl rfl (q_formedT gx) rfl (d_itF rfl ?_)
        refine d_callx [(x.op : Int), x.a, x.b, x.k] [] [o, dl x.L] _ e12_27 ha rfl rfl hs rfl (d_itF rfl ?_)
        cases zo with
        | true => exact d_itT rfl (d_rt rfl)
        | false => rw [← up1 pre.length (by omega)]; exact d_itF rfl rfl
      rcases h5 with ⟨h5, rfl⟩ | ⟨h5, h6⟩
      · have h5 : zo = true := h5
        subst h5
        refine it_ret (hstart ?_)
        have hlx : xs.length = pre.length + 1 := by rw [h1, List.length_append]; rfl
        have : arI .sub .i64 ((xs.map Ins.D).length : Int) 1 = (pre.length : Int) := by show IntKind.i64.wrap (((xs.map Ins.D).length : Int) - 1) = _; rw [wi (by omega) (by omega)]; omega
        rw [this, eq_t rfl]; rfl
      · have h5 : zo = false := h5
        subst h5
        have g := ih (pre ++ [x]) zn k (by rw [h1]; simp) h6 hsl
        rw [List.length_append, List.length_singleton] at g
        exact it_nxt (hstart rfl) rfl g
  refine of_ret ?_
  unfold t12
  refine d_itF (gt_f (show ((xs.map Ins.D).length : Int) ≤ 2000 by omega)) ?_
  obtain ⟨m, hm⟩ := fuel_eq xs.length (by omega)
  have g := loop xs [] [] m rfl hr (by simp)
  rw [← hm] at g
  exact d_lp_ret g
theorem bodyB_take {xs : List Ins} {i : Nat} (hi : i < xs.length) : bodyB (xs.take (i + 1)) = bodyB (xs.take i) ++ insB xs[i] := by
  unfold bodyB
  rw [List.take_succ, List.map_append, List.flatten_append, List.getElem?_eq_getElem hi]
  simp
theorem bodyB_le {xs : List Ins} (i : Nat) : (bodyB (xs.take i)).length ≤ (bodyB xs).length := by
  have : bodyB xs = bodyB (xs.take i) ++ bodyB (xs.drop i) := by
    unfold bodyB
    rw [← List.flatten_append, ← List.map_append, List.take_append_drop]
  rw [this, List.length_append]; omega
theorem q_PutBody {xs : List Ins} (hr : Run xs []) (hg : ∀ x ∈ xs, Gd x) (hl : xs.length ≤ 2000) (hB : (bodyB xs).length ≤ 50000000) : F11 [] [] [[], xs.map Ins.D] = some ([0], [], [dl (bodyB xs)]) := by
  have hll : (xs.map Ins.D).length = xs.length := List.length_map _
  refine of_ret ?_
  unfold t11
  refine d_callx [] [] [xs.map Ins.D] ([], [true], []) e11_12 rfl rfl rfl (q_closedT hr hg hl) rfl (d_itF rfl ?_)
  refine d_callx [] [] [[]] ([], [], [[]]) e11_28 rfl rfl rfl (q_clone [] (by simp)) rfl ?_
  refine d_loop (fun i => ([(i : Int)], [], [dl (bodyB (xs.take i))])) xs.length (by omega) 2 ([(xs.length : Int)], [], [dl (bodyB xs)]) rfl (fun i hi => ?_) (fun _ _ => rfl) ?_ rfl ?_
  · show Vx.T.den _ l11_1 [(i : Int)] [true] [[], xs.map Ins.D, [], dl (bodyB (xs.take i))] = some (.nxt ([((i + 1 : Nat) : Int)], [], [dl (bodyB (xs.take (i + 1)))]))
    have hx := getD_D hi
    have gx : Gd xs[i] := hg _ (List.getElem_mem hi)
    rw [bodyB_take hi, dl_app]
    have hle := bodyB_le (xs := xs) i
    have hp := q_put gx (dl (bodyB (xs.take i))) (by rw [dl_len]; omega)
    generalize dl (bodyB (xs.take i)) = A at *
    generalize xs.map Ins.D = M at *
    generalize xs[i] = x at *
    generalize dl (insB x) = Z at *
    unfold l11_1
    rw [← up1 i (by omega)]
    have ha : [((M.getD i (.i 0)).cell 0).int, ((M.getD i (.i 0)).cell 1).int, ((M.getD i (.i 0)).cell 2).int, ((M.getD i (.i 0)).cell 3).int] = [(x.op : Int), x.a, x.b, x.k] := by rw [hx]; rfl
    refine d_itT (lt_t (show (i : Int) < (M.length : Int) by omega)) (d_rq (ge_t (show (0 : Int) ≤ (i : Int) by omega)) (d_lst [dl x.L] ?_ ?_))
    · show [((M.getD i (.i 0)).cell 4).list] = _
      rw [hx]; rfl
    exact d_callx [(x.op : Int), x.a, x.b, x.k] [] [A, dl x.L] _ e11_29 ha rfl rfl hp rfl rfl
  · show Vx.T.den _ l11_1 [(xs.length : Int)] [true] [[], xs.map Ins.D, [], dl (bodyB (xs.take xs.length))] = _
    rw [List.take_length]
    unfold l11_1
    exact d_itF (lt_f (show ((xs.map Ins.D).length : Int) ≤ (xs.length : Int) by omega)) rfl
  · unfold k11_2
    exact d_rq rfl rfl
end Go.Proofs.Ytmfjapphmmlppaa.PInstrPuts
