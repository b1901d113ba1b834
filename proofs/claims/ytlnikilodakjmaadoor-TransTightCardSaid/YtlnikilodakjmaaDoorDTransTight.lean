/-
  Bin of layer 19, each operation.
-/
import Derived.Test.YtlnikilodakjmaaDoorXTransTight
import Derived.Test.YtlnikilodakjmaaDoorSn
import Derived.Test.YtlnikilodakjmaaDoorNTransTight
import Derived.Test.YtlnikilodakjmaaDoorITransTight
import Derived.Test.YtlnikilodakjmaaDoorZTransTight
import Derived.Test.YtlnikilodakjmaaDoorRTransTight
import Derived.Test.YtlnikilodakjmaaDoorBTransTight
import Derived.Test.YtlnikilodakjmaaDoorCTransTight
import Derived.Lib.BitFns
import Derived.Lib.TrailingZeros
namespace Go.Proofs.YtlnikilodakjmaaDoor.DTransTight
open Go.Proofs.YtlnikilodakjmaaDoor.NTransTight Go.Proofs.YtlnikilodakjmaaDoor.ITransTight Go.Proofs.YtlnikilodakjmaaDoor.ZTransTight Go.Proofs.YtlnikilodakjmaaDoor.RTransTight Go.Proofs.YtlnikilodakjmaaDoor.BTransTight Go.Proofs.YtlnikilodakjmaaDoor.CTransTight Go.Proofs.YtlnikilodakjmaaDoor.Sx Go.Proofs.YtlnikilodakjmaaDoor.Sn Go.Proofs.YtlnikilodakjmaaDoor.XTransTight Go.Proofs.YtlnikilodakjmaaDoor.ETransTight
set_option linter.unusedSimpArgs false
set_option linter.unusedVariables false
theorem wrap_in (x : Int) : InR (IntKind.wrap .u64 x) := by rw [wrap_u64]; exact ⟨by omega, by omega⟩
theorem bif_in (b : Bool) : InR (bif b then 1 else 0) := by cases b <;> exact ⟨by decide, by decide⟩
theorem fin64 {x : Int} (h : InR x) : ∃ v : Nat, x = v ∧ v ≤ Tn 126 := by
  obtain ⟨v, rfl⟩ := nats h.1
  exact ⟨v, rfl, by have := h.2; show v ≤ 18446744073709551615; omega⟩
theorem fin32 (x : Int) : ∃ v : Nat, IntKind.wrap .u64 (IntKind.wrap .u32 x) = v ∧ v ≤ Tn 127 := by
  obtain ⟨v, e⟩ := nats (u32_ge x)
  exact ⟨v, e, by have := u32_lt x; show v ≤ 4294967295; omega⟩
theorem finb (b : Bool) : ∃ v : Nat, (bif b then (1 : Int) else 0) = v ∧ v ≤ Tn 127 := by cases b with
  | false => exact ⟨0, rfl, by decide⟩
  | true => exact ⟨1, rfl, by decide⟩
theorem w32n {n : Nat} (h : n < 2 ^ 32) : IntKind.wrap .u64 (IntKind.wrap .u32 (n : Int)) = (n : Int) := by rw [wrap_u32, wrap_u64]; omega
theorem quo_in {a b : Int} (ha : InR a) (hb : InR b) : InR (uq a b) := by
  unfold uq
  by_cases h : b = 0
  · rw [if_pos h]; exact ⟨by omega, by omega⟩
  · rw [if_neg h, arQuo _ _ ha.1 ha.2 (by have := hb.1; omega)]
    exact ⟨Int.ediv_nonneg ha.1 hb.1, Int.lt_of_le_of_lt (Int.ediv_le_self b ha.1) ha.2⟩
theorem rem_in {a b : Int} (ha : InR a) (hb : InR b) : InR (ur a b) := by
  unfold ur
  by_cases h : b = 0
  · rw [if_pos h]; exact ⟨by omega, by omega⟩
  · rw [if_neg h, arRem _ _ ha.1]
    have h1 := Int.emod_nonneg a h
    have h2 := Int.emod_lt_of_pos a (show 0 < b by have := hb.1; omega)
    exact ⟨h1, by have := hb.2; omega⟩
theorem dq_in (b x y l : Int) : InR (dq b x y l) := by unfold dq; (repeat' split) <;> first | exact ⟨by omega, by omega⟩ | exact wrap_in _
theorem dr_in (b x y : Int) : InR (dr b x y) := by unfold dr; (repeat' split) <;> first | exact ⟨by omega, by omega⟩ | exact wrap_in _
theorem shr_in {a b : Int} (ha : InR a) (hb : InR b) : InR (arI .shr .u64 a (arI .rem .u64 b 64)) := by
  obtain ⟨n, rfl⟩ := nats ha.1
  obtain ⟨m, rfl⟩ := nats hb.1
  rw [show (64 : Int) = ((64 : Nat) : Int) from rfl, rem_nat, shr_nat _ _ (by omega)]
  have := Nat.div_le_self n (2 ^ (m % 64))
  have h2 := ha.2
  generalize n / 2 ^ (m % 64) = x at *
  exact ⟨by omega, by omega⟩
theorem dz_ne {b : Int} (h : dz b = 0) : b ≠ 0 := by
  unfold dz at h; intro e; rw [if_pos e] at h; cases h
theorem nat_of {v n : Nat} (h : (v : Int) = n) : v = n := by omega
theorem pow_mod_le {x : Nat} : x % 2 ^ 64 % 2 ^ 32 = x % 2 ^ 32 := mod_mod_pow x (by decide)

def f70_ : Int → Int → Int := fun a b => (bif ((IntKind.wrap .u64 (IntKind.wrap .u32 a)) == (IntKind.wrap .u64 (IntKind.wrap .u32 b))) then 1 else 0)
def g70_ : Int → Int → Int := fun a b => 0

theorem val_70 : Val 70 127 f70_ g70_ := ⟨fun a b ha hb => q10_70 a b, fun a b ha hb _ => finb _⟩

theorem bin_70 : BinFin 70 127 127 f70_ g70_ := cmp_fin q14_70 (fun n m => decide (n = m)) val_70 (by kernel_rfl) (fun n m hn hm fn fm => by
  show ((bif ((IntKind.wrap .u64 (IntKind.wrap .u32 (n : Int))) == (IntKind.wrap .u64 (IntKind.wrap .u32 (m : Int)))) then 1 else 0)) = _
  rw [w32n (fn rfl), w32n (fm rfl)]
  rw [show (((n : Int) == m) = decide (n = m)) from by rw [Bool.eq_iff_iff, beq_iff_eq, decide_eq_true_iff]; omega]) (fun h h2 => sure_0 h h2)

def f71_ : Int → Int → Int := fun a b => (bif ((IntKind.wrap .u64 (IntKind.wrap .u32 a)) != (IntKind.wrap .u64 (IntKind.wrap .u32 b))) then 1 else 0)
def g71_ : Int → Int → Int := fun a b => 0

theorem val_71 : Val 71 127 f71_ g71_ := ⟨fun a b ha hb => q10_71 a b, fun a b ha hb _ => finb _⟩

theorem bin_71 : BinFin 71 127 127 f71_ g71_ := cmp_fin q14_71 (fun n m => decide (n ≠ m)) val_71 (by kernel_rfl) (fun n m hn hm fn fm => by
  show ((bif ((IntKind.wrap .u64 (IntKind.wrap .u32 (n : Int))) != (IntKind.wrap .u64 (IntKind.wrap .u32 (m : Int)))) then 1 else 0)) = _
  rw [w32n (fn rfl), w32n (fm rfl)]
  rw [show (((n : Int) != m) = decide (n ≠ m)) from by rw [Bool.eq_iff_iff, bne_iff_ne, decide_eq_true_iff]; omega]) (fun h h2 => sure_1 h h2)

def f72_ : Int → Int → Int := fun a b => (bif (decide ((IntKind.wrap .i64 (IntKind.wrap .i32 (IntKind.wrap .u64 (IntKind.wrap .u32 a)))) < (IntKind.wrap .i64 (IntKind.wrap .i32 (IntKind.wrap .u64 (IntKind.wrap .u32 b)))))) then 1 else 0)
def g72_ : Int → Int → Int := fun a b => 0

theorem val_72 : Val 72 127 f72_ g72_ := ⟨fun a b ha hb => q10_72 a b, fun a b ha hb _ => finb _⟩

theorem bin_72 : BinFin 72 127 127 f72_ g72_ := cmp_fin q14_72 (fun n m => (decide ((IntKind.wrap .i64 (IntKind.wrap .i32 (IntKind.wrap .u64 (IntKind.wrap .u32 (n : Int))))) < (IntKind.wrap .i64 (IntKind.wrap .i32 (IntKind.wrap .u64 (IntKind.wrap .u32 (m : Int)))))))) val_72 (by kernel_rfl) (fun n m hn hm fn fm => rfl) (fun h h2 => sure_2 _ h h2)

def f73_ : Int → Int → Int := fun a b => (bif (decide ((IntKind.wrap .u64 (IntKind.wrap .u32 a)) < (IntKind.wrap .u64 (IntKind.wrap .u32 b)))) then 1 else 0)
def g73_ : Int → Int → Int := fun a b => 0

theorem val_73 : Val 73 127 f73_ g73_ := ⟨fun a b ha hb => q10_73 a b, fun a b ha hb _ => finb _⟩

theorem bin_73 : BinFin 73 127 127 f73_ g73_ := cmp_fin q14_73 (fun n m => decide (n < m)) val_73 (by kernel_rfl) (fun n m hn hm fn fm => by
  show ((bif (decide ((IntKind.wrap .u64 (IntKind.wrap .u32 (n : Int))) < (IntKind.wrap .u64 (IntKind.wrap .u32 (m : Int))))) then 1 else 0)) = _
  rw [w32n (fn rfl), w32n (fm rfl)]
  rw [show (decide ((n : Int) < m) = decide (n < m)) from by rw [Bool.eq_iff_iff, decide_eq_true_iff, decide_eq_true_iff]; omega]) (fun h h2 => sure_3 h h2)

def f74_ : Int → Int → Int := fun a b => (bif (decide ((IntKind.wrap .i64 (IntKind.wrap .i32 (IntKind.wrap .u64 (IntKind.wrap .u32 a)))) > (IntKind.wrap .i64 (IntKind.wrap .i32 (IntKind.wrap .u64 (IntKind.wrap .u32 b)))))) then 1 else 0)
def g74_ : Int → Int → Int := fun a b => 0

theorem val_74 : Val 74 127 f74_ g74_ := ⟨fun a b ha hb => q10_74 a b, fun a b ha hb _ => finb _⟩

theorem bin_74 : BinFin 74 127 127 f74_ g74_ := cmp_fin q14_74 (fun n m => (decide ((IntKind.wrap .i64 (IntKind.wrap .i32 (IntKind.wrap .u64 (IntKind.wrap .u32 (n : Int))))) > (IntKind.wrap .i64 (IntKind.wrap .i32 (IntKind.wrap .u64 (IntKind.wrap .u32 (m : Int)))))))) val_74 (by kernel_rfl) (fun n m hn hm fn fm => rfl) (fun h h2 => sure_4 _ h h2)

def f75_ : Int → Int → Int := fun a b => (bif (decide ((IntKind.wrap .u64 (IntKind.wrap .u32 a)) > (IntKind.wrap .u64 (IntKind.wrap .u32 b)))) then 1 else 0)
def g75_ : Int → Int → Int := fun a b => 0

theorem val_75 : Val 75 127 f75_ g75_ := ⟨fun a b ha hb => q10_75 a b, fun a b ha hb _ => finb _⟩

theorem bin_75 : BinFin 75 127 127 f75_ g75_ := cmp_fin q14_75 (fun n m => decide (n > m)) val_75 (by kernel_rfl) (fun n m hn hm fn fm => by
  show ((bif (decide ((IntKind.wrap .u64 (IntKind.wrap .u32 (n : Int))) > (IntKind.wrap .u64 (IntKind.wrap .u32 (m : Int))))) then 1 else 0)) = _
  rw [w32n (fn rfl), w32n (fm rfl)]
  rw [show (decide ((n : Int) > m) = decide (n > m)) from by rw [Bool.eq_iff_iff, decide_eq_true_iff, decide_eq_true_iff]; omega]) (fun h h2 => sure_5 h h2)

def f76_ : Int → Int → Int := fun a b => (bif (decide ((IntKind.wrap .i64 (IntKind.wrap .i32 (IntKind.wrap .u64 (IntKind.wrap .u32 a)))) ≤ (IntKind.wrap .i64 (IntKind.wrap .i32 (IntKind.wrap .u64 (IntKind.wrap .u32 b)))))) then 1 else 0)
def g76_ : Int → Int → Int := fun a b => 0

theorem val_76 : Val 76 127 f76_ g76_ := ⟨fun a b ha hb => q10_76 a b, fun a b ha hb _ => finb _⟩

theorem bin_76 : BinFin 76 127 127 f76_ g76_ := cmp_fin q14_76 (fun n m => (decide ((IntKind.wrap .i64 (IntKind.wrap .i32 (IntKind.wrap .u64 (IntKind.wrap .u32 (n : Int))))) ≤ (IntKind.wrap .i64 (IntKind.wrap .i32 (IntKind.wrap .u64 (IntKind.wrap .u32 (m : Int)))))))) val_76 (by kernel_rfl) (fun n m hn hm fn fm => rfl) (fun h h2 => sure_6 _ h h2)

def f77_ : Int → Int → Int := fun a b => (bif (decide ((IntKind.wrap .u64 (IntKind.wrap .u32 a)) ≤ (IntKind.wrap .u64 (IntKind.wrap .u32 b)))) then 1 else 0)
def g77_ : Int → Int → Int := fun a b => 0

theorem val_77 : Val 77 127 f77_ g77_ := ⟨fun a b ha hb => q10_77 a b, fun a b ha hb _ => finb _⟩

theorem bin_77 : BinFin 77 127 127 f77_ g77_ := cmp_fin q14_77 (fun n m => decide (n ≤ m)) val_77 (by kernel_rfl) (fun n m hn hm fn fm => by
  show ((bif (decide ((IntKind.wrap .u64 (IntKind.wrap .u32 (n : Int))) ≤ (IntKind.wrap .u64 (IntKind.wrap .u32 (m : Int))))) then 1 else 0)) = _
  rw [w32n (fn rfl), w32n (fm rfl)]
  rw [show (decide ((n : Int) ≤ m) = decide (n ≤ m)) from by rw [Bool.eq_iff_iff, decide_eq_true_iff, decide_eq_true_iff]; omega]) (fun h h2 => sure_7 h h2)

def f78_ : Int → Int → Int := fun a b => (bif (decide ((IntKind.wrap .i64 (IntKind.wrap .i32 (IntKind.wrap .u64 (IntKind.wrap .u32 a)))) ≥ (IntKind.wrap .i64 (IntKind.wrap .i32 (IntKind.wrap .u64 (IntKind.wrap .u32 b)))))) then 1 else 0)
def g78_ : Int → Int → Int := fun a b => 0

theorem val_78 : Val 78 127 f78_ g78_ := ⟨fun a b ha hb => q10_78 a b, fun a b ha hb _ => finb _⟩

theorem bin_78 : BinFin 78 127 127 f78_ g78_ := cmp_fin q14_78 (fun n m => (decide ((IntKind.wrap .i64 (IntKind.wrap .i32 (IntKind.wrap .u64 (IntKind.wrap .u32 (n : Int))))) ≥ (IntKind.wrap .i64 (IntKind.wrap .i32 (IntKind.wrap .u64 (IntKind.wrap .u32 (m : Int)))))))) val_78 (by kernel_rfl) (fun n m hn hm fn fm => rfl) (fun h h2 => sure_8 _ h h2)

def f79_ : Int → Int → Int := fun a b => (bif (decide ((IntKind.wrap .u64 (IntKind.wrap .u32 a)) ≥ (IntKind.wrap .u64 (IntKind.wrap .u32 b)))) then 1 else 0)
def g79_ : Int → Int → Int := fun a b => 0

theorem val_79 : Val 79 127 f79_ g79_ := ⟨fun a b ha hb => q10_79 a b, fun a b ha hb _ => finb _⟩

theorem bin_79 : BinFin 79 127 127 f79_ g79_ := cmp_fin q14_79 (fun n m => decide (n ≥ m)) val_79 (by kernel_rfl) (fun n m hn hm fn fm => by
  show ((bif (decide ((IntKind.wrap .u64 (IntKind.wrap .u32 (n : Int))) ≥ (IntKind.wrap .u64 (IntKind.wrap .u32 (m : Int))))) then 1 else 0)) = _
  rw [w32n (fn rfl), w32n (fm rfl)]
  rw [show (decide ((n : Int) ≥ m) = decide (n ≥ m)) from by rw [Bool.eq_iff_iff, decide_eq_true_iff, decide_eq_true_iff]; omega]) (fun h h2 => sure_9 h h2)

def f81_ : Int → Int → Int := fun a b => (bif (a == b) then 1 else 0)
def g81_ : Int → Int → Int := fun a b => 0

theorem val_81 : Val 81 127 f81_ g81_ := ⟨fun a b ha hb => q10_81 a b, fun a b ha hb _ => finb _⟩

theorem bin_81 : BinFin 81 126 127 f81_ g81_ := cmp_fin q14_81 (fun n m => decide (n = m)) val_81 (by kernel_rfl) (fun n m hn hm fn fm => by
  show ((bif ((n : Int) == (m : Int)) then 1 else 0)) = _
  skip
  rw [show (((n : Int) == m) = decide (n = m)) from by rw [Bool.eq_iff_iff, beq_iff_eq, decide_eq_true_iff]; omega]) (fun h h2 => sure_0 h h2)

def f82_ : Int → Int → Int := fun a b => (bif (a != b) then 1 else 0)
def g82_ : Int → Int → Int := fun a b => 0

theorem val_82 : Val 82 127 f82_ g82_ := ⟨fun a b ha hb => q10_82 a b, fun a b ha hb _ => finb _⟩

theorem bin_82 : BinFin 82 126 127 f82_ g82_ := cmp_fin q14_82 (fun n m => decide (n ≠ m)) val_82 (by kernel_rfl) (fun n m hn hm fn fm => by
  show ((bif ((n : Int) != (m : Int)) then 1 else 0)) = _
  skip
  rw [show (((n : Int) != m) = decide (n ≠ m)) from by rw [Bool.eq_iff_iff, bne_iff_ne, decide_eq_true_iff]; omega]) (fun h h2 => sure_1 h h2)

def f83_ : Int → Int → Int := fun a b => (bif (decide ((IntKind.wrap .i64 a) < (IntKind.wrap .i64 b))) then 1 else 0)
def g83_ : Int → Int → Int := fun a b => 0

theorem val_83 : Val 83 127 f83_ g83_ := ⟨fun a b ha hb => q10_83 a b, fun a b ha hb _ => finb _⟩

theorem bin_83 : BinFin 83 126 127 f83_ g83_ := cmp_fin q14_83 (fun n m => (decide ((IntKind.wrap .i64 (n : Int)) < (IntKind.wrap .i64 (m : Int))))) val_83 (by kernel_rfl) (fun n m hn hm fn fm => rfl) (fun h h2 => sure_2 _ h h2)

def f84_ : Int → Int → Int := fun a b => (bif (decide (a < b)) then 1 else 0)
def g84_ : Int → Int → Int := fun a b => 0

theorem val_84 : Val 84 127 f84_ g84_ := ⟨fun a b ha hb => q10_84 a b, fun a b ha hb _ => finb _⟩

theorem bin_84 : BinFin 84 126 127 f84_ g84_ := cmp_fin q14_84 (fun n m => decide (n < m)) val_84 (by kernel_rfl) (fun n m hn hm fn fm => by
  show ((bif (decide ((n : Int) < (m : Int))) then 1 else 0)) = _
  skip
  rw [show (decide ((n : Int) < m) = decide (n < m)) from by rw [Bool.eq_iff_iff, decide_eq_true_iff, decide_eq_true_iff]; omega]) (fun h h2 => sure_3 h h2)

def f85_ : Int → Int → Int := fun a b => (bif (decide ((IntKind.wrap .i64 a) > (IntKind.wrap .i64 b))) then 1 else 0)
def g85_ : Int → Int → Int := fun a b => 0

theorem val_85 : Val 85 127 f85_ g85_ := ⟨fun a b ha hb => q10_85 a b, fun a b ha hb _ => finb _⟩

theorem bin_85 : BinFin 85 126 127 f85_ g85_ := cmp_fin q14_85 (fun n m => (decide ((IntKind.wrap .i64 (n : Int)) > (IntKind.wrap .i64 (m : Int))))) val_85 (by kernel_rfl) (fun n m hn hm fn fm => rfl) (fun h h2 => sure_4 _ h h2)

def f86_ : Int → Int → Int := fun a b => (bif (decide (a > b)) then 1 else 0)
def g86_ : Int → Int → Int := fun a b => 0

theorem val_86 : Val 86 127 f86_ g86_ := ⟨fun a b ha hb => q10_86 a b, fun a b ha hb _ => finb _⟩

theorem bin_86 : BinFin 86 126 127 f86_ g86_ := cmp_fin q14_86 (fun n m => decide (n > m)) val_86 (by kernel_rfl) (fun n m hn hm fn fm => by
  show ((bif (decide ((n : Int) > (m : Int))) then 1 else 0)) = _
  skip
  rw [show (decide ((n : Int) > m) = decide (n > m)) from by rw [Bool.eq_iff_iff, decide_eq_true_iff, decide_eq_true_iff]; omega]) (fun h h2 => sure_5 h h2)

def f87_ : Int → Int → Int := fun a b => (bif (decide ((IntKind.wrap .i64 a) ≤ (IntKind.wrap .i64 b))) then 1 else 0)
def g87_ : Int → Int → Int := fun a b => 0

theorem val_87 : Val 87 127 f87_ g87_ := ⟨fun a b ha hb => q10_87 a b, fun a b ha hb _ => finb _⟩

theorem bin_87 : BinFin 87 126 127 f87_ g87_ := cmp_fin q14_87 (fun n m => (decide ((IntKind.wrap .i64 (n : Int)) ≤ (IntKind.wrap .i64 (m : Int))))) val_87 (by kernel_rfl) (fun n m hn hm fn fm => rfl) (fun h h2 => sure_6 _ h h2)

def f88_ : Int → Int → Int := fun a b => (bif (decide (a ≤ b)) then 1 else 0)
def g88_ : Int → Int → Int := fun a b => 0

theorem val_88 : Val 88 127 f88_ g88_ := ⟨fun a b ha hb => q10_88 a b, fun a b ha hb _ => finb _⟩

theorem bin_88 : BinFin 88 126 127 f88_ g88_ := cmp_fin q14_88 (fun n m => decide (n ≤ m)) val_88 (by kernel_rfl) (fun n m hn hm fn fm => by
  show ((bif (decide ((n : Int) ≤ (m : Int))) then 1 else 0)) = _
  skip
  rw [show (decide ((n : Int) ≤ m) = decide (n ≤ m)) from by rw [Bool.eq_iff_iff, decide_eq_true_iff, decide_eq_true_iff]; omega]) (fun h h2 => sure_7 h h2)

def f89_ : Int → Int → Int := fun a b => (bif (decide ((IntKind.wrap .i64 a) ≥ (IntKind.wrap .i64 b))) then 1 else 0)
def g89_ : Int → Int → Int := fun a b => 0

theorem val_89 : Val 89 127 f89_ g89_ := ⟨fun a b ha hb => q10_89 a b, fun a b ha hb _ => finb _⟩

theorem bin_89 : BinFin 89 126 127 f89_ g89_ := cmp_fin q14_89 (fun n m => (decide ((IntKind.wrap .i64 (n : Int)) ≥ (IntKind.wrap .i64 (m : Int))))) val_89 (by kernel_rfl) (fun n m hn hm fn fm => rfl) (fun h h2 => sure_8 _ h h2)

def f90_ : Int → Int → Int := fun a b => (bif (decide (a ≥ b)) then 1 else 0)
def g90_ : Int → Int → Int := fun a b => 0

theorem val_90 : Val 90 127 f90_ g90_ := ⟨fun a b ha hb => q10_90 a b, fun a b ha hb _ => finb _⟩

theorem bin_90 : BinFin 90 126 127 f90_ g90_ := cmp_fin q14_90 (fun n m => decide (n ≥ m)) val_90 (by kernel_rfl) (fun n m hn hm fn fm => by
  show ((bif (decide ((n : Int) ≥ (m : Int))) then 1 else 0)) = _
  skip
  rw [show (decide ((n : Int) ≥ m) = decide (n ≥ m)) from by rw [Bool.eq_iff_iff, decide_eq_true_iff, decide_eq_true_iff]; omega]) (fun h h2 => sure_9 h h2)

def f106_ : Int → Int → Int := fun a b => (IntKind.wrap .u64 (IntKind.wrap .u32 (arI .add .u64 (IntKind.wrap .u64 (IntKind.wrap .u32 a)) (IntKind.wrap .u64 (IntKind.wrap .u32 b)))))
def g106_ : Int → Int → Int := fun a b => 0

theorem val_106 : Val 106 127 f106_ g106_ := ⟨fun a b ha hb => q10_106 a b, fun a b ha hb _ => fin32 _⟩

theorem bin_106 : BinFin 106 127 127 f106_ g106_ := arith_127 (fun n m v => (v : Int) = ((n : Int) + m) % 2 ^ 32) q14_106 val_106 (q31_o 106 (by decide)) (by decide) (fun h h2 hT hT2 => rec_0_127 h h2 hT hT2) (fun n m v hn hm fn fm e hg => by
  have e : (v : Int) = (IntKind.wrap .u64 (IntKind.wrap .u32 (arI .add .u64 (IntKind.wrap .u64 (IntKind.wrap .u32 (n : Int))) (IntKind.wrap .u64 (IntKind.wrap .u32 (m : Int)))))) := e
  rw [w32n (fn rfl), w32n (fm rfl)] at e
  have hn' := fn rfl
  have hm' := fm rfl
  rw [arAdd, wrap_u32, wrap_u64] at e
  show (v : Int) = _; omega)

def f107_ : Int → Int → Int := fun a b => (IntKind.wrap .u64 (IntKind.wrap .u32 (arI .sub .u64 (IntKind.wrap .u64 (IntKind.wrap .u32 a)) (IntKind.wrap .u64 (IntKind.wrap .u32 b)))))
def g107_ : Int → Int → Int := fun a b => 0

theorem val_107 : Val 107 127 f107_ g107_ := ⟨fun a b ha hb => q10_107 a b, fun a b ha hb _ => fin32 _⟩

theorem bin_107 : BinFin 107 127 127 f107_ g107_ := arith_127 (fun n m v => (v : Int) = ((n : Int) - m) % 2 ^ 32) q14_107 val_107 (q31_o 107 (by decide)) (by decide) (fun h h2 hT hT2 => rec_1_127 h h2 hT hT2) (fun n m v hn hm fn fm e hg => by
  have e : (v : Int) = (IntKind.wrap .u64 (IntKind.wrap .u32 (arI .sub .u64 (IntKind.wrap .u64 (IntKind.wrap .u32 (n : Int))) (IntKind.wrap .u64 (IntKind.wrap .u32 (m : Int)))))) := e
  rw [w32n (fn rfl), w32n (fm rfl)] at e
  have hn' := fn rfl
  have hm' := fm rfl
  rw [arSub, wrap_u32, wrap_u64] at e
  show (v : Int) = _; omega)

def f108_ : Int → Int → Int := fun a b => (IntKind.wrap .u64 (IntKind.wrap .u32 (arI .mul .u64 (IntKind.wrap .u64 (IntKind.wrap .u32 a)) (IntKind.wrap .u64 (IntKind.wrap .u32 b)))))
def g108_ : Int → Int → Int := fun a b => 0

theorem val_108 : Val 108 127 f108_ g108_ := ⟨fun a b ha hb => q10_108 a b, fun a b ha hb _ => fin32 _⟩

theorem bin_108 : BinFin 108 127 127 f108_ g108_ := arith_127 (fun n m v => (v : Int) = ((n : Int) * m) % 2 ^ 32) q14_108 val_108 (q31_o 108 (by decide)) (by decide) (fun h h2 hT hT2 => rec_2_127 h h2 hT hT2) (fun n m v hn hm fn fm e hg => by
  have e : (v : Int) = (IntKind.wrap .u64 (IntKind.wrap .u32 (arI .mul .u64 (IntKind.wrap .u64 (IntKind.wrap .u32 (n : Int))) (IntKind.wrap .u64 (IntKind.wrap .u32 (m : Int)))))) := e
  rw [w32n (fn rfl), w32n (fm rfl)] at e
  have hn' := fn rfl
  have hm' := fm rfl
  rw [arMul, wrap_u32, wrap_u64] at e
  show (v : Int) = _
  generalize (n : Int) * m = x at *; omega)

def f109_ : Int → Int → Int := fun a b => (IntKind.wrap .u64 (IntKind.wrap .u32 (dq (IntKind.wrap .u64 (IntKind.wrap .u32 b)) (IntKind.wrap .i64 (IntKind.wrap .i32 (IntKind.wrap .u64 (IntKind.wrap .u32 a)))) (IntKind.wrap .i64 (IntKind.wrap .i32 (IntKind.wrap .u64 (IntKind.wrap .u32 b)))) (-2147483648))))
def g109_ : Int → Int → Int := fun a b => (dt (IntKind.wrap .u64 (IntKind.wrap .u32 b)) (IntKind.wrap .i64 (IntKind.wrap .i32 (IntKind.wrap .u64 (IntKind.wrap .u32 a)))) (IntKind.wrap .i64 (IntKind.wrap .i32 (IntKind.wrap .u64 (IntKind.wrap .u32 b)))) (-2147483648))

theorem val_109 : Val 109 127 f109_ g109_ := ⟨fun a b ha hb => q10_109 a b, fun a b ha hb _ => fin32 _⟩

theorem bin_109 : BinFin 109 127 127 f109_ g109_ := arith_127 (fun _ _ _ => True) q14_109 val_109 (q31_o 109 (by decide)) (by decide) (fun h h2 _ _ => rec_3_127 h h2 _) (fun n m v hn hm fn fm e hg => trivial)

def f110_ : Int → Int → Int := fun a b => (IntKind.wrap .u64 (IntKind.wrap .u32 (uq (IntKind.wrap .u64 (IntKind.wrap .u32 a)) (IntKind.wrap .u64 (IntKind.wrap .u32 b)))))
def g110_ : Int → Int → Int := fun a b => (dz (IntKind.wrap .u64 (IntKind.wrap .u32 b)))

theorem val_110 : Val 110 127 f110_ g110_ := ⟨fun a b ha hb => q10_110 a b, fun a b ha hb _ => fin32 _⟩

theorem bin_110 : BinFin 110 127 127 f110_ g110_ := arith_127 (fun n m v => m ≠ 0 ∧ v = n / m) q14_110 val_110 (q31_o 110 (by decide)) (by decide) (fun h h2 hT hT2 => rec_4_127 h h2 hT hT2) (fun n m v hn hm fn fm e hg => by
  have e : (v : Int) = (IntKind.wrap .u64 (IntKind.wrap .u32 (uq (IntKind.wrap .u64 (IntKind.wrap .u32 (n : Int))) (IntKind.wrap .u64 (IntKind.wrap .u32 (m : Int)))))) := e
  rw [w32n (fn rfl), w32n (fm rfl)] at e
  have hn' := fn rfl
  have hm' := fm rfl
  have hg : dz (IntKind.wrap .u64 (IntKind.wrap .u32 (m : Int))) = 0 := hg
  rw [w32n (fm rfl)] at hg
  have h0 := dz_ne hg
  refine ⟨by omega, ?_⟩
  unfold uq at e
  rw [if_neg h0, arQuo (n : Int) m (by omega) (by omega) (by omega)] at e
  have e2 : ((n : Int) / (m : Int)) = ((n / m : Nat) : Int) := by rw [Int.natCast_ediv]
  rw [e2, wrap_u32, wrap_u64] at e
  have h9 := Nat.div_le_self n m
  show v = n / m
  clear e2
  generalize n / m = x at *
  omega)

def f111_ : Int → Int → Int := fun a b => (IntKind.wrap .u64 (IntKind.wrap .u32 (dr (IntKind.wrap .u64 (IntKind.wrap .u32 b)) (IntKind.wrap .i64 (IntKind.wrap .i32 (IntKind.wrap .u64 (IntKind.wrap .u32 a)))) (IntKind.wrap .i64 (IntKind.wrap .i32 (IntKind.wrap .u64 (IntKind.wrap .u32 b)))))))
def g111_ : Int → Int → Int := fun a b => (dz (IntKind.wrap .u64 (IntKind.wrap .u32 b)))

theorem val_111 : Val 111 127 f111_ g111_ := ⟨fun a b ha hb => q10_111 a b, fun a b ha hb _ => fin32 _⟩

theorem bin_111 : BinFin 111 127 127 f111_ g111_ := arith_127 (fun _ _ _ => True) q14_111 val_111 (q31_o 111 (by decide)) (by decide) (fun h h2 _ _ => rec_5_127 h h2 _) (fun n m v hn hm fn fm e hg => trivial)

def f112_ : Int → Int → Int := fun a b => (IntKind.wrap .u64 (IntKind.wrap .u32 (ur (IntKind.wrap .u64 (IntKind.wrap .u32 a)) (IntKind.wrap .u64 (IntKind.wrap .u32 b)))))
def g112_ : Int → Int → Int := fun a b => (dz (IntKind.wrap .u64 (IntKind.wrap .u32 b)))

theorem val_112 : Val 112 127 f112_ g112_ := ⟨fun a b ha hb => q10_112 a b, fun a b ha hb _ => fin32 _⟩

theorem bin_112 : BinFin 112 127 127 f112_ g112_ := arith_127 (fun n m v => m ≠ 0 ∧ v = n % m) q14_112 val_112 (q31_o 112 (by decide)) (by decide) (fun h h2 hT hT2 => rec_6_127 h h2 hT hT2) (fun n m v hn hm fn fm e hg => by
  have e : (v : Int) = (IntKind.wrap .u64 (IntKind.wrap .u32 (ur (IntKind.wrap .u64 (IntKind.wrap .u32 (n : Int))) (IntKind.wrap .u64 (IntKind.wrap .u32 (m : Int)))))) := e
  rw [w32n (fn rfl), w32n (fm rfl)] at e
  have hn' := fn rfl
  have hm' := fm rfl
  have hg : dz (IntKind.wrap .u64 (IntKind.wrap .u32 (m : Int))) = 0 := hg
  rw [w32n (fm rfl)] at hg
  have h0 := dz_ne hg
  refine ⟨by omega, ?_⟩
  unfold ur at e
  rw [if_neg h0, arRem (n : Int) m (by omega)] at e
  have e2 : ((n : Int) % (m : Int)) = ((n % m : Nat) : Int) := by rw [Int.natCast_emod]
  rw [e2, wrap_u32, wrap_u64] at e
  have h9 := Nat.mod_le n m
  show v = n % m
  clear e2
  generalize n % m = x at *
  omega)

def f113_ : Int → Int → Int := fun a b => (IntKind.wrap .u64 (IntKind.wrap .u32 (arI .and .u64 (IntKind.wrap .u64 (IntKind.wrap .u32 a)) (IntKind.wrap .u64 (IntKind.wrap .u32 b)))))
def g113_ : Int → Int → Int := fun a b => 0

theorem val_113 : Val 113 127 f113_ g113_ := ⟨fun a b ha hb => q10_113 a b, fun a b ha hb _ => fin32 _⟩

theorem bin_113 : BinFin 113 127 127 f113_ g113_ := arith_127 (fun n m v => v = n &&& m) q14_113 val_113 (q31_o 113 (by decide)) (by decide) (fun h h2 hT hT2 => rec_7_127 h h2 hT hT2) (fun n m v hn hm fn fm e hg => by
  have e : (v : Int) = (IntKind.wrap .u64 (IntKind.wrap .u32 (arI .and .u64 (IntKind.wrap .u64 (IntKind.wrap .u32 (n : Int))) (IntKind.wrap .u64 (IntKind.wrap .u32 (m : Int)))))) := e
  rw [w32n (fn rfl), w32n (fm rfl)] at e
  have hn' := fn rfl
  have hm' := fm rfl
  rw [band n m hn hm] at e
  rw [w32n (Nat.lt_of_le_of_lt Nat.and_le_left hn')] at e
  exact nat_of e)

def f114_ : Int → Int → Int := fun a b => (IntKind.wrap .u64 (IntKind.wrap .u32 (arI .or .u64 (IntKind.wrap .u64 (IntKind.wrap .u32 a)) (IntKind.wrap .u64 (IntKind.wrap .u32 b)))))
def g114_ : Int → Int → Int := fun a b => 0

theorem val_114 : Val 114 127 f114_ g114_ := ⟨fun a b ha hb => q10_114 a b, fun a b ha hb _ => fin32 _⟩

theorem bin_114 : BinFin 114 127 127 f114_ g114_ := arith_127 (fun n m v => v = n ||| m) q14_114 val_114 (q31_o 114 (by decide)) (by decide) (fun h h2 hT hT2 => rec_8_127 h h2 hT hT2) (fun n m v hn hm fn fm e hg => by
  have e : (v : Int) = (IntKind.wrap .u64 (IntKind.wrap .u32 (arI .or .u64 (IntKind.wrap .u64 (IntKind.wrap .u32 (n : Int))) (IntKind.wrap .u64 (IntKind.wrap .u32 (m : Int)))))) := e
  rw [w32n (fn rfl), w32n (fm rfl)] at e
  have hn' := fn rfl
  have hm' := fm rfl
  rw [bor n m hn hm] at e
  rw [w32n (Nat.or_lt_two_pow hn' hm')] at e
  exact nat_of e)

def f115_ : Int → Int → Int := fun a b => (IntKind.wrap .u64 (IntKind.wrap .u32 (arI .xor .u64 (IntKind.wrap .u64 (IntKind.wrap .u32 a)) (IntKind.wrap .u64 (IntKind.wrap .u32 b)))))
def g115_ : Int → Int → Int := fun a b => 0

theorem val_115 : Val 115 127 f115_ g115_ := ⟨fun a b ha hb => q10_115 a b, fun a b ha hb _ => fin32 _⟩

theorem bin_115 : BinFin 115 127 127 f115_ g115_ := arith_127 (fun n m v => v = n ^^^ m) q14_115 val_115 (q31_o 115 (by decide)) (by decide) (fun h h2 hT hT2 => rec_9_127 h h2 hT hT2) (fun n m v hn hm fn fm e hg => by
  have e : (v : Int) = (IntKind.wrap .u64 (IntKind.wrap .u32 (arI .xor .u64 (IntKind.wrap .u64 (IntKind.wrap .u32 (n : Int))) (IntKind.wrap .u64 (IntKind.wrap .u32 (m : Int)))))) := e
  rw [w32n (fn rfl), w32n (fm rfl)] at e
  have hn' := fn rfl
  have hm' := fm rfl
  rw [bxor n m hn hm] at e
  rw [w32n (Nat.xor_lt_two_pow hn' hm')] at e
  exact nat_of e)

def f116_ : Int → Int → Int := fun a b => (IntKind.wrap .u64 (IntKind.wrap .u32 (arI .shl .u64 (IntKind.wrap .u64 (IntKind.wrap .u32 a)) (arI .rem .u64 (IntKind.wrap .u64 (IntKind.wrap .u32 b)) (32 : Int)))))
def g116_ : Int → Int → Int := fun a b => 0

theorem val_116 : Val 116 127 f116_ g116_ := ⟨fun a b ha hb => q10_116 a b, fun a b ha hb _ => fin32 _⟩

theorem bin_116 : BinFin 116 127 127 f116_ g116_ := arith_127 (fun n m v => v = n * 2 ^ (m % 32) % 2 ^ 32) q14_116 val_116 (q31_o 116 (by decide)) (by decide) (fun h h2 hT hT2 => rec_10_127 h h2 hT hT2) (fun n m v hn hm fn fm e hg => by
  have e : (v : Int) = (IntKind.wrap .u64 (IntKind.wrap .u32 (arI .shl .u64 (IntKind.wrap .u64 (IntKind.wrap .u32 (n : Int))) (arI .rem .u64 (IntKind.wrap .u64 (IntKind.wrap .u32 (m : Int))) (32 : Int))))) := e
  rw [w32n (fn rfl), w32n (fm rfl)] at e
  have hn' := fn rfl
  have hm' := fm rfl
  rw [show (32 : Int) = ((32 : Nat) : Int) from rfl, rem_nat, shl_nat _ _ (by omega)] at e
  rw [wrap_u32, wrap_u64] at e
  show v = _
  generalize hkk : m % 32 = kk at *
  have h3 := pow_mod_le (x := n * 2 ^ kk)
  generalize n * 2 ^ kk = x at *; omega)

def f117_ : Int → Int → Int := fun a b => (IntKind.wrap .u64 (IntKind.wrap .u32 (IntKind.wrap .u64 (arI .shr .i64 (IntKind.wrap .i64 (IntKind.wrap .i32 (IntKind.wrap .u64 (IntKind.wrap .u32 a)))) (arI .rem .u64 (IntKind.wrap .u64 (IntKind.wrap .u32 b)) (32 : Int))))))
def g117_ : Int → Int → Int := fun a b => 0

theorem val_117 : Val 117 127 f117_ g117_ := ⟨fun a b ha hb => q10_117 a b, fun a b ha hb _ => fin32 _⟩

theorem bin_117 : BinFin 117 127 127 f117_ g117_ := arith_127 (fun _ _ _ => True) q14_117 val_117 (q31_o 117 (by decide)) (by decide) (fun h h2 _ _ => rec_11_127 h h2 _) (fun n m v hn hm fn fm e hg => trivial)

def f118_ : Int → Int → Int := fun a b => (IntKind.wrap .u64 (IntKind.wrap .u32 (arI .shr .u64 (IntKind.wrap .u64 (IntKind.wrap .u32 a)) (arI .rem .u64 (IntKind.wrap .u64 (IntKind.wrap .u32 b)) (32 : Int)))))
def g118_ : Int → Int → Int := fun a b => 0

theorem val_118 : Val 118 127 f118_ g118_ := ⟨fun a b ha hb => q10_118 a b, fun a b ha hb _ => fin32 _⟩

theorem bin_118 : BinFin 118 127 127 f118_ g118_ := arith_127 (fun n m v => v = n / 2 ^ (m % 32)) q14_118 val_118 (q31_o 118 (by decide)) (by decide) (fun h h2 hT hT2 => rec_12_127 h h2 hT hT2) (fun n m v hn hm fn fm e hg => by
  have e : (v : Int) = (IntKind.wrap .u64 (IntKind.wrap .u32 (arI .shr .u64 (IntKind.wrap .u64 (IntKind.wrap .u32 (n : Int))) (arI .rem .u64 (IntKind.wrap .u64 (IntKind.wrap .u32 (m : Int))) (32 : Int))))) := e
  rw [w32n (fn rfl), w32n (fm rfl)] at e
  have hn' := fn rfl
  have hm' := fm rfl
  rw [show (32 : Int) = ((32 : Nat) : Int) from rfl, rem_nat, shr_nat _ _ (by omega)] at e
  rw [wrap_u32, wrap_u64] at e
  show v = _
  generalize hkk : m % 32 = kk at *
  have := Nat.div_le_self n (2 ^ kk)
  generalize n / 2 ^ kk = x at *; omega)

def f119_ : Int → Int → Int := fun a b => (IntKind.wrap .u64 (IntKind.wrap .u32 (arI .or .u64 (arI .shl .u64 (IntKind.wrap .u64 (IntKind.wrap .u32 a)) (arI .rem .u64 (IntKind.wrap .u64 (IntKind.wrap .u32 b)) (32 : Int))) (arI .shr .u64 (IntKind.wrap .u64 (IntKind.wrap .u32 a)) (arI .sub .u64 (32 : Int) (arI .rem .u64 (IntKind.wrap .u64 (IntKind.wrap .u32 b)) (32 : Int)))))))
def g119_ : Int → Int → Int := fun a b => 0

theorem val_119 : Val 119 127 f119_ g119_ := ⟨fun a b ha hb => q10_119 a b, fun a b ha hb _ => fin32 _⟩

theorem bin_119 : BinFin 119 127 127 f119_ g119_ := arith_127 (fun _ _ _ => True) q14_119 val_119 (q31_o 119 (by decide)) (by decide) (fun h h2 _ _ => rec_13_127 h h2 _) (fun n m v hn hm fn fm e hg => trivial)

def f120_ : Int → Int → Int := fun a b => (IntKind.wrap .u64 (IntKind.wrap .u32 (arI .or .u64 (arI .shr .u64 (IntKind.wrap .u64 (IntKind.wrap .u32 a)) (arI .rem .u64 (IntKind.wrap .u64 (IntKind.wrap .u32 b)) (32 : Int))) (arI .shl .u64 (IntKind.wrap .u64 (IntKind.wrap .u32 a)) (arI .sub .u64 (32 : Int) (arI .rem .u64 (IntKind.wrap .u64 (IntKind.wrap .u32 b)) (32 : Int)))))))
def g120_ : Int → Int → Int := fun a b => 0

theorem val_120 : Val 120 127 f120_ g120_ := ⟨fun a b ha hb => q10_120 a b, fun a b ha hb _ => fin32 _⟩

theorem bin_120 : BinFin 120 127 127 f120_ g120_ := arith_127 (fun _ _ _ => True) q14_120 val_120 (q31_o 120 (by decide)) (by decide) (fun h h2 _ _ => rec_14_127 h h2 _) (fun n m v hn hm fn fm e hg => trivial)

def f124_ : Int → Int → Int := fun a b => (arI .add .u64 a b)
def g124_ : Int → Int → Int := fun a b => 0

theorem val_124 : Val 124 126 f124_ g124_ := ⟨fun a b ha hb => q10_124 a b, fun a b ha hb _ => fin64 (wrap_in _)⟩

theorem bin_124 : BinFin 124 126 126 f124_ g124_ := arith_126 (fun n m v => (v : Int) = ((n : Int) + m) % 2 ^ 64) q14_124 val_124 (q31_o 124 (by decide)) (by decide) (fun h h2 hT hT2 => rec_0_126 h h2 hT hT2) (fun n m v hn hm fn fm e hg => by
  have e : (v : Int) = (arI .add .u64 (n : Int) (m : Int)) := e
  rw [arAdd] at e
  show (v : Int) = _; omega)

def f125_ : Int → Int → Int := fun a b => (arI .sub .u64 a b)
def g125_ : Int → Int → Int := fun a b => 0

theorem val_125 : Val 125 126 f125_ g125_ := ⟨fun a b ha hb => q10_125 a b, fun a b ha hb _ => fin64 (wrap_in _)⟩

theorem bin_125 : BinFin 125 126 126 f125_ g125_ := arith_126 (fun n m v => (v : Int) = ((n : Int) - m) % 2 ^ 64) q14_125 val_125 (q31_o 125 (by decide)) (by decide) (fun h h2 hT hT2 => rec_1_126 h h2 hT hT2) (fun n m v hn hm fn fm e hg => by
  have e : (v : Int) = (arI .sub .u64 (n : Int) (m : Int)) := e
  rw [arSub] at e
  show (v : Int) = _; omega)

def f126_ : Int → Int → Int := fun a b => (arI .mul .u64 a b)
def g126_ : Int → Int → Int := fun a b => 0

theorem val_126 : Val 126 126 f126_ g126_ := ⟨fun a b ha hb => q10_126 a b, fun a b ha hb _ => fin64 (wrap_in _)⟩

theorem bin_126 : BinFin 126 126 126 f126_ g126_ := arith_126 (fun n m v => (v : Int) = ((n : Int) * m) % 2 ^ 64) q14_126 val_126 (q31_o 126 (by decide)) (by decide) (fun h h2 hT hT2 => rec_2_126 h h2 hT hT2) (fun n m v hn hm fn fm e hg => by
  have e : (v : Int) = (arI .mul .u64 (n : Int) (m : Int)) := e
  rw [arMul] at e
  show (v : Int) = _
  generalize (n : Int) * m = x at *; omega)

def f127_ : Int → Int → Int := fun a b => (dq b (IntKind.wrap .i64 a) (IntKind.wrap .i64 b) (-9223372036854775808))
def g127_ : Int → Int → Int := fun a b => (dt b (IntKind.wrap .i64 a) (IntKind.wrap .i64 b) (-9223372036854775808))

theorem val_127 : Val 127 126 f127_ g127_ := ⟨fun a b ha hb => q10_127 a b hb.1 hb.2, fun a b ha hb _ => fin64 (dq_in _ _ _ _)⟩

theorem bin_127 : BinFin 127 126 126 f127_ g127_ := arith_126 (fun _ _ _ => True) q14_127 val_127 (q31_o 127 (by decide)) (by decide) (fun h h2 _ _ => rec_3_126 h h2 _) (fun n m v hn hm fn fm e hg => trivial)

def f128_ : Int → Int → Int := fun a b => (uq a b)
def g128_ : Int → Int → Int := fun a b => (dz b)

theorem val_128 : Val 128 126 f128_ g128_ := ⟨fun a b ha hb => q10_128 a b hb.1 hb.2, fun a b ha hb _ => fin64 (quo_in ha hb)⟩

theorem bin_128 : BinFin 128 126 126 f128_ g128_ := arith_126 (fun n m v => m ≠ 0 ∧ v = n / m) q14_128 val_128 (q31_o 128 (by decide)) (by decide) (fun h h2 hT hT2 => rec_4_126 h h2 hT hT2) (fun n m v hn hm fn fm e hg => by
  have e : (v : Int) = (uq (n : Int) (m : Int)) := e
  have hg : dz (m : Int) = 0 := hg
  have h0 := dz_ne hg
  refine ⟨by omega, ?_⟩
  unfold uq at e
  rw [if_neg h0, arQuo (n : Int) m (by omega) (by omega) (by omega)] at e
  have e2 : ((n : Int) / (m : Int)) = ((n / m : Nat) : Int) := by rw [Int.natCast_ediv]
  rw [e2] at e
  have h9 := Nat.div_le_self n m
  show v = n / m
  clear e2
  generalize n / m = x at *
  omega)

def f129_ : Int → Int → Int := fun a b => (dr b (IntKind.wrap .i64 a) (IntKind.wrap .i64 b))
def g129_ : Int → Int → Int := fun a b => (dz b)

theorem val_129 : Val 129 126 f129_ g129_ := ⟨fun a b ha hb => q10_129 a b hb.1 hb.2, fun a b ha hb _ => fin64 (dr_in _ _ _)⟩

theorem bin_129 : BinFin 129 126 126 f129_ g129_ := arith_126 (fun _ _ _ => True) q14_129 val_129 (q31_o 129 (by decide)) (by decide) (fun h h2 _ _ => rec_5_126 h h2 _) (fun n m v hn hm fn fm e hg => trivial)

def f130_ : Int → Int → Int := fun a b => (ur a b)
def g130_ : Int → Int → Int := fun a b => (dz b)

theorem val_130 : Val 130 126 f130_ g130_ := ⟨fun a b ha hb => q10_130 a b hb.1 hb.2, fun a b ha hb _ => fin64 (rem_in ha hb)⟩

theorem bin_130 : BinFin 130 126 126 f130_ g130_ := arith_126 (fun n m v => m ≠ 0 ∧ v = n % m) q14_130 val_130 (q31_o 130 (by decide)) (by decide) (fun h h2 hT hT2 => rec_6_126 h h2 hT hT2) (fun n m v hn hm fn fm e hg => by
  have e : (v : Int) = (ur (n : Int) (m : Int)) := e
  have hg : dz (m : Int) = 0 := hg
  have h0 := dz_ne hg
  refine ⟨by omega, ?_⟩
  unfold ur at e
  rw [if_neg h0, arRem (n : Int) m (by omega)] at e
  have e2 : ((n : Int) % (m : Int)) = ((n % m : Nat) : Int) := by rw [Int.natCast_emod]
  rw [e2] at e
  have h9 := Nat.mod_le n m
  show v = n % m
  clear e2
  generalize n % m = x at *
  omega)

def f131_ : Int → Int → Int := fun a b => (arI .and .u64 a b)
def g131_ : Int → Int → Int := fun a b => 0

theorem val_131 : Val 131 126 f131_ g131_ := ⟨fun a b ha hb => q10_131 a b, fun a b ha hb _ => fin64 (wrap_in _)⟩

theorem bin_131 : BinFin 131 126 126 f131_ g131_ := arith_126 (fun n m v => v = n &&& m) q14_131 val_131 (q31_o 131 (by decide)) (by decide) (fun h h2 hT hT2 => rec_7_126 h h2 hT hT2) (fun n m v hn hm fn fm e hg => by
  have e : (v : Int) = (arI .and .u64 (n : Int) (m : Int)) := e
  rw [band n m hn hm] at e
  exact nat_of e)

def f132_ : Int → Int → Int := fun a b => (arI .or .u64 a b)
def g132_ : Int → Int → Int := fun a b => 0

theorem val_132 : Val 132 126 f132_ g132_ := ⟨fun a b ha hb => q10_132 a b, fun a b ha hb _ => fin64 (wrap_in _)⟩

theorem bin_132 : BinFin 132 126 126 f132_ g132_ := arith_126 (fun n m v => v = n ||| m) q14_132 val_132 (q31_o 132 (by decide)) (by decide) (fun h h2 hT hT2 => rec_8_126 h h2 hT hT2) (fun n m v hn hm fn fm e hg => by
  have e : (v : Int) = (arI .or .u64 (n : Int) (m : Int)) := e
  rw [bor n m hn hm] at e
  exact nat_of e)

def f133_ : Int → Int → Int := fun a b => (arI .xor .u64 a b)
def g133_ : Int → Int → Int := fun a b => 0

theorem val_133 : Val 133 126 f133_ g133_ := ⟨fun a b ha hb => q10_133 a b, fun a b ha hb _ => fin64 (wrap_in _)⟩

theorem bin_133 : BinFin 133 126 126 f133_ g133_ := arith_126 (fun n m v => v = n ^^^ m) q14_133 val_133 (q31_o 133 (by decide)) (by decide) (fun h h2 hT hT2 => rec_9_126 h h2 hT hT2) (fun n m v hn hm fn fm e hg => by
  have e : (v : Int) = (arI .xor .u64 (n : Int) (m : Int)) := e
  rw [bxor n m hn hm] at e
  exact nat_of e)

def f134_ : Int → Int → Int := fun a b => (arI .shl .u64 a (arI .rem .u64 b (64 : Int)))
def g134_ : Int → Int → Int := fun a b => 0

theorem val_134 : Val 134 126 f134_ g134_ := ⟨fun a b ha hb => q10_134 a b hb.1, fun a b ha hb _ => fin64 (wrap_in _)⟩

theorem bin_134 : BinFin 134 126 126 f134_ g134_ := arith_126 (fun n m v => v = n * 2 ^ (m % 64) % 2 ^ 64) q14_134 val_134 (q31_o 134 (by decide)) (by decide) (fun h h2 hT hT2 => rec_10_126 h h2 hT hT2) (fun n m v hn hm fn fm e hg => by
  have e : (v : Int) = (arI .shl .u64 (n : Int) (arI .rem .u64 (m : Int) (64 : Int))) := e
  rw [show (64 : Int) = ((64 : Nat) : Int) from rfl, rem_nat, shl_nat _ _ (by omega)] at e
  exact nat_of e)

def f135_ : Int → Int → Int := fun a b => (IntKind.wrap .u64 (arI .shr .i64 (IntKind.wrap .i64 a) (arI .rem .u64 b (64 : Int))))
def g135_ : Int → Int → Int := fun a b => 0

theorem val_135 : Val 135 126 f135_ g135_ := ⟨fun a b ha hb => q10_135 a b hb.1, fun a b ha hb _ => fin64 (wrap_in _)⟩

theorem bin_135 : BinFin 135 126 126 f135_ g135_ := arith_126 (fun _ _ _ => True) q14_135 val_135 (q31_o 135 (by decide)) (by decide) (fun h h2 _ _ => rec_11_126 h h2 _) (fun n m v hn hm fn fm e hg => trivial)

def f136_ : Int → Int → Int := fun a b => (arI .shr .u64 a (arI .rem .u64 b (64 : Int)))
def g136_ : Int → Int → Int := fun a b => 0

theorem val_136 : Val 136 126 f136_ g136_ := ⟨fun a b ha hb => q10_136 a b hb.1, fun a b ha hb _ => fin64 (shr_in ha hb)⟩

theorem bin_136 : BinFin 136 126 126 f136_ g136_ := arith_126 (fun n m v => v = n / 2 ^ (m % 64)) q14_136 val_136 (q31_o 136 (by decide)) (by decide) (fun h h2 hT hT2 => rec_12_126 h h2 hT hT2) (fun n m v hn hm fn fm e hg => by
  have e : (v : Int) = (arI .shr .u64 (n : Int) (arI .rem .u64 (m : Int) (64 : Int))) := e
  rw [show (64 : Int) = ((64 : Nat) : Int) from rfl, rem_nat, shr_nat _ _ (by omega)] at e
  exact nat_of e)

def f137_ : Int → Int → Int := fun a b => (arI .or .u64 (arI .shl .u64 a (arI .rem .u64 b (64 : Int))) (arI .shr .u64 a (arI .sub .u64 (64 : Int) (arI .rem .u64 b (64 : Int)))))
def g137_ : Int → Int → Int := fun a b => 0

theorem val_137 : Val 137 126 f137_ g137_ := ⟨fun a b ha hb => q10_137 a b hb.1, fun a b ha hb _ => fin64 (wrap_in _)⟩

theorem bin_137 : BinFin 137 126 126 f137_ g137_ := arith_126 (fun _ _ _ => True) q14_137 val_137 (q31_o 137 (by decide)) (by decide) (fun h h2 _ _ => rec_13_126 h h2 _) (fun n m v hn hm fn fm e hg => trivial)

def f138_ : Int → Int → Int := fun a b => (arI .or .u64 (arI .shr .u64 a (arI .rem .u64 b (64 : Int))) (arI .shl .u64 a (arI .sub .u64 (64 : Int) (arI .rem .u64 b (64 : Int)))))
def g138_ : Int → Int → Int := fun a b => 0

theorem val_138 : Val 138 126 f138_ g138_ := ⟨fun a b ha hb => q10_138 a b hb.1, fun a b ha hb _ => fin64 (wrap_in _)⟩

theorem bin_138 : BinFin 138 126 126 f138_ g138_ := arith_126 (fun _ _ _ => True) q14_138 val_138 (q31_o 138 (by decide)) (by decide) (fun h h2 _ _ => rec_14_126 h h2 _) (fun n m v hn hm fn fm e hg => trivial)
end Go.Proofs.YtlnikilodakjmaaDoor.DTransTight
