/-
  What num.Un and num.Bin answer, as it was told over Sx.
-/
import Derived.Test.YtghekmcdokgkkaaDoorVx
import Derived.Test.YtghekmcdokgkkaaDoorProg
import Derived.Test.YtghekmcdokgkkaaDoorYNumWidth
namespace Go.Proofs.YtghekmcdokgkkaaDoor.ENumDoes
set_option linter.all false
open Go.Proofs.YtghekmcdokgkkaaDoor.Vx
theorem hr_more {v : Env} {c : Cx} {w : World} (h : HR v [] [] c w) (i : List Int) (b : List Bool) : HR ⟨v.p, i, b, [], v.x, v.f⟩ [] [] c w :=
  ⟨h.ln, h.nd, fun _ _ i cs hc => by simp at hc, h.ge, h.bel, h.nx, fun k xi hk => by simp at hk, fun k xi hk => by simp at hk, h.fz, h.f0, h.fd, h.pf, fun k g hg => by simp [ownAt] at hg⟩
theorem entered {f : Nat} {fn : Func} (hf : Tryd.prog.funcs[f]? = some fn) (hb : fn.body.isSome = true) (hn : (fn.name == "runtime.NumGoroutine") = false) (args : Array Value) (w : World) : (callFunc f args).run Tryd.prog w = .ok (.enter f args) w := by
  have hn' : ¬ fn.name = "runtime.NumGoroutine" := by simpa using hn
  obtain ⟨c, hc⟩ := Option.isSome_iff_exists.1 hb
  simp [callFunc, hf, hn', hc]
def s10 : Sig := ⟨[.v (.i .i64), .v (.i .u64), .v (.i .u64)], [.v (.i .u64), .v (.i .i64), .v .b]⟩
def F10 : Vx.Fn := fun is bs ls => match is, bs, ls with
  | [o, a, b], [], [] => match XNumWidth.F10 [o, a, b] [] with
    | some ([n, t], [ok]) => some ([n, t], [ok], [])
    | _ => none
  | _, _, _ => none
theorem g10 : Vx.Good Tryd.prog Tabs.Tabs 10 s10 F10 := by
  intro v w r hi hbb hl hH hI hF
  have hi : v.i.length = 3 := hi
  have hb0 := List.eq_nil_of_length_eq_zero (show v.b.length = 0 from hbb)
  have hl0 := List.eq_nil_of_length_eq_zero (show v.l.length = 0 from hl)
  obtain ⟨o, a, b, hx⟩ : ∃ o a b, v.i = [o, a, b] := by
    match v.i, hi with
    | [o, a, b], _ => exact ⟨o, a, b, rfl⟩
  rw [hx, hb0, hl0] at hF
  simp only [F10] at hF
  split at hF
  · rename_i n t ok he
    cases hF
    have hargs : ((newV s10.a 0 0 0 0).map (S1.den v)).toArray = #[.int .i64 o, .int .u64 a, .int .u64 b] := by
      show #[Value.int .i64 (v.i.getD 0 0), Value.int .u64 (v.i.getD 1 0), Value.int .u64 (v.i.getD 2 0)] = _
      rw [hx]; rfl
    rw [hargs]
    have hent := entered (f := 10) Tryd.func10 (by kernel_rfl) (by kernel_rfl) #[.int .i64 o, .int .u64 a, .int .u64 b] w
    refine ⟨hent, ?_⟩
    have g : Sx.Gives Tryd.prog 10 #[.int .i64 o, .int .u64 a, .int .u64 b] w (.tuple #[.int .u64 n, .int .i64 t, .bool ok]) := XNumWidth.g10 [o, a, b] [] [n, t] [ok] he w hI
    rcases g with ⟨_, g⟩ | g
    · refine g.mono fun e w' ⟨he, bel⟩ => ?_
      subst he
      have hH' : HR v [] [] ⟨w, Mof v (newX (ksOf s10.a) 0), v.f⟩ w := hH
      exact ⟨⟨v.p, [n, t], [ok], [], v.x, v.f⟩, rfl, rfl, rfl, rfl, rfl, rfl, rfl, rfl, hr_more (hH'.bel0 bel) [n, t] [ok]⟩
    · rw [hent] at g; cases g
  · cases hF
def s11 : Sig := ⟨[.v (.i .i64), .v (.i .u64)], [.v (.i .u64), .v .b]⟩
def F11 : Vx.Fn := fun is bs ls => match is, bs, ls with
  | [o, a], [], [] => match XNumWidth.F11 [o, a] [] with
    | some ([n], [ok]) => some ([n], [ok], [])
    | _ => none
  | _, _, _ => none
theorem g11 : Vx.Good Tryd.prog Tabs.Tabs 11 s11 F11 := by
  intro v w r hi hbb hl hH hI hF
  have hi : v.i.length = 2 := hi
  have hb0 := List.eq_nil_of_length_eq_zero (show v.b.length = 0 from hbb)
  have hl0 := List.eq_nil_of_length_eq_zero (show v.l.length = 0 from hl)
  obtain ⟨o, a, hx⟩ : ∃ o a, v.i = [o, a] := by
    match v.i, hi with
    | [o, a], _ => exact ⟨o, a, rfl⟩
  rw [hx, hb0, hl0] at hF
  simp only [F11] at hF
  split at hF
  · rename_i n ok he
    cases hF
    have hargs : ((newV s11.a 0 0 0 0).map (S1.den v)).toArray = #[.int .i64 o, .int .u64 a] := by
      show #[Value.int .i64 (v.i.getD 0 0), Value.int .u64 (v.i.getD 1 0)] = _
      rw [hx]; rfl
    rw [hargs]
    have hent := entered (f := 11) Tryd.func11 (by kernel_rfl) (by kernel_rfl) #[.int .i64 o, .int .u64 a] w
    refine ⟨hent, ?_⟩
    have g : Sx.Gives Tryd.prog 11 #[.int .i64 o, .int .u64 a] w (.tuple #[.int .u64 n, .bool ok]) := XNumWidth.g11 [o, a] [] [n] [ok] he w hI
    rcases g with ⟨_, g⟩ | g
    · refine g.mono fun e w' ⟨he, bel⟩ => ?_
      subst he
      have hH' : HR v [] [] ⟨w, Mof v (newX (ksOf s11.a) 0), v.f⟩ w := hH
      exact ⟨⟨v.p, [n], [ok], [], v.x, v.f⟩, rfl, rfl, rfl, rfl, rfl, rfl, rfl, rfl, hr_more (hH'.bel0 bel) [n] [ok]⟩
    · rw [hent] at g; cases g
  · cases hF
end Go.Proofs.YtghekmcdokgkkaaDoor.ENumDoes
