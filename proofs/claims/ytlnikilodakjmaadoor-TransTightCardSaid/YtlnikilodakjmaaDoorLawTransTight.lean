/-
  TransTight: for every input the law returns true, and each argument reads behind the call as it read before. Its one condition: the listed package-level variables of Go's library read as the program's text lays them (the card ties them). The code is carried out as its tree of tests tells (Sx, XTransTight); the plain law is YTransTight.
-/
import Derived.Test.YtlnikilodakjmaaDoorRows
import Derived.Test.YtlnikilodakjmaaDoorYTransTight
import Derived.Test.YtlnikilodakjmaaDoorSo
import Derived.WalkKit
import Derived.ProofKit
import Derived.OpenShut
import Derived.ShutString
import Derived.ChangeOld
import Derived.Below
import Derived.SizedLaws
import Derived.Test.YtlnikilodakjmaaDoorTie
import Derived.Test.YtlnikilodakjmaaDoorCards
import Derived.Test.YtlnikilodakjmaaDoorTabt
import Derived.LaidMore
import Derived.Stop.Joined
import Derived.SevenTiedAt
namespace Go.Proofs.YtlnikilodakjmaaDoor.LTransTight
open Go.ChangeShapes Go.WideShapes Go.ChangeAt Go.RowKit
open Go.ChangeMaps (open_string shut_string)
set_option linter.unusedVariables false
theorem own : ownKnob Tryd.prog.godebug = none := by kernel_rfl
theorem laidOut : laidOutB Tryd.prog = true := by kernel_rfl
theorem opens24 {H : Type} {enc : TypeId × Value → H} {w : World} {spare : Nat → Bool} {held : Bool} : So.Tells enc Tryd.prog w spare held 24 (fun cs => ∃ (x0 : Int) (x1 : Int), cs = [.int .u64 x0, .int .u64 x1] ∧ (Lit.int .u64 x0).wf = true ∧ (Lit.int .u64 x1).wf = true) := by
  intro fuel cs r h
  have hl := So.struct_len Tryd.underlying24 2 (by kernel_rfl) h
  obtain ⟨x0, e0, h0_0⟩ := So.field Tryd.underlying24 h 0 _ rfl 1 (by kernel_rfl) (So.tells_int Tryd.underlying22)
  obtain ⟨x1, e1, h1_0⟩ := So.field Tryd.underlying24 h 1 _ rfl 1 (by kernel_rfl) (So.tells_int Tryd.underlying22)
  have p0 := So.piece cs 0 1 1 rfl
  replace p0 := p0.trans (congrArg (· ++ cs.drop 1) e0)
  have p1 := So.piece cs 1 1 2 rfl
  replace p1 := p1.trans (congrArg (· ++ cs.drop 2) e1)
  have pe : cs.drop 2 = [] := List.drop_eq_nil_of_le (by omega)
  have hcs : cs = [.int .u64 x0, .int .u64 x1] := by
    have h0 : cs = cs.drop 0 := rfl
    rw [h0, p0, p1, pe]
    rfl
  exact ⟨x0, x1, hcs, h0_0, h1_0⟩
theorem opens26 {H : Type} {enc : TypeId × Value → H} {w : World} {spare : Nat → Bool} {held : Bool} : So.Tells enc Tryd.prog w spare held 26 (fun cs => ∃ (x0 : Int) (x1 : Int), cs = [.int .i64 x0, .int .u64 x1] ∧ (Lit.int .i64 x0).wf = true ∧ (Lit.int .u64 x1).wf = true) := by
  intro fuel cs r h
  have hl := So.struct_len Tryd.underlying26 2 (by kernel_rfl) h
  obtain ⟨x0, e0, h0_0⟩ := So.field Tryd.underlying26 h 0 _ rfl 1 (by kernel_rfl) (So.tells_int Tryd.underlying3)
  obtain ⟨x1, e1, h1_0⟩ := So.field Tryd.underlying26 h 1 _ rfl 1 (by kernel_rfl) (So.tells_int Tryd.underlying22)
  have p0 := So.piece cs 0 1 1 rfl
  replace p0 := p0.trans (congrArg (· ++ cs.drop 1) e0)
  have p1 := So.piece cs 1 1 2 rfl
  replace p1 := p1.trans (congrArg (· ++ cs.drop 2) e1)
  have pe : cs.drop 2 = [] := List.drop_eq_nil_of_le (by omega)
  have hcs : cs = [.int .i64 x0, .int .u64 x1] := by
    have h0 : cs = cs.drop 0 := rfl
    rw [h0, p0, p1, pe]
    rfl
  exact ⟨x0, x1, hcs, h0_0, h1_0⟩
theorem opens28 {H : Type} {enc : TypeId × Value → H} {w : World} {spare : Nat → Bool} {held : Bool} : So.Tells enc Tryd.prog w spare held 28 (fun cs => ∃ (x0 : Int) (x1 : Int) (x2 : Int) (x3 : Int), cs = [.int .u64 x0, .int .u64 x1, .int .i64 x2, .int .u64 x3] ∧ (Lit.int .u64 x0).wf = true ∧ (Lit.int .u64 x1).wf = true ∧ (Lit.int .i64 x2).wf = true ∧ (Lit.int .u64 x3).wf = true) := by
  intro fuel cs r h
  have hl := So.struct_len Tryd.underlying28 4 (by kernel_rfl) h
  obtain ⟨x0, x1, e0, h0_0, h0_1⟩ := So.field Tryd.underlying28 h 0 _ rfl 2 (by kernel_rfl) (opens24 (enc := enc) (w := w) (spare := spare) (held := held))
  obtain ⟨x2, x3, e1, h1_0, h1_1⟩ := So.field Tryd.underlying28 h 1 _ rfl 2 (by kernel_rfl) (opens26 (enc := enc) (w := w) (spare := spare) (held := held))
  have p0 := So.piece cs 0 2 2 rfl
  replace p0 := p0.trans (congrArg (· ++ cs.drop 2) e0)
  have p1 := So.piece cs 2 2 4 rfl
  replace p1 := p1.trans (congrArg (· ++ cs.drop 4) e1)
  have pe : cs.drop 4 = [] := List.drop_eq_nil_of_le (by omega)
  have hcs : cs = [.int .u64 x0, .int .u64 x1, .int .i64 x2, .int .u64 x3] := by
    have h0 : cs = cs.drop 0 := rfl
    rw [h0, p0, p1, pe]
    rfl
  exact ⟨x0, x1, x2, x3, hcs, h0_0, h0_1, h1_0, h1_1⟩
set_option maxRecDepth 100000 in
theorem lifted (os : Os) (started : os.Started) (H : Type) (enc : TypeId × Value → H) :
    ReturnsInHanded {} Tryd.checked os 9 .any (fun w args => (Rows.transTightSpec.pre enc Tryd.prog Tryd.f9 [] false w args ∧ laidMetH Tryd.prog Tabs.laid w) ∧ sizedMet enc Tryd.prog Tryd.f9 (OpenSpec.ofChange Rows.transTightSpec) false w args)
      (Rows.transTightSpec.post enc Tryd.prog Tryd.f9 false true false false) := by
  refine returnsInHanded_of_change_and (C := Tryd.checked) (X := fun w _ => laidMetH Tryd.prog Tabs.laid w) (fun _ _ _ hh h => h.of_heap hh) own started (by kernel_rfl) Tryd.func9
    (ChangeSpec.witness_shaped (enc := enc) (C := Tryd.checked) (os := os) (X := fun w _ => laidMetH Tryd.prog Tabs.laid w) false (World.doorLaid Tryd.prog 400 os) #[.int .i64 0, .agg #[.int .u64 0, .int .u64 0, .int .i64 0, .int .u64 0], .agg #[.int .u64 0, .int .u64 0, .int .i64 0, .int .u64 0]] 8 rfl (World.shaped_of_RefB (by kernel_rfl) (by kernel_rfl)) (by kernel_rfl) (by kernel_rfl) (by kernel_rfl) (Tabs.door_met os _)) ?_
  intro W base args ds gs before hval0 hW _ hsz0 hLaid _
  have hval : ∀ (j : Nat) t v, Tryd.f9.params[j]? = some t → args[j]? = some v → Value.okWide Tryd.prog W .any base t v := hval0
  have hW' := hW
  obtain ⟨p, q, hA0, hV, rfl, hfz, hnd⟩ := hW
  have hA : DataW.TrodAll enc Tryd.prog W 0 (fun _ => true) true Tryd.f9.params.toList args.toList ds p := hA0
  rw [Tryd.params9] at hA hval
  obtain ⟨v0, vs0, d0, ds0, p0, q0, hargs, rfl, rfl, h0, r0⟩ := trodAll_cons hA
  obtain ⟨v1, vs1, d1, ds1, p1, q1, rfl, rfl, rfl, h1, r1⟩ := trodAll_cons r0
  obtain ⟨v2, vs2, d2, ds2, p2, q2, rfl, rfl, rfl, h2, r2⟩ := trodAll_cons r1
  obtain ⟨rfl, rfl, rfl⟩ := trodAll_nil r2
  obtain rfl : args = #[v0, v1, v2] := by cases args; simp_all
  obtain ⟨rfl, rfl⟩ := trodVars_none hV
  obtain ⟨a0, rfl, rfl, rfl, w0⟩ := open_int Tryd.underlying3 (hval 0 3 v0 rfl rfl) h0
  obtain ⟨cs1, rfl, _⟩ := okWide_struct Tryd.underlying28 (hval 1 28 v1 rfl rfl)
  have k1 := h1
  have lt1 : ∀ x ∈ p1, x.block < W.heap.size := by obtain ⟨m, hm⟩ := k1; exact DataW.trod_lt m _ _ _ hm
  obtain ⟨fu1, hf1⟩ := h1
  obtain ⟨a1_0, a1_1, a1_2, a1_3, he1, w1_0, w1_1, w1_2, w1_3⟩ := opens28 _ _ _ hf1
  obtain rfl := So.agg_of he1
  obtain ⟨cs2, rfl, _⟩ := okWide_struct Tryd.underlying28 (hval 2 28 v2 rfl rfl)
  have k2 := h2
  have lt2 : ∀ x ∈ p2, x.block < W.heap.size := by obtain ⟨m, hm⟩ := k2; exact DataW.trod_lt m _ _ _ hm
  obtain ⟨fu2, hf2⟩ := h2
  obtain ⟨a2_0, a2_1, a2_2, a2_3, he2, w2_0, w2_1, w2_2, w2_3⟩ := opens28 _ _ _ hf2
  obtain rfl := So.agg_of he2
  clear hA0 hval0 hsz0
  have hp := YTransTight.law a0 a1_0 a1_1 a1_2 a1_3 a2_0 a2_1 a2_2 a2_3 w0 w1_0 w1_1 w1_2 w1_3 w2_0 w2_1 w2_2 w2_3
  have hc : Calls Tryd.prog 9 #[.int .i64 a0, .agg #[.int .u64 a1_0, .int .u64 a1_1, .int .i64 a1_2, .int .u64 a1_3], .agg #[.int .u64 a2_0, .int .u64 a2_1, .int .i64 a2_2, .int .u64 a2_3]] W fun e w' => e = .returned (.bool true) ∧ Below W.heap.size W w' := Sx.Good.calls XTransTight.g9 Tryd.func9 (by kernel_rfl) (by kernel_rfl) rfl hp W (Tabs.of_laid hLaid)
  refine hc.mono fun e W' ⟨he, bel⟩ => ?_
  subst he
  exact ⟨_, rfl, _, _, _, [], _, [], hW', trodAll_mk1 (shut_bool Tryd.underlying4 _), (trodAll_cons_mk (shut_int Tryd.underlying3 w0) (trodAll_cons_mk (Below.trod laidOut (by kernel_rfl) (of_decide_eq_true (by kernel_rfl)) k1 bel lt1) (trodAll_cons_mk (Below.trod laidOut (by kernel_rfl) (of_decide_eq_true (by kernel_rfl)) k2 bel lt2) trodAll_mk0))), rfl, bel.frame _, fun h => by cases h⟩
theorem over : Rows.transTightRow.holds Tryd.pinned (OpenSpec.ofChange Rows.transTightSpec) :=
  OpenClaim.holds_of_wide 9 Tryd.f9 rfl rfl rfl rfl rfl rfl rfl ⟨rfl, rfl, rfl, rfl, rfl⟩ rfl rfl rfl rfl rfl (by kernel_rfl) Tryd.func9 (by kernel_rfl)
    (of_decide_eq_true (by kernel_rfl)) (by unfold Func.isWrapper; first | (rw [if_pos (by decide +kernel)]; kernel_rfl) | (rw [if_neg (by decide +kernel)]; exact ⟨rfl, rfl⟩))
    (fun os started H enc _ => lifted os started H enc)
theorem card_proved : Rows.TransTightCardSaid :=
  Claim7.holds_tied_plain_at .later [] [.data, .data] true (true, "d1117134a5d19c6bb35c68d3984a275dd308a0fa39aae4eb87d9feb9ac77c461") false over (fun _ h => by cases h) (by kernel_rfl) (fun _ h => by cases h) transTight_row_tie rfl ⟨rfl, rfl⟩ (by kernel_rfl) rfl
    (fun f fn hf hfn => by
      obtain rfl : f = 9 := Option.some.inj ((show Tryd.prog.funcNamed "trammel/trammellaw19.TransTight" = some 9 by kernel_rfl).symm.trans hf) |>.symm
      obtain rfl : fn = Tryd.f9 := (Option.some.inj (Tryd.func9.symm.trans hfn)).symm
      exact ⟨by kernel_rfl, fun j t ht => by
        rw [Tryd.params9] at ht
        have hm : t ∈ [3, 28, 28] := by simpa using Array.mem_of_getElem? ht
        have hall : ([3, 28, 28].all fun u => !Tryd.prog.wantsStandIn u) = true := by kernel_rfl
        exact (show Tryd.prog.wantsStandIn t = false by simpa using List.all_eq_true.1 hall t hm)⟩)
    (by kernel_rfl)
#print axioms card_proved
end Go.Proofs.YtlnikilodakjmaaDoor.LTransTight
namespace Go.Proofs.YtlnikilodakjmaaDoor
/-- The card, under a short name, for the claim. -/
theorem transTight_card_holds : Rows.TransTightCardSaid := LTransTight.card_proved
end Go.Proofs.YtlnikilodakjmaaDoor
