/-
  Widened an interval has what it had; widened again and again it changes at most twice (of numbers alone).
-/
import Derived.Test.YtaajijommogaoaaPIvlWidensx
import Derived.Test.YtaajijommogaoaaSIvlWidens
namespace Go.Proofs.Ytaajijommogaoaa.Pure
open Go.RowKit Go.Proofs.Ytaajijommogaoaa.PIvlWidens Go.Proofs.YtaajijommogaoaaW.PrintWords Go.Proofs.YtaajijommogaoaaW.PrintLast Go.Proofs.YtaajijommogaoaaW.PrintMore Go.Proofs.Ytaajijommogaoaa.Nums Go.Proofs.Ytaajijommogaoaa.SIvlWidens

theorem is_awake : trammellaw16_awake.f = some true := by decide +kernel
theorem and_top {x : Int} (hx : (Lit.int .u64 x).wf = true) (w : Int) : 0 ≤ Go.bits .and .u64 x (top w) ∧ Go.bits .and .u64 x (top w) ≤ top w := by
  obtain ⟨n, rfl, hn⟩ := wf_u64 hx
  obtain ⟨t, ht, htl⟩ : ∃ t : Nat, top w = (t : Int) ∧ t < 2 ^ 64 := by
    rcases top_or w with h | h
    · exact ⟨4294967295, h, by decide⟩
    · exact ⟨18446744073709551615, h, by decide⟩
  rw [ht, band hn htl]
  have : n &&& t ≤ t := Nat.and_le_right
  omega
theorem rd_wf {l : List Int} (hw : ∀ x ∈ l, (Lit.int .u64 x).wf = true) {i : Int} (h0 : 0 ≤ i) (h1 : i < l.length) : (Lit.int .u64 (rd l i)).wf = true := by
  unfold rd
  rw [List.getD_eq_getElem?_getD, List.getElem?_eq_getElem (by omega)]
  exact hw _ (List.getElem_mem _)

theorem inc2 {i : Nat} (h : i ≤ 100) : wrap64 ((i : Int) + 2) = ((i + 2 : Nat) : Int) := by
  rw [wrap64_id _ (by omega) (by omega)]
  omega
theorem inc1 {i : Nat} (h : i ≤ 100) : wrap64 ((i : Int) + 1) = (i : Int) + 1 := wrap64_id _ (by omega) (by omega)
theorem incc {c : Int} (h0 : 0 ≤ c) (h : c ≤ 100) : wrap64 (c + 1) = c + 1 := wrap64_id _ (by omega) (by omega)
/-- One more step of widening: what it comes to. -/
theorem step_facts {lo hi z1 z2 T : Int} (h0 : 0 ≤ lo) (_h1 : lo ≤ hi) (h2 : hi ≤ T) (y1 : 0 ≤ z1 ∧ z1 ≤ T) (y2 : 0 ≤ z2 ∧ z2 ≤ T) :
    ∃ n1 n2 : Int, (if min z1 z2 < lo then 0 else lo) = n1 ∧ (if max z1 z2 > hi then T else hi) = n2 ∧ 0 ≤ n1 ∧ n1 ≤ lo ∧ hi ≤ n2 ∧ n2 ≤ T ∧ n1 ≤ min z1 z2 ∧ max z1 z2 ≤ n2 ∧ (n1 = lo ∨ (n1 = 0 ∧ lo ≠ 0)) ∧ (n2 = hi ∨ (n2 = T ∧ hi ≠ T)) ∧
      (lo ≤ min z1 z2 → n1 = lo) ∧ (max z1 z2 ≤ hi → n2 = hi) := by
  refine ⟨_, _, rfl, rfl, ?_⟩
  have b1 : 0 ≤ min z1 z2 ∧ min z1 z2 ≤ T ∧ 0 ≤ max z1 z2 ∧ max z1 z2 ≤ T := by omega
  clear y1 y2
  generalize min z1 z2 = m at *
  generalize max z1 z2 = M at *
  by_cases c1 : m < lo <;> by_cases c2 : M > hi <;> (first | rw [if_pos c1] | rw [if_neg c1]) <;> (first | rw [if_pos c2] | rw [if_neg c2]) <;>
    exact ⟨by omega, by omega, by omega, by omega, by omega, by omega, by first | exact .inl rfl | exact .inr ⟨rfl, by omega⟩, by first | exact .inl rfl | exact .inr ⟨rfl, by omega⟩, fun h => by omega, fun h => by omega⟩
/-- What is left of the changes: one for each end that isn't at its last place. -/
theorem left_facts {lo hi n1 n2 T c p q : Int} (_hc : 0 ≤ c) (hp0 : 0 ≤ p) (hq0 : 0 ≤ q) (hp : lo = 0 ∨ 1 ≤ p) (hq : hi = T ∨ 1 ≤ q) (hs : c + p + q ≤ 2) (h1 : n1 = lo ∨ (n1 = 0 ∧ lo ≠ 0)) (h2 : n2 = hi ∨ (n2 = T ∧ hi ≠ T)) (hch : ¬ (n1 = lo ∧ n2 = hi)) :
    ∃ p' q' : Int, 0 ≤ p' ∧ 0 ≤ q' ∧ (n1 = 0 ∨ 1 ≤ p') ∧ (n2 = T ∨ 1 ≤ q') ∧ c + 1 + p' + q' ≤ 2 := by
  rcases h1 with h1 | ⟨h1, h1'⟩
  · rcases h2 with h2 | ⟨h2, h2'⟩
    · exact absurd ⟨h1, h2⟩ hch
    · exact ⟨p, 0, hp0, by omega, by omega, .inl h2, by omega⟩
  · rcases h2 with h2 | ⟨h2, h2'⟩
    · exact ⟨0, q, by omega, hq0, .inl h1, by omega, by omega⟩
    · exact ⟨0, 0, by omega, by omega, .inl h1, .inl h2, by omega⟩
theorem stop (l : List Int) (w T : Int) (i : Nat) (c lo hi : Int) (h : c ≤ 2) : Ev (fun k => trammellaw16_IvlWidens.j2 k l w c (i : Int) false 0 T lo hi) true :=
  Ev.step (f := fun _ => some true) (fun k => by simp only [trammellaw16_IvlWidens.j2]; rw [if_neg (by decide), decide_eq_true h]) (Ev.now _)
theorem loop {l : List Int} (hw : ∀ x ∈ l, (Lit.int .u64 x).wf = true) (w T : Int) (hT : top w = T) (d : Nat) :
    ∀ (i : Nat) (c lo hi p q : Int), 40 ≤ i + d → i ≤ 41 → 0 ≤ lo → lo ≤ hi → hi ≤ T → 0 ≤ c → 0 ≤ p → 0 ≤ q → (lo = 0 ∨ 1 ≤ p) → (hi = T ∨ 1 ≤ q) → c + p + q ≤ 2 →
      Ev (fun k => trammellaw16_IvlWidens.l0 k l w c (i : Int) 0 T lo hi) true := by
  induction d with
  | zero =>
    intro i c lo hi p q hi0 hi1 h0 h1 h2 hc hp0 hq0 hp hq hs
    have h40 : decide ((i : Int) < 40) = false := decide_eq_false (by omega)
    have hc2 : c ≤ 2 := by omega
    by_cases hlen : wrap64 ((i : Int) + 1) < (l.length : Int)
    · exact Ev.step (fun k => by simp only [trammellaw16_IvlWidens.l0]; rw [if_pos hlen, h40]) (stop l w T i c lo hi hc2)
    · exact Ev.step (fun k => by simp only [trammellaw16_IvlWidens.l0]; rw [if_neg hlen]) (stop l w T i c lo hi hc2)
  | succ d ih =>
    intro i c lo hi p q hi0 hi1 h0 h1 h2 hc hp0 hq0 hp hq hs
    have hc2 : c ≤ 2 := by omega
    by_cases hlen : (i : Int) + 1 < (l.length : Int)
    · by_cases h40 : (i : Int) < 40
      · have y1 := and_top (rd_wf hw (i := (i : Int)) (by omega) (by omega)) w
        have y2 := and_top (rd_wf hw (i := (i : Int) + 1) (by omega) (by omega)) w
        rw [hT] at y1 y2
        have hg1 : (0 : Int) ≤ (i : Int) := Int.natCast_nonneg _
        have hg2 : (i : Int) < (l.length : Int) := by omega
        have hg3 : (0 : Int) ≤ (i : Int) + 1 := by omega
        refine Ev.step (f := fun k => trammellaw16_IvlWidens.j2 k l w c (i : Int) true 0 T lo hi) (fun k => by simp only [trammellaw16_IvlWidens.l0]; rw [inc1 (by omega), if_pos hlen, decide_eq_true h40]) ?_
        generalize hy1 : Go.bits .and .u64 (rd l (i : Int)) T = z1 at y1
        generalize hy2 : Go.bits .and .u64 (rd l ((i : Int) + 1)) T = z2 at y2
        obtain ⟨n1, n2, hn1, hn2, q1, q2, q3, q4, q5, q6, q7, q8, q9, q10⟩ := step_facts h0 h1 h2 y1 y2
        refine Ev.step (f := fun k => trammellaw16_IvlWidens.j3 k l w c (i : Int) false 0 T lo hi (min z1 z2) (max z1 z2) n1 n2) (fun k => ?_) ?_
        · simp only [trammellaw16_IvlWidens.j2]
          rw [inc1 (by omega), if_pos trivial, if_pos hg1, if_pos hg2, if_pos hg3, if_pos hlen, hy1, hy2, put_eq, Option.bind_some, widen_eq, Option.bind_some, hT]
          simp only [hn1, hn2]
          rw [within_eq, Option.bind_some, decide_eq_true ⟨q2, q3⟩, if_pos rfl, within_eq, Option.bind_some, decide_eq_true ⟨q5, q6⟩, if_pos rfl, within_eq, Option.bind_some, decide_eq_true ⟨q1, q4⟩]
          rfl
        · by_cases hch : n1 = lo ∧ n2 = hi
          · obtain ⟨rfl, rfl⟩ := hch
            refine Ev.step (fun k => ?_) (ih (i + 2) c n1 n2 p q (by omega) (by omega) q1 h1 q4 hc hp0 hq0 hp hq hs)
            simp only [trammellaw16_IvlWidens.j3]
            rw [if_neg (by decide), if_neg (by simp), within_eq, Option.bind_some, inc2 (by omega), ite_self]
          · have hne : (!(n1 == lo) || (!(n2 == hi))) = true := by
              rcases Classical.em (n1 = lo) with h | h
              · have : n2 ≠ hi := fun h' => hch ⟨h, h'⟩
                simp [this]
              · simp [h]
            obtain ⟨p', q', r1, r2, r3, r4, r5⟩ := left_facts hc hp0 hq0 hp hq hs q7 q8 hch
            refine Ev.step (fun k => ?_) (ih (i + 2) (c + 1) n1 n2 p' q' (by omega) (by omega) q1 (by omega) q4 (by omega) r1 r2 r3 r4 r5)
            simp only [trammellaw16_IvlWidens.j3]
            rw [if_neg (by decide), if_pos hne, within_eq, Option.bind_some, decide_eq_false (by intro h; exact hch ⟨q9 h.1, q10 h.2⟩), if_neg (by decide), inc2 (by omega), incc hc (by omega)]
      · exact Ev.step (fun k => by simp only [trammellaw16_IvlWidens.l0]; rw [inc1 (by omega), if_pos hlen, decide_eq_false h40]) (stop l w T i c lo hi hc2)
    · exact Ev.step (fun k => by simp only [trammellaw16_IvlWidens.l0]; rw [inc1 (by omega), if_neg hlen]) (stop l w T i c lo hi hc2)

theorem IvlWidens : trammellaw16_IvlWidens.Pure := by
  intro a0 a1 l2 a3 w0 w1 _ hl hw
  have main : ∀ w : Int, Ev (fun k => trammellaw16_IvlWidens.j0 k a0 a1 l2 w) true := fun w => by
    have y1 := and_top w0 w
    have y2 := and_top w1 w
    generalize hT : top w = T at y1 y2
    generalize hy1 : Go.bits .and .u64 a0 T = z1 at y1
    generalize hy2 : Go.bits .and .u64 a1 T = z2 at y2
    have go := loop hw w T hT 40 0 0 (min z1 z2) (max z1 z2) 1 1 (by omega) (by omega) (by omega) (by omega) (by omega) (by omega) (by omega) (by omega) (by omega) (by omega) (by omega)
    refine Ev.step (fun k => ?_) go
    simp only [trammellaw16_IvlWidens.j0]
    rw [all_eq, Option.bind_some, hT, hy1, hy2, put_eq, Option.bind_some]
    rfl
  refine Ev.rounds (Ev.congr (f := fun k => if a3 = true then trammellaw16_IvlWidens.j0 k a0 a1 l2 64 else trammellaw16_IvlWidens.j0 k a0 a1 l2 32) (fun k => ?_) ?_)
  · unfold trammellaw16_IvlWidens.f
    rw [is_awake, Option.bind_some, if_pos rfl]
  · cases a3
    · exact Ev.congr (fun k => if_neg (by decide)) (main 32)
    · exact Ev.congr (fun k => if_pos rfl) (main 64)
end Go.Proofs.Ytaajijommogaoaa.Pure
