/-
  Trees that always answer.
-/
import Derived.Test.YtmfjapphmmlppaaVo
namespace Go.Proofs.Ytmfjapphmmlppaa.Vt
set_option linter.all false
open Go.Proofs.Ytmfjapphmmlppaa.Vx Go.Proofs.Ytmfjapphmmlppaa.Vd
/-- Is a test that number i is 0? -/
def isTag : E → Nat → Bool
  | .cm .eql (.iv i) (.n z), w => Nat.beq i w && decide (z = 0)
  | _, _ => false
theorem isTag_ok {c : E} {w : Nat} {is bs ls} (h : isTag c w = true) (hw : is.getD w 0 = 0) : c.B is bs ls = true := by
  unfold isTag at h
  split at h
  · rw [Bool.and_eq_true, decide_eq_true_eq] at h
    obtain ⟨h1, rfl⟩ := h
    obtain rfl := Nat.eq_of_beq_eq_true h1
    show (is.getD _ 0 == 0) = true
    rw [hw]; rfl
  · cases h
/-- Does a tree always answer (md: return; else break 0) with so many numbers, bools and lists? n: how many numbers there are; w: a number that is 0. -/
def ok (cal : Nat → Nat → Nat → Nat → Nat → Bool) : Bool → Nat → Nat → Nat → Nat → Nat → Vx.T → Bool
  | md, a, b, c, n, w, .ret is bs ls => md && (Nat.beq is.length a && (Nat.beq bs.length b && Nat.beq ls.length c))
  | md, a, b, c, n, w, .brk t is bs ls => !md && (Nat.beq t 0 && (Nat.beq is.length a && (Nat.beq bs.length b && Nat.beq ls.length c)))
  | md, a, b, c, n, w, .ite _ x y => ok cal md a b c n w x && ok cal md a b c n w y
  | md, a, b, c, n, w, .lb _ k => ok cal md a b c n w k
  | md, a, b, c, n, w, .li _ k => (decide (w < n) || decide (n + 1 ≤ w)) && ok cal md a b c (n + 1) w k
  | md, a, b, c, n, w, .lst _ k => ok cal md a b c n w k
  | md, a, b, c, n, w, .rq e k => (isTag e w && decide (w < n)) && ok cal md a b c n w k
  | md, a, b, c, n, w, .call f ii _ _ ni nb nl k => (cal f ii.length ni nb nl && (decide (w < n) || decide (n + ni ≤ w))) && ok cal md a b c (n + ni) w k
  | md, a, b, c, n, w, .jn x ni nb nl k => ok cal false ni nb nl n w x && ok cal md a b c (n + (1 + ni)) n k
  | _, _, _, _, _, _, _ => false
theorem app_tag {is r : List Int} {w : Nat} (h : w < is.length → is.getD w 0 = 0) (hw : w < is.length) : (is ++ r).getD w 0 = 0 := by
  have := h hw
  rw [List.getD_eq_getElem?_getD] at this ⊢
  rw [List.getElem?_append_left hw]; exact this
theorem ok_sound {C : Nat → Vx.Fn} {cal : Nat → Nat → Nat → Nat → Nat → Bool} (hc : ∀ f m ni nb nl, cal f m ni nb nl = true → ∀ is bs ls, is.length = m → ∃ r, C f is bs ls = some r ∧ r.fits ni nb nl = true) :
    ∀ (t : Vx.T) (md : Bool) (a b c n w : Nat) (is : List Int) (bs : List Bool) (ls : LL), ok cal md a b c n w t = true → is.length = n → (w < n → is.getD w 0 = 0) →
      ∃ r, t.den C is bs ls = some (if md = true then .ret r else .brk 0 r) ∧ r.fits a b c = true
  | .ret _ _ _, md, a, b, c, n, w, is, bs, ls, h, hn, hw => by
    simp only [ok, Bool.and_eq_true] at h
    obtain ⟨rfl, h1, h2, h3⟩ := h
    refine ⟨_, by simp only [T.den]; rfl, ?_⟩
    simp only [R.fits, vals, List.length_map, Bool.and_eq_true]
    exact ⟨h1, h2, h3⟩
  | .brk _ _ _ _, md, a, b, c, n, w, is, bs, ls, h, hn, hw => by
    simp only [ok, Bool.and_eq_true, Bool.not_eq_true'] at h
    obtain ⟨rfl, h0, h1, h2, h3⟩ := h
    obtain rfl := Nat.eq_of_beq_eq_true h0
    refine ⟨_, by simp only [T.den]; rfl, ?_⟩
    simp only [R.fits, vals, List.length_map, Bool.and_eq_true]
    exact ⟨h1, h2, h3⟩
  | .ite e x y, md, a, b, c, n, w, is, bs, ls, h, hn, hw => by
    simp only [ok, Bool.and_eq_true] at h
    simp only [T.den]
    cases e.B is bs ls with
    | true => exact ok_sound hc x md a b c n w is bs ls h.1 hn hw
    | false => exact ok_sound hc y md a b c n w is bs ls h.2 hn hw
  | .lb e k, md, a, b, c, n, w, is, bs, ls, h, hn, hw => by
    simp only [ok] at h
    simp only [T.den]
    exact ok_sound hc k md a b c n w is _ ls h hn hw
  | .li e k, md, a, b, c, n, w, is, bs, ls, h, hn, hw => by
    simp only [ok, Bool.and_eq_true, Bool.or_eq_true, decide_eq_true_eq] at h
    simp only [T.den]
    subst hn
    refine ok_sound hc k md a b c (is.length + 1) w _ bs ls h.2 (by simp) (fun h3 => ?_)
    rcases h.1 with h4 | h4
    · exact app_tag hw h4
    · omega
  | .lst e k, md, a, b, c, n, w, is, bs, ls, h, hn, hw => by
    simp only [ok] at h
    simp only [T.den]
    exact ok_sound hc k md a b c n w is bs _ h hn hw
  | .rq e k, md, a, b, c, n, w, is, bs, ls, h, hn, hw => by
    simp only [ok, Bool.and_eq_true, decide_eq_true_eq] at h
    obtain ⟨r, g1, g2⟩ := ok_sound hc k md a b c n w is bs ls h.2 hn hw
    exact ⟨r, d_rq (isTag_ok h.1.1 (hw h.1.2)) g1, g2⟩
  | .call f ii bb ll ni nb nl k, md, a, b, c, n, w, is, bs, ls, h, hn, hw => by
    simp only [ok, Bool.and_eq_true] at h
    obtain ⟨r, h1, h2⟩ := hc f ii.length ni nb nl h.1.1 (ii.map (E.I is bs ls)) (bb.map (E.B is bs ls)) (ll.map (LE.L is bs ls)) (List.length_map _)
    simp only [T.den, h1, h2]
    subst hn
    refine ok_sound hc k md a b c (is.length + ni) w _ _ _ h.2 (by rw [List.length_append, (R.fits_ok h2).1]) (fun h3 => ?_)
    have h4 := h.1.2
    rw [Bool.or_eq_true, decide_eq_true_eq, decide_eq_true_eq] at h4
    rcases h4 with h4 | h4
    · exact app_tag hw h4
    · omega
  | .jn x ni nb nl k, md, a, b, c, n, w, is, bs, ls, h, hn, hw => by
    simp only [ok, Bool.and_eq_true] at h
    subst hn
    obtain ⟨r, g1, g2⟩ := ok_sound hc x false ni nb nl is.length w is bs ls h.1 rfl hw
    obtain ⟨r2, g3, g4⟩ := ok_sound hc k md a b c (is.length + (1 + ni)) is.length (is ++ ((0 : Nat) : Int) :: r.1) (bs ++ r.2.1) (ls ++ r.2.2) h.2 (by rw [List.length_append, List.length_cons, (R.fits_ok g2).1]; omega) (fun _ => by simp [List.getD_eq_getElem?_getD])
    exact ⟨r2, d_jn 0 r g1 g2 g3, g4⟩
  | .nz _ _ _, md, a, b, c, n, w, is, bs, ls, h, hn, hw => by simp [ok] at h
  | .both _ _, md, a, b, c, n, w, is, bs, ls, h, hn, hw => by simp [ok] at h
  | .fail _, md, a, b, c, n, w, is, bs, ls, h, hn, hw => by simp [ok] at h
  | .need _ _, md, a, b, c, n, w, is, bs, ls, h, hn, hw => by simp [ok] at h
  | .nxt _ _ _, md, a, b, c, n, w, is, bs, ls, h, hn, hw => by simp [ok] at h
  | .rt _, md, a, b, c, n, w, is, bs, ls, h, hn, hw => by simp [ok] at h
  | .lp _ _ _ _ _ _ _ _, md, a, b, c, n, w, is, bs, ls, h, hn, hw => by simp [ok] at h
theorem tot {C : Nat → Vx.Fn} {cal : Nat → Nat → Nat → Nat → Nat → Bool} (hc : ∀ f m ni nb nl, cal f m ni nb nl = true → ∀ is bs ls, is.length = m → ∃ r, C f is bs ls = some r ∧ r.fits ni nb nl = true) {t : Vx.T} {m a b c : Nat} (h : ok cal true a b c m 1000000000 t = true) (hm : m < 1000) :
    ∀ is bs ls, is.length = m → ∃ r, Vx.Fd t C is bs ls = some r ∧ r.fits a b c = true := by
  intro is bs ls hl
  obtain ⟨r, h1, h2⟩ := ok_sound hc t true a b c m 1000000000 is bs ls h hl (fun h => by omega)
  exact ⟨r, of_ret h1, h2⟩
/-- One function that is called, told by its number and sizes. -/
def c1 (f m a b c : Nat) : Nat → Nat → Nat → Nat → Nat → Bool := fun f' m' a' b' c' => Nat.beq f f' && (Nat.beq m m' && (Nat.beq a a' && (Nat.beq b b' && Nat.beq c c')))
theorem c1_ok {C : Nat → Vx.Fn} {F : Vx.Fn} {f m a b c : Nat} (e : C f = F) (h : ∀ is bs ls, is.length = m → ∃ r, F is bs ls = some r ∧ r.fits a b c = true) : ∀ f' m' a' b' c', c1 f m a b c f' m' a' b' c' = true → ∀ is bs ls, is.length = m' → ∃ r, C f' is bs ls = some r ∧ r.fits a' b' c' = true := by
  intro f' m' a' b' c' hh
  unfold c1 at hh
  simp only [Bool.and_eq_true] at hh
  obtain ⟨h1, h2, h3, h4, h5⟩ := hh
  obtain rfl := Nat.eq_of_beq_eq_true h1
  obtain rfl := Nat.eq_of_beq_eq_true h2
  obtain rfl := Nat.eq_of_beq_eq_true h3
  obtain rfl := Nat.eq_of_beq_eq_true h4
  obtain rfl := Nat.eq_of_beq_eq_true h5
  rw [e]; exact h
def c0 : Nat → Nat → Nat → Nat → Nat → Bool := fun _ _ _ _ _ => false
theorem c0_ok {C : Nat → Vx.Fn} : ∀ f' m' a' b' c', c0 f' m' a' b' c' = true → ∀ is bs ls, is.length = m' → ∃ r, C f' is bs ls = some r ∧ r.fits a' b' c' = true := by
  intro f' m' a' b' c' hh; cases hh
def cOr (c d : Nat → Nat → Nat → Nat → Nat → Bool) : Nat → Nat → Nat → Nat → Nat → Bool := fun f' m' a' b' c' => c f' m' a' b' c' || d f' m' a' b' c'
theorem cOr_ok {C : Nat → Vx.Fn} {c d : Nat → Nat → Nat → Nat → Nat → Bool} (h1 : ∀ f' m' a' b' c', c f' m' a' b' c' = true → ∀ is bs ls, is.length = m' → ∃ r, C f' is bs ls = some r ∧ r.fits a' b' c' = true) (h2 : ∀ f' m' a' b' c', d f' m' a' b' c' = true → ∀ is bs ls, is.length = m' → ∃ r, C f' is bs ls = some r ∧ r.fits a' b' c' = true) :
    ∀ f' m' a' b' c', cOr c d f' m' a' b' c' = true → ∀ is bs ls, is.length = m' → ∃ r, C f' is bs ls = some r ∧ r.fits a' b' c' = true := by
  intro f' m' a' b' c' hh
  rcases Bool.or_eq_true_iff.1 hh with h | h
  · exact h1 _ _ _ _ _ h
  · exact h2 _ _ _ _ _ h
end Go.Proofs.Ytmfjapphmmlppaa.Vt
