/-
  From what is known of a law's function to what the row asks: nothing that was there is written.
-/
import Derived.Test.YtghekmcdokgkkaaDoorVx
import Derived.ChangeArms
import Derived.DataReads
import Derived.WideShapes
import Derived.SizedLaws
namespace Go.Proofs.YtghekmcdokgkkaaDoor.Vr
open Go.Proofs.YtghekmcdokgkkaaDoor.Vx
open Go.RowKit (Below)
/-- All blocks as they are. -/
def snap (w : World) : Fz := fun n => match w.heap[n]? with
  | some (.cells cs _ _) => some cs
  | _ => none
theorem snap_fz {w : World} {n : Nat} {cs : Array Value} (h : snap w n = some cs) : ∃ el fr, w.heap[n]? = some (.cells cs el fr) := by
  unfold snap at h
  split at h
  · rename_i cs' el fr e
    cases h
    exact ⟨el, fr, e⟩
  · cases h
def CK.free : CK → Bool
  | .lo _ _ => false
  | _ => true
theorem lks_free {ks : List CK} (h : ks.all CK.free = true) : ∀ c ∈ lks ks, CK.free c = true := fun c hc => List.all_eq_true.1 h c (List.mem_filter.1 hc).1
theorem no_own {ks : List CK} (h : ks.all CK.free = true) (x : List Value) (k : Nat) : ownAt (newX ks 0) x k = none := by
  unfold ownAt
  split
  · rename_i c e ct he
    obtain ⟨ck, h1, h2⟩ := newX_get _ _ _ _ he
    have := lks_free h ck (List.mem_of_getElem? h1)
    simp only [XI.mk.injEq] at h2
    cases ck <;> simp [CK.xs, CK.free] at h2 this
  · rfl
theorem law_calls {P : Program} {I : World → Prop} {f : Nat} {s : Sig} {F : Vx.Fn} (g : Vx.Good P I f s F) (hr : s.r = [.v .b]) (hnb : s.a.filter Sh.isB = []) (hfr : (ksOf s.a).all CK.free = true) (w : World) (hI : I w)
    (i : List Int) (b : List Bool) (l : LL) (x : List Value) (hi : i.length = cI (ksOf s.a)) (hb : b.length = cB (ksOf s.a)) (hl : l.length = cL (ksOf s.a)) (hx : x.length = cL (ksOf s.a))
    (hok : ∀ (k : Nat) (xi : XI), (newX (ksOf s.a) 0)[k]? = some xi → XOK (snap w) w xi.s (x.getD k undef) (l.getD xi.c [])) (hF : F i b l = some ([], [true], [])) :
    Calls P f ((newV s.a 0 0 0 0).map (S1.den ⟨[], i, b, l, x, snap w⟩)).toArray w fun e w' => e = .returned (.bool true) ∧ Below w.heap.size w w' := by
  have hH0 : newH s.a 0 0 0 = [] := List.eq_nil_of_length_eq_zero (by rw [newH_cnt, hnb]; rfl)
  have hH : HR ⟨[], i, b, l, x, snap w⟩ (newH s.a 0 0 0) (newX (ksOf s.a) 0) ⟨w, Mof ⟨[], i, b, l, x, snap w⟩ (newX (ksOf s.a) 0), snap w⟩ w := by
    rw [hH0]
    refine ⟨rfl, List.nodup_nil, fun _ _ i cs h => (by simp at h), fun n h => (by cases h), Bel.refl _ _, by rw [newX_len]; exact hx, fun k xi h => ?_, hok, fun n cs h => snap_fz h, Fz.le_refl _, fun n cs h => .inl (by show (snap w n).isSome = true; rw [show snap w n = some cs from h]; rfl), fun n h => (by cases h), fun k gg h => ?_⟩
    · obtain ⟨c, h1, rfl⟩ := newX_get _ _ _ _ h
      have := (List.getElem?_eq_some_iff.1 h).1
      rw [newX_len] at this
      show 0 + k < l.length
      omega
    · rw [no_own hfr] at h; cases h
  have h := (g ⟨[], i, b, l, x, snap w⟩ w ([], [true], []) hi hb hl hH hI hF).2
  refine h.mono fun e w' ⟨v', h1, h2, h3, h4, h5, h6, h7, h8, h9⟩ => ⟨?_, ?_⟩
  · rw [h8, hr]
    simp only [newV, List.map_cons, List.map_nil, mkR, newC, List.headD_cons, S1.den, Sc.den, E.B, h2, List.getD_cons_zero]
  · refine (h9.bel.mono fun n hn _ => ?_).below
    rcases hn with hn | ⟨k, hk⟩
    · cases hn
    · rw [no_own hfr] at hk; cases hk
theorem agg_of {cs : Array Value} {l : List Value} (h : (Value.agg cs).cells.toList = l) : cs = l.toArray := by
  have h1 : cs.toList = l := h
  rw [← h1]
/-- What slices and strings that are handed in tell. -/
def OKs (w : World) : List CK → List Value → LL → Prop
  | [], _, _ => True
  | c :: r, x, l => XOK (snap w) w c.xs (x.headD undef) (l.headD []) ∧ OKs w r x.tail l.tail
theorem OKs.get {w : World} : ∀ {ks : List CK} {x : List Value} {l : LL}, OKs w ks x l → ∀ (q : Nat) (c : CK), ks[q]? = some c → XOK (snap w) w c.xs (x.getD q undef) (l.getD q [])
  | [], _, _, _, q, c, hc => by simp at hc
  | k :: r, x, l, h, q, c, hc => by
    cases q with
    | zero =>
      simp only [List.getElem?_cons_zero, Option.some.injEq] at hc
      subst hc
      have := h.1
      cases x <;> cases l <;> simpa using this
    | succ q =>
      have := OKs.get h.2 q c (by simpa using hc)
      cases x <;> cases l <;> simpa using this
theorem OKs.ok {w : World} {ks : List CK} {x : List Value} {l : LL} (h : OKs w (lks ks) x l) : ∀ (k : Nat) (xi : XI), (newX ks 0)[k]? = some xi → XOK (snap w) w xi.s (x.getD k undef) (l.getD xi.c []) := fun k xi hk => by
  obtain ⟨c, h1, rfl⟩ := newX_get _ _ _ _ hk
  rw [Nat.zero_add]
  exact h.get k c h1
/-! What parameters tell. -/
/-- So many bytes has a cell at least. -/
def CT.wgt : CT → Nat
  | .i k => k.bits / 8
  | .b => 1
  | .s => 16
  | .sl _ => 24
def wgtL : List CT → Nat
  | [] => 0
  | c :: r => CT.wgt c + wgtL r
mutual
/-- What is known of data that a parameter reads as. -/
def CT.wf : CT → D → Prop
  | .i k, d => ∃ n, d = .i n ∧ (Lit.int k n).wf = true
  | .b, d => ∃ x, d = .b x
  | .s, d => ∃ s : ByteArray, d = .l (bytesD s) ∧ s.size ≤ maxLen
  | .sl ct, d => ∃ xs, d = .l xs ∧ (xs.length ≤ maxLen ∧ xs.length * wgtL ct ≤ reachBytes) ∧ ∀ x ∈ xs, ∃ ds, x = mkD ds ∧ CT.wfL ct ds
def CT.wfL : List CT → List D → Prop
  | [], ds => ds = []
  | c :: r, ds => ∃ d l, ds = d :: l ∧ CT.wf c d ∧ CT.wfL r l
end
theorem leaf_i {F : Fz} {k : IntKind} {u : Value} {d : D} (h : RC F (.i k) u d) (w : CT.wf (.i k) d) : ∃ n, u = .int k n ∧ (Lit.int k n).wf = true := by
  cases h with
  | int k n =>
    simp only [CT.wf] at w
    obtain ⟨m, hm, hw⟩ := w
    cases hm
    exact ⟨n, rfl, hw⟩
theorem leaf_b {F : Fz} {u : Value} {d : D} (h : RC F .b u d) : ∃ x, u = .bool x := by
  cases h with
  | bool x => exact ⟨x, rfl⟩
theorem leaf_s {F : Fz} {u : Value} {d : D} (h : RC F .s u d) (w : CT.wf .s d) : ∃ s, u = .string s ∧ CT.wf .s (.l (bytesD s)) := by
  cases h with
  | str s => exact ⟨s, rfl, w⟩
theorem leaf_sl {F : Fz} {ct : List CT} {u : Value} {d : D} (h : RC F (.sl ct) u d) (w : CT.wf (.sl ct) d) : ∃ A c xs, u = .slice A xs.length c ∧ RC F (.sl ct) (.slice A xs.length c) (.l xs) ∧ CT.wf (.sl ct) (.l xs) := by
  obtain ⟨A, c, xs, rfl, rfl, _⟩ := h.head
  exact ⟨A, c, xs, rfl, h, w⟩
/-- Cells read as data. -/
def CellsR (F : Fz) : List CT → List Value → List D → Prop
  | [], us, ds => us = [] ∧ ds = []
  | c :: r, us, ds => ∃ u l d m, us = u :: l ∧ ds = d :: m ∧ RC F c u d ∧ CellsR F r l m
theorem CellsR.app {F : Fz} : ∀ {a b : List CT} {us us' : List Value} {ds ds' : List D}, CellsR F a us ds → CellsR F b us' ds' → CellsR F (a ++ b) (us ++ us') (ds ++ ds')
  | [], b, us, us', ds, ds', h, h' => by obtain ⟨rfl, rfl⟩ := h; exact h'
  | c :: a, b, us, us', ds, ds', h, h' => by
    obtain ⟨u, l, d, m, rfl, rfl, h1, h2⟩ := h
    exact ⟨u, l ++ us', d, m ++ ds', rfl, rfl, h1, h2.app h'⟩
theorem wfL_app : ∀ {a b : List CT} {ds ds' : List D}, CT.wfL a ds → CT.wfL b ds' → CT.wfL (a ++ b) (ds ++ ds')
  | [], b, ds, ds', h, h' => by simp only [CT.wfL] at h; subst h; exact h'
  | c :: a, b, ds, ds', h, h' => by
    simp only [CT.wfL] at h
    obtain ⟨d, l, rfl, h1, h2⟩ := h
    simp only [List.cons_append, CT.wfL]
    exact ⟨d, l ++ ds', rfl, h1, wfL_app h2 h'⟩
theorem CellsR.get {F : Fz} : ∀ {ct : List CT} {us : List Value} {ds : List D}, CellsR F ct us ds → us.length = ct.length ∧ ds.length = ct.length ∧ ∀ j (hj : j < ct.length), RC F ct[j] (us.getD j undef) (ds.getD j (.i 0))
  | [], us, ds, h => by obtain ⟨rfl, rfl⟩ := h; exact ⟨rfl, rfl, fun j hj => by simp at hj⟩
  | c :: r, us, ds, h => by
    obtain ⟨u, l, d, m, rfl, rfl, h1, h2⟩ := h
    obtain ⟨a, b, e⟩ := h2.get
    refine ⟨by simp [a], by simp [b], fun j hj => ?_⟩
    cases j with
    | zero => exact h1
    | succ j => exact e j (by simpa using hj)
theorem mkD_cells {F : Fz} {ct : List CT} {us : List Value} {ds : List D} (h : CellsR F ct us ds) {j : Nat} (hj : j < ct.length) : (mkD ds).cell j = ds.getD j (.i 0) := by
  obtain ⟨_, h2, h3⟩ := h.get
  refine mkD_cell ds j (by omega) fun d hd => ?_
  subst hd
  have h4 : ct.length = 1 := h2.symm
  have := h3 0 (by omega)
  simp only [List.getD_cons_zero] at this
  generalize ct[0] = c at this
  generalize us.getD 0 undef = u at this
  cases this <;> rfl
section
variable (P : Program)
def ctFs (g : TypeId → Option (List CT)) : List Field → Nat → Option (List CT)
  | [], _ => some []
  | f :: r, o => match g f.type, Nat.beq f.offset o with
    | some l, true => match Nat.beq (P.cellsOf f.type) l.length with
      | true => (ctFs g r (o + l.length)).map (l ++ ·)
      | false => none
    | _, _ => none
/-- The cells of a type, and that its sizes are those. -/
def ctW : Nat → TypeId → Option (List CT)
  | 0, _ => none
  | d + 1, t => match P.underlying t with
    | some (.int k) => some [.i k]
    | some .bool => some [.b]
    | some .string => some [.s]
    | some (.slice e) => match ctW d e with
      | some l => match Nat.beq (P.cellsOf e) l.length, Nat.ble 1 l.length && Nat.ble (wgtL l) (P.bytesOf e) with
        | true, true => some [.sl l]
        | _, _ => none
      | none => none
    | some (.struct fs) => match ctFs P (ctW d) fs.toList 0 with
      | some l => match Nat.beq (P.cellsOf t) l.length with
        | true => some l
        | false => none
      | none => none
    | _ => none
end
section
variable {H : Type} {enc : TypeId × Value → H} {P : Program} {w : World} {spare : Nat → Bool} {held : Bool}
def Reads (enc : TypeId × Value → H) (P : Program) (w : World) (spare : Nat → Bool) (held : Bool) (t : TypeId) (ct : List CT) : Prop :=
  ∀ fuel cs r, DataW.trod enc P w 0 spare held fuel t cs = some r → (∀ n ∈ r.1.weights P t, n ≤ reachBytes) → ∃ ds, CellsR (snap w) ct cs ds ∧ CT.wfL ct ds
theorem fields_read (g : TypeId → Option (List CT)) (hg : ∀ t ct, g t = some ct → Reads enc P w spare held t ct) {cs : List Value} : ∀ (fs : List Field) (o : Nat) (ct : List CT), ctFs P g fs o = some ct →
    (∀ f ∈ fs, ∃ fuel r, DataW.trod enc P w 0 spare held fuel f.type ((cs.drop f.offset).take (P.cellsOf f.type)) = some r ∧ ∀ n ∈ r.1.weights P f.type, n ≤ reachBytes) → ∃ ds, CellsR (snap w) ct ((cs.drop o).take ct.length) ds ∧ CT.wfL ct ds
  | [], o, ct, h, _ => by
    simp only [ctFs, Option.some.injEq] at h
    subst h
    exact ⟨[], ⟨by simp, rfl⟩, by simp [CT.wfL]⟩
  | f :: r, o, ct, h, hx => by
    simp only [ctFs] at h
    split at h
    case h_2 => cases h
    rename_i l hl ho
    split at h
    case h_2 => cases h
    rename_i hs
    simp only [Option.map_eq_some_iff] at h
    obtain ⟨ct', h1, rfl⟩ := h
    obtain ⟨ds', h2, h3⟩ := fields_read g hg r _ ct' h1 fun f' hf' => hx f' (List.mem_cons_of_mem _ hf')
    obtain ⟨fuel, rr, hr, hz⟩ := hx f List.mem_cons_self
    obtain ⟨ds, h4, h5⟩ := hg _ _ hl _ _ _ hr hz
    rw [Nat.eq_of_beq_eq_true ho, Nat.eq_of_beq_eq_true hs] at h4
    refine ⟨ds ++ ds', ?_, wfL_app h5 h3⟩
    have e : (cs.drop o).take (l ++ ct').length = (cs.drop o).take l.length ++ (cs.drop (o + l.length)).take ct'.length := by
      rw [List.length_append, List.take_add, List.drop_drop]
    rw [e]
    exact h4.app h2
theorem cells_some {a : Addr} {n : Nat} {cs : List Value} (h : w.cells? 0 a n = some cs) : cs.length = n ∧ ∀ i u, cs[i]? = some u → w.cell? (a.add i) = some u := by
  unfold World.cells? at h
  rw [if_pos (Nat.zero_le _)] at h
  have hl : cs.length = n := by have := mapM_some_length h; simpa using this
  refine ⟨hl, fun i u hu => ?_⟩
  have hi : i < n := by
    obtain ⟨h1, _⟩ := List.getElem?_eq_some_iff.1 hu
    omega
  have h2 := mapM_some_get h i i (by simp [hi])
  rw [h2]
  exact hu
theorem add_add (a : Addr) (i j : Nat) : (a.add i).add j = a.add (i + j) := by
  by_cases hi : i = 0 <;> by_cases hj : j = 0 <;> simp [Addr.add, hi, hj, Nat.add_assoc]
theorem cell_snap {a : Addr} {u : Value} (h : w.cell? a = some u) : a.spot = none ∧ ∃ cells, snap w a.block = some cells ∧ cells[a.off]? = some u := by
  unfold World.cell? at h
  unfold snap
  split at h
  · rename_i c _ _ e
    split at h
    · cases h
    · rename_i hs
      exact ⟨by simpa using hs, c, by rw [e], h⟩
  · cases h
theorem add_off (a : Addr) (i : Nat) : (a.add i).block = a.block ∧ (a.add i).off = a.off + i := by
  unfold Addr.add; split <;> simp_all
theorem list_of {α : Type} {R : Nat → α → Prop} : ∀ (n : Nat), (∀ i, i < n → ∃ x, R i x) → ∃ xs : List α, xs.length = n ∧ ∀ i x, xs[i]? = some x → R i x
  | 0, _ => ⟨[], rfl, fun i x h => by simp at h⟩
  | n + 1, h => by
    obtain ⟨xs, hl, hx⟩ := list_of n (fun i hi => h i (by omega))
    obtain ⟨x, hn⟩ := h n (by omega)
    refine ⟨xs ++ [x], by simp [hl], fun i y hy => ?_⟩
    by_cases hi : i < n
    · rw [List.getElem?_append_left (by omega)] at hy
      exact hx i y hy
    · by_cases hi2 : i = n
      · subst hi2
        rw [List.getElem?_append_right (by omega), hl] at hy
        simp at hy
        exact hy ▸ hn
      · rw [List.getElem?_eq_none (by simp; omega)] at hy
        cases hy
theorem weights_mem_all {e : TypeId} : ∀ {l : List (DataW H)} {d : DataW H}, d ∈ l → ∀ n ∈ d.weights P e, n ∈ DataW.weightsAll P e l
  | x :: l, d, h, n, hn => by
    simp only [DataW.weightsAll, List.mem_append]
    rcases List.mem_cons.1 h with rfl | h
    · exact .inl hn
    · exact .inr (weights_mem_all h n hn)
theorem reads : ∀ (n : Nat) (t : TypeId) (ct : List CT), ctW P n t = some ct → Reads enc P w spare held t ct
  | 0, t, ct, h => by cases h
  | n + 1, t, ct, h => by
    intro fuel cs r hr hwt
    unfold ctW at h
    split at h
    · rename_i k hu
      cases h
      obtain ⟨m, rfl, _, hw⟩ := DataW.trod_int hu hr
      exact ⟨[.i m], ⟨_, _, _, _, rfl, rfl, .int k m, rfl, rfl⟩, by simp only [CT.wfL, CT.wf]; exact ⟨_, _, rfl, ⟨m, rfl, hw⟩, rfl⟩⟩
    · rename_i hu
      cases h
      obtain ⟨m, rfl, _⟩ := DataW.trod_bool hu hr
      exact ⟨[.b m], ⟨_, _, _, _, rfl, rfl, .bool m, rfl, rfl⟩, by simp only [CT.wfL, CT.wf]; exact ⟨_, _, rfl, ⟨m, rfl⟩, rfl⟩⟩
    · rename_i hu
      cases h
      obtain ⟨m, rfl, _, hw⟩ := DataW.trod_string hu hr
      exact ⟨[.l (bytesD m)], ⟨_, _, _, _, rfl, rfl, .str m, rfl, rfl⟩, by simp only [CT.wfL, CT.wf]; exact ⟨_, _, rfl, ⟨m, rfl, hw⟩, rfl⟩⟩
    · rename_i e hu
      split at h
      case h_2 => cases h
      rename_i l hl
      split at h
      case h_2 => cases h
      rename_i hs hp
      cases h
      have hs := Nat.eq_of_beq_eq_true hs
      simp only [Bool.and_eq_true] at hp
      have hwg := Nat.le_of_ble_eq_true hp.2
      have hp := Nat.le_of_ble_eq_true hp.1
      have ih := reads n e l hl
      rcases DataW.trod_slice hu hr with ⟨rfl, _⟩ | ⟨a, len, cap, elems, rest, m, _, rfl, rfl, _, hlc, hm, hlen, hel, _, _⟩
      · exact ⟨[.l []], ⟨_, _, _, _, rfl, rfl, .nil l none 0, rfl, rfl⟩, by simp only [CT.wfL, CT.wf]; exact ⟨_, _, rfl, ⟨[], rfl, ⟨Nat.zero_le _, by simp⟩, fun x hx => by cases hx⟩, rfl⟩⟩
      · obtain ⟨ys, hyl, hy⟩ := list_of (α := List D × List Value) (R := fun i y => w.cells? 0 (a.add (i * P.cellsOf e)) (P.cellsOf e) = some y.2 ∧ CellsR (snap w) l y.2 y.1 ∧ CT.wfL l y.1) len (fun i hi => by
          have h1 := hel i hi
          rw [List.getElem?_eq_getElem (by omega)] at h1
          obtain ⟨c, hc, hr⟩ := Option.bind_eq_some_iff.1 h1
          obtain ⟨ds, h2, h3⟩ := ih _ _ _ hr fun n hn => hwt n (by
            show n ∈ DataW.weights P t (.slice (elems.map (·.1)) (rest.map (·.1)))
            simp only [DataW.weights, hu, List.mem_cons, List.mem_append]
            exact .inr (.inl (weights_mem_all (List.mem_map.2 ⟨_, List.getElem_mem _, rfl⟩) n hn)))
          exact ⟨(ds, c), hc, h2, h3⟩)
        have hxl : (ys.map fun y => mkD y.1).length = len := by simp [hyl]
        have hRC : RC (snap w) (.sl l) (.slice (some a) len cap) (.l (ys.map fun y => mkD y.1)) := by
          by_cases h0 : len = 0
          · subst h0
            obtain rfl : ys = [] := List.eq_nil_of_length_eq_zero hyl
            exact .nil l _ _
          · -- the block
            obtain ⟨y0, hy0⟩ : ∃ y, ys[0]? = some y := ⟨_, List.getElem?_eq_getElem (by omega)⟩
            have cell : ∀ i (y : List D × List Value), ys[i]? = some y → ∀ j, j < l.length → a.spot = none ∧ ∃ cells, snap w a.block = some cells ∧ cells[a.off + i * l.length + j]? = some (y.2.getD j undef) := fun i y hi j hj => by
              obtain ⟨h1, h2, _⟩ := hy i y hi
              obtain ⟨h3, h4⟩ := cells_some h1
              rw [hs] at h1 h3 h4
              have h5 := h4 j (y.2.getD j undef) (by rw [List.getD_eq_getElem?_getD, List.getElem?_eq_getElem (by omega)]; rfl)
              rw [add_add] at h5
              obtain ⟨h6, cells, h7, h8⟩ := cell_snap h5
              obtain ⟨o1, o2⟩ := add_off a (i * l.length + j)
              rw [o1] at h7
              rw [o2, ← Nat.add_assoc] at h8
              refine ⟨?_, cells, h7, h8⟩
              -- an address with a spot has no cell
              obtain ⟨h9, _⟩ := cell_snap (w := w) (a := a) (u := y0.2.getD 0 undef) (by
                obtain ⟨g1, g2, _⟩ := hy 0 y0 hy0
                obtain ⟨g3, g4⟩ := cells_some g1
                have := g4 0 (y0.2.getD 0 undef) (by rw [List.getD_eq_getElem?_getD, List.getElem?_eq_getElem (by omega)]; rfl)
                simpa [Addr.add] using this)
              exact h9
            obtain ⟨ha, cells, hF, _⟩ := cell 0 y0 hy0 0 (by omega)
            have ea : a = ⟨a.block, a.off, none⟩ := by cases a; simp at ha; simp [ha]
            rw [ea]
            refine .sl l a.block a.off len cap cells _ (fun i j => ((ys.getD i ([], [])).2.getD j undef)) hF hxl hlc (fun i j hi hj => ?_) (fun i j hi hj => ?_)
            · have hi' : ys[i]? = some (ys.getD i ([], [])) := by rw [List.getD_eq_getElem?_getD, List.getElem?_eq_getElem (by omega)]; rfl
              obtain ⟨_, cells', h7, h8⟩ := cell i _ hi' j hj
              rw [hF] at h7
              cases h7
              exact h8
            · have hi' : ys[i]? = some (ys.getD i ([], [])) := by rw [List.getD_eq_getElem?_getD, List.getElem?_eq_getElem (by omega)]; rfl
              obtain ⟨_, h2, _⟩ := hy i _ hi'
              have e1 : (ys.map fun y => mkD y.1).getD i (.i 0) = mkD (ys.getD i ([], [])).1 := by
                rw [List.getD_eq_getElem?_getD, List.getElem?_map, hi']; rfl
              rw [e1, mkD_cells h2 hj]
              exact h2.get.2.2 j hj
        refine ⟨[.l (ys.map fun y => mkD y.1)], ⟨_, _, _, _, rfl, rfl, hRC, rfl, rfl⟩, ?_⟩
        simp only [CT.wfL, CT.wf]
        have hwl : (ys.map fun y => mkD y.1).length * wgtL l ≤ reachBytes := by
          have := hwt ((elems.length + rest.length) * P.bytesOf e) (by show _ ∈ DataW.weights P t (.slice (elems.map (·.1)) (rest.map (·.1))); simp [DataW.weights, hu])
          rw [hxl]
          exact Nat.le_trans (Nat.mul_le_mul (by omega) hwg) this
        refine ⟨_, _, rfl, ⟨_, rfl, ⟨by omega, hwl⟩, fun x hx => ?_⟩, rfl⟩
        obtain ⟨y, hy1, rfl⟩ := List.mem_map.1 hx
        obtain ⟨i, hi, rfl⟩ := List.getElem_of_mem hy1
        exact ⟨_, rfl, (hy i _ (List.getElem?_eq_getElem hi)).2.2⟩
    · rename_i fs hu
      split at h
      case h_2 => cases h
      rename_i l hl
      split at h
      case h_2 => cases h
      rename_i hs
      cases h
      obtain ⟨xs, m, _, rfl, hlen, hxl, hx⟩ := DataW.trod_struct hu hr
      obtain ⟨ds, h1, h2⟩ := fields_read (ctW P n) (fun t ct h => reads n t ct h) (cs := cs) fs.toList 0 ct hl fun f hf => by
        obtain ⟨i, hi, rfl⟩ := List.getElem_of_mem hf
        have hi' : i < fs.size := by simpa using hi
        have h1 := hx i _ (Array.getElem?_eq_getElem hi')
        rw [List.getElem?_eq_getElem (by omega)] at h1
        refine ⟨_, _, h1, fun n hn => hwt n ?_⟩
        show n ∈ DataW.weights P t (.agg (xs.map (·.1)))
        simp only [DataW.weights, hu]
        have ht : (fs.toList.map (·.type))[i]? = some fs.toList[i].type := by
          rw [List.getElem?_map, List.getElem?_eq_getElem hi]; rfl
        exact DataW.weights_mem_each ht (by rw [List.getElem?_map, List.getElem?_eq_getElem (by omega)]; rfl) n hn
      rw [List.drop_zero, List.take_of_length_le (by rw [hlen, Nat.eq_of_beq_eq_true hs]; exact Nat.le_refl _)] at h1
      exact ⟨ds, h1, h2⟩
    · cases h
end
end Go.Proofs.YtghekmcdokgkkaaDoor.Vr
