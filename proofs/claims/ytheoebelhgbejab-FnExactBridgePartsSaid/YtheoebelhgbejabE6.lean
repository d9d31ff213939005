/- Parts and what can be come to: two roads, one answer. -/
import Derived.Test.YtheoebelhgbejabE2
import Derived.Test.YtheoebelhgbejabE3
namespace Go.Proofs.Ytheoebelhgbejab.E
open Go.RowKit Go.Proofs.YtheoebelhgbejabW.PrintWords Go.Proofs.YtheoebelhgbejabW.PrintMore Go.Proofs.Ytheoebelhgbejab.P Osier
set_option linter.unusedVariables false

theorem knots_len {K : Int} (h : 0 ≤ K) : ((knots K).length : Int) = K := by simp [knots]; omega
theorem knots_get {K : Int} {j : Nat} (h : j < (knots K).length) : (knots K)[j] = (j : Int) := by simp [knots]

/-! ### The forest of labels (parts) -/
/-- Each label is a knot of the same prt, and no greater. -/
structure Lab (K : Int) (E : List STie) (p : List Int) : Prop where
  len : (p.length : Int) = K
  get : ∀ j (h : j < p.length), (0 ≤ p[j] ∧ p[j] ≤ (j : Int)) ∧ Conn E (j : Int) p[j]
/-- The answer of parts. -/
noncomputable def partsL (K : Int) (E : List STie) : List Int := (knots K).map (prt K E)
theorem partsL_len {K : Int} {E : List STie} (h : 0 ≤ K) : ((partsL K E).length : Int) = K := by simp only [partsL, List.length_map]; exact knots_len h
theorem partsL_get {K : Int} {E : List STie} {j : Nat} (h : j < (partsL K E).length) : (partsL K E)[j] = prt K E (j : Int) := by
  simp only [partsL, List.getElem_map]
  rw [knots_get]
theorem Lab.done {K : Int} {E : List STie} {p : List Int} (hE : Ok K E) (h : Lab K E p) (he : ∀ t ∈ E, ∀ (h0 : t.f0.toNat < p.length) (h1 : t.f1.toNat < p.length), p[t.f0.toNat] = p[t.f1.toNat]) : p = partsL K E := by
  have hK := hE.k0
  have hlen := h.len
  have hpl := partsL_len (E := E) hK
  -- labels are one along each tie, so in each prt
  have same : ∀ a b, Conn E a b → ∀ (h0 : a.toNat < p.length), 0 ≤ a → ∃ h1 : b.toNat < p.length, p[a.toNat] = p[b.toNat] := by
    intro a b hr
    induction hr with
    | refl => intro h0 _; exact ⟨h0, rfl⟩
    | @step b c hr hed ih =>
      intro h0 ha
      obtain ⟨h1, e1⟩ := ih h0 ha
      have hc := (hE.ed_in hed)
      have h2 : c.toNat < p.length := by omega
      refine ⟨h2, e1.trans ?_⟩
      rcases hed with hm | hm
      · exact he _ hm h1 h2
      · exact (he _ hm h2 h1).symm
  refine List.ext_getElem (by omega) (fun j h1 h2 => ?_)
  rw [partsL_get h2]
  have hj : (0 : Int) ≤ (j : Int) ∧ (j : Int) < K := by omega
  have hm := part_in (E := E) hj.1 hj.2
  have hr := part_reach (E := E) hj.1 hj.2
  obtain ⟨h3, e3⟩ := same _ _ hr (by simpa using h1) hj.1
  simp only [Int.toNat_natCast] at e3
  have g1 := h.get j h1
  have g2 := h.get _ h3
  have hle := part_le (E := E) hj.1 hj.2 g1.1.1 (by omega) g1.2
  omega
theorem sum_set (l : List Int) : ∀ (i : Nat) (h : i < l.length) (v : Int), (l.set i v).sum + l[i] = l.sum + v := by
  induction l with
  | nil => intro i h; simp at h
  | cons a l ih =>
    intro i h v
    cases i with
    | zero => simp; omega
    | succ i =>
      have := ih i (by simpa using h) v
      simp only [List.set_cons_succ, List.sum_cons, List.getElem_cons_succ]
      omega
theorem sum_nonneg (l : List Int) (h : ∀ x ∈ l, 0 ≤ x) : 0 ≤ l.sum := by
  induction l with
  | nil => simp
  | cons a l ih =>
    have := h a (by simp)
    have := ih (fun x hx => h x (by simp [hx]))
    simp only [List.sum_cons]; omega
theorem Lab.sum {K : Int} {E : List STie} {p : List Int} (h : Lab K E p) : 0 ≤ p.sum :=
  sum_nonneg p (fun x hx => by obtain ⟨j, hj, rfl⟩ := List.getElem_of_mem hx; exact (h.get j hj).1.1)
theorem Lab.set {K : Int} {E : List STie} {p : List Int} (h : Lab K E p) {j : Nat} (hj : j < p.length) {v : Int} (h0 : 0 ≤ v) (h1 : v ≤ p[j]) (hr : Conn E (j : Int) v) : Lab K E (p.set j v) := by
  refine ⟨by simpa using h.len, fun i hi => ?_⟩
  have hi' : i < p.length := by simpa using hi
  rw [List.getElem_set]
  have g := h.get i hi'
  split
  · rename_i e; subst e
    have := (h.get j hj).1
    exact ⟨by omega, hr⟩
  · exact g
theorem e_impl_Net_parts_l2 {K : Int} {E : List STie} (hE : Ok K E) (n : Nat) (IH : ∀ p, Lab K E p → p.sum < (n : Int) → Ev (fun k => impl_Net_parts.l1 k p true K E) (partsL K E)) (d : Nat) :
    ∀ (i : Nat) (p : List Int) (b : Bool), i + d = E.length → Lab K E p → (b = true → p.sum < (n : Int)) → (b = false → p.sum ≤ (n : Int) ∧ ∀ j (hj : j < E.length), j < i → ∀ (h0 : E[j].f0.toNat < p.length) (h1 : E[j].f1.toNat < p.length), p[E[j].f0.toNat] = p[E[j].f1.toNat]) →
      Ev (fun k => impl_Net_parts.l2 k p b E (E.length : Int) (i : Int) K E) (partsL K E) := by
  have hl := hE.len
  induction d with
  | zero =>
    intro i p b hi hp ht hf
    refine Ev.succ ?_
    simp only [impl_Net_parts.l2]
    refine Ev.no (by omega) ?_
    cases b with
    | true => exact IH p hp (ht rfl)
    | false =>
      refine Ev.succ ?_
      simp only [impl_Net_parts.l1]
      refine Ev.no (by simp) ?_
      rw [hp.done hE (fun t ht h0 h1 => by
        obtain ⟨j, hj, rfl⟩ := List.getElem_of_mem ht
        exact (hf rfl).2 j hj (by omega) h0 h1)]
      exact Ev.pure _
  | succ d ih =>
    intro i p b hi hp ht hf
    have hlt : i < E.length := by omega
    have tie := hE.tie _ (List.getElem_mem hlt)
    have hpl := hp.len
    have h0 : E[i].f0.toNat < p.length := by omega
    have h1 : E[i].f1.toNat < p.length := by omega
    have r0 : rd p E[i].f0 = p[E[i].f0.toNat] := by
      have := rdI (xs := p) h0
      rwa [Int.toNat_of_nonneg (by omega)] at this
    have r1 : rd p E[i].f1 = p[E[i].f1.toNat] := by
      have := rdI (xs := p) h1
      rwa [Int.toNat_of_nonneg (by omega)] at this
    refine Ev.succ ?_
    simp only [impl_Net_parts.l2]
    rw [rdT hlt, w64s (by omega), r0, r1]
    refine Ev.yes (by omega) (Ev.yes (by omega) (Ev.yes (by omega) (Ev.yes (by omega) (Ev.yes (by omega) (Ev.yes (by omega) (Ev.yes (by omega) ?_))))))
    by_cases he : p[E[i].f0.toNat] = p[E[i].f1.toNat]
    · refine Ev.yes he (ih (i + 1) p b (by omega) hp ht (fun hb => ⟨(hf hb).1, fun j hj hji g0 g1 => ?_⟩))
      rcases Nat.eq_or_lt_of_le (Nat.le_of_lt_succ hji) with e | e
      · subst e; exact he
      · exact (hf hb).2 j hj e g0 g1
    · refine Ev.no he ?_
      have g0 := hp.get _ h0
      have g1 := hp.get _ h1
      rw [Int.toNat_of_nonneg (by omega)] at g0 g1
      have hed : Ed E E[i].f0 E[i].f1 := .inl (List.getElem_mem hlt)
      -- the lesser label, and whence it is reached
      generalize hm : mn p[E[i].f0.toNat] p[E[i].f1.toNat] = m
      have hm0 : 0 ≤ m ∧ m ≤ p[E[i].f0.toNat] ∧ m ≤ p[E[i].f1.toNat] ∧ (m = p[E[i].f0.toNat] ∨ m = p[E[i].f1.toNat]) := by
        unfold mn at hm
        split at hm <;> omega
      have hreach : Conn E E[i].f0 m ∧ Conn E E[i].f1 m := by
        rcases hm0.2.2.2 with e | e
        · rw [e]; exact ⟨g0.2, (Conn.one hed.symm).trans g0.2⟩
        · rw [e]; exact ⟨(Conn.one hed).trans g1.2, g1.2⟩
      have hne : E[i].f0.toNat ≠ E[i].f1.toNat := by omega
      have hl0 : Lab K E (p.set E[i].f0.toNat m) := hp.set h0 hm0.1 hm0.2.1 (by rw [Int.toNat_of_nonneg (by omega)]; exact hreach.1)
      have h1' : E[i].f1.toNat < (p.set E[i].f0.toNat m).length := by simpa using h1
      have hget : (p.set E[i].f0.toNat m)[E[i].f1.toNat] = p[E[i].f1.toNat] := List.getElem_set_ne hne h1'
      have hl1 : Lab K E ((p.set E[i].f0.toNat m).set E[i].f1.toNat m) := hl0.set h1' hm0.1 (by rw [hget]; exact hm0.2.2.1) (by rw [Int.toNat_of_nonneg (by omega)]; exact hreach.2)
      have s0 := sum_set p E[i].f0.toNat h0 m
      have s1 := sum_set (p.set E[i].f0.toNat m) E[i].f1.toNat h1' m
      rw [hget] at s1
      have hsum : ((p.set E[i].f0.toNat m).set E[i].f1.toNat m).sum < p.sum := by omega
      have hpn : p.sum ≤ (n : Int) := by
        cases b with
        | true => have := ht rfl; omega
        | false => exact (hf rfl).1
      exact ih (i + 1) _ true (by omega) hl1 (fun _ => by omega) (fun h => by simp at h)
theorem e_impl_Net_parts_l1 {K : Int} {E : List STie} (hE : Ok K E) (n : Nat) : ∀ p, Lab K E p → p.sum < (n : Int) → Ev (fun k => impl_Net_parts.l1 k p true K E) (partsL K E) := by
  induction n with
  | zero => intro p hp h; have := hp.sum; omega
  | succ n ih =>
    intro p hp h
    refine Ev.succ ?_
    simp only [impl_Net_parts.l1]
    exact Ev.yes (by simp) (e_impl_Net_parts_l2 hE n ih E.length 0 p false (by omega) hp (fun h => by simp at h) (fun _ => ⟨by omega, fun j hj hji => by omega⟩))
theorem e_impl_Net_parts_l0 {K : Int} {E : List STie} (hE : Ok K E) (d : Nat) : ∀ i : Nat, (i : Int) + d = K → Ev (fun k => impl_Net_parts.l0 k ((List.range i).map Int.ofNat) K (i : Int) K E) (partsL K E) := by
  have h8 := hE.k8
  induction d with
  | zero =>
    intro i hi
    refine Ev.succ ?_
    simp only [impl_Net_parts.l0]
    refine Ev.no (by omega) ?_
    have hlab : Lab K E ((List.range i).map Int.ofNat) := by
      refine ⟨by simp; omega, fun j hj => ?_⟩
      have e : ((List.range i).map Int.ofNat)[j] = (j : Int) := by simp
      rw [e]
      exact ⟨by omega, .refl⟩
    exact e_impl_Net_parts_l1 hE (((List.range i).map Int.ofNat).sum.toNat + 1) _ hlab (by have := hlab.sum; omega)
  | succ d ih =>
    intro i hi
    refine Ev.succ ?_
    simp only [impl_Net_parts.l0]
    rw [w64s (by omega)]
    have e : (List.range i).map Int.ofNat ++ [(i : Int)] = (List.range (i + 1)).map Int.ofNat := by simp [List.range_succ]
    rw [e]
    exact Ev.yes (by omega) (Ev.yes (by simp; omega) (ih (i + 1) (by omega)))
theorem e_impl_Net_parts {K : Int} {E : List STie} (hE : Ok K E) : Ev (fun k => impl_Net_parts.f k K E) (partsL K E) := by
  simp only [impl_Net_parts.f]
  exact e_impl_Net_parts_l0 hE K.toNat 0 (by have := hE.k0; omega)
/-- joined: in one prt? -/
theorem e_impl_Net_joined {K : Int} {E : List STie} (hE : Ok K E) {a b : Int} (ha : 0 ≤ a ∧ a < K) (hb : 0 ≤ b ∧ b < K) : Ev (fun k => impl_Net_joined.f k K E a b) (dec (Conn E a b)) := by
  simp only [impl_Net_joined.f]
  refine Ev.bind (e_impl_Net_parts hE) ?_
  have hl := partsL_len (E := E) hE.k0
  have g : ∀ {x : Int}, 0 ≤ x ∧ x < K → rd (partsL K E) x = prt K E x := by
    intro x hx
    have h : x.toNat < (partsL K E).length := by omega
    have := rdI h
    rw [Int.toNat_of_nonneg hx.1] at this
    rw [this, partsL_get, Int.toNat_of_nonneg hx.1]
  rw [g ha, g hb]
  refine Ev.yes ha.1 (Ev.yes (by omega) (Ev.yes hb.1 (Ev.yes (by omega) ((Ev.pure _).value ?_))))
  rw [← dec_congr (part_eq_iff (E := E) ha.1 ha.2 hb.1 hb.2)]
  by_cases h : prt K E a = prt K E b
  · rw [dec_true h]; simpa using h
  · rw [dec_false h]; simpa using h

/-! ### Step by step (the reference) -/
theorem nexts_snoc (E : List STie) (l : List Int) (a x : Int) : nexts E (l ++ [x]) a = nexts E l a ++ (if mkT a x ∈ E then [x] else []) := by
  unfold nexts
  rw [List.filter_append]
  congr 1
  by_cases h : mkT a x ∈ E <;> simp [h]
theorem e_spec_l2Next_l0 {K : Int} {E : List STie} (hE : Ok K E) (a : Int) (d : Nat) : ∀ i : Nat, (i : Int) + d = K → Ev (fun k => spec_l2Next.l0 k a (nexts E ((List.range i).map Int.ofNat) a) (i : Int) K E) (nexts E (knots K) a) := by
  have h8 := hE.k8
  have hl := hE.len
  induction d with
  | zero =>
    intro i hi
    refine Ev.succ ?_
    simp only [spec_l2Next.l0]
    refine Ev.no (by omega) ?_
    have : knots K = (List.range i).map Int.ofNat := by unfold knots; congr 2; omega
    rw [this]; exact Ev.pure _
  | succ d ih =>
    intro i hi
    refine Ev.succ ?_
    simp only [spec_l2Next.l0]
    have hih := ih (i + 1) (by omega)
    have e : (List.range (i + 1)).map Int.ofNat = (List.range i).map Int.ofNat ++ [(i : Int)] := by simp [List.range_succ]
    rw [e, nexts_snoc] at hih
    have hlen : (nexts E ((List.range i).map Int.ofNat) a).length ≤ i := by
      have := List.length_filter_le (fun x => decide (mkT a x ∈ E)) ((List.range i).map Int.ofNat)
      simpa [nexts] using this
    rw [w64s (by omega)]
    refine Ev.yes (by omega) (Ev.bind (e_spec_l1Has K E a (i : Int) (by omega)) ?_)
    by_cases h : mkT a (i : Int) ∈ E
    · rw [if_pos h] at hih
      exact Ev.yes (dec_true h) (Ev.yes (by omega) hih)
    · rw [if_neg h, List.append_nil] at hih
      exact Ev.no (by rw [dec_false h]; simp) hih
theorem e_spec_l2Next {K : Int} {E : List STie} (hE : Ok K E) (a : Int) : Ev (fun k => spec_l2Next.f k K E a) (nexts E (knots K) a) := by
  simp only [spec_l2Next.f]
  exact e_spec_l2Next_l0 hE a K.toNat 0 (by have := hE.k0; omega)

/-- The answer of WayReach. -/
noncomputable def reachL (K : Int) (E : List STie) (a : Int) : List Bool := (knots K).map (fun k => dec (Conn E a k))
theorem reachL_len {K : Int} {E : List STie} {a : Int} (h : 0 ≤ K) : ((reachL K E a).length : Int) = K := by simp only [reachL, List.length_map]; exact knots_len h
theorem reachL_get {K : Int} {E : List STie} {a : Int} {j : Nat} (h : j < (reachL K E a).length) : (reachL K E a)[j] = dec (Conn E a (j : Int)) := by
  simp only [reachL, List.getElem_map]
  rw [knots_get]
def isIn (out : List Bool) (x : Int) : Prop := ∃ h : x.toNat < out.length, 0 ≤ x ∧ out[x.toNat] = true
theorem isIn_set {out : List Bool} {x y : Int} (hx : x.toNat < out.length) (h0 : 0 ≤ x) : isIn (out.set x.toNat true) y ↔ y = x ∨ isIn out y := by
  unfold isIn
  constructor
  · rintro ⟨h, h1, h2⟩
    by_cases e : y = x
    · exact .inl e
    · have hne : x.toNat ≠ y.toNat := by omega
      rw [List.getElem_set_ne hne] at h2
      exact .inr ⟨by simpa using h, h1, h2⟩
  · rintro (rfl | ⟨h, h1, h2⟩)
    · exact ⟨by simpa using hx, h0, by simp⟩
    · refine ⟨by simpa using h, h1, ?_⟩
      rw [List.getElem_set]
      split
      · rfl
      · exact h2
theorem count_set (out : List Bool) : ∀ (i : Nat) (h : i < out.length), out[i] = false → (out.set i true).countP (fun b => !b) + 1 = out.countP (fun b => !b) := by
  induction out with
  | nil => intro i h; simp at h
  | cons b out ih =>
    intro i h hb
    cases i with
    | zero =>
      simp only [List.getElem_cons_zero] at hb
      subst hb
      simp
    | succ i =>
      have := ih i (by simpa using h) (by simpa using hb)
      rw [List.set_cons_succ]
      cases b <;> simp <;> omega
/-- Of what has been come to: all is marked, and what is no more in the row has all its neighbours marked. -/
structure Bfs (K : Int) (E : List STie) (a : Int) (out : List Bool) (row : List Int) (S : Int → Prop) : Prop where
  len : (out.length : Int) = K
  sound : ∀ x, isIn out x → Conn E a x
  start : isIn out a
  row_in : ∀ x ∈ row, isIn out x
  done : ∀ x, isIn out x → x ∈ row ∨ S x ∨ ∀ y, Ed E x y → isIn out y
theorem Bfs.final {K : Int} {E : List STie} {a : Int} {out : List Bool} (hE : Ok K E) (h : Bfs K E a out [] (fun _ => False)) : out = reachL K E a := by
  have hl := reachL_len (E := E) (a := a) hE.k0
  have hlen := h.len
  refine List.ext_getElem (by omega) (fun j h1 h2 => ?_)
  rw [reachL_get h2]
  have key : isIn out (j : Int) ↔ Conn E a (j : Int) := by
    constructor
    · exact h.sound _
    · intro hr
      refine Conn.closed (S := fun x => isIn out x) (fun b c hb hed => ?_) h.start hr
      rcases h.done b hb with h' | h' | h'
      · simp at h'
      · exact h'.elim
      · exact h' c hed
  have e : isIn out (j : Int) ↔ out[j] = true := by
    unfold isIn
    simp only [Int.toNat_natCast]
    exact ⟨fun ⟨_, _, h⟩ => h, fun h => ⟨h1, by omega, h⟩⟩
  rw [dec_congr (key.symm.trans e), dec_bool]
theorem e_spec_WayReach_l1 {K : Int} {E : List STie} (hE : Ok K E) {a : Int} (at_ : Int) (n : Nat) (IH : ∀ out row, Bfs K E a out row (fun _ => False) → out.countP (fun b => !b) + row.length < n + 1 → Ev (fun k => spec_WayReach.l0 k out row K E) (reachL K E a)) (hat : Conn E a at_) (d : Nat) :
    ∀ (i : Nat) (out : List Bool) (row : List Int), i + d = (nexts E (knots K) at_).length → Bfs K E a out row (fun x => x = at_) → (∀ j (h : j < (nexts E (knots K) at_).length), j < i → isIn out (nexts E (knots K) at_)[j]) → out.countP (fun b => !b) + row.length ≤ n → row.length ≤ 1000 → n ≤ 100 →
      Ev (fun k => spec_WayReach.l1 k out row (nexts E (knots K) at_) (i : Int) K E) (reachL K E a) := by
  induction d with
  | zero =>
    intro i out row hi hb hp hn hr h100
    refine Ev.succ ?_
    simp only [spec_WayReach.l1]
    refine Ev.no (by omega) (IH out row ⟨hb.len, hb.sound, hb.start, hb.row_in, fun x hx => ?_⟩ (by omega))
    rcases hb.done x hx with h | h | h
    · exact .inl h
    · subst h
      refine .inr (.inr (fun y hy => ?_))
      obtain ⟨j, hj, e⟩ := List.getElem_of_mem ((mem_nexts hE).2 hy)
      rw [← e]
      exact hp j hj (by omega)
    · exact .inr (.inr h)
  | succ d ih =>
    intro i out row hi hb hp hn hr h100
    have hlt : i < (nexts E (knots K) at_).length := by omega
    have hed := (mem_nexts hE).1 (List.getElem_mem hlt)
    have hin := (hE.ed_in hed).2.1
    have hnl : (nexts E (knots K) at_).length ≤ 8 := by
      have := List.length_filter_le (fun x => decide (mkT at_ x ∈ E)) (knots K)
      have h8 := hE.k8
      have h0 := knots_len hE.k0
      unfold nexts at *
      omega
    have hbl := hb.len
    have hx : (nexts E (knots K) at_)[i].toNat < out.length := by omega
    refine Ev.succ ?_
    simp only [spec_WayReach.l1]
    rw [rdI hlt, w64s (by omega)]
    have hrb : rdOf false out (nexts E (knots K) at_)[i] = out[(nexts E (knots K) at_)[i].toNat] := by
      have := rdB (xs := out) hx
      rwa [Int.toNat_of_nonneg hin.1] at this
    rw [hrb]
    refine Ev.yes (by omega) (Ev.yes (by omega) (Ev.yes hin.1 (Ev.yes (by omega) ?_)))
    by_cases hv : out[(nexts E (knots K) at_)[i].toNat] = true
    · refine Ev.yes hv (ih (i + 1) out row (by omega) hb (fun j hj hji => ?_) hn hr h100)
      rcases Nat.eq_or_lt_of_le (Nat.le_of_lt_succ hji) with e | e
      · subst e; exact ⟨hx, hin.1, hv⟩
      · exact hp j hj e
    · refine Ev.no hv (Ev.yes (by omega) (ih (i + 1) _ _ (by omega) ?_ (fun j hj hji => ?_) ?_ (by have := count_set out _ hx (by simpa using hv); simp; omega) h100))
      · refine ⟨by simpa using hb.len, fun x h => ?_, (isIn_set hx hin.1).2 (.inr hb.start), fun x h => ?_, fun x h => ?_⟩
        · rcases (isIn_set hx hin.1).1 h with rfl | h
          · exact hat.step hed
          · exact hb.sound x h
        · simp only [List.mem_append, List.mem_singleton] at h
          rcases h with h | rfl
          · exact (isIn_set hx hin.1).2 (.inr (hb.row_in x h))
          · exact (isIn_set hx hin.1).2 (.inl rfl)
        · rcases (isIn_set hx hin.1).1 h with rfl | h
          · exact .inl (by simp)
          · rcases hb.done x h with h | h | h
            · exact .inl (by simp [h])
            · exact .inr (.inl h)
            · exact .inr (.inr (fun y hy => (isIn_set hx hin.1).2 (.inr (h y hy))))
      · rcases Nat.eq_or_lt_of_le (Nat.le_of_lt_succ hji) with e | e
        · subst e; exact (isIn_set hx hin.1).2 (.inl rfl)
        · exact (isIn_set hx hin.1).2 (.inr (hp j hj e))
      · have := count_set out _ hx (by simpa using hv)
        simp only [List.length_append, List.length_cons, List.length_nil]
        omega
theorem e_spec_WayReach_l0 {K : Int} {E : List STie} (hE : Ok K E) {a : Int} (n : Nat) (h100 : n ≤ 100) : ∀ out row, Bfs K E a out row (fun _ => False) → out.countP (fun b => !b) + row.length < n + 1 → Ev (fun k => spec_WayReach.l0 k out row K E) (reachL K E a) := by
  induction n with
  | zero =>
    intro out row hb hn
    have : row = [] := List.eq_nil_of_length_eq_zero (by omega)
    subst this
    refine Ev.succ ?_
    simp only [spec_WayReach.l0]
    refine Ev.no (by simp) ?_
    rw [hb.final hE]
    exact Ev.pure _
  | succ n ih =>
    intro out row hb hn
    refine Ev.succ ?_
    simp only [spec_WayReach.l0]
    cases row with
    | nil =>
      refine Ev.no (by simp) ?_
      rw [hb.final hE]
      exact Ev.pure _
    | cons x row =>
      have hx := hb.row_in x (by simp)
      have e0 : rd (x :: row) 0 = x := rfl
      rw [e0]
      have e1 : (x :: row).drop (1 : Int).toNat = row := rfl
      rw [e1]
      simp only [List.length_cons] at hn
      refine Ev.yes (by simp only [List.length_cons]; omega) (Ev.yes (by simp only [List.length_cons]; omega) (Ev.bind (e_spec_l2Next hE x) (Ev.yes (by simp only [List.length_cons]; omega) ?_)))
      refine e_spec_WayReach_l1 hE x n (ih (by omega)) (hb.sound x hx) (nexts E (knots K) x).length 0 out row (by omega) ⟨hb.len, hb.sound, hb.start, fun y hy => hb.row_in y (by simp [hy]), fun y hy => ?_⟩ (fun j hj hji => by omega) (by omega) (by omega) (by omega)
      rcases hb.done y hy with h | h | h
      · simp only [List.mem_cons] at h
        rcases h with h | h
        · exact .inr (.inl h)
        · exact .inl h
      · exact h.elim
      · exact .inr (.inr h)
noncomputable def reachV (K : Int) (E : List STie) (a : Int) : List Bool := if dec (Ok K E ∧ 0 ≤ a ∧ a < K) = true then reachL K E a else []
theorem e_spec_WayReach (K : Int) (E : List STie) (a : Int) : Ev (fun k => spec_WayReach.f k K E a) (reachV K E a) := by
  simp only [spec_WayReach.f]
  refine Ev.bind (e_spec_l1Knot K E a) ?_
  unfold reachV
  by_cases h : Ok K E ∧ 0 ≤ a ∧ a < K
  · rw [if_pos (dec_true h)]
    have h8 := h.1.k8
    refine Ev.yes (dec_true h) (Ev.yes (by omega) (Ev.yes (by omega) (Ev.bind (Ev.pure _) ?_)))
    refine Ev.yes h.2.1 (Ev.yes (by simp; omega) ?_)
    have hlen : a.toNat < (List.replicate K.toNat false).length := by simp; omega
    have hnone : ∀ x, ¬ isIn (List.replicate K.toNat false) x := fun x ⟨_, _, h⟩ => by simp at h
    refine e_spec_WayReach_l0 h.1 20 (by omega) _ _ ⟨by simp; omega, fun x hx => ?_, (isIn_set hlen h.2.1).2 (.inl rfl), fun x hx => ?_, fun x hx => ?_⟩ ?_
    · rcases (isIn_set hlen h.2.1).1 hx with rfl | hx
      · exact .refl
      · exact absurd hx (hnone x)
    · simp only [List.mem_singleton] at hx
      subst hx
      exact (isIn_set hlen h.2.1).2 (.inl rfl)
    · rcases (isIn_set hlen h.2.1).1 hx with rfl | hx
      · exact .inl (by simp)
      · exact absurd hx (hnone x)
    · have := List.countP_le_length (p := fun b => !b) (l := (List.replicate K.toNat false).set a.toNat true)
      simp only [List.length_set, List.length_replicate] at this
      simp only [List.length_cons, List.length_nil]
      omega
  · rw [if_neg (by rw [dec_false h]; simp)]
    exact Ev.no (by rw [dec_false h]; simp) (Ev.pure _)
end Go.Proofs.Ytheoebelhgbejab.E
