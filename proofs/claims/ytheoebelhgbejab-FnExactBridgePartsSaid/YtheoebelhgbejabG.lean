import Derived.Test.YtheoebelhgbejabT
/- Plain facts on graphs: parts, forests, bridges, ways. No program in sight. -/
/- Plain facts on undirected graphs: ties, order, reachability, parts and their number. No program in sight. -/
namespace Osier
set_option linter.unusedVariables false

def tlt (s t : Tie) : Prop := s.f0 < t.f0 ∨ s.f0 = t.f0 ∧ s.f1 < t.f1
instance (s t : Tie) : Decidable (tlt s t) := by unfold tlt; exact inferInstance
theorem tlt_irrefl (s : Tie) : ¬ tlt s s := by unfold tlt; omega
theorem tlt_trans {s t u : Tie} (h : tlt s t) (k : tlt t u) : tlt s u := by unfold tlt at *; omega
theorem tlt_asymm {s t : Tie} (h : tlt s t) : ¬ tlt t s := by unfold tlt at *; omega
theorem tlt_total (s t : Tie) : tlt s t ∨ s = t ∨ tlt t s := by
  by_cases h : s = t
  · exact .inr (.inl h)
  · have : ¬ (s.f0 = t.f0 ∧ s.f1 = t.f1) := fun k => h (Tie.ext' k.1 k.2)
    unfold tlt; omega

def Asc (E : List Tie) : Prop := E.Pairwise tlt

theorem Asc.nodup {E : List Tie} (h : Asc E) : E.Nodup :=
  List.Pairwise.imp (fun {a b} hab e => by subst e; exact tlt_irrefl _ hab) h

/-- Strictly ascending lists with the same members are one. -/
theorem Asc.eq {E F : List Tie} (hE : Asc E) (hF : Asc F) (h : ∀ t, t ∈ E ↔ t ∈ F) : E = F := by
  induction E generalizing F with
  | nil =>
    cases F with
    | nil => rfl
    | cons f F => exact absurd ((h f).2 (by simp)) (by simp)
  | cons e E ih =>
    cases F with
    | nil => exact absurd ((h e).1 (by simp)) (by simp)
    | cons f F =>
      have hE' := List.pairwise_cons.1 hE
      have hF' := List.pairwise_cons.1 hF
      have hef : e = f := by
        have h1 := (h e).1 (by simp)
        have h2 := (h f).2 (by simp)
        simp only [List.mem_cons] at h1 h2
        rcases h1 with h1 | h1
        · exact h1
        · rcases h2 with h2 | h2
          · exact h2.symm
          · exact absurd (hF'.1 _ h1) (tlt_asymm (hE'.1 _ h2))
      subst hef
      congr 1
      refine ih hE'.2 hF'.2 (fun t => ?_)
      have ht := h t
      simp only [List.mem_cons] at ht
      constructor
      · intro hm
        rcases ht.1 (.inr hm) with rfl | hm'
        · exact absurd (hE'.1 _ hm) (tlt_irrefl _)
        · exact hm'
      · intro hm
        rcases ht.2 (.inr hm) with rfl | hm'
        · exact absurd (hF'.1 _ hm) (tlt_irrefl _)
        · exact hm'

structure Ok (K : Int) (E : List Tie) : Prop where
  k0 : 0 ≤ K
  k8 : K ≤ 8
  tie : ∀ t ∈ E, 0 ≤ t.f0 ∧ t.f0 < t.f1 ∧ t.f1 < K
  asc : Asc E

/-- A strictly ascending list of numbers within [lo, hi) is not longer than hi - lo. -/
theorem asc_len (l : List Int) (hl : l.Pairwise (· < ·)) : ∀ (lo hi : Int), lo ≤ hi → (∀ x ∈ l, lo ≤ x ∧ x < hi) → (l.length : Int) ≤ hi - lo := by
  induction l with
  | nil => intro lo hi h _; simp; omega
  | cons x l ih =>
    intro lo hi h hm
    have hp := List.pairwise_cons.1 hl
    have hx := hm x (by simp)
    have := ih hp.2 (x + 1) hi (by omega) (fun y hy => ⟨by have := hp.1 y hy; omega, (hm y (by simp [hy])).2⟩)
    simp only [List.length_cons]
    omega

theorem Ok.len {K : Int} {E : List Tie} (h : Ok K E) : E.length ≤ 64 := by
  have h1 : (E.map fun t => t.f0 * 8 + t.f1).Pairwise (· < ·) := by
    rw [List.pairwise_map]
    refine List.Pairwise.imp_of_mem ?_ h.asc
    intro a b ha hb hab
    have := h.tie a ha
    have := h.tie b hb
    have := h.k8
    unfold tlt at hab
    omega
  have := asc_len _ h1 0 64 (by omega) (by
    intro x hx
    obtain ⟨t, ht, rfl⟩ := List.mem_map.1 hx
    have := h.tie t ht
    have := h.k8
    omega)
  simp at this
  omega

theorem Ok.sub {K : Int} {E F : List Tie} (h : Ok K E) (hs : F.Sublist E) : Ok K F :=
  ⟨h.k0, h.k8, fun t ht => h.tie t (hs.subset ht), List.Pairwise.sublist hs h.asc⟩
theorem Ok.filter {K : Int} {E : List Tie} (h : Ok K E) (p : Tie → Bool) : Ok K (E.filter p) := h.sub (List.filter_sublist)

/-! ### Ends, neighbours, reachability -/
def mkT (a b : Int) : Tie := if a < b then ⟨a, b⟩ else ⟨b, a⟩
theorem mkT_comm (a b : Int) : mkT a b = mkT b a := by
  unfold mkT
  by_cases h : a < b
  · rw [if_pos h, if_neg (by omega)]
  · by_cases h' : b < a
    · rw [if_neg h, if_pos h']
    · have : a = b := by omega
      subst this; rfl
theorem mkT_of_lt {a b : Int} (h : a < b) : mkT a b = ⟨a, b⟩ := if_pos h
theorem mkT_tie {t : Tie} (h : t.f0 < t.f1) : mkT t.f0 t.f1 = t := by rw [mkT_of_lt h]

/-- A tie lies between two knots, whichever stands first. -/
def Ed (E : List Tie) (a b : Int) : Prop := (⟨a, b⟩ : Tie) ∈ E ∨ (⟨b, a⟩ : Tie) ∈ E
theorem Ed.symm {E : List Tie} {a b : Int} (h : Ed E a b) : Ed E b a := Or.symm h
theorem Ed.mono {E F : List Tie} (hs : ∀ t ∈ E, t ∈ F) {a b : Int} (h : Ed E a b) : Ed F a b := h.imp (hs _) (hs _)
theorem Ok.ed {K : Int} {E : List Tie} (h : Ok K E) {a b : Int} : Ed E a b ↔ mkT a b ∈ E := by
  unfold Ed mkT
  constructor
  · rintro (h1 | h1)
    · have := h.tie _ h1
      dsimp only at this
      rw [if_pos (by omega)]; exact h1
    · have := h.tie _ h1
      dsimp only at this
      rw [if_neg (by omega)]; exact h1
  · split
    · exact .inl
    · exact .inr
theorem Ok.ed_in {K : Int} {E : List Tie} (h : Ok K E) {a b : Int} (he : Ed E a b) : (0 ≤ a ∧ a < K) ∧ (0 ≤ b ∧ b < K) ∧ a ≠ b := by
  rcases he with h1 | h1 <;> have := h.tie _ h1 <;> dsimp only at this <;> omega

inductive Conn (E : List Tie) (a : Int) : Int → Prop
  | refl : Conn E a a
  | step {b c : Int} : Conn E a b → Ed E b c → Conn E a c

theorem Conn.trans {E : List Tie} {a b c : Int} (h : Conn E a b) (k : Conn E b c) : Conn E a c := by
  induction k with
  | refl => exact h
  | step _ he ih => exact .step ih he
theorem Conn.one {E : List Tie} {a b : Int} (h : Ed E a b) : Conn E a b := .step .refl h
theorem Conn.symm {E : List Tie} {a b : Int} (h : Conn E a b) : Conn E b a := by
  induction h with
  | refl => exact .refl
  | step _ he ih => exact (Conn.one he.symm).trans ih
theorem Conn.mono {E F : List Tie} (hs : ∀ t ∈ E, t ∈ F) {a b : Int} (h : Conn E a b) : Conn F a b := by
  induction h with
  | refl => exact .refl
  | step _ he ih => exact .step ih (he.mono hs)
theorem Ok.reach_in {K : Int} {E : List Tie} (h : Ok K E) {a b : Int} (hr : Conn E a b) (ha : 0 ≤ a ∧ a < K) : 0 ≤ b ∧ b < K := by
  induction hr with
  | refl => exact ha
  | step _ he ih => exact (h.ed_in he).2.1

/-- A set that no tie leaves holds all that can be come to. -/
theorem Conn.closed {E : List Tie} {S : Int → Prop} (hS : ∀ b c, S b → Ed E b c → S c) {a b : Int} (ha : S a) (hr : Conn E a b) : S b := by
  induction hr with
  | refl => exact ha
  | step _ he ih => exact hS _ _ ih he

/-- With one tie more. -/
theorem reach_cons {E : List Tie} {u v a b : Int} : Conn (⟨u, v⟩ :: E) a b ↔ Conn E a b ∨ (Conn E a u ∧ Conn E v b) ∨ (Conn E a v ∧ Conn E u b) := by
  constructor
  · intro h
    induction h with
    | refl => exact .inl .refl
    | @step b c _ he ih =>
      have hE : Ed E b c ∨ (b = u ∧ c = v) ∨ (b = v ∧ c = u) := by
        rcases he with h1 | h1 <;> simp only [List.mem_cons, Tie.mk.injEq] at h1 <;> unfold Ed
        · rcases h1 with h1 | h1
          · exact .inr (.inl h1)
          · exact .inl (.inl h1)
        · rcases h1 with h1 | h1
          · exact .inr (.inr ⟨h1.2, h1.1⟩)
          · exact .inl (.inr h1)
      rcases hE with hE | ⟨rfl, rfl⟩ | ⟨rfl, rfl⟩
      · rcases ih with ih | ⟨h1, h2⟩ | ⟨h1, h2⟩
        · exact .inl (ih.step hE)
        · exact .inr (.inl ⟨h1, h2.step hE⟩)
        · exact .inr (.inr ⟨h1, h2.step hE⟩)
      · rcases ih with ih | ⟨h1, h2⟩ | ⟨h1, h2⟩
        · exact .inr (.inl ⟨ih, .refl⟩)
        · exact .inr (.inl ⟨h1, .refl⟩)
        · exact .inl h1
      · rcases ih with ih | ⟨h1, h2⟩ | ⟨h1, h2⟩
        · exact .inr (.inr ⟨ih, .refl⟩)
        · exact .inl h1
        · exact .inr (.inr ⟨h1, .refl⟩)
  · have hm : ∀ {x y}, Conn E x y → Conn (⟨u, v⟩ :: E) x y := fun h => h.mono (fun t ht => by simp [ht])
    have huv : Conn (⟨u, v⟩ :: E) u v := Conn.one (.inl (by simp))
    rintro (h | ⟨h1, h2⟩ | ⟨h1, h2⟩)
    · exact hm h
    · exact ((hm h1).trans huv).trans (hm h2)
    · exact ((hm h1).trans huv.symm).trans (hm h2)
theorem reach_congr {E F : List Tie} (h : ∀ t, t ∈ E ↔ t ∈ F) {a b : Int} : Conn E a b ↔ Conn F a b :=
  ⟨Conn.mono (fun t => (h t).1), Conn.mono (fun t => (h t).2)⟩
theorem reach_nil {a b : Int} : Conn [] a b ↔ a = b := by
  constructor
  · intro h
    induction h with
    | refl => rfl
    | step _ he _ => rcases he with h | h <;> simp at h
  · rintro rfl; exact .refl

/-! ### Parts: the least knot, and how many -/
open Classical in
/-- The least of the numbers 0 .. K-1 that meets p; 0 if none does. -/
noncomputable def leastOf (K : Int) (p : Int → Prop) : Int :=
  (((List.range K.toNat).map Int.ofNat).find? (fun k => decide (p k))).getD 0
theorem mem_ints {K x : Int} : x ∈ (List.range K.toNat).map Int.ofNat ↔ 0 ≤ x ∧ x < K := by
  simp only [List.mem_map, List.mem_range]
  constructor
  · rintro ⟨n, hn, rfl⟩
    simp only [Int.ofNat_eq_natCast]; omega
  · rintro ⟨h0, h1⟩
    exact ⟨x.toNat, by omega, by simp only [Int.ofNat_eq_natCast]; omega⟩
theorem ints_asc (n : Nat) : ((List.range n).map Int.ofNat).Pairwise (· < ·) := by
  rw [List.pairwise_map]
  exact List.Pairwise.imp (fun {a b} h => by simp only [Int.ofNat_eq_natCast]; omega) List.pairwise_lt_range

theorem find_least {l : List Int} (hl : l.Pairwise (· < ·)) {p : Int → Bool} {x : Int} (hx : x ∈ l) (hp : p x = true) :
    ∃ y, l.find? p = some y ∧ y ∈ l ∧ p y = true ∧ ∀ z ∈ l, p z = true → y ≤ z := by
  induction l with
  | nil => simp at hx
  | cons a l ih =>
    have hc := List.pairwise_cons.1 hl
    by_cases ha : p a = true
    · refine ⟨a, by simp [ha], by simp, ha, fun z hz _ => ?_⟩
      simp only [List.mem_cons] at hz
      rcases hz with rfl | hz
      · exact Int.le_refl _
      · have := hc.1 z hz; omega
    · have hx' : x ∈ l := by
        simp only [List.mem_cons] at hx
        rcases hx with rfl | hx
        · exact absurd hp ha
        · exact hx
      obtain ⟨y, hy, hm, hpy, hmin⟩ := ih hc.2 hx'
      refine ⟨y, by simp [ha, hy], by simp [hm], hpy, fun z hz hpz => ?_⟩
      simp only [List.mem_cons] at hz
      rcases hz with rfl | hz
      · exact absurd hpz ha
      · exact hmin z hz hpz

theorem leastOf_spec {K : Int} {p : Int → Prop} {x : Int} (h0 : 0 ≤ x) (h1 : x < K) (hp : p x) :
    p (leastOf K p) ∧ 0 ≤ leastOf K p ∧ leastOf K p < K ∧ ∀ z, 0 ≤ z → z < K → p z → leastOf K p ≤ z := by
  obtain ⟨y, hy, hm, hpy, hmin⟩ := find_least (ints_asc K.toNat) (p := fun k => @decide (p k) (Classical.propDecidable _)) (mem_ints.2 ⟨h0, h1⟩) (by simpa using hp)
  have he : leastOf K p = y := by unfold leastOf; rw [hy]; rfl
  rw [he]
  have := mem_ints.1 hm
  exact ⟨by simpa using hpy, this.1, this.2, fun z hz0 hz1 hpz => hmin z (mem_ints.2 ⟨hz0, hz1⟩) (by simpa using hpz)⟩
theorem leastOf_unique {K : Int} {p : Int → Prop} {x : Int} (h0 : 0 ≤ x) (h1 : x < K) (hp : p x) (hmin : ∀ z, 0 ≤ z → z < K → p z → x ≤ z) : leastOf K p = x := by
  obtain ⟨h2, h3, h4, h5⟩ := leastOf_spec h0 h1 hp
  have := h5 x h0 h1 hp
  have := hmin _ h3 h4 h2
  omega

/-- The least knot of the prt of k. -/
noncomputable def prt (K : Int) (E : List Tie) (k : Int) : Int := leastOf K (Conn E k)
theorem part_reach {K : Int} {E : List Tie} {k : Int} (h0 : 0 ≤ k) (h1 : k < K) : Conn E k (prt K E k) := (leastOf_spec h0 h1 .refl).1
theorem part_in {K : Int} {E : List Tie} {k : Int} (h0 : 0 ≤ k) (h1 : k < K) : 0 ≤ prt K E k ∧ prt K E k < K := ⟨(leastOf_spec h0 h1 (Conn.refl (E := E))).2.1, (leastOf_spec h0 h1 (Conn.refl (E := E))).2.2.1⟩
theorem part_le {K : Int} {E : List Tie} {k j : Int} (h0 : 0 ≤ k) (h1 : k < K) (j0 : 0 ≤ j) (j1 : j < K) (h : Conn E k j) : prt K E k ≤ j := (leastOf_spec h0 h1 (Conn.refl (E := E))).2.2.2 j j0 j1 h
theorem part_eq_iff {K : Int} {E : List Tie} {a b : Int} (a0 : 0 ≤ a) (a1 : a < K) (b0 : 0 ≤ b) (b1 : b < K) : prt K E a = prt K E b ↔ Conn E a b := by
  constructor
  · intro h
    have h1 := part_reach (E := E) a0 a1
    rw [h] at h1
    exact h1.trans (part_reach b0 b1).symm
  · intro h
    have ha := part_in (E := E) a0 a1
    have hb := part_in (E := E) b0 b1
    have h1 := part_le a0 a1 hb.1 hb.2 (h.trans (part_reach b0 b1))
    have h2 := part_le b0 b1 ha.1 ha.2 (h.symm.trans (part_reach a0 a1))
    omega
theorem part_congr {K : Int} {E F : List Tie} (h : ∀ a b, Conn E a b ↔ Conn F a b) (k : Int) : prt K E k = prt K F k := by
  unfold prt
  have : Conn E k = Conn F k := funext fun b => propext (h k b)
  rw [this]

/-- Is k the least of its prt? -/
def Root (K : Int) (E : List Tie) (k : Int) : Prop := ∀ j, 0 ≤ j → j < K → Conn E k j → k ≤ j
theorem root_iff {K : Int} {E : List Tie} {k : Int} (h0 : 0 ≤ k) (h1 : k < K) : Root K E k ↔ prt K E k = k := by
  constructor
  · intro h; exact leastOf_unique h0 h1 .refl h
  · intro h j j0 j1 hr
    have := part_le h0 h1 j0 j1 hr
    omega
open Classical in
/-- How many parts. -/
noncomputable def comps (K : Int) (E : List Tie) : Nat := ((List.range K.toNat).map Int.ofNat).countP (fun k => decide (Root K E k))

theorem comps_congr {K : Int} {E F : List Tie} (h : ∀ a b, Conn E a b ↔ Conn F a b) : comps K E = comps K F := by
  have : Root K E = Root K F := by
    funext k
    unfold Root
    simp only [h]
  unfold comps
  rw [this]

theorem countP_ints_le (n : Nat) (p : Int → Bool) : ((List.range n).map Int.ofNat).countP p ≤ n := by
  have := List.countP_le_length (p := p) (l := (List.range n).map Int.ofNat)
  simpa using this
theorem comps_le {K : Int} {E : List Tie} (h : 0 ≤ K) : (comps K E : Int) ≤ K := by
  have := countP_ints_le K.toNat (fun k => @decide (Root K E k) (Classical.propDecidable _))
  unfold comps
  omega
theorem comps_nil {K : Int} (h : 0 ≤ K) : (comps K [] : Int) = K := by
  have : ((List.range K.toNat).map Int.ofNat).countP (fun k => @decide (Root K [] k) (Classical.propDecidable _)) = ((List.range K.toNat).map Int.ofNat).length := by
    rw [List.countP_eq_length]
    intro k _
    simp only [decide_eq_true_eq]
    intro j _ _ hr
    have := reach_nil.1 hr
    omega
  unfold comps
  rw [this]
  simp
  omega

/-- Two counts that differ at one member alone. -/
theorem countP_but {l : List Int} (hl : l.Nodup) {p q : Int → Bool} {x : Int} (hx : x ∈ l) (hp : p x = true) (hq : q x = false) (he : ∀ y ∈ l, y ≠ x → p y = q y) : l.countP p = l.countP q + 1 := by
  induction l with
  | nil => simp at hx
  | cons a l ih =>
    have hn := List.nodup_cons.1 hl
    by_cases ha : a = x
    · subst ha
      rw [List.countP_cons_of_pos hp, List.countP_cons_of_neg (by simp [hq])]
      congr 1
      exact List.countP_congr (fun y hy => by rw [he y (by simp [hy]) (fun e => hn.1 (e ▸ hy))])
    · have hx' : x ∈ l := by
        simp only [List.mem_cons] at hx
        rcases hx with hx | hx
        · exact absurd hx.symm ha
        · exact hx
      have hi := ih hn.2 hx' (fun y hy hne => he y (by simp [hy]) hne)
      have hpa := he a (by simp) ha
      cases hqa : q a with
      | true => rw [hqa] at hpa; rw [List.countP_cons_of_pos hpa, List.countP_cons_of_pos hqa, hi]
      | false => rw [hqa] at hpa; rw [List.countP_cons_of_neg (by simp [hpa]), List.countP_cons_of_neg (by simp [hqa]), hi]

theorem ints_nodup (n : Nat) : ((List.range n).map Int.ofNat).Nodup :=
  List.Pairwise.imp (fun {a b} h => by omega) (ints_asc n)

/-- A tie between two that hang together leaves the parts as they are. -/
theorem comps_cons_same {K : Int} {E : List Tie} {u v : Int} (h : Conn E u v) : comps K (⟨u, v⟩ :: E) = comps K E :=
  comps_congr (fun a b => by
    rw [reach_cons]
    constructor
    · rintro (h1 | ⟨h1, h2⟩ | ⟨h1, h2⟩)
      · exact h1
      · exact (h1.trans h).trans h2
      · exact (h1.trans h.symm).trans h2
    · exact .inl)

/-- A tie between two parts makes one of them. -/
theorem comps_cons_less {K : Int} {E : List Tie} {u v : Int} (u0 : 0 ≤ u) (u1 : u < K) (v0 : 0 ≤ v) (v1 : v < K)
    (h : ¬ Conn E u v) : comps K E = comps K (⟨u, v⟩ :: E) + 1 := by
  -- the greater of the two least knots is a root no more
  have key : ∀ {u v : Int}, 0 ≤ u → u < K → 0 ≤ v → v < K → ¬ Conn E u v → prt K E u < prt K E v → comps K E = comps K (⟨u, v⟩ :: E) + 1 := by
    intro u v u0 u1 v0 v1 h hlt
    have hu := part_in (E := E) u0 u1
    have hv := part_in (E := E) v0 v1
    have ru := part_reach (E := E) u0 u1
    have rv := part_reach (E := E) v0 v1
    unfold comps
    refine countP_but (ints_nodup _) (x := prt K E v) (mem_ints.2 hv) ?_ ?_ ?_
    · simp only [decide_eq_true_eq]
      intro j j0 j1 hr
      exact part_le v0 v1 j0 j1 (rv.trans hr)
    · simp only [decide_eq_false_iff_not]
      intro hroot
      have := hroot (prt K E u) hu.1 hu.2 (reach_cons.2 (.inr (.inr ⟨rv.symm, ru⟩)))
      omega
    · intro k hk hne
      have hk' := mem_ints.1 hk
      simp only [decide_eq_decide]
      constructor
      · intro hroot j j0 j1 hr
        rcases reach_cons.1 hr with h1 | ⟨h1, h2⟩ | ⟨h1, h2⟩
        · exact hroot j j0 j1 h1
        · have hku : k = prt K E u := by
            have h3 := hroot (prt K E u) hu.1 hu.2 (h1.trans ru)
            have h4 := part_le u0 u1 hk'.1 hk'.2 h1.symm
            omega
          have := part_le v0 v1 j0 j1 h2
          omega
        · have hkv : k = prt K E v := by
            have h3 := hroot (prt K E v) hv.1 hv.2 (h1.trans rv)
            have h4 := part_le v0 v1 hk'.1 hk'.2 h1.symm
            omega
          exact absurd hkv hne
      · intro hroot j j0 j1 hr
        exact hroot j j0 j1 (reach_cons.2 (.inl hr))
  have hne : prt K E u ≠ prt K E v := fun e => h ((part_eq_iff u0 u1 v0 v1).1 e)
  rcases Int.lt_or_gt_of_ne hne with hlt | hlt
  · exact key u0 u1 v0 v1 h hlt
  · have h' : ¬ Conn E v u := fun k => h k.symm
    rw [key v0 v1 u0 u1 h' hlt]
    congr 1
    exact comps_congr (fun a b => by
      rw [reach_cons, reach_cons]
      constructor
      · rintro (h1 | h1 | h1)
        · exact .inl h1
        · exact .inr (.inr h1)
        · exact .inr (.inl h1)
      · rintro (h1 | h1 | h1)
        · exact .inl h1
        · exact .inr (.inr h1)
        · exact .inr (.inl h1))

theorem comps_perm {K : Int} {E F : List Tie} (h : ∀ t, t ∈ E ↔ t ∈ F) : comps K E = comps K F := comps_congr (fun _ _ => reach_congr h)

/-- Each tie joins two parts at most. -/
theorem comps_ge {K : Int} {E : List Tie} (hE : ∀ t ∈ E, (0 ≤ t.f0 ∧ t.f0 < K) ∧ 0 ≤ t.f1 ∧ t.f1 < K) (hK : 0 ≤ K) : K ≤ (comps K E : Int) + E.length := by
  induction E with
  | nil => have := comps_nil hK; simp; omega
  | cons t E ih =>
    have hi := ih (fun s hs => hE s (by simp [hs]))
    have ht := hE t (by simp)
    obtain ⟨u, v⟩ := t
    dsimp only at ht
    by_cases h : Conn E u v
    · rw [comps_cons_same h]; simp; omega
    · have := comps_cons_less ht.1.1 ht.1.2 ht.2.1 ht.2.2 h
      simp; omega
end Osier
/- Plain facts on spanning forests and bridges. No program in sight. -/
namespace Osier
set_option linter.unusedVariables false

/-- E without one tie. -/
def cut (E : List Tie) (t : Tie) : List Tie := E.filter (fun s => decide (s ≠ t))
theorem mem_cut {E : List Tie} {s t : Tie} : s ∈ cut E t ↔ s ∈ E ∧ s ≠ t := by unfold cut; simp [List.mem_filter]
theorem mem_cut_cons {E : List Tie} {t : Tie} (h : t ∈ E) (s : Tie) : s ∈ E ↔ s ∈ t :: cut E t := by
  simp only [List.mem_cons, mem_cut]
  constructor
  · intro hs
    by_cases e : s = t
    · exact .inl e
    · exact .inr ⟨hs, e⟩
  · rintro (rfl | h1)
    · exact h
    · exact h1.1
theorem Ok.cut {K : Int} {E : List Tie} (h : Ok K E) (t : Tie) : Ok K (cut E t) := h.filter _
theorem reach_cut {E : List Tie} {t : Tie} (h : t ∈ E) {a b : Int} :
    Conn E a b ↔ Conn (cut E t) a b ∨ (Conn (cut E t) a t.f0 ∧ Conn (cut E t) t.f1 b) ∨ (Conn (cut E t) a t.f1 ∧ Conn (cut E t) t.f0 b) := by
  rw [reach_congr (mem_cut_cons h)]
  exact reach_cons (u := t.f0) (v := t.f1)
theorem comps_cut_same {K : Int} {E : List Tie} {t : Tie} (h : t ∈ E) (hr : Conn (cut E t) t.f0 t.f1) : comps K (cut E t) = comps K E := by
  rw [comps_perm (mem_cut_cons h)]
  exact (comps_cons_same hr).symm
theorem comps_cut_more {K : Int} {E : List Tie} (hE : Ok K E) {t : Tie} (h : t ∈ E) (hr : ¬ Conn (cut E t) t.f0 t.f1) : comps K (cut E t) = comps K E + 1 := by
  rw [comps_perm (mem_cut_cons h)]
  have := hE.tie t h
  exact comps_cons_less (by omega) (by omega) (by omega) (by omega) hr
theorem cut_length {E : List Tie} (hE : E.Nodup) {t : Tie} (h : t ∈ E) : (cut E t).length + 1 = E.length := by
  induction E with
  | nil => simp at h
  | cons e E ih =>
    have hn := List.nodup_cons.1 hE
    by_cases he : e = t
    · subst he
      have : cut (e :: E) e = E := by
        unfold cut
        rw [List.filter_cons_of_neg (by simp)]
        exact List.filter_eq_self.2 (fun s hs => by simp; rintro rfl; exact hn.1 hs)
      rw [this]; simp
    · have ht : t ∈ E := by
        simp only [List.mem_cons] at h
        rcases h with h | h
        · exact absurd h.symm he
        · exact h
      have : cut (e :: E) t = e :: cut E t := by
        unfold cut
        rw [List.filter_cons_of_pos (by simp [he])]
      rw [this]
      have := ih hn.2 ht
      simp; omega
theorem cut_not_mem {E : List Tie} {t : Tie} (h : t ∉ E) : cut E t = E := by
  unfold cut
  exact List.filter_eq_self.2 (fun s hs => by simp; rintro rfl; exact h hs)

/-! ### More ties, fewer parts -/
theorem comps_append_ge {K : Int} {A B : List Tie} (hB : ∀ t ∈ B, (0 ≤ t.f0 ∧ t.f0 < K) ∧ 0 ≤ t.f1 ∧ t.f1 < K) : comps K A ≤ comps K (B ++ A) + B.length := by
  induction B with
  | nil => simp
  | cons t B ih =>
    have hi := ih (fun s hs => hB s (by simp [hs]))
    have ht := hB t (by simp)
    obtain ⟨u, v⟩ := t
    dsimp only at ht
    rw [List.cons_append]
    by_cases h : Conn (B ++ A) u v
    · rw [comps_cons_same h]; simp; omega
    · have := comps_cons_less ht.1.1 ht.1.2 ht.2.1 ht.2.2 h
      simp; omega

def Forest (K : Int) (L : List Tie) : Prop := (comps K L : Int) + L.length = K
def In (K : Int) (L : List Tie) : Prop := ∀ t ∈ L, (0 ≤ t.f0 ∧ t.f0 < K) ∧ 0 ≤ t.f1 ∧ t.f1 < K
theorem Ok.in_ {K : Int} {E : List Tie} (h : Ok K E) : In K E := fun t ht => by have := h.tie t ht; omega

/-- In a forest no tie joins what the ties before it join. -/
theorem Forest.before {K : Int} {pre post : List Tie} {t : Tie} (hK : 0 ≤ K) (h : Forest K (pre ++ t :: post)) (hin : In K (pre ++ t :: post)) : ¬ Conn pre t.f0 t.f1 := by
  intro hr
  have h1 := comps_ge (K := K) (E := pre) (fun s hs => hin s (by simp [hs])) hK
  have h2 := comps_append_ge (K := K) (A := t :: pre) (B := post) (fun s hs => hin s (by simp [hs]))
  have h3 : comps K (t :: pre) = comps K pre := comps_cons_same (u := t.f0) (v := t.f1) hr
  have h4 : comps K (post ++ t :: pre) = comps K (pre ++ t :: post) := comps_perm (fun s => by
    simp only [List.mem_append, List.mem_cons]
    constructor
    · rintro (h | h | h)
      · exact .inr (.inr h)
      · exact .inr (.inl h)
      · exact .inl h
    · rintro (h | h | h)
      · exact .inr (.inr h)
      · exact .inr (.inl h)
      · exact .inl h)
  unfold Forest at h
  simp only [List.length_append, List.length_cons] at h
  omega
/-- Nor does any tie of it join what the others join. -/
theorem Forest.bridge {K : Int} {L : List Tie} {t : Tie} (hK : 0 ≤ K) (hn : L.Nodup) (h : Forest K L) (hin : In K L) (ht : t ∈ L) : ¬ Conn (cut L t) t.f0 t.f1 := by
  intro hr
  have h1 := comps_ge (K := K) (E := cut L t) (fun s hs => hin s (mem_cut.1 hs).1) hK
  have h2 := comps_cut_same (K := K) ht hr
  have h3 := cut_length hn ht
  unfold Forest at h
  omega

/-! ### The forest that is found tie by tie -/
open Classical in
noncomputable def kr (acc : List Tie) : List Tie → List Tie
  | [] => acc
  | t :: r => if Conn acc t.f0 t.f1 then kr acc r else kr (acc ++ [t]) r
theorem kr_yes {acc r : List Tie} {t : Tie} (h : Conn acc t.f0 t.f1) : kr acc (t :: r) = kr acc r := by rw [kr, if_pos h]
theorem kr_no {acc r : List Tie} {t : Tie} (h : ¬ Conn acc t.f0 t.f1) : kr acc (t :: r) = kr (acc ++ [t]) r := by rw [kr, if_neg h]
theorem kr_shape (r : List Tie) : ∀ acc, ∃ s, kr acc r = acc ++ s ∧ s.Sublist r := by
  induction r with
  | nil => intro acc; exact ⟨[], by simp [kr], List.Sublist.refl _⟩
  | cons t r ih =>
    intro acc
    by_cases h : Conn acc t.f0 t.f1
    · obtain ⟨s, h1, h2⟩ := ih acc
      exact ⟨s, by rw [kr_yes h, h1], h2.cons _⟩
    · obtain ⟨s, h1, h2⟩ := ih (acc ++ [t])
      exact ⟨t :: s, by rw [kr_no h, h1]; simp, h2.cons_cons _⟩
theorem kr_sublist (E : List Tie) : (kr [] E).Sublist E := by
  obtain ⟨s, h1, h2⟩ := kr_shape E []
  rw [h1]; simpa using h2
theorem kr_reach (r : List Tie) : ∀ acc a b, Conn (kr acc r) a b ↔ Conn (acc ++ r) a b := by
  induction r with
  | nil => intro acc a b; simp [kr]
  | cons t r ih =>
    intro acc a b
    by_cases h : Conn acc t.f0 t.f1
    · rw [kr_yes h, ih]
      have e1 : Conn (acc ++ t :: r) a b ↔ Conn (⟨t.f0, t.f1⟩ :: (acc ++ r)) a b := reach_congr (fun s => by
        simp only [List.mem_append, List.mem_cons]
        constructor
        · rintro (h | h | h)
          · exact .inr (.inl h)
          · exact .inl h
          · exact .inr (.inr h)
        · rintro (h | h | h)
          · exact .inr (.inl h)
          · exact .inl h
          · exact .inr (.inr h))
      rw [e1, reach_cons]
      have h' : Conn (acc ++ r) t.f0 t.f1 := h.mono (fun s hs => by simp [hs])
      constructor
      · exact .inl
      · rintro (h1 | ⟨h1, h2⟩ | ⟨h1, h2⟩)
        · exact h1
        · exact (h1.trans h').trans h2
        · exact (h1.trans h'.symm).trans h2
    · rw [kr_no h, ih]
      simp
theorem kr_reach' (E : List Tie) (a b : Int) : Conn (kr [] E) a b ↔ Conn E a b := by rw [kr_reach]; simp
theorem kr_comps (K : Int) (E : List Tie) : comps K (kr [] E) = comps K E := comps_congr (kr_reach' E)
theorem kr_forest_aux {K : Int} (r : List Tie) (hr : In K r) : ∀ acc, In K acc → Forest K acc → Forest K (kr acc r) := by
  induction r with
  | nil => intro acc _ h; exact h
  | cons t r ih =>
    intro acc hin hf
    have ht := hr t (by simp)
    by_cases h : Conn acc t.f0 t.f1
    · rw [kr_yes h]; exact ih (fun s hs => hr s (by simp [hs])) acc hin hf
    · rw [kr_no h]
      refine ih (fun s hs => hr s (by simp [hs])) _ ?_ ?_
      · intro s hs
        simp only [List.mem_append, List.mem_singleton] at hs
        rcases hs with hs | rfl
        · exact hin s hs
        · exact ht
      · have h1 := comps_cons_less (K := K) ht.1.1 ht.1.2 ht.2.1 ht.2.2 h
        have h2 : comps K (acc ++ [t]) = comps K (⟨t.f0, t.f1⟩ :: acc) := comps_perm (fun s => by
          simp only [List.mem_append, List.mem_cons, List.not_mem_nil, or_false]
          exact ⟨Or.symm, Or.symm⟩)
        unfold Forest at *
        rw [h2]
        simp
        omega
theorem kr_forest {K : Int} {E : List Tie} (h : Ok K E) : Forest K (kr [] E) :=
  kr_forest_aux E h.in_ [] (fun t ht => by simp at ht) (by have := comps_nil h.k0; unfold Forest; simp; omega)
theorem kr_ok {K : Int} {E : List Tie} (h : Ok K E) : Ok K (kr [] E) := h.sub (kr_sublist E)
theorem kr_length {K : Int} {E : List Tie} (h : Ok K E) : ((kr [] E).length : Int) = K - comps K E := by
  have := kr_forest h
  unfold Forest at this
  rw [kr_comps] at this
  omega

/-- A tie that is left out is joined by what was taken ahead of it. -/
theorem kr_left (r : List Tie) : ∀ acc, Asc (acc ++ r) → ∀ e ∈ r, e ∉ kr acc r → Conn ((kr acc r).filter (fun s => decide (tlt s e))) e.f0 e.f1 := by
  induction r with
  | nil => intro acc _ e he; simp at he
  | cons t r ih =>
    intro acc hasc e he hne
    by_cases h : Conn acc t.f0 t.f1
    · rw [kr_yes h] at hne ⊢
      simp only [List.mem_cons] at he
      have hasc' : Asc (acc ++ r) := List.Pairwise.sublist (by simp) hasc
      rcases he with rfl | he
      · obtain ⟨s, hs, _⟩ := kr_shape r acc
        rw [hs]
        refine h.mono (fun x hx => ?_)
        have : tlt x e := by
          have := List.pairwise_append.1 hasc
          exact this.2.2 x hx e (by simp)
        simp [hx, this]
      · exact ih acc hasc' e he hne
    · rw [kr_no h] at hne ⊢
      have hasc' : Asc (acc ++ [t] ++ r) := by simpa using hasc
      simp only [List.mem_cons] at he
      rcases he with rfl | he
      · obtain ⟨s, hs, _⟩ := kr_shape r (acc ++ [e])
        exact absurd (by rw [hs]; simp) hne
      · exact ih _ hasc' e he hne

/-- The first place at which two lists prt, each having one there: there the first list's tie stands ahead. -/
def Less (A B : List Tie) : Prop := ∃ pre a b A' B', A = pre ++ a :: A' ∧ B = pre ++ b :: B' ∧ tlt a b

/-- Of no other spanning forest do the ties stand ahead. -/
theorem tree_first {K : Int} {E L : List Tie} (hE : Ok K E) (hL : Asc L) (hm : ∀ t ∈ L, t ∈ E) (hf : Forest K L) : ¬ Less L (kr [] E) := by
  rintro ⟨pre, e, f, L', T', rfl, hT, hlt⟩
  have hin : In K (pre ++ e :: L') := fun t ht => hE.in_ t (hm t ht)
  refine Forest.before hE.k0 hf hin ?_
  have hTa : Asc (pre ++ f :: T') := by rw [← hT]; exact (kr_ok hE).asc
  have hLa := List.pairwise_append.1 hL
  have hTb := List.pairwise_append.1 hTa
  have hTc := List.pairwise_cons.1 hTb.2.1
  have hne : e ∉ kr [] E := by
    rw [hT]
    simp only [List.mem_append, List.mem_cons, not_or]
    refine ⟨fun h => ?_, fun h => ?_, fun h => ?_⟩
    · exact tlt_irrefl _ (hLa.2.2 e h e (by simp))
    · subst h; exact tlt_irrefl _ hlt
    · exact tlt_irrefl _ (tlt_trans hlt (hTc.1 e h))
  have := kr_left E [] (by simpa using hE.asc) e (hm e (by simp)) hne
  refine this.mono (fun s hs => ?_)
  rw [hT] at hs
  simp only [List.mem_filter, List.mem_append, List.mem_cons, decide_eq_true_eq] at hs
  obtain ⟨hs, hlt'⟩ := hs
  rcases hs with hs | rfl | hs
  · exact hs
  · exact absurd hlt' (tlt_asymm hlt)
  · exact absurd hlt' (tlt_asymm (tlt_trans hlt (hTc.1 s hs)))

/-! ### Bridges -/
def Bridge (E : List Tie) (t : Tie) : Prop := ¬ Conn (cut E t) t.f0 t.f1
theorem cut_comm (E : List Tie) (s t : Tie) : cut (cut E s) t = cut (cut E t) s := by
  unfold cut
  rw [List.filter_filter, List.filter_filter]
  congr 1
  funext x
  exact Bool.and_comm _ _
theorem bridge_cut {E : List Tie} {b t : Tie} (hb : b ∈ E) (hB : Bridge E b) (ht : t ∈ E) (hne : t ≠ b) : Bridge (cut E b) t ↔ Bridge E t := by
  unfold Bridge
  constructor
  · intro h hr
    have hb' : b ∈ cut E t := mem_cut.2 ⟨hb, Ne.symm hne⟩
    have ht' : t ∈ cut E b := mem_cut.2 ⟨ht, hne⟩
    rw [reach_cut hb'] at hr
    rw [cut_comm] at h
    apply hB
    rw [reach_cut ht', cut_comm]
    rcases hr with hr | ⟨h1, h2⟩ | ⟨h1, h2⟩
    · exact absurd hr h
    · exact .inr (.inl ⟨h1.symm, h2.symm⟩)
    · exact .inr (.inr ⟨h2, h1⟩)
  · intro h hr
    exact h (hr.mono (fun s hs => by
      have := mem_cut.1 hs
      have h2 := mem_cut.1 this.1
      exact mem_cut.2 ⟨h2.1, this.2⟩))
theorem bridge_iff_comps {K : Int} {E : List Tie} (hE : Ok K E) {t : Tie} (h : t ∈ E) : Bridge E t ↔ comps K (cut E t) > comps K E := by
  unfold Bridge
  constructor
  · intro hr; have := comps_cut_more hE h hr; omega
  · intro hlt hr; have := comps_cut_same (K := K) h hr; omega
/-- Without a bridge each knot of its prt hangs with one end, and one alone. -/
theorem bridge_ends {E : List Tie} {t : Tie} (h : t ∈ E) (hb : Bridge E t) (k : Int) :
    (Conn E t.f0 k ↔ Conn (cut E t) t.f0 k ∨ Conn (cut E t) t.f1 k) ∧ ¬ (Conn (cut E t) t.f0 k ∧ Conn (cut E t) t.f1 k) := by
  refine ⟨?_, fun ⟨h1, h2⟩ => hb (h1.trans h2.symm)⟩
  rw [reach_cut h]
  constructor
  · rintro (h1 | ⟨_, h2⟩ | ⟨h1, _⟩)
    · exact .inl h1
    · exact .inr h2
    · exact absurd h1 hb
  · rintro (h1 | h2)
    · exact .inl h1
    · exact .inr (.inl ⟨.refl, h2⟩)
end Osier
/- Plain facts on ways: order, enumeration, shortest ways, distances. No program in sight. -/
namespace Osier
set_option linter.unusedVariables false

/-! ### Sorted lists -/
theorem sorted_eq {α : Type} {R : α → α → Prop} (irr : ∀ a, ¬ R a a) (asy : ∀ a b, R a b → ¬ R b a) {E F : List α} (hE : E.Pairwise R) (hF : F.Pairwise R) (h : ∀ t, t ∈ E ↔ t ∈ F) : E = F := by
  induction E generalizing F with
  | nil =>
    cases F with
    | nil => rfl
    | cons f F => exact absurd ((h f).2 (by simp)) (by simp)
  | cons e E ih =>
    cases F with
    | nil => exact absurd ((h e).1 (by simp)) (by simp)
    | cons f F =>
      have hE' := List.pairwise_cons.1 hE
      have hF' := List.pairwise_cons.1 hF
      have hef : e = f := by
        have h1 := (h e).1 (by simp)
        have h2 := (h f).2 (by simp)
        simp only [List.mem_cons] at h1 h2
        rcases h1 with h1 | h1
        · exact h1
        · rcases h2 with h2 | h2
          · exact h2.symm
          · exact absurd (hF'.1 _ h1) (asy _ _ (hE'.1 _ h2))
      subst hef
      congr 1
      refine ih hE'.2 hF'.2 (fun t => ?_)
      have ht := h t
      simp only [List.mem_cons] at ht
      constructor
      · intro hm
        rcases ht.1 (.inr hm) with rfl | hm'
        · exact absurd (hE'.1 _ hm) (irr _)
        · exact hm'
      · intro hm
        rcases ht.2 (.inr hm) with rfl | hm'
        · exact absurd (hF'.1 _ hm) (irr _)
        · exact hm'

/-! ### The order of ways -/
def lex : List Int → List Int → Prop
  | _, [] => False
  | [], _ :: _ => True
  | x :: xs, y :: ys => x < y ∨ x = y ∧ lex xs ys
theorem lex_irrefl (x : List Int) : ¬ lex x x := by
  induction x with
  | nil => exact id
  | cons a x ih => simp only [lex]; rintro (h | h); omega; exact ih h.2
theorem lex_trans {x y z : List Int} (h : lex x y) (k : lex y z) : lex x z := by
  induction x generalizing y z with
  | nil =>
    cases y with
    | nil => exact h.elim
    | cons b y => cases z with
      | nil => exact k.elim
      | cons c z => trivial
  | cons a x ih =>
    cases y with
    | nil => exact h.elim
    | cons b y => cases z with
      | nil => exact k.elim
      | cons c z =>
        simp only [lex] at *
        rcases h with h | ⟨rfl, h⟩
        · rcases k with k | ⟨rfl, k⟩
          · exact .inl (by omega)
          · exact .inl h
        · rcases k with k | ⟨rfl, k⟩
          · exact .inl k
          · exact .inr ⟨rfl, ih h k⟩
theorem lex_asymm {x y : List Int} (h : lex x y) : ¬ lex y x := fun k => lex_irrefl _ (lex_trans h k)
theorem lex_total (x y : List Int) : lex x y ∨ x = y ∨ lex y x := by
  induction x generalizing y with
  | nil => cases y with
    | nil => exact .inr (.inl rfl)
    | cons b y => exact .inl trivial
  | cons a x ih => cases y with
    | nil => exact .inr (.inr trivial)
    | cons b y =>
      simp only [lex]
      rcases Int.lt_trichotomy a b with h | h | h
      · exact .inl (.inl h)
      · subst h
        rcases ih y with h | h | h
        · exact .inl (.inr ⟨rfl, h⟩)
        · subst h; exact .inr (.inl rfl)
        · exact .inr (.inr (.inr ⟨rfl, h⟩))
      · exact .inr (.inr (.inl h))
theorem lex_prefix {p : List Int} {a b : Int} (h : a < b) (x y : List Int) : lex (p ++ a :: x) (p ++ b :: y) := by
  induction p with
  | nil => exact .inl h
  | cons c p ih => exact .inr ⟨rfl, ih⟩
def wlt (x y : List Int) : Prop := x.length < y.length ∨ x.length = y.length ∧ lex x y
theorem wlt_irrefl (x : List Int) : ¬ wlt x x := by rintro (h | h); omega; exact lex_irrefl _ h.2
theorem wlt_trans {x y z : List Int} (h : wlt x y) (k : wlt y z) : wlt x z := by
  rcases h with h | ⟨h1, h2⟩ <;> rcases k with k | ⟨k1, k2⟩
  · exact .inl (by omega)
  · exact .inl (by omega)
  · exact .inl (by omega)
  · exact .inr ⟨by omega, lex_trans h2 k2⟩
theorem wlt_asymm {x y : List Int} (h : wlt x y) : ¬ wlt y x := fun k => wlt_irrefl _ (wlt_trans h k)
theorem wlt_total (x y : List Int) : wlt x y ∨ x = y ∨ wlt y x := by
  rcases Nat.lt_trichotomy x.length y.length with h | h | h
  · exact .inl (.inl h)
  · rcases lex_total x y with k | k | k
    · exact .inl (.inr ⟨h, k⟩)
    · exact .inr (.inl k)
    · exact .inr (.inr (.inr ⟨h.symm, k⟩))
  · exact .inr (.inr (.inl h))

/-! ### Ways -/
def Walk (E : List Tie) : List Int → Prop
  | [] => True
  | [_] => True
  | a :: b :: l => Ed E a b ∧ Walk E (b :: l)
theorem Walk.tail {E : List Tie} {a : Int} {l : List Int} (h : Walk E (a :: l)) : Walk E l := by
  cases l with
  | nil => trivial
  | cons b l => exact h.2
theorem Walk.append {E : List Tie} {x y : List Int} {a b : Int} (hx : Walk E (x ++ [a])) (he : Ed E a b) (hy : Walk E (b :: y)) : Walk E (x ++ a :: b :: y) := by
  induction x with
  | nil => exact ⟨he, hy⟩
  | cons c x ih =>
    cases x with
    | nil => exact ⟨hx.1, ih hx.2⟩
    | cons d x => exact ⟨hx.1, ih hx.2⟩
theorem Walk.left {E : List Tie} {x y : List Int} (h : Walk E (x ++ y)) : Walk E x := by
  induction x with
  | nil => trivial
  | cons c x ih =>
    cases x with
    | nil => trivial
    | cons d x => exact ⟨h.1, ih h.2⟩
theorem Walk.right {E : List Tie} {x y : List Int} (h : Walk E (x ++ y)) : Walk E y := by
  induction x with
  | nil => exact h
  | cons c x ih => exact ih (Walk.tail h)
theorem Walk.mid {E : List Tie} {x y : List Int} {a b : Int} (h : Walk E (x ++ a :: b :: y)) : Ed E a b := (Walk.right h).1
theorem Walk.mono {E F : List Tie} (hs : ∀ t ∈ E, t ∈ F) {x : List Int} (h : Walk E x) : Walk F x := by
  induction x with
  | nil => trivial
  | cons c x ih =>
    cases x with
    | nil => trivial
    | cons d x => exact ⟨h.1.mono hs, ih h.2⟩
theorem Walk.snoc {E : List Tie} {x : List Int} {a b : Int} (hx : Walk E (x ++ [a])) (he : Ed E a b) : Walk E (x ++ [a] ++ [b]) := by
  have := Walk.append (y := []) hx he trivial
  simpa using this
theorem Walk.reverse {E : List Tie} {x : List Int} (h : Walk E x) : Walk E x.reverse := by
  induction x with
  | nil => trivial
  | cons c x ih =>
    cases x with
    | nil => trivial
    | cons d x =>
      have := ih h.2
      rw [List.reverse_cons] at this ⊢
      rw [List.reverse_cons]
      exact Walk.snoc this h.1.symm
theorem Walk.reach {E : List Tie} {a b : Int} {x : List Int} (h : Walk E (a :: x)) (hl : (a :: x).getLast? = some b) : Conn E a b := by
  induction x generalizing a with
  | nil => simp at hl; subst hl; exact .refl
  | cons c x ih => exact (Conn.one h.1).trans (ih h.2 (by simpa using hl))

structure Pth (K : Int) (E : List Tie) (w : List Int) : Prop where
  ne : w ≠ []
  in_ : ∀ v ∈ w, 0 ≤ v ∧ v < K
  walk : Walk E w
  nodup : w.Nodup
theorem nodup_reverse {l : List Int} (h : l.Nodup) : l.reverse.Nodup := by
  unfold List.Nodup at *
  rw [List.pairwise_reverse]
  exact List.Pairwise.imp (fun h => Ne.symm h) h
theorem Pth.reverse {K : Int} {E : List Tie} {w : List Int} (h : Pth K E w) : Pth K E w.reverse :=
  ⟨by simpa using h.ne, by simpa using h.in_, h.walk.reverse, nodup_reverse h.nodup⟩
theorem Pth.left {K : Int} {E : List Tie} {x y : List Int} (h : Pth K E (x ++ y)) (hx : x ≠ []) : Pth K E x :=
  ⟨hx, fun v hv => h.in_ v (by simp [hv]), h.walk.left, (List.nodup_append.1 h.nodup).1⟩
theorem Pth.right {K : Int} {E : List Tie} {x y : List Int} (h : Pth K E (x ++ y)) (hy : y ≠ []) : Pth K E y :=
  ⟨hy, fun v hv => h.in_ v (by simp [hv]), h.walk.right, (List.nodup_append.1 h.nodup).2.1⟩
theorem Pth.mono {K : Int} {E F : List Tie} (hs : ∀ t ∈ E, t ∈ F) {x : List Int} (h : Pth K E x) : Pth K F x := ⟨h.ne, h.in_, h.walk.mono hs, h.nodup⟩

/-! ### Walks of a length, distances -/
inductive Steps (E : List Tie) : Nat → Int → Int → Prop
  | zero {a : Int} : Steps E 0 a a
  | succ {n : Nat} {a b c : Int} : Ed E a b → Steps E n b c → Steps E (n + 1) a c
theorem Steps.trans {E : List Tie} {m n : Nat} {a b c : Int} (h : Steps E m a b) (k : Steps E n b c) : Steps E (m + n) a c := by
  induction h with
  | zero => rwa [Nat.zero_add]
  | @succ m _ _ _ he _ ih => rw [Nat.add_right_comm]; exact .succ he (ih k)
theorem Steps.one {E : List Tie} {a b : Int} (h : Ed E a b) : Steps E 1 a b := .succ h .zero
theorem Steps.snoc {E : List Tie} {m : Nat} {a b c : Int} (h : Steps E m a b) (he : Ed E b c) : Steps E (m + 1) a c := h.trans (.one he)
theorem Steps.symm {E : List Tie} {m : Nat} {a b : Int} (h : Steps E m a b) : Steps E m b a := by
  induction h with
  | zero => exact .zero
  | succ he _ ih => exact ih.snoc he.symm
theorem Steps.reach {E : List Tie} {m : Nat} {a b : Int} (h : Steps E m a b) : Conn E a b := by
  induction h with
  | zero => exact .refl
  | succ he _ ih => exact (Conn.one he).trans ih
theorem Steps.mono {E F : List Tie} (hs : ∀ t ∈ E, t ∈ F) {m : Nat} {a b : Int} (h : Steps E m a b) : Steps F m a b := by
  induction h with
  | zero => exact .zero
  | succ he _ ih => exact .succ (he.mono hs) ih
theorem Conn.steps {E : List Tie} {a b : Int} (h : Conn E a b) : ∃ m, Steps E m a b := by
  induction h with
  | refl => exact ⟨0, .zero⟩
  | step _ he ih => obtain ⟨m, hm⟩ := ih; exact ⟨m + 1, hm.snoc he⟩
theorem Walk.steps {E : List Tie} {a b : Int} {x : List Int} (h : Walk E (a :: x)) (hl : (a :: x).getLast? = some b) : Steps E x.length a b := by
  induction x generalizing a with
  | nil => simp at hl; subst hl; exact .zero
  | cons c x ih => exact .succ h.1 (ih h.2 (by simpa using hl))

def Dist (E : List Tie) (a b : Int) (d : Nat) : Prop := Steps E d a b ∧ ∀ m, Steps E m a b → d ≤ m
theorem Dist.symm {E : List Tie} {a b : Int} {d : Nat} (h : Dist E a b d) : Dist E b a d := ⟨h.1.symm, fun m hm => h.2 m hm.symm⟩
theorem Dist.unique {E : List Tie} {a b : Int} {d e : Nat} (h : Dist E a b d) (k : Dist E a b e) : d = e := by
  have := h.2 e k.1
  have := k.2 d h.1
  omega
theorem exists_least {p : Nat → Prop} (h : ∃ n, p n) : ∃ n, p n ∧ ∀ m, p m → n ≤ m := by
  obtain ⟨n, hn⟩ := h
  induction n using Nat.strongRecOn with
  | ind n ih =>
    by_cases h : ∃ m, m < n ∧ p m
    · obtain ⟨m, hm, hp⟩ := h; exact ih m hm hp
    · exact ⟨n, hn, fun m hm => Nat.le_of_not_lt (fun hlt => h ⟨m, hlt, hm⟩)⟩
theorem Conn.dist {E : List Tie} {a b : Int} (h : Conn E a b) : ∃ d, Dist E a b d := exists_least h.steps
theorem Dist.tri {E : List Tie} {a b c : Int} {x y z : Nat} (h : Dist E a b x) (k : Dist E b c y) (l : Dist E a c z) : z ≤ x + y := l.2 _ (h.1.trans k.1)
theorem Dist.zero {E : List Tie} {a b : Int} (h : Dist E a b 0) : a = b := by
  have := h.1
  cases this
  rfl
theorem Dist.self {E : List Tie} {a : Int} : Dist E a a 0 := ⟨.zero, fun _ _ => Nat.zero_le _⟩
theorem Dist.next {E : List Tie} {a b c : Int} {d : Nat} (he : Ed E a b) (h : Dist E b c d) {e : Nat} (k : Dist E a c e) : e ≤ d + 1 ∧ d ≤ e + 1 :=
  ⟨by have := k.2 _ (.succ he h.1); omega, by have := h.2 _ (.succ he.symm k.1); omega⟩
/-- From a knot that is not there yet, some neighbour is nearer by one. -/
theorem Dist.down {E : List Tie} {a c : Int} {d : Nat} (h : Dist E a c (d + 1)) : ∃ b, Ed E a b ∧ Dist E b c d := by
  have h1 := h.1
  cases h1 with
  | succ he hs =>
    refine ⟨_, he, hs, fun m hm => ?_⟩
    have := h.2 _ (.succ he hm)
    omega

/-! ### The first shortest way -/
open Classical in
/-- Step by step the least neighbour that is nearer by one. -/
noncomputable def stepTo (K : Int) (E : List Tie) (b a : Int) (d : Nat) : Int := leastOf K (fun x => Ed E a x ∧ Dist E x b d)
noncomputable def short (K : Int) (E : List Tie) (b : Int) : Nat → Int → List Int
  | 0, a => [a]
  | d + 1, a => a :: short K E b d (stepTo K E b a d)
theorem stepTo_spec {K : Int} {E : List Tie} (hE : Ok K E) {a b : Int} {d : Nat} (h : Dist E a b (d + 1)) :
    Ed E a (stepTo K E b a d) ∧ Dist E (stepTo K E b a d) b d ∧ ∀ x, Ed E a x → Dist E x b d → stepTo K E b a d ≤ x := by
  obtain ⟨x, he, hd⟩ := h.down
  have hx := (hE.ed_in he).2.1
  obtain ⟨h1, _, _, h2⟩ := leastOf_spec (p := fun x => Ed E a x ∧ Dist E x b d) hx.1 hx.2 ⟨he, hd⟩
  exact ⟨h1.1, h1.2, fun y hy hdy => by have hy' := (hE.ed_in hy).2.1; exact h2 y hy'.1 hy'.2 ⟨hy, hdy⟩⟩
theorem short_length {K : Int} {E : List Tie} {b : Int} (d : Nat) : ∀ a, (short K E b d a).length = d + 1 := by
  induction d with
  | zero => intro a; rfl
  | succ d ih => intro a; simp [short, ih]
theorem short_head {K : Int} {E : List Tie} {b : Int} (d : Nat) (a : Int) : ∃ l, short K E b d a = a :: l := by
  cases d with
  | zero => exact ⟨[], rfl⟩
  | succ d => exact ⟨_, rfl⟩
theorem short_last {K : Int} {E : List Tie} (hE : Ok K E) {b : Int} (d : Nat) : ∀ a, Dist E a b d → (short K E b d a).getLast? = some b := by
  induction d with
  | zero => intro a h; rw [h.zero]; rfl
  | succ d ih =>
    intro a h
    have := ih _ (stepTo_spec hE h).2.1
    obtain ⟨l, hl⟩ := short_head (K := K) (E := E) (b := b) d (stepTo K E b a d)
    simp only [short]
    rw [hl] at this ⊢
    simpa using this
theorem short_walk {K : Int} {E : List Tie} (hE : Ok K E) {b : Int} (d : Nat) : ∀ a, Dist E a b d → Walk E (short K E b d a) := by
  induction d with
  | zero => intro a h; trivial
  | succ d ih =>
    intro a h
    have hs := stepTo_spec hE h
    have := ih _ hs.2.1
    obtain ⟨l, hl⟩ := short_head (K := K) (E := E) (b := b) d (stepTo K E b a d)
    simp only [short]
    rw [hl] at this ⊢
    exact ⟨hs.1, this⟩
theorem short_mem {K : Int} {E : List Tie} (hE : Ok K E) {b : Int} (d : Nat) : ∀ a, Dist E a b d → ∀ x ∈ short K E b d a, ∃ e, e ≤ d ∧ Dist E x b e ∧ (e = d → x = a) := by
  induction d with
  | zero => intro a h x hx; simp [short] at hx; subst hx; exact ⟨0, Nat.le_refl _, h, fun _ => rfl⟩
  | succ d ih =>
    intro a h x hx
    simp only [short, List.mem_cons] at hx
    rcases hx with rfl | hx
    · exact ⟨d + 1, Nat.le_refl _, h, fun _ => rfl⟩
    · obtain ⟨e, he, hd, _⟩ := ih _ (stepTo_spec hE h).2.1 x hx
      exact ⟨e, by omega, hd, fun h => by omega⟩
theorem short_nodup {K : Int} {E : List Tie} (hE : Ok K E) {b : Int} (d : Nat) : ∀ a, Dist E a b d → (short K E b d a).Nodup := by
  induction d with
  | zero => intro a h; simp [short]
  | succ d ih =>
    intro a h
    have hs := stepTo_spec hE h
    simp only [short, List.nodup_cons]
    refine ⟨fun hm => ?_, ih _ hs.2.1⟩
    obtain ⟨e, he, hd, _⟩ := short_mem hE d _ hs.2.1 a hm
    have := h.unique hd
    omega
theorem short_in {K : Int} {E : List Tie} (hE : Ok K E) {b : Int} (d : Nat) : ∀ a, 0 ≤ a ∧ a < K → Dist E a b d → ∀ v ∈ short K E b d a, 0 ≤ v ∧ v < K := by
  induction d with
  | zero => intro a ha h v hv; simp [short] at hv; subst hv; exact ha
  | succ d ih =>
    intro a ha h v hv
    have hs := stepTo_spec hE h
    simp only [short, List.mem_cons] at hv
    rcases hv with rfl | hv
    · exact ha
    · exact ih _ (hE.ed_in hs.1).2.1 hs.2.1 v hv
theorem short_way {K : Int} {E : List Tie} (hE : Ok K E) {a b : Int} {d : Nat} (ha : 0 ≤ a ∧ a < K) (h : Dist E a b d) : Pth K E (short K E b d a) :=
  ⟨by obtain ⟨l, hl⟩ := short_head (K := K) (E := E) (b := b) d a; rw [hl]; simp, short_in hE d a ha h, short_walk hE d a h, short_nodup hE d a h⟩
/-- No walk to b is shorter; none as short stands ahead. -/
theorem short_first {K : Int} {E : List Tie} (hE : Ok K E) {b : Int} (d : Nat) : ∀ a (x : List Int), Dist E a b d → Walk E (a :: x) → (a :: x).getLast? = some b → ¬ wlt (a :: x) (short K E b d a) := by
  induction d with
  | zero =>
    intro a x h hw hl hlt
    rcases hlt with hlt | ⟨h1, h2⟩
    · simp [short] at hlt
    · simp only [short, List.length_cons, List.length_nil] at h1
      have : x = [] := List.eq_nil_of_length_eq_zero (by omega)
      subst this
      exact lex_irrefl _ h2
  | succ d ih =>
    intro a x h hw hl hlt
    have hlen := h.2 _ (hw.steps hl)
    have hs := stepTo_spec hE h
    have hsl := short_length (K := K) (E := E) (b := b) (d + 1) a
    rcases hlt with hlt | ⟨h1, h2⟩
    · simp only [List.length_cons] at hlt; omega
    · cases x with
      | nil => simp at hlen
      | cons y x =>
        have hyl : (y :: x).getLast? = some b := by simpa using hl
        have hst := Walk.steps hw.2 hyl
        simp only [List.length_cons] at h1
        have hxd : x.length = d := by omega
        have hyd : Dist E y b d := ⟨hxd ▸ hst, fun m hm => by have := h.2 _ (.succ hw.1 hm); omega⟩
        have hle := hs.2.2 y hw.1 hyd
        simp only [short] at h2
        obtain ⟨l, hl2⟩ := short_head (K := K) (E := E) (b := b) d (stepTo K E b a d)
        rw [hl2] at h2
        simp only [lex] at h2
        rcases h2 with h2 | ⟨_, h2⟩
        · omega
        · rcases h2 with h2 | ⟨h2, h3⟩
          · omega
          · subst h2
            refine ih _ x hs.2.1 hw.2 hyl (.inr ⟨?_, ?_⟩)
            · rw [short_length]; simp; omega
            · rw [hl2]; exact .inr ⟨rfl, h3⟩
/-- The rest of it from a knot on is the first way from there. -/
theorem short_drop {K : Int} {E : List Tie} (hE : Ok K E) {b : Int} (d : Nat) : ∀ a, Dist E a b d → ∀ k, (hk : k ≤ d) → ∃ v, (short K E b d a)[k]? = some v ∧ Dist E v b (d - k) ∧ Steps E k a v ∧ (short K E b d a).drop k = short K E b (d - k) v := by
  induction d with
  | zero =>
    intro a h k hk
    have : k = 0 := by omega
    subst this
    exact ⟨a, rfl, h, .zero, rfl⟩
  | succ d ih =>
    intro a h k hk
    cases k with
    | zero => exact ⟨a, rfl, h, .zero, rfl⟩
    | succ k =>
      have hs := stepTo_spec hE h
      obtain ⟨v, h1, h2, h3, h4⟩ := ih _ hs.2.1 k (by omega)
      refine ⟨v, by simpa [short] using h1, by rwa [Nat.add_sub_add_right], .succ hs.1 h3, ?_⟩
      rw [Nat.add_sub_add_right]
      simpa [short] using h4
end Osier
/- Plain facts on the list of all ways. No program in sight. -/
namespace Osier
set_option linter.unusedVariables false

/-- The knots of the list that are tied to one. -/
def nexts (E : List Tie) (ks : List Int) (a : Int) : List Int := ks.filter (fun x => decide (mkT a x ∈ E))
def knots (K : Int) : List Int := (List.range K.toNat).map Int.ofNat
theorem mem_nexts {K : Int} {E : List Tie} (hE : Ok K E) {a x : Int} : x ∈ nexts E (knots K) a ↔ Ed E a x := by
  unfold nexts knots
  simp only [List.mem_filter, decide_eq_true_eq, ← hE.ed]
  constructor
  · exact fun h => h.2
  · intro h; exact ⟨mem_ints.2 (hE.ed_in h).2.1, h⟩
theorem nexts_asc (K : Int) (E : List Tie) (a : Int) : (nexts E (knots K) a).Pairwise (· < ·) := List.Pairwise.sublist List.filter_sublist (ints_asc _)

/-- All ways that go on from one to a knot; rounds f, enough of them if f + way.length > K. -/
def waysF (E : List Tie) (ks : List Int) (to : Int) : Nat → List Int → List (List Int)
  | 0, _ => []
  | f + 1, way =>
    if way.getLast? = some to then [way]
    else ((nexts E ks ((way.getLast?).getD 0)).filter (fun x => decide (x ∉ way))).flatMap (fun x => waysF E ks to f (way ++ [x]))
/-- All ways of so many knots. -/
def onF (E : List Tie) (ks : List Int) (to : Int) (size : Nat) : Nat → List Int → List (List Int)
  | 0, _ => []
  | f + 1, way =>
    if way.getLast? = some to then (if way.length = size then [way] else [])
    else if way.length ≥ size then []
    else ((nexts E ks ((way.getLast?).getD 0)).filter (fun x => decide (x ∉ way))).flatMap (fun x => onF E ks to size f (way ++ [x]))

theorem nodup_le_of_in {K : Int} {l : List Int} (hn : l.Nodup) (h : ∀ v ∈ l, 0 ≤ v ∧ v < K) : (l.length : Int) ≤ K ∨ l = [] := by
  by_cases hl : l = []
  · exact .inr hl
  · refine .inl ?_
    have hK : 0 ≤ K := by
      cases l with
      | nil => exact absurd rfl hl
      | cons a l => have := h a (by simp); omega
    -- by counting: remove members from the list of numbers
    have key : ∀ (l r : List Int), l.Nodup → (∀ v ∈ l, v ∈ r) → l.length ≤ r.length := by
      intro l
      induction l with
      | nil => intro r _ _; simp
      | cons a l ih =>
        intro r hn hs
        have ha := hs a (by simp)
        have hc := List.nodup_cons.1 hn
        have := ih (r.erase a) hc.2 (fun v hv => (List.mem_erase_of_ne (fun e => by subst e; exact hc.1 hv)).2 (hs v (by simp [hv])))
        rw [List.length_erase_of_mem ha] at this
        have : 0 < r.length := List.length_pos_of_mem ha
        simp only [List.length_cons]
        omega
    have := key l ((List.range K.toNat).map Int.ofNat) hn (fun v hv => mem_ints.2 (h v hv))
    simp at this
    omega

theorem Pth.length_le {K : Int} {E : List Tie} {w : List Int} (h : Pth K E w) : (w.length : Int) ≤ K := by
  rcases nodup_le_of_in h.nodup h.in_ with h1 | h1
  · exact h1
  · exact absurd h1 h.ne

theorem Pth.snoc_iff {K : Int} {E : List Tie} (hE : Ok K E) {way : List Int} (hw : Pth K E way) {x : Int} : Pth K E (way ++ [x]) ↔ Ed E ((way.getLast?).getD 0) x ∧ x ∉ way := by
  obtain ⟨p, a, rfl⟩ : ∃ p a, way = p ++ [a] := by
    exact ⟨_, _, (List.dropLast_concat_getLast hw.ne).symm⟩
  have hl : ((p ++ [a]).getLast?).getD 0 = a := by simp
  rw [hl]
  constructor
  · intro h
    refine ⟨?_, ?_⟩
    · have := h.walk
      rw [List.append_assoc] at this
      exact Walk.mid this
    · have := h.nodup
      rw [List.nodup_append] at this
      intro hm
      exact this.2.2 x hm x (by simp) rfl
  · rintro ⟨h1, h2⟩
    refine ⟨by simp, ?_, Walk.snoc hw.walk h1, ?_⟩
    · intro v hv
      simp only [List.mem_append, List.mem_singleton] at hv
      rcases hv with hv | rfl
      · exact hw.in_ v (by simpa using hv)
      · exact (hE.ed_in h1).2.1
    · rw [List.nodup_append]
      refine ⟨hw.nodup, by simp, ?_⟩
      intro v hv u hu
      simp only [List.mem_singleton] at hu
      subst hu
      rintro rfl
      exact h2 hv

/-- What the list holds: all ways that begin so and end there. -/
theorem mem_waysF {K : Int} {E : List Tie} (hE : Ok K E) {to : Int} (f : Nat) : ∀ way, Pth K E way → K < f + way.length → ∀ x, x ∈ waysF E (knots K) to f way ↔ (∃ s, x = way ++ s) ∧ Pth K E x ∧ x.getLast? = some to := by
  induction f with
  | zero =>
    intro way hw hf x
    have := hw.length_le
    omega
  | succ f ih =>
    intro way hw hf x
    rw [waysF]
    by_cases hl : way.getLast? = some to
    · rw [if_pos hl]
      simp only [List.mem_singleton]
      constructor
      · rintro rfl; exact ⟨⟨[], by simp⟩, hw, hl⟩
      · rintro ⟨⟨s, rfl⟩, h1, h2⟩
        cases s with
        | nil => simp
        | cons c s =>
          exfalso
          have hd := (List.nodup_append.1 h1.nodup).2.2
          have hm : to ∈ way := List.mem_of_getLast? hl
          have hm2 : to ∈ c :: s := by
            rw [List.getLast?_append] at h2
            have : (c :: s).getLast? = some to := by
              cases hcs : (c :: s).getLast? with
              | none => simp at hcs
              | some z => rw [hcs] at h2; simpa using h2
            exact List.mem_of_getLast? this
          exact hd to hm to hm2 rfl
    · rw [if_neg hl]
      simp only [List.mem_flatMap, List.mem_filter, decide_eq_true_eq, mem_nexts hE]
      constructor
      · rintro ⟨y, ⟨hy, hny⟩, hx⟩
        have hw' := (Pth.snoc_iff hE hw).2 ⟨hy, hny⟩
        obtain ⟨⟨s, rfl⟩, h1, h2⟩ := (ih _ hw' (by simp; omega) x).1 hx
        exact ⟨⟨y :: s, by simp⟩, h1, h2⟩
      · rintro ⟨⟨s, rfl⟩, h1, h2⟩
        cases s with
        | nil => simp at h2; exact absurd h2 hl
        | cons y s =>
          have h1' : Pth K E (way ++ [y] ++ s) := by simpa using h1
          have hw' : Pth K E (way ++ [y]) := h1'.left (by simp)
          have hy := (Pth.snoc_iff hE hw).1 hw'
          exact ⟨y, hy, (ih _ hw' (by simp; omega) _).2 ⟨⟨s, by simp⟩, h1, h2⟩⟩
theorem mem_onF {K : Int} {E : List Tie} (hE : Ok K E) {to : Int} {size : Nat} (f : Nat) : ∀ way, Pth K E way → size < f + way.length → ∀ x, x ∈ onF E (knots K) to size f way ↔ (∃ s, x = way ++ s) ∧ Pth K E x ∧ x.getLast? = some to ∧ x.length = size := by
  induction f with
  | zero =>
    intro way hw hf x
    simp only [onF, List.not_mem_nil, false_iff]
    rintro ⟨⟨s, rfl⟩, _, _, h⟩
    simp at h; omega
  | succ f ih =>
    intro way hw hf x
    rw [onF]
    by_cases hl : way.getLast? = some to
    · rw [if_pos hl]
      have key : (∃ s, x = way ++ s) ∧ Pth K E x ∧ x.getLast? = some to → x = way := by
        rintro ⟨⟨s, rfl⟩, h1, h2⟩
        cases s with
        | nil => simp
        | cons c s =>
          exfalso
          have hd := (List.nodup_append.1 h1.nodup).2.2
          have hm : to ∈ way := List.mem_of_getLast? hl
          have hm2 : to ∈ c :: s := by
            rw [List.getLast?_append] at h2
            have : (c :: s).getLast? = some to := by
              cases hcs : (c :: s).getLast? with
              | none => simp at hcs
              | some z => rw [hcs] at h2; simpa using h2
            exact List.mem_of_getLast? this
          exact hd to hm to hm2 rfl
      by_cases hs : way.length = size
      · rw [if_pos hs]
        simp only [List.mem_singleton]
        constructor
        · rintro rfl; exact ⟨⟨[], by simp⟩, hw, hl, hs⟩
        · rintro ⟨h0, h1, h2, _⟩; exact key ⟨h0, h1, h2⟩
      · rw [if_neg hs]
        simp only [List.not_mem_nil, false_iff]
        rintro ⟨h0, h1, h2, h3⟩
        have := key ⟨h0, h1, h2⟩
        subst this
        exact hs h3
    · rw [if_neg hl]
      by_cases hs : way.length ≥ size
      · rw [if_pos hs]
        simp only [List.not_mem_nil, false_iff]
        rintro ⟨⟨s, rfl⟩, h1, h2, h3⟩
        simp only [List.length_append] at h3
        have : s = [] := List.eq_nil_of_length_eq_zero (by omega)
        subst this
        simp at h2
        exact hl h2
      · rw [if_neg hs]
        simp only [List.mem_flatMap, List.mem_filter, decide_eq_true_eq, mem_nexts hE]
        constructor
        · rintro ⟨y, ⟨hy, hny⟩, hx⟩
          have hw' := (Pth.snoc_iff hE hw).2 ⟨hy, hny⟩
          obtain ⟨⟨s, rfl⟩, h1, h2⟩ := (ih _ hw' (by simp; omega) x).1 hx
          exact ⟨⟨y :: s, by simp⟩, h1, h2⟩
        · rintro ⟨⟨s, rfl⟩, h1, h2⟩
          cases s with
          | nil => simp at h2; exact absurd h2.1 hl
          | cons y s =>
            have h1' : Pth K E (way ++ [y] ++ s) := by simpa using h1
            have hw' : Pth K E (way ++ [y]) := h1'.left (by simp)
            have hy := (Pth.snoc_iff hE hw).1 hw'
            exact ⟨y, hy, (ih _ hw' (by simp; omega) _).2 ⟨⟨s, by simp⟩, h1, h2⟩⟩

theorem pairwise_flatMap_of {α β : Type} {R : β → β → Prop} {f : α → List β} (l : List α) (h1 : ∀ a ∈ l, (f a).Pairwise R) (h2 : l.Pairwise (fun a b => ∀ x ∈ f a, ∀ y ∈ f b, R x y)) : (l.flatMap f).Pairwise R := by
  induction l with
  | nil => simp
  | cons a l ih =>
    have hc := List.pairwise_cons.1 h2
    rw [List.flatMap_cons, List.pairwise_append]
    refine ⟨h1 a (by simp), ih (fun b hb => h1 b (by simp [hb])) hc.2, ?_⟩
    intro x hx y hy
    obtain ⟨b, hb, hyb⟩ := List.mem_flatMap.1 hy
    exact hc.1 b hb x hx y hyb

theorem waysF_begin (E : List Tie) (ks : List Int) (to : Int) (f : Nat) : ∀ way x, x ∈ waysF E ks to f way → ∃ s, x = way ++ s := by
  induction f with
  | zero => intro way x hx; simp [waysF] at hx
  | succ f ih =>
    intro way x hx
    rw [waysF] at hx
    split at hx
    · simp only [List.mem_singleton] at hx; exact ⟨[], by simp [hx]⟩
    · obtain ⟨y, _, hx⟩ := List.mem_flatMap.1 hx
      obtain ⟨s, rfl⟩ := ih _ _ hx
      exact ⟨y :: s, by simp⟩
theorem onF_begin (E : List Tie) (ks : List Int) (to : Int) (size : Nat) (f : Nat) : ∀ way x, x ∈ onF E ks to size f way → (∃ s, x = way ++ s) ∧ x.length = size := by
  induction f with
  | zero => intro way x hx; simp [onF] at hx
  | succ f ih =>
    intro way x hx
    rw [onF] at hx
    split at hx
    · split at hx
      · simp only [List.mem_singleton] at hx; subst hx; exact ⟨⟨[], by simp⟩, by assumption⟩
      · simp at hx
    · split at hx
      · simp at hx
      · obtain ⟨y, _, hx⟩ := List.mem_flatMap.1 hx
        obtain ⟨⟨s, rfl⟩, h⟩ := ih _ _ hx
        exact ⟨⟨y :: s, by simp⟩, h⟩
theorem waysF_lex (K : Int) (E : List Tie) (to : Int) (f : Nat) : ∀ way, (waysF E (knots K) to f way).Pairwise lex := by
  induction f with
  | zero => intro way; simp [waysF]
  | succ f ih =>
    intro way
    rw [waysF]
    split
    · simp
    · refine pairwise_flatMap_of _ (fun a _ => ih _) ?_
      refine List.Pairwise.imp ?_ (List.Pairwise.sublist List.filter_sublist (nexts_asc K E _))
      intro a b hab x hx y hy
      obtain ⟨s, rfl⟩ := waysF_begin _ _ _ _ _ _ hx
      obtain ⟨t, rfl⟩ := waysF_begin _ _ _ _ _ _ hy
      rw [List.append_assoc, List.append_assoc]
      exact lex_prefix hab s t
theorem onF_lex (K : Int) (E : List Tie) (to : Int) (size : Nat) (f : Nat) : ∀ way, (onF E (knots K) to size f way).Pairwise lex := by
  induction f with
  | zero => intro way; simp [onF]
  | succ f ih =>
    intro way
    rw [onF]
    split
    · split <;> simp
    · split
      · simp
      · refine pairwise_flatMap_of _ (fun a _ => ih _) ?_
        refine List.Pairwise.imp ?_ (List.Pairwise.sublist List.filter_sublist (nexts_asc K E _))
        intro a b hab x hx y hy
        obtain ⟨⟨s, rfl⟩, _⟩ := onF_begin _ _ _ _ _ _ _ hx
        obtain ⟨⟨t, rfl⟩, _⟩ := onF_begin _ _ _ _ _ _ _ hy
        rw [List.append_assoc, List.append_assoc]
        exact lex_prefix hab s t

/-- All ways from a to b, in order: shorter ones first, then by their knots. -/
def allW (K : Int) (E : List Tie) (a b : Int) : List (List Int) := (List.range K.toNat).flatMap (fun i => onF E (knots K) b (i + 1) (i + 2) [a])
theorem way_one {K : Int} {E : List Tie} {a : Int} (ha : 0 ≤ a ∧ a < K) : Pth K E [a] := ⟨by simp, by simpa using ha, trivial, by simp⟩
theorem mem_allW {K : Int} {E : List Tie} (hE : Ok K E) {a b : Int} (ha : 0 ≤ a ∧ a < K) (x : List Int) : x ∈ allW K E a b ↔ Pth K E x ∧ x.head? = some a ∧ x.getLast? = some b := by
  unfold allW
  simp only [List.mem_flatMap, List.mem_range]
  constructor
  · rintro ⟨i, hi, hx⟩
    obtain ⟨⟨s, rfl⟩, h1, h2, h3⟩ := (mem_onF hE _ _ (way_one ha) (by simp) x).1 hx
    exact ⟨h1, by simp, h2⟩
  · rintro ⟨h1, h2, h3⟩
    have hle := h1.length_le
    cases x with
    | nil => simp at h2
    | cons c s =>
      simp only [List.head?_cons, Option.some.injEq] at h2
      subst h2
      simp only [List.length_cons] at hle
      exact ⟨s.length, by omega, (mem_onF hE _ _ (way_one ha) (by simp) _).2 ⟨⟨s, by simp⟩, h1, h3, by simp⟩⟩
theorem allW_sorted (K : Int) (E : List Tie) (a b : Int) : (allW K E a b).Pairwise wlt := by
  unfold allW
  refine pairwise_flatMap_of _ (fun i _ => ?_) ?_
  · refine List.Pairwise.imp_of_mem ?_ (onF_lex K E b (i + 1) (i + 2) [a])
    intro x y hx hy hxy
    exact .inr ⟨by rw [(onF_begin _ _ _ _ _ _ _ hx).2, (onF_begin _ _ _ _ _ _ _ hy).2], hxy⟩
  · refine List.Pairwise.imp ?_ List.pairwise_lt_range
    intro i j hij x hx y hy
    exact .inl (by rw [(onF_begin _ _ _ _ _ _ _ hx).2, (onF_begin _ _ _ _ _ _ _ hy).2]; omega)
/-- Whatever is sorted and holds the ways that were found, each as often as it was, is that list. -/
theorem sorted_allW {K : Int} {E : List Tie} (hE : Ok K E) {a b : Int} (ha : 0 ≤ a ∧ a < K) {l : List (List Int)} {f : Nat} (hf : K < f + 1) (hp : l.Perm (waysF E (knots K) b f [a])) (hs : l.Pairwise (fun x y => ¬ wlt y x)) : l = allW K E a b := by
  have hn : l.Nodup := by
    rw [List.Perm.nodup_iff hp]
    exact List.Pairwise.imp (fun {x y} h e => by subst e; exact lex_irrefl _ h) (waysF_lex K E b f [a])
  have hs' : l.Pairwise wlt := by
    have := List.Pairwise.and hs hn
    refine List.Pairwise.imp ?_ this
    rintro x y ⟨h1, h2⟩
    rcases wlt_total x y with h | h | h
    · exact h
    · exact absurd h h2
    · exact absurd h h1
  refine sorted_eq wlt_irrefl (fun _ _ => wlt_asymm) hs' (allW_sorted K E a b) (fun x => ?_)
  rw [hp.mem_iff, mem_waysF hE _ _ (way_one ha) (by simp; omega), mem_allW hE ha]
  constructor
  · rintro ⟨⟨s, rfl⟩, h1, h2⟩; exact ⟨h1, by simp, h2⟩
  · rintro ⟨h1, h2, h3⟩
    cases x with
    | nil => simp at h2
    | cons c s => simp at h2; subst h2; exact ⟨⟨s, by simp⟩, h1, h3⟩

theorem head_of_least {α : Type} {R : α → α → Prop} (asy : ∀ a b, R a b → ¬ R b a) {l : List α} (hl : l.Pairwise R) {x : α} (hx : x ∈ l) (hm : ∀ y ∈ l, ¬ R y x) : l.head? = some x := by
  cases l with
  | nil => simp at hx
  | cons a l =>
    simp only [List.mem_cons] at hx
    rcases hx with rfl | hx
    · rfl
    · exact absurd ((List.pairwise_cons.1 hl).1 x hx) (hm a (by simp))
/-- The first of all ways is the first shortest one. -/
theorem allW_head {K : Int} {E : List Tie} (hE : Ok K E) {a b : Int} (ha : 0 ≤ a ∧ a < K) {d : Nat} (h : Dist E a b d) : (allW K E a b).head? = some (short K E b d a) := by
  refine head_of_least (fun _ _ => wlt_asymm) (allW_sorted K E a b) ?_ ?_
  · rw [mem_allW hE ha]
    obtain ⟨l, hl⟩ := short_head (K := K) (E := E) (b := b) d a
    exact ⟨short_way hE ha h, by rw [hl]; rfl, short_last hE d a h⟩
  · intro y hy
    rw [mem_allW hE ha] at hy
    obtain ⟨h1, h2, h3⟩ := hy
    cases y with
    | nil => simp at h2
    | cons c s =>
      simp at h2; subst h2
      exact short_first hE d c s h h1.walk h3
theorem allW_nil {K : Int} {E : List Tie} (hE : Ok K E) {a b : Int} (ha : 0 ≤ a ∧ a < K) : allW K E a b = [] ↔ ¬ Conn E a b := by
  constructor
  · intro h hr
    obtain ⟨d, hd⟩ := hr.dist
    have := allW_head hE ha hd
    rw [h] at this
    simp at this
  · intro h
    refine List.eq_nil_iff_forall_not_mem.2 (fun x hx => ?_)
    rw [mem_allW hE ha] at hx
    obtain ⟨h1, h2, h3⟩ := hx
    cases x with
    | nil => simp at h2
    | cons c s => simp at h2; subst h2; exact h (h1.walk.reach h3)
end Osier
