/- FnBridgeCut: the pure statement, and what it leans on: graphs, and how the printed functions are reckoned. -/
import Derived.Test.YtleibnekeioamaaF
section
namespace Go.Proofs.Ytleibnekeioamaa.E
open Go.RowKit Go.Proofs.YtleibnekeioamaaW.PrintWords Go.Proofs.YtleibnekeioamaaW.PrintMore Go.Proofs.Ytleibnekeioamaa.P Osier
set_option linter.unusedVariables false
def Ev {α : Type} (g : Nat → Option α) (v : α) : Prop := ∃ N, ∀ k, N ≤ k → g k = some v
theorem Ev.pure {α : Type} (v : α) : Ev (fun _ => some v) v := ⟨0, fun _ _ => rfl⟩
theorem Ev.const {α : Type} {o : Option α} {v : α} (h : o = some v) : Ev (fun _ => o) v := ⟨0, fun _ _ => h⟩
theorem Ev.bind {α β : Type} {g : Nat → Option α} {a : α} {h : α → Nat → Option β} {v : β} (hg : Ev g a) (hh : Ev (h a) v) : Ev (fun k => (g k).bind (fun x => h x k)) v := by
  obtain ⟨N, hN⟩ := hg
  obtain ⟨M, hM⟩ := hh
  exact ⟨max N M, fun k hk => by show (g k).bind _ = _; rw [hN k (by omega)]; exact hM k (by omega)⟩
theorem Ev.succ {α : Type} {G : Nat → Option α} {v : α} (h : Ev (fun k => G (k + 1)) v) : Ev G v := by
  obtain ⟨N, hN⟩ := h
  refine ⟨N + 1, fun k hk => ?_⟩
  obtain ⟨m, rfl⟩ : ∃ m, k = m + 1 := ⟨k - 1, by omega⟩
  exact hN m (by omega)
theorem Ev.yes {α : Type} {c : Prop} [Decidable c] {g h : Nat → Option α} {v : α} (hc : c) (hg : Ev g v) : Ev (fun k => if c then g k else h k) v := by
  simpa only [if_pos hc] using hg
theorem Ev.no {α : Type} {c : Prop} [Decidable c] {g h : Nat → Option α} {v : α} (hc : ¬ c) (hg : Ev h v) : Ev (fun k => if c then g k else h k) v := by
  simpa only [if_neg hc] using hg
theorem Ev.get {α : Type} {g : Nat → Option α} {v : α} (h : Ev g v) : ∃ k, g k = some v := by
  obtain ⟨N, hN⟩ := h
  exact ⟨N, hN N (Nat.le_refl _)⟩
theorem Ev.value {α : Type} {g : Nat → Option α} {v w : α} (h : Ev g v) (e : v = w) : Ev g w := e ▸ h
noncomputable def dec (p : Prop) : Bool := @decide p (Classical.propDecidable p)
theorem dec_true {p : Prop} (h : p) : dec p = true := by unfold dec; simpa using h
theorem dec_false {p : Prop} (h : ¬ p) : dec p = false := by unfold dec; simpa using h
theorem dec_iff {p : Prop} : dec p = true ↔ p := by unfold dec; simp
theorem dec_congr {p q : Prop} (h : p ↔ q) : dec p = dec q := by rw [propext h]
theorem dec_decide {p : Prop} [Decidable p] : decide p = dec p := by unfold dec; congr
theorem dec_bool {b : Bool} : dec (b = true) = b := by cases b <;> simp [dec]
theorem w64 {x : Int} (h0 : -9223372036854775808 ≤ x) (h1 : x < 9223372036854775808) : wrap64 x = x := by unfold wrap64; omega
theorem w64s {n : Nat} (h : n < 4611686018427387904) : wrap64 ((n : Int) + 1) = ((n + 1 : Nat) : Int) := by rw [w64 (by omega) (by omega)]; omega
theorem w64p {n : Nat} (h0 : 0 < n) (h : n < 4611686018427387904) : wrap64 ((n : Int) - 1) = ((n - 1 : Nat) : Int) := by rw [w64 (by omega) (by omega)]; omega
theorem rdT {xs : List STie} {n : Nat} (h : n < xs.length) : rd_TTie xs (n : Int) = xs[n] := by
  unfold rd_TTie
  rw [Int.toNat_natCast, List.getD_eq_getElem?_getD, List.getElem?_eq_getElem h]; rfl
theorem rdI {xs : List Int} {n : Nat} (h : n < xs.length) : rd xs (n : Int) = xs[n] := by
  unfold rd
  rw [Int.toNat_natCast, List.getD_eq_getElem?_getD, List.getElem?_eq_getElem h]; rfl
theorem rdB {xs : List Bool} {n : Nat} (h : n < xs.length) : rdOf false xs (n : Int) = xs[n] := by
  unfold rdOf
  rw [Int.toNat_natCast, List.getD_eq_getElem?_getD, List.getElem?_eq_getElem h]; rfl
theorem take_snoc {α : Type} (l : List α) {n : Nat} (h : n < l.length) : l.take (n + 1) = l.take n ++ [l[n]] := by
  rw [List.take_succ_eq_append_getElem h]
theorem drop_cons {α : Type} (l : List α) {n : Nat} (h : n < l.length) : l.drop n = l[n] :: l.drop (n + 1) := List.drop_eq_getElem_cons h
theorem e_cmp_Compare (a b : Int) : cmp_Compare_int.f a b = some (if a < b then -1 else if a > b then 1 else 0) := by
  unfold cmp_Compare_int.f cmp_isNaN_int.f
  simp only [bne_self_eq_false, Option.bind_some, Bool.false_eq_true, if_false]
  split
  · rfl
  · split <;> rfl
theorem e_cmp_Or (a b : Int) : Ev (fun k => cmp_Or_int.f k [a, b]) (if a = 0 then b else a) := by
  simp only [cmp_Or_int.f]
  refine Ev.succ ?_
  simp only [cmp_Or_int.l0]
  refine Ev.yes (by simp) (Ev.yes (by omega) (Ev.yes (by simp) ?_))
  have e0 : rd [a, b] 0 = a := rfl
  have e1 : rd [a, b] 1 = b := rfl
  rw [e0]
  by_cases ha : a = 0
  · refine Ev.yes ha ?_
    rw [w64 (by omega) (by omega)]
    refine Ev.succ ?_
    simp only [cmp_Or_int.l0]
    refine Ev.yes (by simp) (Ev.yes (by omega) (Ev.yes (by simp) ?_))
    have h01 : (0 : Int) + 1 = 1 := rfl
    rw [h01, e1, if_pos ha]
    by_cases hb : b = 0
    · refine Ev.yes hb ?_
      refine Ev.succ ?_
      simp only [cmp_Or_int.l0]
      refine Ev.no (by rw [w64 (by omega) (by omega)]; simp) ?_
      rw [hb]; exact Ev.pure _
    · exact Ev.no hb (Ev.pure _)
  · refine Ev.no ha ?_
    rw [if_neg ha]; exact Ev.pure _
def ord (s t : STie) : Int := if s.f0 < t.f0 then -1 else if s.f0 > t.f0 then 1 else if s.f1 < t.f1 then -1 else if s.f1 > t.f1 then 1 else 0
theorem ord_neg (s t : STie) : ord s t < 0 ↔ tlt s t := by
  unfold ord tlt
  split
  · simp; omega
  · split
    · simp; omega
    · split
      · simp; omega
      · split <;> simp <;> omega
theorem e_impl_tieOrder (s t : STie) : Ev (fun k => impl_tieOrder.f k s.f0 s.f1 t.f0 t.f1) (ord s t) := by
  simp only [impl_tieOrder.f]
  refine Ev.bind (Ev.const (e_cmp_Compare _ _)) (Ev.bind (Ev.const (e_cmp_Compare _ _)) (Ev.bind (e_cmp_Or _ _) ((Ev.pure _).value ?_)))
  unfold ord
  by_cases h1 : s.f0 < t.f0
  · simp [h1]
  · by_cases h2 : s.f0 > t.f0
    · simp [h1, h2]
    · simp [h1, h2]
end Go.Proofs.Ytleibnekeioamaa.E
end
section
namespace Osier
set_option linter.unusedVariables false
def Asc (E : List Tie) : Prop := E.Pairwise tlt
theorem Asc.nodup {E : List Tie} (h : Asc E) : E.Nodup :=
  List.Pairwise.imp (fun {a b} hab e => by subst e; exact tlt_irrefl _ hab) h
structure Ok (K : Int) (E : List Tie) : Prop where
  k0 : 0 ≤ K
  k8 : K ≤ 8
  tie : ∀ t ∈ E, 0 ≤ t.f0 ∧ t.f0 < t.f1 ∧ t.f1 < K
  asc : Asc E
theorem asc_len (l : List Int) (hl : l.Pairwise (· < ·)) : ∀ (lo hi : Int), lo ≤ hi → (∀ x ∈ l, lo ≤ x ∧ x < hi) → (l.length : Int) ≤ hi - lo := by
  induction l with
  | nil => intro lo hi h _; simp; omega
  | cons x l ih =>
    intro lo hi h hm
    have hp := List.pairwise_cons.1 hl
    have hx := hm x (by simp)
    have := ih hp.2 (x + 1) hi (by omega) (fun y hy => ⟨by have := hp.1 y hy; omega, (hm y (by simp [hy])).2⟩)
    simp only [List.length_cons]
    omega
theorem Ok.len {K : Int} {E : List Tie} (h : Ok K E) : E.length ≤ 64 := by
  have h1 : (E.map fun t => t.f0 * 8 + t.f1).Pairwise (· < ·) := by
    rw [List.pairwise_map]
    refine List.Pairwise.imp_of_mem ?_ h.asc
    intro a b ha hb hab
    have := h.tie a ha
    have := h.tie b hb
    have := h.k8
    unfold tlt at hab
    omega
  have := asc_len _ h1 0 64 (by omega) (by
    intro x hx
    obtain ⟨t, ht, rfl⟩ := List.mem_map.1 hx
    have := h.tie t ht
    have := h.k8
    omega)
  simp at this
  omega
theorem Ok.sub {K : Int} {E F : List Tie} (h : Ok K E) (hs : F.Sublist E) : Ok K F :=
  ⟨h.k0, h.k8, fun t ht => h.tie t (hs.subset ht), List.Pairwise.sublist hs h.asc⟩
theorem Ok.filter {K : Int} {E : List Tie} (h : Ok K E) (p : Tie → Bool) : Ok K (E.filter p) := h.sub (List.filter_sublist)
def mkT (a b : Int) : Tie := if a < b then ⟨a, b⟩ else ⟨b, a⟩
def Ed (E : List Tie) (a b : Int) : Prop := (⟨a, b⟩ : Tie) ∈ E ∨ (⟨b, a⟩ : Tie) ∈ E
theorem Ed.symm {E : List Tie} {a b : Int} (h : Ed E a b) : Ed E b a := Or.symm h
theorem Ed.mono {E F : List Tie} (hs : ∀ t ∈ E, t ∈ F) {a b : Int} (h : Ed E a b) : Ed F a b := h.imp (hs _) (hs _)
theorem Ok.ed {K : Int} {E : List Tie} (h : Ok K E) {a b : Int} : Ed E a b ↔ mkT a b ∈ E := by
  unfold Ed mkT
  constructor
  · rintro (h1 | h1)
    · have := h.tie _ h1
      dsimp only at this
      rw [if_pos (by omega)]; exact h1
    · have := h.tie _ h1
      dsimp only at this
      rw [if_neg (by omega)]; exact h1
  · split
    · exact .inl
    · exact .inr
theorem Ok.ed_in {K : Int} {E : List Tie} (h : Ok K E) {a b : Int} (he : Ed E a b) : (0 ≤ a ∧ a < K) ∧ (0 ≤ b ∧ b < K) ∧ a ≠ b := by
  rcases he with h1 | h1 <;> have := h.tie _ h1 <;> dsimp only at this <;> omega
inductive Conn (E : List Tie) (a : Int) : Int → Prop
  | refl : Conn E a a
  | step {b c : Int} : Conn E a b → Ed E b c → Conn E a c
theorem Conn.trans {E : List Tie} {a b c : Int} (h : Conn E a b) (k : Conn E b c) : Conn E a c := by
  induction k with
  | refl => exact h
  | step _ he ih => exact .step ih he
theorem Conn.one {E : List Tie} {a b : Int} (h : Ed E a b) : Conn E a b := .step .refl h
theorem Conn.symm {E : List Tie} {a b : Int} (h : Conn E a b) : Conn E b a := by
  induction h with
  | refl => exact .refl
  | step _ he ih => exact (Conn.one he.symm).trans ih
theorem Conn.mono {E F : List Tie} (hs : ∀ t ∈ E, t ∈ F) {a b : Int} (h : Conn E a b) : Conn F a b := by
  induction h with
  | refl => exact .refl
  | step _ he ih => exact .step ih (he.mono hs)
theorem Conn.closed {E : List Tie} {S : Int → Prop} (hS : ∀ b c, S b → Ed E b c → S c) {a b : Int} (ha : S a) (hr : Conn E a b) : S b := by
  induction hr with
  | refl => exact ha
  | step _ he ih => exact hS _ _ ih he
theorem reach_cons {E : List Tie} {u v a b : Int} : Conn (⟨u, v⟩ :: E) a b ↔ Conn E a b ∨ (Conn E a u ∧ Conn E v b) ∨ (Conn E a v ∧ Conn E u b) := by
  constructor
  · intro h
    induction h with
    | refl => exact .inl .refl
    | @step b c _ he ih =>
      have hE : Ed E b c ∨ (b = u ∧ c = v) ∨ (b = v ∧ c = u) := by
        rcases he with h1 | h1 <;> simp only [List.mem_cons, Tie.mk.injEq] at h1 <;> unfold Ed
        · rcases h1 with h1 | h1
          · exact .inr (.inl h1)
          · exact .inl (.inl h1)
        · rcases h1 with h1 | h1
          · exact .inr (.inr ⟨h1.2, h1.1⟩)
          · exact .inl (.inr h1)
      rcases hE with hE | ⟨rfl, rfl⟩ | ⟨rfl, rfl⟩
      · rcases ih with ih | ⟨h1, h2⟩ | ⟨h1, h2⟩
        · exact .inl (ih.step hE)
        · exact .inr (.inl ⟨h1, h2.step hE⟩)
        · exact .inr (.inr ⟨h1, h2.step hE⟩)
      · rcases ih with ih | ⟨h1, h2⟩ | ⟨h1, h2⟩
        · exact .inr (.inl ⟨ih, .refl⟩)
        · exact .inr (.inl ⟨h1, .refl⟩)
        · exact .inl h1
      · rcases ih with ih | ⟨h1, h2⟩ | ⟨h1, h2⟩
        · exact .inr (.inr ⟨ih, .refl⟩)
        · exact .inl h1
        · exact .inr (.inr ⟨h1, .refl⟩)
  · have hm : ∀ {x y}, Conn E x y → Conn (⟨u, v⟩ :: E) x y := fun h => h.mono (fun t ht => by simp [ht])
    have huv : Conn (⟨u, v⟩ :: E) u v := Conn.one (.inl (by simp))
    rintro (h | ⟨h1, h2⟩ | ⟨h1, h2⟩)
    · exact hm h
    · exact ((hm h1).trans huv).trans (hm h2)
    · exact ((hm h1).trans huv.symm).trans (hm h2)
theorem reach_congr {E F : List Tie} (h : ∀ t, t ∈ E ↔ t ∈ F) {a b : Int} : Conn E a b ↔ Conn F a b :=
  ⟨Conn.mono (fun t => (h t).1), Conn.mono (fun t => (h t).2)⟩
open Classical in
/-- The least of the numbers 0 .. K-1 that meets p; 0 if none does. -/
noncomputable def leastOf (K : Int) (p : Int → Prop) : Int :=
  (((List.range K.toNat).map Int.ofNat).find? (fun k => decide (p k))).getD 0
theorem mem_ints {K x : Int} : x ∈ (List.range K.toNat).map Int.ofNat ↔ 0 ≤ x ∧ x < K := by
  simp only [List.mem_map, List.mem_range]
  constructor
  · rintro ⟨n, hn, rfl⟩
    simp only [Int.ofNat_eq_natCast]; omega
  · rintro ⟨h0, h1⟩
    exact ⟨x.toNat, by omega, by simp only [Int.ofNat_eq_natCast]; omega⟩
theorem ints_asc (n : Nat) : ((List.range n).map Int.ofNat).Pairwise (· < ·) := by
  rw [List.pairwise_map]
  exact List.Pairwise.imp (fun {a b} h => by simp only [Int.ofNat_eq_natCast]; omega) List.pairwise_lt_range
theorem find_least {l : List Int} (hl : l.Pairwise (· < ·)) {p : Int → Bool} {x : Int} (hx : x ∈ l) (hp : p x = true) :
    ∃ y, l.find? p = some y ∧ y ∈ l ∧ p y = true ∧ ∀ z ∈ l, p z = true → y ≤ z := by
  induction l with
  | nil => simp at hx
  | cons a l ih =>
    have hc := List.pairwise_cons.1 hl
    by_cases ha : p a = true
    · refine ⟨a, by simp [ha], by simp, ha, fun z hz _ => ?_⟩
      simp only [List.mem_cons] at hz
      rcases hz with rfl | hz
      · exact Int.le_refl _
      · have := hc.1 z hz; omega
    · have hx' : x ∈ l := by
        simp only [List.mem_cons] at hx
        rcases hx with rfl | hx
        · exact absurd hp ha
        · exact hx
      obtain ⟨y, hy, hm, hpy, hmin⟩ := ih hc.2 hx'
      refine ⟨y, by simp [ha, hy], by simp [hm], hpy, fun z hz hpz => ?_⟩
      simp only [List.mem_cons] at hz
      rcases hz with rfl | hz
      · exact absurd hpz ha
      · exact hmin z hz hpz
theorem leastOf_spec {K : Int} {p : Int → Prop} {x : Int} (h0 : 0 ≤ x) (h1 : x < K) (hp : p x) :
    p (leastOf K p) ∧ 0 ≤ leastOf K p ∧ leastOf K p < K ∧ ∀ z, 0 ≤ z → z < K → p z → leastOf K p ≤ z := by
  obtain ⟨y, hy, hm, hpy, hmin⟩ := find_least (ints_asc K.toNat) (p := fun k => @decide (p k) (Classical.propDecidable _)) (mem_ints.2 ⟨h0, h1⟩) (by simpa using hp)
  have he : leastOf K p = y := by unfold leastOf; rw [hy]; rfl
  rw [he]
  have := mem_ints.1 hm
  exact ⟨by simpa using hpy, this.1, this.2, fun z hz0 hz1 hpz => hmin z (mem_ints.2 ⟨hz0, hz1⟩) (by simpa using hpz)⟩
theorem leastOf_unique {K : Int} {p : Int → Prop} {x : Int} (h0 : 0 ≤ x) (h1 : x < K) (hp : p x) (hmin : ∀ z, 0 ≤ z → z < K → p z → x ≤ z) : leastOf K p = x := by
  obtain ⟨h2, h3, h4, h5⟩ := leastOf_spec h0 h1 hp
  have := h5 x h0 h1 hp
  have := hmin _ h3 h4 h2
  omega
noncomputable def prt (K : Int) (E : List Tie) (k : Int) : Int := leastOf K (Conn E k)
theorem part_reach {K : Int} {E : List Tie} {k : Int} (h0 : 0 ≤ k) (h1 : k < K) : Conn E k (prt K E k) := (leastOf_spec h0 h1 .refl).1
theorem part_in {K : Int} {E : List Tie} {k : Int} (h0 : 0 ≤ k) (h1 : k < K) : 0 ≤ prt K E k ∧ prt K E k < K := ⟨(leastOf_spec h0 h1 (Conn.refl (E := E))).2.1, (leastOf_spec h0 h1 (Conn.refl (E := E))).2.2.1⟩
theorem part_le {K : Int} {E : List Tie} {k j : Int} (h0 : 0 ≤ k) (h1 : k < K) (j0 : 0 ≤ j) (j1 : j < K) (h : Conn E k j) : prt K E k ≤ j := (leastOf_spec h0 h1 (Conn.refl (E := E))).2.2.2 j j0 j1 h
theorem part_eq_iff {K : Int} {E : List Tie} {a b : Int} (a0 : 0 ≤ a) (a1 : a < K) (b0 : 0 ≤ b) (b1 : b < K) : prt K E a = prt K E b ↔ Conn E a b := by
  constructor
  · intro h
    have h1 := part_reach (E := E) a0 a1
    rw [h] at h1
    exact h1.trans (part_reach b0 b1).symm
  · intro h
    have ha := part_in (E := E) a0 a1
    have hb := part_in (E := E) b0 b1
    have h1 := part_le a0 a1 hb.1 hb.2 (h.trans (part_reach b0 b1))
    have h2 := part_le b0 b1 ha.1 ha.2 (h.symm.trans (part_reach a0 a1))
    omega
def Root (K : Int) (E : List Tie) (k : Int) : Prop := ∀ j, 0 ≤ j → j < K → Conn E k j → k ≤ j
theorem root_iff {K : Int} {E : List Tie} {k : Int} (h0 : 0 ≤ k) (h1 : k < K) : Root K E k ↔ prt K E k = k := by
  constructor
  · intro h; exact leastOf_unique h0 h1 .refl h
  · intro h j j0 j1 hr
    have := part_le h0 h1 j0 j1 hr
    omega
open Classical in
/-- How many parts. -/
noncomputable def comps (K : Int) (E : List Tie) : Nat := ((List.range K.toNat).map Int.ofNat).countP (fun k => decide (Root K E k))
theorem comps_congr {K : Int} {E F : List Tie} (h : ∀ a b, Conn E a b ↔ Conn F a b) : comps K E = comps K F := by
  have : Root K E = Root K F := by
    funext k
    unfold Root
    simp only [h]
  unfold comps
  rw [this]
theorem countP_ints_le (n : Nat) (p : Int → Bool) : ((List.range n).map Int.ofNat).countP p ≤ n := by
  have := List.countP_le_length (p := p) (l := (List.range n).map Int.ofNat)
  simpa using this
theorem countP_but {l : List Int} (hl : l.Nodup) {p q : Int → Bool} {x : Int} (hx : x ∈ l) (hp : p x = true) (hq : q x = false) (he : ∀ y ∈ l, y ≠ x → p y = q y) : l.countP p = l.countP q + 1 := by
  induction l with
  | nil => simp at hx
  | cons a l ih =>
    have hn := List.nodup_cons.1 hl
    by_cases ha : a = x
    · subst ha
      rw [List.countP_cons_of_pos hp, List.countP_cons_of_neg (by simp [hq])]
      congr 1
      exact List.countP_congr (fun y hy => by rw [he y (by simp [hy]) (fun e => hn.1 (e ▸ hy))])
    · have hx' : x ∈ l := by
        simp only [List.mem_cons] at hx
        rcases hx with hx | hx
        · exact absurd hx.symm ha
        · exact hx
      have hi := ih hn.2 hx' (fun y hy hne => he y (by simp [hy]) hne)
      have hpa := he a (by simp) ha
      cases hqa : q a with
      | true => rw [hqa] at hpa; rw [List.countP_cons_of_pos hpa, List.countP_cons_of_pos hqa, hi]
      | false => rw [hqa] at hpa; rw [List.countP_cons_of_neg (by simp [hpa]), List.countP_cons_of_neg (by simp [hqa]), hi]
theorem ints_nodup (n : Nat) : ((List.range n).map Int.ofNat).Nodup :=
  List.Pairwise.imp (fun {a b} h => by omega) (ints_asc n)
theorem comps_cons_same {K : Int} {E : List Tie} {u v : Int} (h : Conn E u v) : comps K (⟨u, v⟩ :: E) = comps K E :=
  comps_congr (fun a b => by
    rw [reach_cons]
    constructor
    · rintro (h1 | ⟨h1, h2⟩ | ⟨h1, h2⟩)
      · exact h1
      · exact (h1.trans h).trans h2
      · exact (h1.trans h.symm).trans h2
    · exact .inl)
theorem comps_cons_less {K : Int} {E : List Tie} {u v : Int} (u0 : 0 ≤ u) (u1 : u < K) (v0 : 0 ≤ v) (v1 : v < K)
    (h : ¬ Conn E u v) : comps K E = comps K (⟨u, v⟩ :: E) + 1 := by
  -- the greater of the two least knots is a root no more
  have key : ∀ {u v : Int}, 0 ≤ u → u < K → 0 ≤ v → v < K → ¬ Conn E u v → prt K E u < prt K E v → comps K E = comps K (⟨u, v⟩ :: E) + 1 := by
    intro u v u0 u1 v0 v1 h hlt
    have hu := part_in (E := E) u0 u1
    have hv := part_in (E := E) v0 v1
    have ru := part_reach (E := E) u0 u1
    have rv := part_reach (E := E) v0 v1
    unfold comps
    refine countP_but (ints_nodup _) (x := prt K E v) (mem_ints.2 hv) ?_ ?_ ?_
    · simp only [decide_eq_true_eq]
      intro j j0 j1 hr
      exact part_le v0 v1 j0 j1 (rv.trans hr)
    · simp only [decide_eq_false_iff_not]
      intro hroot
      have := hroot (prt K E u) hu.1 hu.2 (reach_cons.2 (.inr (.inr ⟨rv.symm, ru⟩)))
      omega
    · intro k hk hne
      have hk' := mem_ints.1 hk
      simp only [decide_eq_decide]
      constructor
      · intro hroot j j0 j1 hr
        rcases reach_cons.1 hr with h1 | ⟨h1, h2⟩ | ⟨h1, h2⟩
        · exact hroot j j0 j1 h1
        · have hku : k = prt K E u := by
            have h3 := hroot (prt K E u) hu.1 hu.2 (h1.trans ru)
            have h4 := part_le u0 u1 hk'.1 hk'.2 h1.symm
            omega
          have := part_le v0 v1 j0 j1 h2
          omega
        · have hkv : k = prt K E v := by
            have h3 := hroot (prt K E v) hv.1 hv.2 (h1.trans rv)
            have h4 := part_le v0 v1 hk'.1 hk'.2 h1.symm
            omega
          exact absurd hkv hne
      · intro hroot j j0 j1 hr
        exact hroot j j0 j1 (reach_cons.2 (.inl hr))
  have hne : prt K E u ≠ prt K E v := fun e => h ((part_eq_iff u0 u1 v0 v1).1 e)
  rcases Int.lt_or_gt_of_ne hne with hlt | hlt
  · exact key u0 u1 v0 v1 h hlt
  · have h' : ¬ Conn E v u := fun k => h k.symm
    rw [key v0 v1 u0 u1 h' hlt]
    congr 1
    exact comps_congr (fun a b => by
      rw [reach_cons, reach_cons]
      constructor
      · rintro (h1 | h1 | h1)
        · exact .inl h1
        · exact .inr (.inr h1)
        · exact .inr (.inl h1)
      · rintro (h1 | h1 | h1)
        · exact .inl h1
        · exact .inr (.inr h1)
        · exact .inr (.inl h1))
theorem comps_perm {K : Int} {E F : List Tie} (h : ∀ t, t ∈ E ↔ t ∈ F) : comps K E = comps K F := comps_congr (fun _ _ => reach_congr h)
end Osier
/- Plain facts on spanning forests and bridges. No program in sight. -/
namespace Osier
set_option linter.unusedVariables false
def cut (E : List Tie) (t : Tie) : List Tie := E.filter (fun s => decide (s ≠ t))
theorem mem_cut {E : List Tie} {s t : Tie} : s ∈ cut E t ↔ s ∈ E ∧ s ≠ t := by unfold cut; simp [List.mem_filter]
theorem mem_cut_cons {E : List Tie} {t : Tie} (h : t ∈ E) (s : Tie) : s ∈ E ↔ s ∈ t :: cut E t := by
  simp only [List.mem_cons, mem_cut]
  constructor
  · intro hs
    by_cases e : s = t
    · exact .inl e
    · exact .inr ⟨hs, e⟩
  · rintro (rfl | h1)
    · exact h
    · exact h1.1
theorem Ok.cut {K : Int} {E : List Tie} (h : Ok K E) (t : Tie) : Ok K (cut E t) := h.filter _
theorem reach_cut {E : List Tie} {t : Tie} (h : t ∈ E) {a b : Int} :
    Conn E a b ↔ Conn (cut E t) a b ∨ (Conn (cut E t) a t.f0 ∧ Conn (cut E t) t.f1 b) ∨ (Conn (cut E t) a t.f1 ∧ Conn (cut E t) t.f0 b) := by
  rw [reach_congr (mem_cut_cons h)]
  exact reach_cons (u := t.f0) (v := t.f1)
theorem comps_cut_same {K : Int} {E : List Tie} {t : Tie} (h : t ∈ E) (hr : Conn (cut E t) t.f0 t.f1) : comps K (cut E t) = comps K E := by
  rw [comps_perm (mem_cut_cons h)]
  exact (comps_cons_same hr).symm
theorem comps_cut_more {K : Int} {E : List Tie} (hE : Ok K E) {t : Tie} (h : t ∈ E) (hr : ¬ Conn (cut E t) t.f0 t.f1) : comps K (cut E t) = comps K E + 1 := by
  rw [comps_perm (mem_cut_cons h)]
  have := hE.tie t h
  exact comps_cons_less (by omega) (by omega) (by omega) (by omega) hr
theorem cut_length {E : List Tie} (hE : E.Nodup) {t : Tie} (h : t ∈ E) : (cut E t).length + 1 = E.length := by
  induction E with
  | nil => simp at h
  | cons e E ih =>
    have hn := List.nodup_cons.1 hE
    by_cases he : e = t
    · subst he
      have : cut (e :: E) e = E := by
        unfold cut
        rw [List.filter_cons_of_neg (by simp)]
        exact List.filter_eq_self.2 (fun s hs => by simp; rintro rfl; exact hn.1 hs)
      rw [this]; simp
    · have ht : t ∈ E := by
        simp only [List.mem_cons] at h
        rcases h with h | h
        · exact absurd h.symm he
        · exact h
      have : cut (e :: E) t = e :: cut E t := by
        unfold cut
        rw [List.filter_cons_of_pos (by simp [he])]
      rw [this]
      have := ih hn.2 ht
      simp; omega
def Bridge (E : List Tie) (t : Tie) : Prop := ¬ Conn (cut E t) t.f0 t.f1
theorem cut_comm (E : List Tie) (s t : Tie) : cut (cut E s) t = cut (cut E t) s := by
  unfold cut
  rw [List.filter_filter, List.filter_filter]
  congr 1
  funext x
  exact Bool.and_comm _ _
theorem bridge_cut {E : List Tie} {b t : Tie} (hb : b ∈ E) (hB : Bridge E b) (ht : t ∈ E) (hne : t ≠ b) : Bridge (cut E b) t ↔ Bridge E t := by
  unfold Bridge
  constructor
  · intro h hr
    have hb' : b ∈ cut E t := mem_cut.2 ⟨hb, Ne.symm hne⟩
    have ht' : t ∈ cut E b := mem_cut.2 ⟨ht, hne⟩
    rw [reach_cut hb'] at hr
    rw [cut_comm] at h
    apply hB
    rw [reach_cut ht', cut_comm]
    rcases hr with hr | ⟨h1, h2⟩ | ⟨h1, h2⟩
    · exact absurd hr h
    · exact .inr (.inl ⟨h1.symm, h2.symm⟩)
    · exact .inr (.inr ⟨h2, h1⟩)
  · intro h hr
    exact h (hr.mono (fun s hs => by
      have := mem_cut.1 hs
      have h2 := mem_cut.1 this.1
      exact mem_cut.2 ⟨h2.1, this.2⟩))
theorem bridge_iff_comps {K : Int} {E : List Tie} (hE : Ok K E) {t : Tie} (h : t ∈ E) : Bridge E t ↔ comps K (cut E t) > comps K E := by
  unfold Bridge
  constructor
  · intro hr; have := comps_cut_more hE h hr; omega
  · intro hlt hr; have := comps_cut_same (K := K) h hr; omega
end Osier
/- Plain facts on ways: order, enumeration, shortest ways, distances. No program in sight. -/
namespace Osier
set_option linter.unusedVariables false
end Osier
/- Plain facts on the list of all ways. No program in sight. -/
namespace Osier
set_option linter.unusedVariables false
def nexts (E : List Tie) (ks : List Int) (a : Int) : List Int := ks.filter (fun x => decide (mkT a x ∈ E))
def knots (K : Int) : List Int := (List.range K.toNat).map Int.ofNat
theorem mem_nexts {K : Int} {E : List Tie} (hE : Ok K E) {a x : Int} : x ∈ nexts E (knots K) a ↔ Ed E a x := by
  unfold nexts knots
  simp only [List.mem_filter, decide_eq_true_eq, ← hE.ed]
  constructor
  · exact fun h => h.2
  · intro h; exact ⟨mem_ints.2 (hE.ed_in h).2.1, h⟩
end Osier
end
section
namespace Go.Proofs.Ytleibnekeioamaa.E
open Go.RowKit Go.Proofs.YtleibnekeioamaaW.PrintWords Go.Proofs.YtleibnekeioamaaW.PrintMore Go.Proofs.Ytleibnekeioamaa.P Osier
set_option linter.unusedVariables false
theorem e_spec_l6In (a b c : Int) : spec_l6In.f a b c = some (dec (b ≤ a ∧ a ≤ c)) := by
  unfold spec_l6In.f
  by_cases h : a ≥ b
  · rw [if_pos h, dec_decide]
    exact congrArg some (dec_congr ⟨fun h' => ⟨h, h'⟩, fun h' => h'.2⟩)
  · rw [if_neg h, dec_false (by omega)]
theorem e_spec_l1Less (s t : STie) : spec_l1Less.f s.f0 s.f1 t.f0 t.f1 = some (dec (tlt s t)) := by
  unfold spec_l1Less.f
  by_cases h : s.f0 < t.f0
  · rw [if_pos h, dec_true (.inl h)]
  · rw [if_neg h]
    by_cases h' : s.f0 = t.f0
    · rw [if_pos h', dec_decide]
      exact congrArg some (dec_congr ⟨fun k => .inr ⟨h', k⟩, fun k => k.elim (fun k => absurd k h) (fun k => k.2)⟩)
    · rw [if_neg h', dec_false (fun k => k.elim h (fun k => h' k.1))]
def At (K : Int) (E : List STie) (j : Nat) (h : j < E.length) : Prop := (0 ≤ E[j].f0 ∧ E[j].f0 < E[j].f1 ∧ E[j].f1 < K) ∧ (∀ h0 : 0 < j, tlt E[j - 1] E[j])
theorem asc_iff (E : List STie) : Asc E ↔ ∀ j (h : j < E.length), 0 < j → tlt E[j - 1] E[j] := by
  constructor
  · intro h j hj h0
    exact List.pairwise_iff_getElem.1 h (j - 1) j (by omega) hj (by omega)
  · intro h
    refine List.pairwise_iff_getElem.2 ?_
    intro i j hi hj hij
    obtain ⟨d, rfl⟩ : ∃ d, j = i + d + 1 := ⟨j - i - 1, by omega⟩
    induction d with
    | zero => have := h (i + 1) hj (by omega); simpa using this
    | succ d ih =>
      have h1 := ih (by omega) (by omega)
      have h2 := h (i + (d + 1) + 1) hj (by omega)
      exact tlt_trans h1 h2
theorem ok_iff (K : Int) (E : List STie) : Ok K E ↔ (0 ≤ K ∧ K ≤ 8) ∧ ∀ j (h : j < E.length), At K E j h := by
  constructor
  · intro h
    refine ⟨⟨h.k0, h.k8⟩, fun j hj => ⟨h.tie _ (List.getElem_mem hj), fun h0 => (asc_iff E).1 h.asc j hj h0⟩⟩
  · rintro ⟨⟨h0, h1⟩, h⟩
    refine ⟨h0, h1, fun t ht => ?_, (asc_iff E).2 (fun j hj h0 => (h j hj).2 h0)⟩
    obtain ⟨j, hj, rfl⟩ := List.getElem_of_mem ht
    exact (h j hj).1
theorem e_spec_NetOk_l0 (K : Int) (E : List STie) (hK : 0 ≤ K ∧ K ≤ 8) (hE : E.length ≤ 64) (d : Nat) : ∀ i, i + d = E.length → Ev (fun k => spec_NetOk.l0 k (i : Int) K E) (dec (∀ j (h : j < E.length), i ≤ j → At K E j h)) := by
  induction d with
  | zero =>
    intro i hi
    refine Ev.succ ?_
    simp only [spec_NetOk.l0]
    refine Ev.no (by omega) ?_
    rw [dec_true (fun j h hij => by omega)]
    exact Ev.pure _
  | succ d ih =>
    intro i hi
    have hlt : i < E.length := by omega
    have hih := ih (i + 1) (by omega)
    refine Ev.succ ?_
    simp only [spec_NetOk.l0]
    refine Ev.yes (by omega) (Ev.yes (by omega) ?_)
    rw [rdT hlt, w64s (by omega)]
    refine Ev.bind (Ev.const (e_spec_l6In _ _ _)) ?_
    by_cases h1 : 0 ≤ E[i].f0 ∧ E[i].f0 ≤ wrap64 (K - 1)
    · have hw : wrap64 (K - 1) = K - 1 := w64 (by omega) (by omega)
      refine Ev.yes (dec_true h1) ?_
      rw [hw] at h1 ⊢
      rw [w64 (x := E[i].f0 + 1) (by omega) (by omega)]
      refine Ev.bind (Ev.const (e_spec_l6In _ _ _)) ?_
      by_cases h2 : E[i].f0 + 1 ≤ E[i].f1 ∧ E[i].f1 ≤ K - 1
      · refine Ev.yes (dec_true h2) ?_
        have hb : 0 ≤ E[i].f0 ∧ E[i].f0 < E[i].f1 ∧ E[i].f1 < K := by omega
        by_cases h3 : 0 < i
        · refine Ev.yes (by omega) ?_
          rw [w64p h3 (by omega)]
          refine Ev.yes (by omega) (Ev.yes (by omega) ?_)
          rw [rdT (show i - 1 < E.length by omega)]
          refine Ev.bind (Ev.const (e_spec_l1Less _ _)) ?_
          by_cases h4 : tlt E[i - 1] E[i]
          · refine Ev.yes (dec_true h4) (hih.value (dec_congr ⟨fun h j hj hij => ?_, fun h j hj hij => h j hj (by omega)⟩))
            rcases Nat.eq_or_lt_of_le hij with rfl | h5
            · exact ⟨hb, fun _ => h4⟩
            · exact h j hj h5
          · refine Ev.no (by rw [dec_false h4]; simp) ?_
            rw [dec_false (fun h => h4 ((h i hlt (Nat.le_refl _)).2 h3))]
            exact Ev.pure _
        · refine Ev.no (by omega) (hih.value (dec_congr ⟨fun h j hj hij => ?_, fun h j hj hij => h j hj (by omega)⟩))
          rcases Nat.eq_or_lt_of_le hij with rfl | h5
          · exact ⟨hb, fun h0 => absurd h0 h3⟩
          · exact h j hj h5
      · refine Ev.no (by rw [dec_false h2]; simp) ?_
        rw [dec_false (fun h => h2 (by have := (h i hlt (Nat.le_refl _)).1; omega))]
        exact Ev.pure _
    · refine Ev.no (by rw [dec_false h1]; simp) ?_
      have hw : wrap64 (K - 1) = K - 1 := w64 (by omega) (by omega)
      rw [hw] at h1
      rw [dec_false (fun h => h1 (by have := (h i hlt (Nat.le_refl _)).1; omega))]
      exact Ev.pure _
theorem e_spec_NetOk (K : Int) (E : List STie) : Ev (fun k => spec_NetOk.f k K E) (dec (Ok K E)) := by
  simp only [spec_NetOk.f]
  refine Ev.bind (Ev.const (e_spec_l6In _ _ _)) ?_
  by_cases hK : 0 ≤ K ∧ K ≤ 8
  · refine Ev.yes (dec_true hK) ?_
    refine Ev.succ ?_
    simp only [spec_NetOk.j0]
    by_cases hl : E.length ≤ 64
    · refine Ev.no (by simp; omega) ((e_spec_NetOk_l0 K E hK hl E.length 0 (by omega)).value (dec_congr ?_))
      rw [ok_iff]
      exact ⟨fun h => ⟨hK, fun j hj => h j hj (Nat.zero_le _)⟩, fun h j hj _ => h.2 j hj⟩
    · refine Ev.yes (by simp; omega) ?_
      rw [dec_false (fun h => hl h.len)]
      exact Ev.pure _
  · refine Ev.no (by rw [dec_false hK]; simp) ?_
    refine Ev.succ ?_
    simp only [spec_NetOk.j0]
    refine Ev.yes (by simp) ?_
    rw [dec_false (fun h => hK ⟨h.k0, h.k8⟩)]
    exact Ev.pure _
theorem e_impl_ascending_l0 (E : List STie) (hE : E.length < 4611686018427387904) (d : Nat) : ∀ i, i + d = E.length → 0 < i → Ev (fun k => impl_ascending.l0 k E (i : Int)) (dec (∀ j (h : j < E.length), i ≤ j → tlt E[j - 1] E[j])) := by
  induction d with
  | zero =>
    intro i hi h0
    refine Ev.succ ?_
    simp only [impl_ascending.l0]
    refine Ev.no (by omega) ?_
    rw [dec_true (fun j h hij => by omega)]
    exact Ev.pure _
  | succ d ih =>
    intro i hi h0
    have hlt : i < E.length := by omega
    have hih := ih (i + 1) (by omega) (by omega)
    refine Ev.succ ?_
    simp only [impl_ascending.l0]
    rw [w64p h0 (by omega), w64s (by omega)]
    refine Ev.yes (by omega) (Ev.yes (by omega) (Ev.yes (by omega) (Ev.yes (by omega) ?_)))
    rw [rdT hlt, rdT (show i - 1 < E.length by omega)]
    refine Ev.bind (e_impl_tieOrder _ _) ?_
    by_cases h4 : tlt E[i - 1] E[i]
    · have := (ord_neg E[i - 1] E[i]).2 h4
      refine Ev.no (by omega) (hih.value (dec_congr ⟨fun h j hj hij => ?_, fun h j hj hij => h j hj (by omega)⟩))
      rcases Nat.eq_or_lt_of_le hij with rfl | h5
      · exact h4
      · exact h j hj h5
    · have : ¬ ord E[i - 1] E[i] < 0 := fun h => h4 ((ord_neg E[i - 1] E[i]).1 h)
      refine Ev.yes (by omega) ?_
      rw [dec_false (fun h => h4 (h i hlt (Nat.le_refl _)))]
      exact Ev.pure _
theorem e_impl_ascending (E : List STie) (hE : E.length < 4611686018427387904) : Ev (fun k => impl_ascending.f k E) (dec (Asc E)) := by
  simp only [impl_ascending.f]
  by_cases h : E.length = 0
  · refine Ev.succ ?_
    simp only [impl_ascending.l0]
    refine Ev.no (by omega) ?_
    rw [dec_true ((asc_iff E).2 (fun j hj _ => by omega))]
    exact Ev.pure _
  · refine (e_impl_ascending_l0 E hE (E.length - 1) 1 (by omega) (by omega)).value (dec_congr ?_)
    rw [asc_iff]
    exact Iff.rfl
theorem e_impl_NetOk_l0 (K : Int) (E : List STie) (hK : 0 ≤ K ∧ K ≤ 8) (hE : E.length < 4611686018427387904) (d : Nat) : ∀ i, i + d = E.length → Ev (fun k => impl_NetOk.l0 k E (E.length : Int) (i : Int) K E) (dec ((∀ j (h : j < E.length), i ≤ j → 0 ≤ E[j].f0 ∧ E[j].f0 < E[j].f1 ∧ E[j].f1 < K) ∧ Asc E)) := by
  induction d with
  | zero =>
    intro i hi
    refine Ev.succ ?_
    simp only [impl_NetOk.l0]
    refine Ev.no (by omega) (Ev.bind (e_impl_ascending E hE) ((Ev.pure _).value (dec_congr ⟨fun h => ⟨fun j hj hij => by omega, h⟩, fun h => h.2⟩)))
  | succ d ih =>
    intro i hi
    have hlt : i < E.length := by omega
    have hih := ih (i + 1) (by omega)
    refine Ev.succ ?_
    simp only [impl_NetOk.l0]
    refine Ev.yes (by omega) (Ev.yes (by omega) (Ev.yes (by omega) ?_))
    rw [rdT hlt, w64s (by omega)]
    by_cases h1 : E[i].f0 < 0
    · refine Ev.yes h1 ?_
      rw [dec_false (fun h => by have := h.1 i hlt (Nat.le_refl _); omega)]
      exact Ev.pure _
    · refine Ev.no h1 ?_
      by_cases h2 : E[i].f0 ≥ E[i].f1
      · refine Ev.yes h2 ?_
        rw [dec_false (fun h => by have := h.1 i hlt (Nat.le_refl _); omega)]
        exact Ev.pure _
      · refine Ev.no h2 ?_
        by_cases h3 : E[i].f1 ≥ K
        · refine Ev.yes h3 ?_
          rw [dec_false (fun h => by have := h.1 i hlt (Nat.le_refl _); omega)]
          exact Ev.pure _
        · refine Ev.no h3 (hih.value (dec_congr ⟨fun h => ⟨fun j hj hij => ?_, h.2⟩, fun h => ⟨fun j hj hij => h.1 j hj (by omega), h.2⟩⟩))
          rcases Nat.eq_or_lt_of_le hij with rfl | h5
          · omega
          · exact h.1 j hj h5
theorem e_impl_NetOk (K : Int) (E : List STie) (hE : E.length < 4611686018427387904) : Ev (fun k => impl_NetOk.f k K E) (dec (Ok K E)) := by
  simp only [impl_NetOk.f]
  by_cases h1 : K < 0
  · refine Ev.yes h1 (Ev.succ ?_)
    simp only [impl_NetOk.j0]
    refine Ev.yes (by simp) ?_
    rw [dec_false (fun h => by have := h.k0; omega)]
    exact Ev.pure _
  · refine Ev.no h1 (Ev.succ ?_)
    simp only [impl_NetOk.j0]
    by_cases h2 : K > 8
    · refine Ev.yes (by simpa using h2) ?_
      rw [dec_false (fun h => by have := h.k8; omega)]
      exact Ev.pure _
    · refine Ev.no (by simpa using h2) ((e_impl_NetOk_l0 K E (by omega) hE E.length 0 (by omega)).value (dec_congr ⟨fun h => ⟨by omega, by omega, fun t ht => ?_, h.2⟩, fun h => ⟨fun j hj _ => h.tie _ (List.getElem_mem hj), h.asc⟩⟩))
      obtain ⟨j, hj, rfl⟩ := List.getElem_of_mem ht
      exact h.1 j hj (Nat.zero_le _)
end Go.Proofs.Ytleibnekeioamaa.E
end
section
namespace Go.Proofs.Ytleibnekeioamaa.E
open Go.RowKit Go.Proofs.YtleibnekeioamaaW.PrintWords Go.Proofs.YtleibnekeioamaaW.PrintMore Go.Proofs.Ytleibnekeioamaa.P Osier
set_option linter.unusedVariables false
theorem list_eq_iff {α : Type} {a b : List α} (hl : a.length = b.length) : a = b ↔ ∀ j (h : j < a.length), a[j] = b[j]'(hl ▸ h) := by
  constructor
  · rintro rfl j h; rfl
  · intro h
    exact List.ext_getElem hl (fun j h1 h2 => h j h1)
end Go.Proofs.Ytleibnekeioamaa.E
end
section
namespace Go.Proofs.Ytleibnekeioamaa.E
open Go.RowKit Go.Proofs.YtleibnekeioamaaW.PrintWords Go.Proofs.YtleibnekeioamaaW.PrintMore Go.Proofs.Ytleibnekeioamaa.P Osier
set_option linter.unusedVariables false
theorem e_spec_l1Tie (a b : Int) : spec_l1Tie.f a b = some ((mkT a b).f0, (mkT a b).f1) := by
  unfold spec_l1Tie.f mkT
  split <;> rfl
theorem e_impl_tie (a b : Int) : impl_tie.f a b = some ((mkT a b).f0, (mkT a b).f1) := by
  unfold impl_tie.f mkT mn mx
  by_cases h : a < b
  · rw [if_pos h, if_pos h, if_neg (by omega)]
  · by_cases h' : b < a
    · rw [if_neg h, if_neg h, if_pos h']
    · have : a = b := by omega
      subst this
      rw [if_neg h, if_neg h]
theorem beq_tie (s t : STie) : (s.f0 == t.f0 && (s.f1 == t.f1)) = dec (s = t) := by
  by_cases h : s = t
  · subst h; rw [dec_true rfl]; simp
  · rw [dec_false h]
    by_cases h0 : s.f0 = t.f0
    · have h1 : ¬ s.f1 = t.f1 := fun h1 => h (Tie.ext' h0 h1)
      simp [h1]
    · simp [h0]
theorem bne_tie (s t : STie) : (!(s.f0 == t.f0) || (!(s.f1 == t.f1))) = dec (s ≠ t) := by
  by_cases h : s = t
  · subst h; rw [dec_false (fun h => h rfl)]; simp
  · rw [dec_true h]
    by_cases h0 : s.f0 = t.f0
    · have h1 : ¬ s.f1 = t.f1 := fun h1 => h (Tie.ext' h0 h1)
      simp [h1]
    · simp [h0]
theorem mem_drop_step {E : List STie} {i : Nat} (hi : i < E.length) (t : STie) : t ∈ E.drop i ↔ E[i] = t ∨ t ∈ E.drop (i + 1) := by
  rw [drop_cons _ hi, List.mem_cons]
  exact or_congr eq_comm Iff.rfl
theorem e_spec_l1Has_l0 (K : Int) (E : List STie) (a b : Int) (hE : E.length < 4611686018427387904) (d : Nat) : ∀ i, i + d = E.length → Ev (fun k => spec_l1Has.l0 k a b (i : Int) K E) (dec (mkT a b ∈ E.drop i)) := by
  induction d with
  | zero =>
    intro i hi
    refine Ev.succ ?_
    simp only [spec_l1Has.l0]
    refine Ev.no (by omega) ?_
    rw [List.drop_eq_nil_of_le (by omega), dec_false (by simp)]
    exact Ev.pure _
  | succ d ih =>
    intro i hi
    have hlt : i < E.length := by omega
    refine Ev.succ ?_
    simp only [spec_l1Has.l0]
    rw [rdT hlt, w64s (by omega)]
    refine Ev.yes (by omega) (Ev.yes (by omega) (Ev.bind (Ev.const (e_spec_l1Tie a b)) ?_))
    dsimp only
    rw [beq_tie, dec_congr (mem_drop_step hlt _)]
    by_cases h : E[i] = mkT a b
    · refine Ev.yes (dec_true h) ?_
      rw [dec_true (.inl h)]
      exact Ev.pure _
    · refine Ev.no (by rw [dec_false h]; simp) ((ih (i + 1) (by omega)).value (dec_congr ⟨.inr, fun k => k.resolve_left h⟩))
theorem e_spec_l1Has (K : Int) (E : List STie) (a b : Int) (hE : E.length < 4611686018427387904) : Ev (fun k => spec_l1Has.f k K E a b) (dec (mkT a b ∈ E)) := by
  simp only [spec_l1Has.f]
  exact (e_spec_l1Has_l0 K E a b hE E.length 0 (by omega)).value (by simp)
theorem e_spec_NetHas (K : Int) (E : List STie) (a b : Int) (hE : E.length < 4611686018427387904) : Ev (fun k => spec_NetHas.f k K E a b) (dec (Ok K E ∧ mkT a b ∈ E)) := by
  simp only [spec_NetHas.f]
  refine Ev.bind (e_spec_NetOk K E) ?_
  by_cases h : Ok K E
  · refine Ev.yes (dec_true h) (Ev.bind (e_spec_l1Has K E a b hE) ((Ev.pure _).value (dec_congr ⟨fun k => ⟨h, k⟩, fun k => k.2⟩)))
  · refine Ev.no (by rw [dec_false h]; simp) ?_
    rw [dec_false (fun k => h k.1)]; exact Ev.pure _
theorem e_slices_Index_Tie_l0 (E : List STie) (t : STie) (hE : E.length < 4611686018427387904) (d : Nat) : ∀ i, i + d = E.length → ∃ r, Ev (fun k => slices_Index_Tie.l0 k E (E.length : Int) (i : Int) t.f0 t.f1) r ∧ (r ≥ 0 ↔ t ∈ E.drop i) := by
  induction d with
  | zero =>
    intro i hi
    refine ⟨-1, Ev.succ ?_, ?_⟩
    · simp only [slices_Index_Tie.l0]
      exact Ev.no (by omega) (Ev.pure _)
    · rw [List.drop_eq_nil_of_le (by omega)]; simp
  | succ d ih =>
    intro i hi
    have hlt : i < E.length := by omega
    by_cases h : t = E[i]
    · refine ⟨(i : Int), Ev.succ ?_, ?_⟩
      · simp only [slices_Index_Tie.l0]
        rw [rdT hlt, beq_tie]
        exact Ev.yes (by omega) (Ev.yes (by omega) (Ev.yes (by omega) (Ev.yes (dec_true h) (Ev.pure _))))
      · rw [mem_drop_step hlt]
        exact ⟨fun _ => .inl h.symm, fun _ => by omega⟩
    · obtain ⟨r, hr, hr'⟩ := ih (i + 1) (by omega)
      refine ⟨r, Ev.succ ?_, ?_⟩
      · simp only [slices_Index_Tie.l0]
        rw [rdT hlt, beq_tie, w64s (by omega)]
        exact Ev.yes (by omega) (Ev.yes (by omega) (Ev.yes (by omega) (Ev.no (by rw [dec_false h]; simp) hr)))
      · rw [mem_drop_step hlt, hr']
        exact ⟨.inr, fun k => k.resolve_left (fun e => h e.symm)⟩
theorem e_slices_Contains_Tie (E : List STie) (t : STie) (hE : E.length < 4611686018427387904) : Ev (fun k => slices_Contains_Tie.f k E t.f0 t.f1) (dec (t ∈ E)) := by
  simp only [slices_Contains_Tie.f, slices_Index_Tie.f]
  obtain ⟨r, hr, hr'⟩ := e_slices_Index_Tie_l0 E t hE E.length 0 (by omega)
  refine Ev.bind hr ((Ev.pure _).value ?_)
  rw [dec_decide]
  exact dec_congr (by simpa using hr')
theorem e_impl_Net_has (K : Int) (E : List STie) (a b : Int) (hE : E.length < 4611686018427387904) : Ev (fun k => impl_Net_has.f k K E a b) (dec (mkT a b ∈ E)) := by
  simp only [impl_Net_has.f]
  exact Ev.bind (Ev.const (e_impl_tie a b)) (Ev.bind (e_slices_Contains_Tie E (mkT a b) hE) (Ev.pure _))
theorem e_impl_NetHas (K : Int) (E : List STie) (a b : Int) (hE : E.length < 4611686018427387904) : Ev (fun k => impl_NetHas.f k K E a b) (dec (Ok K E ∧ mkT a b ∈ E)) := by
  simp only [impl_NetHas.f]
  refine Ev.bind (e_impl_NetOk K E hE) ?_
  by_cases h : Ok K E
  · refine Ev.yes (dec_true h) (Ev.bind (e_impl_Net_has K E a b hE) ((Ev.pure _).value (dec_congr ⟨fun k => ⟨h, k⟩, fun k => k.2⟩)))
  · refine Ev.no (by rw [dec_false h]; simp) ?_
    rw [dec_false (fun k => h k.1)]; exact Ev.pure _
theorem e_spec_l1Knot (K : Int) (E : List STie) (a : Int) : Ev (fun k => spec_l1Knot.f k K E a) (dec (Ok K E ∧ 0 ≤ a ∧ a < K)) := by
  simp only [spec_l1Knot.f]
  refine Ev.bind (e_spec_NetOk K E) ?_
  by_cases h : Ok K E
  · have := h.k0
    have := h.k8
    refine Ev.yes (dec_true h) ?_
    rw [w64 (x := K - 1) (by omega) (by omega)]
    exact Ev.bind (Ev.const (e_spec_l6In _ _ _)) ((Ev.pure _).value (dec_congr ⟨fun k => ⟨h, k.1, by omega⟩, fun k => ⟨k.2.1, by omega⟩⟩))
  · refine Ev.no (by rw [dec_false h]; simp) ?_
    rw [dec_false (fun k => h k.1)]; exact Ev.pure _
theorem filter_drop_step {E : List STie} {i : Nat} (hi : i < E.length) (p : STie → Bool) : (E.drop i).filter p = (if p E[i] then [E[i]] else []) ++ (E.drop (i + 1)).filter p := by
  rw [drop_cons _ hi, List.filter_cons]
  split <;> simp_all
end Go.Proofs.Ytleibnekeioamaa.E
end
section
namespace Go.Proofs.Ytleibnekeioamaa.E
open Go.RowKit Go.Proofs.YtleibnekeioamaaW.PrintWords Go.Proofs.YtleibnekeioamaaW.PrintMore Go.Proofs.Ytleibnekeioamaa.P Osier
set_option linter.unusedVariables false
noncomputable def cutV (K : Int) (E : List STie) (a b : Int) : Int × List STie × Bool := if dec (Ok K E ∧ mkT a b ∈ E) = true then (K, cut E (mkT a b), true) else (0, [], false)
theorem cut_filter (E : List STie) (t : STie) : cut E t = E.filter (fun s => dec (s ≠ t)) := by
  unfold cut
  congr 1
  funext s
  exact dec_decide
theorem e_spec_NetCut_l0 (K : Int) (E : List STie) (a b : Int) (hE : E.length < 1099511627776) (d : Nat) : ∀ (i : Nat) (acc : List STie), i + d = E.length → acc.length ≤ i → Ev (fun k => spec_NetCut.l0 k a b (i : Int) K E K acc) (K, acc ++ cut (E.drop i) (mkT a b), true) := by
  induction d with
  | zero =>
    intro i acc hi ha
    refine Ev.succ ?_
    simp only [spec_NetCut.l0]
    refine Ev.no (by omega) ?_
    rw [List.drop_eq_nil_of_le (by omega)]
    simpa [cut] using Ev.pure _
  | succ d ih =>
    intro i acc hi ha
    have hlt : i < E.length := by omega
    refine Ev.succ ?_
    simp only [spec_NetCut.l0]
    rw [rdT hlt, w64s (by omega)]
    refine Ev.yes (by omega) (Ev.yes (by omega) (Ev.bind (Ev.const (e_spec_l1Tie a b)) ?_))
    dsimp only
    rw [bne_tie, cut_filter, filter_drop_step hlt, ← cut_filter, ← List.append_assoc]
    by_cases h : E[i] ≠ mkT a b
    · refine Ev.yes (dec_true h) (Ev.yes (by omega) ((ih (i + 1) _ (by omega) (by simp; omega)).value ?_))
      rw [if_pos (dec_true h)]
    · refine Ev.no (by rw [dec_false h]; simp) ((ih (i + 1) acc (by omega) (by omega)).value ?_)
      rw [if_neg (by rw [dec_false h]; simp), List.append_nil]
theorem e_spec_NetCut (K : Int) (E : List STie) (a b : Int) (hE : E.length < 1099511627776) : Ev (fun k => spec_NetCut.f k K E a b) (cutV K E a b) := by
  simp only [spec_NetCut.f]
  refine Ev.bind (e_spec_NetHas K E a b (by omega)) ?_
  unfold cutV
  by_cases h : Ok K E ∧ mkT a b ∈ E
  · rw [if_pos (dec_true h)]
    exact Ev.yes (dec_true h) ((e_spec_NetCut_l0 K E a b hE E.length 0 [] (by omega) (by simp)).value (by simp))
  · rw [if_neg (by rw [dec_false h]; simp)]
    exact Ev.no (by rw [dec_false h]; simp) (Ev.pure _)
theorem e_impl_Net_less_l0 (K : Int) (E G : List STie) (hE : E.length < 1099511627776) (hG : G.length < 1099511627776) (d : Nat) : ∀ (i : Nat) (acc : List STie), i + d = E.length → acc.length ≤ i → Ev (fun k => impl_Net_less.l0 k G E (E.length : Int) (i : Int) K acc) (K, acc ++ (E.drop i).filter (fun s => dec (s ∉ G))) := by
  induction d with
  | zero =>
    intro i acc hi ha
    refine Ev.succ ?_
    simp only [impl_Net_less.l0]
    refine Ev.no (by omega) ?_
    rw [List.drop_eq_nil_of_le (by omega)]
    simpa using Ev.pure _
  | succ d ih =>
    intro i acc hi ha
    have hlt : i < E.length := by omega
    refine Ev.succ ?_
    simp only [impl_Net_less.l0]
    rw [rdT hlt, w64s (by omega), filter_drop_step hlt, ← List.append_assoc]
    refine Ev.yes (by omega) (Ev.yes (by omega) (Ev.yes (by omega) (Ev.bind (e_slices_Contains_Tie G E[i] (by omega)) ?_)))
    by_cases h : E[i] ∈ G
    · refine Ev.yes (dec_true h) ((ih (i + 1) acc (by omega) (by omega)).value ?_)
      rw [if_neg (by rw [dec_false (fun k => k h)]; simp), List.append_nil]
    · refine Ev.no (by rw [dec_false h]; simp) (Ev.yes (by omega) ((ih (i + 1) _ (by omega) (by simp; omega)).value ?_))
      rw [if_pos (dec_true h)]
theorem e_impl_Net_less (K : Int) (E G : List STie) (hE : E.length < 1099511627776) (hG : G.length < 1099511627776) : Ev (fun k => impl_Net_less.f k K E G) (K, E.filter (fun s => dec (s ∉ G))) := by
  simp only [impl_Net_less.f]
  exact (e_impl_Net_less_l0 K E G hE hG E.length 0 [] (by omega) (by simp)).value (by simp)
theorem less_one (E : List STie) (t : STie) : E.filter (fun s => dec (s ∉ [t])) = cut E t := by
  rw [cut_filter]
  congr 1
  funext s
  exact dec_congr (by simp)
theorem e_impl_NetCut (K : Int) (E : List STie) (a b : Int) (hE : E.length < 1099511627776) : Ev (fun k => impl_NetCut.f k K E a b) (cutV K E a b) := by
  simp only [impl_NetCut.f]
  refine Ev.bind (e_impl_NetHas K E a b (by omega)) ?_
  unfold cutV
  by_cases h : Ok K E ∧ mkT a b ∈ E
  · rw [if_pos (dec_true h)]
    refine Ev.yes (dec_true h) (Ev.bind (Ev.const (e_impl_tie a b)) (Ev.bind (e_impl_Net_less K E [mkT a b] hE (by simp)) ((Ev.pure _).value ?_)))
    rw [less_one]
  · rw [if_neg (by rw [dec_false h]; simp)]
    exact Ev.no (by rw [dec_false h]; simp) (Ev.pure _)
end Go.Proofs.Ytleibnekeioamaa.E
end
section
namespace Go.Proofs.Ytleibnekeioamaa.E
open Go.RowKit Go.Proofs.YtleibnekeioamaaW.PrintWords Go.Proofs.YtleibnekeioamaaW.PrintMore Go.Proofs.Ytleibnekeioamaa.P Osier
set_option linter.unusedVariables false
theorem xor_i64 (a b : Nat) (ha : a < 2 ^ 62) (hb : b < 2 ^ 62) : Go.bits .xor .i64 (a : Int) (b : Int) = ((a ^^^ b : Nat) : Int) := by
  have hx : a ^^^ b < 2 ^ 62 := Nat.xor_lt_two_pow ha hb
  have h1 : (BitVec.ofInt 64 (a : Int)).toNat = a := by
    rw [BitVec.ofInt_natCast, BitVec.toNat_ofNat]; exact Nat.mod_eq_of_lt (by omega)
  have h2 : (BitVec.ofInt 64 (b : Int)).toNat = b := by
    rw [BitVec.ofInt_natCast, BitVec.toNat_ofNat]; exact Nat.mod_eq_of_lt (by omega)
  show IntKind.i64.wrap ((BitVec.ofInt 64 (a : Int) ^^^ BitVec.ofInt 64 (b : Int)).toNat : Int) = _
  rw [BitVec.toNat_xor, h1, h2]
  simp only [IntKind.wrap, IntKind.bits, IntKind.signed]
  simp
  omega
theorem xor_nonneg {a b : Int} (ha : 0 ≤ a) (ha' : a < 2 ^ 62) (hb : 0 ≤ b) (hb' : b < 2 ^ 62) : 0 ≤ Go.bits .xor .i64 a b := by
  obtain ⟨m, rfl⟩ := Int.eq_ofNat_of_zero_le ha
  obtain ⟨n, rfl⟩ := Int.eq_ofNat_of_zero_le hb
  rw [xor_i64 m n (by omega) (by omega)]
  omega
theorem tmod_in {a n : Int} (ha : 0 ≤ a) (hn : 0 < n) : 0 ≤ Int.tmod a n ∧ Int.tmod a n < n := ⟨Int.tmod_nonneg n ha, Int.tmod_lt_of_pos a hn⟩
theorem rd_byte {xs : List Int} (hb : ∀ x ∈ xs, 0 ≤ x ∧ x < 256) {p : Int} (h0 : 0 ≤ p) (h : p < xs.length) : 0 ≤ rd xs p ∧ rd xs p < 256 := by
  obtain ⟨n, rfl⟩ := Int.eq_ofNat_of_zero_le h0
  have hn : n < xs.length := by omega
  have e : rd xs (n : Int) = xs[n] := rdI hn
  show 0 ≤ rd xs (n : Int) ∧ rd xs (n : Int) < 256
  rw [e]
  exact hb _ (List.getElem_mem hn)
structure Src (xs : List Int) : Prop where
  byte : ∀ x ∈ xs, 0 ≤ x ∧ x < 256
  len : xs.length ≤ 2000
theorem e_spec_l6Rd_pick {xs : List Int} (hs : Src xs) {p : Int} (hp : 0 ≤ p) (hp' : p < 1099511627776) (n : Int) (hn' : n < 1099511627776) : ∃ v, Ev (fun k => spec_l6Rd_pick.f k xs p n) (v, p + 1) ∧ 0 ≤ v ∧ (1 ≤ n → v < n) ∧ (n < 1 → v = 0) := by
  have hl := hs.len
  have w1 : wrap64 (p + 1) = p + 1 := w64 (by omega) (by omega)
  have w2 : wrap64 (p + 1 - 1) = p := by rw [w64 (by omega) (by omega)]; omega
  by_cases hn : n < 1
  · refine ⟨0, ?_, by omega, by omega, fun _ => rfl⟩
    simp only [spec_l6Rd_pick.f]
    refine Ev.yes hn (Ev.succ ?_)
    simp only [spec_l6Rd_pick.j0]
    rw [w1]
    exact Ev.yes (by trivial) (Ev.pure _)
  · by_cases h0 : xs.length = 0
    · refine ⟨0, ?_, by omega, fun _ => by omega, by omega⟩
      simp only [spec_l6Rd_pick.f]
      refine Ev.no hn (Ev.succ ?_)
      simp only [spec_l6Rd_pick.j0]
      rw [w1]
      exact Ev.yes (by simp [h0]) (Ev.pure _)
    · by_cases h1 : p < xs.length
      · have hr := rd_byte hs.byte hp h1
        refine ⟨Int.tmod (rd xs p) n, ?_, (tmod_in hr.1 (by omega)).1, fun _ => (tmod_in hr.1 (by omega)).2, by omega⟩
        simp only [spec_l6Rd_pick.f]
        refine Ev.no hn (Ev.succ ?_)
        simp only [spec_l6Rd_pick.j0]
        rw [w1, w2, w64 (x := rd xs p) (by omega) (by omega)]
        exact Ev.no (by simp; exact fun h => h0 (by rw [h]; rfl)) (Ev.yes h1 (Ev.yes hp (Ev.no (by omega) (Ev.pure _))))
      · have hlp : (0 : Int) < xs.length := by omega
        have m1 := tmod_in hp hlp
        have e7 : wrap64 (p * 7) = p * 7 := w64 (by omega) (by omega)
        have e8 : wrap64 (p * 7 + 3) = p * 7 + 3 := w64 (by omega) (by omega)
        have m2 := tmod_in (show (0 : Int) ≤ p * 7 + 3 by omega) hlp
        have r1 := rd_byte hs.byte m1.1 m1.2
        have r2 := rd_byte hs.byte m2.1 m2.2
        have hq0 : 0 ≤ Int.tdiv p xs.length := Int.tdiv_nonneg hp (by omega)
        have hq1 : Int.tdiv p xs.length ≤ p := by rw [Int.tdiv_eq_ediv_of_nonneg hp]; exact Int.ediv_le_self _ hp
        generalize hA : rd xs (Int.tmod p xs.length) = A at *
        generalize hB : rd xs (Int.tmod (p * 7 + 3) xs.length) = B at *
        generalize hQ : Int.tdiv p xs.length = Q at *
        have f1 : wrap64 A = A := w64 (by omega) (by omega)
        have f2 : wrap64 B = B := w64 (by omega) (by omega)
        have f3 : wrap64 (A * 131) = A * 131 := w64 (by omega) (by omega)
        have f4 : wrap64 (B * 1117) = B * 1117 := w64 (by omega) (by omega)
        have f5 : wrap64 (A * 131 + B * 1117) = A * 131 + B * 1117 := w64 (by omega) (by omega)
        have f6 : wrap64 (p * 29) = p * 29 := w64 (by omega) (by omega)
        have f7 : wrap64 (A * 131 + B * 1117 + p * 29) = A * 131 + B * 1117 + p * 29 := w64 (by omega) (by omega)
        have f8 : wrap64 Q = Q := w64 (by omega) (by omega)
        have f9 : wrap64 (Q * 53) = Q * 53 := w64 (by omega) (by omega)
        have f10 : wrap64 (A * 131 + B * 1117 + p * 29 + Q * 53) = A * 131 + B * 1117 + p * 29 + Q * 53 := w64 (by omega) (by omega)
        have hS0 : 0 ≤ A * 131 + B * 1117 + p * 29 + Q * 53 := by omega
        have hS1 : A * 131 + B * 1117 + p * 29 + Q * 53 < 2 ^ 60 := by omega
        generalize hS : A * 131 + B * 1117 + p * 29 + Q * 53 = S at *
        have g0 : 0 ≤ Int.tdiv S 64 := Int.tdiv_nonneg hS0 (by omega)
        have g1 : Int.tdiv S 64 ≤ S := by rw [Int.tdiv_eq_ediv_of_nonneg hS0]; exact Int.ediv_le_self _ hS0
        have f11 : wrap64 (Int.tdiv S 64) = Int.tdiv S 64 := w64 (by omega) (by omega)
        have hx := xor_nonneg (a := S) (b := Int.tdiv S 64) hS0 (by omega) g0 (by omega)
        refine ⟨Int.tmod (Go.bits .xor .i64 S (Int.tdiv S 64)) n, ?_, (tmod_in hx (by omega)).1, fun _ => (tmod_in hx (by omega)).2, by omega⟩
        simp only [spec_l6Rd_pick.f]
        refine Ev.no hn (Ev.succ ?_)
        simp only [spec_l6Rd_pick.j0]
        rw [w1, w2, e7, e8, hA, hB, hQ, f1, f2, f3, f4, f5, f6, f7, f8, f9, hS, f10, f11]
        exact Ev.no (by simp; exact fun h => h0 (by rw [h]; rfl)) (Ev.no h1 (Ev.no (by omega) (Ev.yes m1.1 (Ev.yes m1.2 (Ev.yes m2.1 (Ev.yes m2.2 (Ev.no (by omega) (Ev.pure _))))))))
end Go.Proofs.Ytleibnekeioamaa.E
end
section
namespace Go.Proofs.Ytleibnekeioamaa.E
open Go.RowKit Go.Proofs.YtleibnekeioamaaW.PrintWords Go.Proofs.YtleibnekeioamaaW.PrintMore Go.Proofs.Ytleibnekeioamaa.P Osier
set_option linter.unusedVariables false
noncomputable def ins (t : STie) : List STie → List STie
  | [] => [t]
  | s :: l => if dec (tlt t s) = true then t :: s :: l else s :: ins t l
theorem mem_ins {t s : STie} {l : List STie} : s ∈ ins t l ↔ s = t ∨ s ∈ l := by
  induction l with
  | nil => simp [ins]
  | cons u l ih =>
    rw [ins]
    split
    · simp
    · simp only [List.mem_cons, ih]
      constructor
      · rintro (h | h | h) <;> simp [h]
      · rintro (h | h | h) <;> simp [h]
theorem asc_ins {t : STie} {l : List STie} (h : Asc l) (ht : t ∉ l) : Asc (ins t l) := by
  induction l with
  | nil => exact List.pairwise_singleton _ _
  | cons u l ih =>
    rw [ins]
    have hu : ∀ s ∈ l, tlt u s := (List.pairwise_cons.1 h).1
    split
    · rename_i hd
      have hd := dec_iff.1 hd
      refine List.pairwise_cons.2 ⟨fun s hs => ?_, h⟩
      rcases List.mem_cons.1 hs with rfl | hs
      · exact hd
      · exact tlt_trans hd (hu s hs)
    · rename_i hd
      have hd : ¬ tlt t u := fun k => hd (dec_true k)
      refine List.pairwise_cons.2 ⟨fun s hs => ?_, ih (List.pairwise_cons.1 h).2 (fun k => ht (List.mem_cons_of_mem _ k))⟩
      rcases mem_ins.1 hs with rfl | hs
      · rcases tlt_total s u with k | k | k
        · exact absurd k hd
        · exact absurd (k ▸ List.mem_cons_self) ht
        · exact k
      · exact hu s hs
theorem ok_ins {K : Int} {E : List STie} {t : STie} (h : Ok K E) (ht : t ∉ E) (h0 : 0 ≤ t.f0) (h1 : t.f0 < t.f1) (h2 : t.f1 < K) : Ok K (ins t E) := by
  refine ⟨h.k0, h.k8, fun s hs => ?_, asc_ins h.asc ht⟩
  rcases mem_ins.1 hs with rfl | hs
  · exact ⟨h0, h1, h2⟩
  · exact h.tie s hs
def Addable (K : Int) (E : List STie) (a b : Int) : Prop := Ok K E ∧ (0 ≤ a ∧ a < K) ∧ (0 ≤ b ∧ b < K) ∧ a ≠ b ∧ mkT a b ∉ E
noncomputable def addV (K : Int) (E : List STie) (a b : Int) : Int × List STie × Bool := if dec (Addable K E a b) = true then (K, ins (mkT a b) E, true) else (0, [], false)
theorem mkT_in {K a b : Int} (ha : 0 ≤ a ∧ a < K) (hb : 0 ≤ b ∧ b < K) (h : a ≠ b) : 0 ≤ (mkT a b).f0 ∧ (mkT a b).f0 < (mkT a b).f1 ∧ (mkT a b).f1 < K := by
  unfold mkT
  split <;> simp only <;> omega
theorem addable_ok {K : Int} {E : List STie} {a b : Int} (h : Addable K E a b) : Ok K (ins (mkT a b) E) := by
  obtain ⟨h1, h2, h3, h4, h5⟩ := h
  have := mkT_in h2 h3 h4
  exact ok_ins h1 h5 this.1 this.2.1 this.2.2
theorem ok_none : Ok 0 ([] : List STie) := ⟨by omega, by omega, fun t h => by simp at h, List.Pairwise.nil⟩
theorem addV_ok (K : Int) (E : List STie) (a b : Int) : Ok (addV K E a b).1 (addV K E a b).2.1 := by
  unfold addV
  by_cases h : Addable K E a b
  · rw [if_pos (dec_true h)]; exact addable_ok h
  · rw [if_neg (by rw [dec_false h]; simp)]; exact ok_none
theorem ins_step {E : List STie} {i : Nat} (hi : i < E.length) (t : STie) : ins t (E.drop i) = if dec (tlt t E[i]) = true then t :: E[i] :: E.drop (i + 1) else E[i] :: ins t (E.drop (i + 1)) := by
  rw [drop_cons _ hi, ins]
theorem e_spec_NetAdd_l0t (K : Int) (E : List STie) (t : STie) (hE : E.length < 1099511627776) (d : Nat) : ∀ (i : Nat) (acc : List STie), i + d = E.length → acc.length ≤ i + 1 → Ev (fun k => spec_NetAdd.l0 k true (i : Int) K E K acc t.f0 t.f1) (K, acc ++ E.drop i, true) := by
  induction d with
  | zero =>
    intro i acc hi ha
    refine Ev.succ ?_
    simp only [spec_NetAdd.l0]
    refine Ev.no (by omega) (Ev.yes (by trivial) ?_)
    rw [List.drop_eq_nil_of_le (by omega), List.append_nil]
    exact Ev.pure _
  | succ d ih =>
    intro i acc hi ha
    have hlt : i < E.length := by omega
    refine Ev.succ ?_
    simp only [spec_NetAdd.l0]
    rw [rdT hlt, w64s (by omega), drop_cons _ hlt]
    refine Ev.yes (by omega) (Ev.yes (by trivial) (Ev.yes (by omega) (Ev.yes (by omega) ((ih (i + 1) _ (by omega) (by simp; omega)).value ?_))))
    simp
    exact (drop_cons _ hlt).symm
theorem e_spec_NetAdd_l0 (K : Int) (E : List STie) (t : STie) (hE : E.length < 1099511627776) (d : Nat) : ∀ (i : Nat) (acc : List STie), i + d = E.length → acc.length ≤ i → Ev (fun k => spec_NetAdd.l0 k false (i : Int) K E K acc t.f0 t.f1) (K, acc ++ ins t (E.drop i), true) := by
  induction d with
  | zero =>
    intro i acc hi ha
    refine Ev.succ ?_
    simp only [spec_NetAdd.l0]
    refine Ev.no (by omega) (Ev.no (by simp) ?_)
    rw [List.drop_eq_nil_of_le (by omega)]
    exact Ev.yes (by omega) (Ev.pure _)
  | succ d ih =>
    intro i acc hi ha
    have hlt : i < E.length := by omega
    refine Ev.succ ?_
    simp only [spec_NetAdd.l0]
    rw [rdT hlt, w64s (by omega), ins_step hlt]
    refine Ev.yes (by omega) (Ev.no (by simp) (Ev.yes (by omega) (Ev.bind (Ev.const (e_spec_l1Less t E[i])) ?_)))
    by_cases h : tlt t E[i]
    · rw [dec_true h]
      refine Ev.yes (by trivial) (Ev.yes (by omega) (Ev.bind (Ev.pure _) (Ev.yes (by simp; omega) ((e_spec_NetAdd_l0t K E t hE d (i + 1) _ (by omega) (by simp; omega)).value ?_))))
      simp
      exact (drop_cons _ hlt).symm
    · rw [dec_false h]
      refine Ev.no (by simp) (Ev.yes (by omega) ((ih (i + 1) _ (by omega) (by simp; omega)).value ?_))
      simp
theorem e_spec_NetAdd (K : Int) (E : List STie) (a b : Int) (hE : E.length < 1099511627776) : Ev (fun k => spec_NetAdd.f k K E a b) (addV K E a b) := by
  simp only [spec_NetAdd.f]
  have no : ¬ Addable K E a b → Ev (fun k => spec_NetAdd.j0 k a b true K E) (addV K E a b) := by
    intro h
    unfold addV
    rw [if_neg (by rw [dec_false h]; simp)]
    refine Ev.succ ?_
    simp only [spec_NetAdd.j0]
    exact Ev.yes (by trivial) (Ev.pure _)
  refine Ev.bind (e_spec_l1Knot K E a) ?_
  by_cases h1 : Ok K E ∧ 0 ≤ a ∧ a < K
  · refine Ev.yes (dec_true h1) (Ev.bind (e_spec_l1Knot K E b) ?_)
    by_cases h2 : Ok K E ∧ 0 ≤ b ∧ b < K
    · refine Ev.yes (dec_true h2) ?_
      by_cases h3 : a = b
      · exact Ev.yes h3 (no (fun h => h.2.2.2.1 h3))
      · refine Ev.no h3 (Ev.bind (e_spec_NetHas K E a b (by omega)) ?_)
        by_cases h4 : mkT a b ∈ E
        · rw [dec_true ⟨h1.1, h4⟩]
          exact no (fun h => h.2.2.2.2 h4)
        · rw [dec_false (fun h => h4 h.2)]
          refine Ev.succ ?_
          simp only [spec_NetAdd.j0]
          refine Ev.no (by simp) (Ev.bind (Ev.const (e_spec_l1Tie a b)) ((e_spec_NetAdd_l0 K E (mkT a b) hE E.length 0 [] (by omega) (by simp)).value ?_))
          unfold addV
          rw [if_pos (dec_true ⟨h1.1, h1.2, h2.2, h3, h4⟩)]
          simp
    · exact Ev.no (by rw [dec_false h2]; simp) (no (fun h => h2 ⟨h.1, h.2.2.1⟩))
  · exact Ev.no (by rw [dec_false h1]; simp) (no (fun h => h1 ⟨h.1, h.2.1⟩))
end Go.Proofs.Ytleibnekeioamaa.E
end
section
namespace Go.Proofs.Ytleibnekeioamaa.E
open Go.RowKit Go.Proofs.YtleibnekeioamaaW.PrintWords Go.Proofs.YtleibnekeioamaaW.PrintMore Go.Proofs.Ytleibnekeioamaa.P Osier
set_option linter.unusedVariables false
theorem src_take {l : List Int} (hl : ∀ x ∈ l, (Lit.int .u8 x).wf = true) {n : Nat} (hn : n ≤ 2000) : Src (l.take n) := by
  refine ⟨fun x hx => ?_, by simp only [List.length_take]; omega⟩
  have h := hl x (List.mem_of_mem_take hx)
  have h1 : IntKind.u8.min = 0 := rfl
  have h2 : IntKind.u8.max = 255 := rfl
  simp only [Lit.wf, Bool.and_eq_true, decide_eq_true_eq] at h
  omega
theorem e_spec_l6Open {l : List Int} (hl : ∀ x ∈ l, (Lit.int .u8 x).wf = true) : ∃ xs, spec_l6Open.f l = some (xs, 0) ∧ Src xs := by
  unfold spec_l6Open.f
  by_cases h : (l.length : Int) > 2000
  · rw [if_pos h, if_pos (by omega)]
    exact ⟨_, rfl, src_take hl (Nat.le_refl _)⟩
  · rw [if_neg h]
    refine ⟨_, rfl, ?_⟩
    have := src_take hl (n := l.length) (by omega)
    rwa [List.take_length] at this
theorem e_spec_l71Net_l2 {xs : List Int} (hs : Src xs) (d : Nat) : ∀ (x p K : Int) (E : List STie), x ≤ d → d ≤ 100 → Ok K E → 0 ≤ p → p + 2 * d ≤ 1000000 → ∃ K' E' q, Ev (fun k => spec_l71Net.l2 k x xs p K E) (K', E', q) ∧ Ok K' E' ∧ p ≤ q ∧ q ≤ p + 2 * d := by
  have stop : ∀ (x p K : Int) (E : List STie), Ev (fun k => spec_l71Net.j4 k x false xs p K E) (K, E, p) := by
    intro x p K E
    refine Ev.succ ?_
    simp only [spec_l71Net.j4]
    exact Ev.no (by simp) (Ev.pure _)
  induction d with
  | zero =>
    intro x p K E hx hd hE hp hp'
    refine ⟨K, E, p, Ev.succ ?_, hE, by omega, by omega⟩
    simp only [spec_l71Net.l2]
    exact Ev.no (by omega) (stop _ _ _ _)
  | succ d ih =>
    intro x p K E hx hd hE hp hp'
    by_cases h : x > 0 ∧ K > 1
    · have h8 := hE.k8
      obtain ⟨v, hv, hv0, hv1, _⟩ := e_spec_l6Rd_pick hs (p := p) hp (by omega) K (by omega)
      obtain ⟨u, hu, hu0, hu1, _⟩ := e_spec_l6Rd_pick hs (p := p + 1) (by omega) (by omega) K (by omega)
      have hlen := hE.len
      have wx : wrap64 (x - 1) = x - 1 := w64 (by omega) (by omega)
      by_cases ha : (addV K E v u).2.2 = true
      · obtain ⟨K', E', q, hq, ho, h1, h2⟩ := ih (x - 1) (p + 1 + 1) _ _ (by omega) (by omega) (addV_ok K E v u) (by omega) (by omega)
        refine ⟨K', E', q, Ev.succ ?_, ho, by omega, by omega⟩
        simp only [spec_l71Net.l2]
        refine Ev.yes h.1 (Ev.succ ?_)
        simp only [spec_l71Net.j4]
        rw [wx]
        exact Ev.yes (by simpa using h.2) (Ev.bind hv (Ev.bind hu (Ev.bind (e_spec_NetAdd K E v u (by omega)) (Ev.yes ha hq))))
      · obtain ⟨K', E', q, hq, ho, h1, h2⟩ := ih (x - 1) (p + 1 + 1) K E (by omega) (by omega) hE (by omega) (by omega)
        refine ⟨K', E', q, Ev.succ ?_, ho, by omega, by omega⟩
        simp only [spec_l71Net.l2]
        refine Ev.yes h.1 (Ev.succ ?_)
        simp only [spec_l71Net.j4]
        rw [wx]
        exact Ev.yes (by simpa using h.2) (Ev.bind hv (Ev.bind hu (Ev.bind (e_spec_NetAdd K E v u (by omega)) (Ev.no ha hq))))
    · refine ⟨K, E, p, Ev.succ ?_, hE, by omega, by omega⟩
      simp only [spec_l71Net.l2]
      by_cases h1 : x > 0
      · refine Ev.yes h1 ?_
        have h2 : decide (K > 1) = false := decide_eq_false (fun h2 => h ⟨h1, h2⟩)
        rw [h2]
        exact stop _ _ _ _
      · exact Ev.no h1 (stop _ _ _ _)
theorem e_spec_l71Net_j2 {xs : List Int} (hs : Src xs) {p K : Int} {E : List STie} (hE : Ok K E) (hp : 0 ≤ p) (hp' : p ≤ 100000) : ∃ K' E' q, Ev (fun k => spec_l71Net.j2 k xs p K E) (K', E', q) ∧ Ok K' E' ∧ p ≤ q ∧ q ≤ p + 30 := by
  obtain ⟨v, hv, hv0, hv1, _⟩ := e_spec_l6Rd_pick hs (p := p) hp (by omega) 13 (by omega)
  obtain ⟨K', E', q, hq, ho, h1, h2⟩ := e_spec_l71Net_l2 hs 13 v (p + 1) K E (by omega) (by omega) hE (by omega) (by omega)
  refine ⟨K', E', q, Ev.succ ?_, ho, by omega, by omega⟩
  simp only [spec_l71Net.j2]
  exact Ev.bind hv hq
theorem e_spec_l71Net_l0 {xs : List Int} (hs : Src xs) (d : Nat) : ∀ (x p K : Int) (E : List STie), 0 ≤ x → 8 ≤ x + d → d ≤ 100 → Ok K E → 0 ≤ p → p + d ≤ 50000 → ∃ K' E' q, Ev (fun k => spec_l71Net.l0 k x xs p K E) (K', E', q) ∧ Ok K' E' ∧ p ≤ q ∧ q ≤ p + 30 + d := by
  induction d with
  | zero =>
    intro x p K E hx0 hx hd hE hp hp'
    have h8 := hE.k8
    obtain ⟨K', E', q, hq, ho, h1, h2⟩ := e_spec_l71Net_j2 hs (p := p) hE (by omega) (by omega)
    refine ⟨K', E', q, Ev.succ ?_, ho, by omega, by omega⟩
    simp only [spec_l71Net.l0]
    exact Ev.no (by omega) hq
  | succ d ih =>
    intro x p K E hx0 hx hd hE hp hp'
    have h8 := hE.k8
    have hlen := hE.len
    by_cases h : x < K
    · obtain ⟨v, hv, hv0, hv1, _⟩ := e_spec_l6Rd_pick hs (p := p) hp (by omega) x (by omega)
      obtain ⟨K', E', q, hq, ho, h1, h2⟩ := ih (x + 1) (p + 1) _ _ (by omega) (by omega) (by omega) (addV_ok K E x v) (by omega) (by omega)
      refine ⟨K', E', q, Ev.succ ?_, ho, by omega, by omega⟩
      simp only [spec_l71Net.l0]
      rw [w64 (x := x + 1) (by omega) (by omega)]
      exact Ev.yes h (Ev.bind hv (Ev.bind (e_spec_NetAdd K E x v (by omega)) hq))
    · obtain ⟨K', E', q, hq, ho, h1, h2⟩ := e_spec_l71Net_j2 hs (p := p) hE (by omega) (by omega)
      refine ⟨K', E', q, Ev.succ ?_, ho, by omega, by omega⟩
      simp only [spec_l71Net.l0]
      exact Ev.no h hq
theorem e_spec_l71Net_l1 {xs : List Int} (hs : Src xs) (d : Nat) : ∀ (x p K : Int) (E : List STie), 0 ≤ x → 8 ≤ x + d → d ≤ 100 → Ok K E → 0 ≤ p → p ≤ 50000 → ∃ K' E' q, Ev (fun k => spec_l71Net.l1 k x xs p K E) (K', E', q) ∧ Ok K' E' ∧ p ≤ q ∧ q ≤ p + 30 := by
  induction d with
  | zero =>
    intro x p K E hx0 hx hd hE hp hp'
    have h8 := hE.k8
    obtain ⟨K', E', q, hq, ho, h1, h2⟩ := e_spec_l71Net_j2 hs (p := p) hE (by omega) (by omega)
    refine ⟨K', E', q, Ev.succ ?_, ho, by omega, by omega⟩
    simp only [spec_l71Net.l1]
    exact Ev.no (by omega) hq
  | succ d ih =>
    intro x p K E hx0 hx hd hE hp hp'
    have h8 := hE.k8
    have hlen := hE.len
    by_cases h : x < K
    · by_cases h2 : K > 2
      · obtain ⟨K', E', q, hq, ho, h1, h2'⟩ := ih (x + 1) p _ _ (by omega) (by omega) (by omega) (addV_ok K E x (Int.tmod (wrap64 (x + 1)) K)) (by omega) (by omega)
        refine ⟨K', E', q, Ev.succ ?_, ho, by omega, by omega⟩
        simp only [spec_l71Net.l1]
        refine Ev.yes h (Ev.yes h2 (Ev.no (by omega) (Ev.bind (e_spec_NetAdd K E x _ (by omega)) ?_)))
        have e1 : wrap64 (x + 1) = x + 1 := w64 (by omega) (by omega)
        rw [e1] at hq ⊢
        exact hq
      · obtain ⟨K', E', q, hq, ho, h1, h2'⟩ := e_spec_l71Net_j2 hs (p := p) hE (by omega) (by omega)
        refine ⟨K', E', q, Ev.succ ?_, ho, by omega, by omega⟩
        simp only [spec_l71Net.l1]
        exact Ev.yes h (Ev.no h2 hq)
    · obtain ⟨K', E', q, hq, ho, h1, h2⟩ := e_spec_l71Net_j2 hs (p := p) hE (by omega) (by omega)
      refine ⟨K', E', q, Ev.succ ?_, ho, by omega, by omega⟩
      simp only [spec_l71Net.l1]
      exact Ev.no h hq
theorem e_spec_l71Net {xs : List Int} (hs : Src xs) {p : Int} (hp : 0 ≤ p) (hp' : p ≤ 40000) : ∃ K E q, Ev (fun k => spec_l71Net.f k xs p) (K, E, q) ∧ Ok K E ∧ p ≤ q ∧ q ≤ p + 50 := by
  obtain ⟨v, hv, hv0, hv1, _⟩ := e_spec_l6Rd_pick hs (p := p) hp (by omega) 8 (by omega)
  obtain ⟨u, hu, hu0, hu1, _⟩ := e_spec_l6Rd_pick hs (p := p + 1) (by omega) (by omega) 6 (by omega)
  have hv1 := hv1 (by omega)
  have w : wrap64 (1 + v) = 1 + v := w64 (by omega) (by omega)
  have h0 : Ok (1 + v) ([] : List STie) := ⟨by omega, by omega, fun t h => by simp at h, List.Pairwise.nil⟩
  simp only [spec_l71Net.f]
  by_cases c0 : u = 0
  · obtain ⟨K', E', q, hq, ho, h1, h2⟩ := e_spec_l71Net_l0 hs 8 1 (p + 1 + 1) (1 + v) [] (by omega) (by omega) (by omega) h0 (by omega) (by omega)
    refine ⟨K', E', q, Ev.bind hv (Ev.bind hu ?_), ho, by omega, by omega⟩
    dsimp only
    rw [w]
    exact Ev.yes c0 hq
  · by_cases c1 : u = 1
    · obtain ⟨K', E', q, hq, ho, h1, h2⟩ := e_spec_l71Net_l1 hs 8 0 (p + 1 + 1) (1 + v) [] (by omega) (by omega) (by omega) h0 (by omega) (by omega)
      refine ⟨K', E', q, Ev.bind hv (Ev.bind hu ?_), ho, by omega, by omega⟩
      dsimp only
      rw [w]
      exact Ev.no c0 (Ev.yes c1 hq)
    · obtain ⟨K', E', q, hq, ho, h1, h2⟩ := e_spec_l71Net_j2 hs (p := p + 1 + 1) h0 (by omega) (by omega)
      refine ⟨K', E', q, Ev.bind hv (Ev.bind hu ?_), ho, by omega, by omega⟩
      dsimp only
      rw [w]
      exact Ev.no c0 (Ev.no c1 hq)
end Go.Proofs.Ytleibnekeioamaa.E
end
section
namespace Go.Proofs.Ytleibnekeioamaa.E
open Go.RowKit Go.Proofs.YtleibnekeioamaaW.PrintWords Go.Proofs.YtleibnekeioamaaW.PrintMore Go.Proofs.Ytleibnekeioamaa.P Osier
set_option linter.unusedVariables false
theorem e_spec_l1Copy (K : Int) (E : List STie) (hE : E.length < 1099511627776) : spec_l1Copy.f K E = some (K, E) := by
  unfold spec_l1Copy.f
  simp only [Option.bind_some, List.nil_append]
  rw [if_pos (by simp; omega)]
structure Small (K : Int) (E : List STie) : Prop where
  k0 : -1 ≤ K
  k9 : K ≤ 9
  len : E.length ≤ 65
theorem Small.of {K : Int} {E : List STie} (h : Ok K E) : Small K E := ⟨by have := h.k0; omega, by have := h.k8; omega, by have := h.len; omega⟩
theorem e_spec_l71Spoil {xs : List Int} (hs : Src xs) {p : Int} (hp : 0 ≤ p) (hp' : p ≤ 100000) {K : Int} {E : List STie} (hE : Ok K E) : ∃ K' E' q, Ev (fun k => spec_l71Spoil.f k xs p K E) (K', E', q) ∧ Small K' E' ∧ p ≤ q ∧ q ≤ p + 5 := by
  have hl := hE.len
  have h0 := hE.k0
  have h8 := hE.k8
  obtain ⟨v, hv, hv0, hv1, _⟩ := e_spec_l6Rd_pick hs (p := p) hp (by omega) 6 (by omega)
  simp only [spec_l71Spoil.f]
  by_cases c0 : v = 0
  · obtain ⟨u, hu, hu0, hu1, _⟩ := e_spec_l6Rd_pick hs (p := p + 1) (by omega) (by omega) 5 (by omega)
    have hu1 := hu1 (by omega)
    have hm : rd [(-1), 0, 1, 8, 9] u ∈ ([(-1), 0, 1, 8, 9] : List Int) := by
      obtain ⟨n, hn'⟩ : ∃ n : Nat, u = (n : Int) := ⟨u.toNat, by omega⟩
      have hn : n < ([(-1), 0, 1, 8, 9] : List Int).length := by simp; omega
      rw [hn', rdI hn]; exact List.getElem_mem hn
    refine ⟨rd [(-1), 0, 1, 8, 9] u, E, p + 1 + 1, Ev.bind (Ev.const (e_spec_l1Copy K E (by omega))) (Ev.bind hv (Ev.yes c0 (Ev.bind (Ev.pure _) (Ev.bind hu (Ev.yes hu0 (Ev.yes (by simp; omega) (Ev.pure _))))))), ?_, by omega, by omega⟩
    simp only [List.mem_cons, List.not_mem_nil, or_false] at hm
    exact ⟨by omega, by omega, by omega⟩
  · by_cases c1 : v = 1
    · obtain ⟨u, hu, hu0, hu1, _⟩ := e_spec_l6Rd_pick hs (p := p + 1) (by omega) (by omega) 3 (by omega)
      obtain ⟨s, hs', hs0, hs1, _⟩ := e_spec_l6Rd_pick hs (p := p + 1 + 1) (by omega) (by omega) 3 (by omega)
      exact ⟨K, E ++ [⟨u, s⟩], p + 1 + 1 + 1, Ev.bind (Ev.const (e_spec_l1Copy K E (by omega))) (Ev.bind hv (Ev.no c0 (Ev.yes c1 (Ev.bind hu (Ev.bind hs' (Ev.yes (by dsimp only; omega) (Ev.pure _))))))), ⟨by omega, by omega, by simp; omega⟩, by omega, by omega⟩
    · by_cases c2 : v = 2
      · exact ⟨K, E ++ [⟨wrap64 (K - 1), K⟩], p + 1, Ev.bind (Ev.const (e_spec_l1Copy K E (by omega))) (Ev.bind hv (Ev.no c0 (Ev.no c1 (Ev.yes c2 (Ev.yes (by dsimp only; omega) (Ev.pure _)))))), ⟨by omega, by omega, by simp; omega⟩, by omega, by omega⟩
      · by_cases c3 : v = 3
        · by_cases hE0 : (E.length : Int) > 0
          · obtain ⟨u, hu, hu0, hu1, _⟩ := e_spec_l6Rd_pick hs (p := p + 1) (by omega) (by omega) (E.length : Int) (by omega)
            have hu1 := hu1 (by omega)
            exact ⟨K, _, p + 1 + 1, Ev.bind (Ev.const (e_spec_l1Copy K E (by omega))) (Ev.bind hv (Ev.no c0 (Ev.no c1 (Ev.no c2 (Ev.yes c3 (Ev.yes hE0 (Ev.bind hu (Ev.yes hu0 (Ev.yes hu1 (Ev.pure _)))))))))), ⟨by omega, by omega, by simp; omega⟩, by omega, by omega⟩
          · exact ⟨K, E, p + 1, Ev.bind (Ev.const (e_spec_l1Copy K E (by omega))) (Ev.bind hv (Ev.no c0 (Ev.no c1 (Ev.no c2 (Ev.yes c3 (Ev.no hE0 (Ev.pure _))))))), ⟨by omega, by omega, by omega⟩, by omega, by omega⟩
        · by_cases c4 : v = 4
          · by_cases hE0 : (E.length : Int) > 1
            · exact ⟨K, E ++ [⟨(rd_TTie E 0).f0, (rd_TTie E 0).f1⟩], p + 1, Ev.bind (Ev.const (e_spec_l1Copy K E (by omega))) (Ev.bind hv (Ev.no c0 (Ev.no c1 (Ev.no c2 (Ev.no c3 (Ev.yes c4 (Ev.yes hE0 (Ev.yes (by dsimp only; omega) (Ev.yes (by dsimp only; omega) (Ev.pure _)))))))))), ⟨by omega, by omega, by simp; omega⟩, by omega, by omega⟩
            · exact ⟨K, E, p + 1, Ev.bind (Ev.const (e_spec_l1Copy K E (by omega))) (Ev.bind hv (Ev.no c0 (Ev.no c1 (Ev.no c2 (Ev.no c3 (Ev.yes c4 (Ev.no hE0 (Ev.pure _)))))))), ⟨by omega, by omega, by omega⟩, by omega, by omega⟩
          · exact ⟨K, [⟨-1, 0⟩] ++ E, p + 1, Ev.bind (Ev.const (e_spec_l1Copy K E (by omega))) (Ev.bind hv (Ev.no c0 (Ev.no c1 (Ev.no c2 (Ev.no c3 (Ev.no c4 (Ev.bind (Ev.pure _) (Ev.yes (by simp; omega) (Ev.pure _))))))))), ⟨by omega, by omega, by simp; omega⟩, by omega, by omega⟩
theorem e_spec_l71Any {xs : List Int} (hs : Src xs) {p : Int} (hp : 0 ≤ p) (hp' : p ≤ 30000) : ∃ K E q, Ev (fun k => spec_l71Any.f k xs p) (K, E, q) ∧ Small K E ∧ p ≤ q ∧ q ≤ p + 60 := by
  obtain ⟨K, E, q, hq, ho, h1, h2⟩ := e_spec_l71Net hs hp (by omega)
  obtain ⟨v, hv, hv0, hv1, _⟩ := e_spec_l6Rd_pick hs (p := q) (by omega) (by omega) 12 (by omega)
  simp only [spec_l71Any.f]
  by_cases c : v = 0
  · obtain ⟨K', E', q', hq', ho', h1', h2'⟩ := e_spec_l71Spoil hs (p := q + 1) (by omega) (by omega) ho
    exact ⟨K', E', q', Ev.bind hq (Ev.bind hv (Ev.yes c (Ev.bind hq' (Ev.pure _)))), ho', by omega, by omega⟩
  · exact ⟨K, E, q + 1, Ev.bind hq (Ev.bind hv (Ev.no c (Ev.pure _))), Small.of ho, by omega, by omega⟩
end Go.Proofs.Ytleibnekeioamaa.E
end
section
namespace Go.Proofs.Ytleibnekeioamaa.E
open Go.RowKit Go.Proofs.YtleibnekeioamaaW.PrintWords Go.Proofs.YtleibnekeioamaaW.PrintMore Go.Proofs.Ytleibnekeioamaa.P Osier
set_option linter.unusedVariables false
theorem e_laws_loTies_l0 (a b : List STie) (hl : a.length = b.length) (ha : a.length < 4611686018427387904) (d : Nat) : ∀ i, i + d = a.length → Ev (fun k => laws_loTies.l0 k a b (i : Int)) (dec (∀ j (h : j < a.length), i ≤ j → a[j] = b[j])) := by
  induction d with
  | zero =>
    intro i hi
    refine Ev.succ ?_
    simp only [laws_loTies.l0]
    refine Ev.no (by omega) ?_
    rw [dec_true (fun j h hij => by omega)]
    exact Ev.pure _
  | succ d ih =>
    intro i hi
    have hlt : i < a.length := by omega
    refine Ev.succ ?_
    simp only [laws_loTies.l0]
    refine Ev.yes (by omega) (Ev.yes (by omega) (Ev.yes (by omega) ?_))
    rw [rdT hlt, rdT (show i < b.length by omega), w64s (by omega), bne_tie]
    by_cases h : a[i] = b[i]
    · refine Ev.no (by rw [dec_false (fun k => k h)]; simp) ((ih (i + 1) (by omega)).value (dec_congr ⟨fun h' j hj hij => ?_, fun h' j hj hij => h' j hj (by omega)⟩))
      rcases Nat.eq_or_lt_of_le hij with rfl | h5
      · exact h
      · exact h' j hj h5
    · refine Ev.yes (dec_true h) ?_
      rw [dec_false (fun h' => h (h' i hlt (Nat.le_refl _)))]
      exact Ev.pure _
theorem e_laws_loTies (a b : List STie) (ha : a.length < 4611686018427387904) : Ev (fun k => laws_loTies.f k a b) (dec (a = b)) := by
  simp only [laws_loTies.f]
  by_cases hl : a.length = b.length
  · refine Ev.yes (by omega) ((e_laws_loTies_l0 a b hl ha a.length 0 (by omega)).value (dec_congr ?_))
    rw [list_eq_iff hl]
    exact ⟨fun h j hj => h j hj (Nat.zero_le _), fun h j hj _ => h j hj⟩
  · refine Ev.no (by omega) ?_
    rw [dec_false (fun e => hl (by rw [e]))]
    exact Ev.pure _
end Go.Proofs.Ytleibnekeioamaa.E
end
section
namespace Go.Proofs.Ytleibnekeioamaa.E
open Go.RowKit Go.Proofs.YtleibnekeioamaaW.PrintWords Go.Proofs.YtleibnekeioamaaW.PrintMore Go.Proofs.Ytleibnekeioamaa.P Osier
set_option linter.unusedVariables false
theorem knots_len {K : Int} (h : 0 ≤ K) : ((knots K).length : Int) = K := by simp [knots]; omega
theorem knots_get {K : Int} {j : Nat} (h : j < (knots K).length) : (knots K)[j] = (j : Int) := by simp [knots]
structure Lab (K : Int) (E : List STie) (p : List Int) : Prop where
  len : (p.length : Int) = K
  get : ∀ j (h : j < p.length), (0 ≤ p[j] ∧ p[j] ≤ (j : Int)) ∧ Conn E (j : Int) p[j]
noncomputable def partsL (K : Int) (E : List STie) : List Int := (knots K).map (prt K E)
theorem partsL_len {K : Int} {E : List STie} (h : 0 ≤ K) : ((partsL K E).length : Int) = K := by simp only [partsL, List.length_map]; exact knots_len h
theorem partsL_get {K : Int} {E : List STie} {j : Nat} (h : j < (partsL K E).length) : (partsL K E)[j] = prt K E (j : Int) := by
  simp only [partsL, List.getElem_map]
  rw [knots_get]
theorem Lab.done {K : Int} {E : List STie} {p : List Int} (hE : Ok K E) (h : Lab K E p) (he : ∀ t ∈ E, ∀ (h0 : t.f0.toNat < p.length) (h1 : t.f1.toNat < p.length), p[t.f0.toNat] = p[t.f1.toNat]) : p = partsL K E := by
  have hK := hE.k0
  have hlen := h.len
  have hpl := partsL_len (E := E) hK
  -- labels are one along each tie, so in each prt
  have same : ∀ a b, Conn E a b → ∀ (h0 : a.toNat < p.length), 0 ≤ a → ∃ h1 : b.toNat < p.length, p[a.toNat] = p[b.toNat] := by
    intro a b hr
    induction hr with
    | refl => intro h0 _; exact ⟨h0, rfl⟩
    | @step b c hr hed ih =>
      intro h0 ha
      obtain ⟨h1, e1⟩ := ih h0 ha
      have hc := (hE.ed_in hed)
      have h2 : c.toNat < p.length := by omega
      refine ⟨h2, e1.trans ?_⟩
      rcases hed with hm | hm
      · exact he _ hm h1 h2
      · exact (he _ hm h2 h1).symm
  refine List.ext_getElem (by omega) (fun j h1 h2 => ?_)
  rw [partsL_get h2]
  have hj : (0 : Int) ≤ (j : Int) ∧ (j : Int) < K := by omega
  have hm := part_in (E := E) hj.1 hj.2
  have hr := part_reach (E := E) hj.1 hj.2
  obtain ⟨h3, e3⟩ := same _ _ hr (by simpa using h1) hj.1
  simp only [Int.toNat_natCast] at e3
  have g1 := h.get j h1
  have g2 := h.get _ h3
  have hle := part_le (E := E) hj.1 hj.2 g1.1.1 (by omega) g1.2
  omega
theorem sum_set (l : List Int) : ∀ (i : Nat) (h : i < l.length) (v : Int), (l.set i v).sum + l[i] = l.sum + v := by
  induction l with
  | nil => intro i h; simp at h
  | cons a l ih =>
    intro i h v
    cases i with
    | zero => simp; omega
    | succ i =>
      have := ih i (by simpa using h) v
      simp only [List.set_cons_succ, List.sum_cons, List.getElem_cons_succ]
      omega
theorem sum_nonneg (l : List Int) (h : ∀ x ∈ l, 0 ≤ x) : 0 ≤ l.sum := by
  induction l with
  | nil => simp
  | cons a l ih =>
    have := h a (by simp)
    have := ih (fun x hx => h x (by simp [hx]))
    simp only [List.sum_cons]; omega
theorem Lab.sum {K : Int} {E : List STie} {p : List Int} (h : Lab K E p) : 0 ≤ p.sum :=
  sum_nonneg p (fun x hx => by obtain ⟨j, hj, rfl⟩ := List.getElem_of_mem hx; exact (h.get j hj).1.1)
theorem Lab.set {K : Int} {E : List STie} {p : List Int} (h : Lab K E p) {j : Nat} (hj : j < p.length) {v : Int} (h0 : 0 ≤ v) (h1 : v ≤ p[j]) (hr : Conn E (j : Int) v) : Lab K E (p.set j v) := by
  refine ⟨by simpa using h.len, fun i hi => ?_⟩
  have hi' : i < p.length := by simpa using hi
  rw [List.getElem_set]
  have g := h.get i hi'
  split
  · rename_i e; subst e
    have := (h.get j hj).1
    exact ⟨by omega, hr⟩
  · exact g
theorem e_impl_Net_parts_l2 {K : Int} {E : List STie} (hE : Ok K E) (n : Nat) (IH : ∀ p, Lab K E p → p.sum < (n : Int) → Ev (fun k => impl_Net_parts.l1 k p true K E) (partsL K E)) (d : Nat) :
    ∀ (i : Nat) (p : List Int) (b : Bool), i + d = E.length → Lab K E p → (b = true → p.sum < (n : Int)) → (b = false → p.sum ≤ (n : Int) ∧ ∀ j (hj : j < E.length), j < i → ∀ (h0 : E[j].f0.toNat < p.length) (h1 : E[j].f1.toNat < p.length), p[E[j].f0.toNat] = p[E[j].f1.toNat]) →
      Ev (fun k => impl_Net_parts.l2 k p b E (E.length : Int) (i : Int) K E) (partsL K E) := by
  have hl := hE.len
  induction d with
  | zero =>
    intro i p b hi hp ht hf
    refine Ev.succ ?_
    simp only [impl_Net_parts.l2]
    refine Ev.no (by omega) ?_
    cases b with
    | true => exact IH p hp (ht rfl)
    | false =>
      refine Ev.succ ?_
      simp only [impl_Net_parts.l1]
      refine Ev.no (by simp) ?_
      rw [hp.done hE (fun t ht h0 h1 => by
        obtain ⟨j, hj, rfl⟩ := List.getElem_of_mem ht
        exact (hf rfl).2 j hj (by omega) h0 h1)]
      exact Ev.pure _
  | succ d ih =>
    intro i p b hi hp ht hf
    have hlt : i < E.length := by omega
    have tie := hE.tie _ (List.getElem_mem hlt)
    have hpl := hp.len
    have h0 : E[i].f0.toNat < p.length := by omega
    have h1 : E[i].f1.toNat < p.length := by omega
    have r0 : rd p E[i].f0 = p[E[i].f0.toNat] := by
      have := rdI (xs := p) h0
      rwa [Int.toNat_of_nonneg (by omega)] at this
    have r1 : rd p E[i].f1 = p[E[i].f1.toNat] := by
      have := rdI (xs := p) h1
      rwa [Int.toNat_of_nonneg (by omega)] at this
    refine Ev.succ ?_
    simp only [impl_Net_parts.l2]
    rw [rdT hlt, w64s (by omega), r0, r1]
    refine Ev.yes (by omega) (Ev.yes (by omega) (Ev.yes (by omega) (Ev.yes (by omega) (Ev.yes (by omega) (Ev.yes (by omega) (Ev.yes (by omega) ?_))))))
    by_cases he : p[E[i].f0.toNat] = p[E[i].f1.toNat]
    · refine Ev.yes he (ih (i + 1) p b (by omega) hp ht (fun hb => ⟨(hf hb).1, fun j hj hji g0 g1 => ?_⟩))
      rcases Nat.eq_or_lt_of_le (Nat.le_of_lt_succ hji) with e | e
      · subst e; exact he
      · exact (hf hb).2 j hj e g0 g1
    · refine Ev.no he ?_
      have g0 := hp.get _ h0
      have g1 := hp.get _ h1
      rw [Int.toNat_of_nonneg (by omega)] at g0 g1
      have hed : Ed E E[i].f0 E[i].f1 := .inl (List.getElem_mem hlt)
      -- the lesser label, and whence it is reached
      generalize hm : mn p[E[i].f0.toNat] p[E[i].f1.toNat] = m
      have hm0 : 0 ≤ m ∧ m ≤ p[E[i].f0.toNat] ∧ m ≤ p[E[i].f1.toNat] ∧ (m = p[E[i].f0.toNat] ∨ m = p[E[i].f1.toNat]) := by
        unfold mn at hm
        split at hm <;> omega
      have hreach : Conn E E[i].f0 m ∧ Conn E E[i].f1 m := by
        rcases hm0.2.2.2 with e | e
        · rw [e]; exact ⟨g0.2, (Conn.one hed.symm).trans g0.2⟩
        · rw [e]; exact ⟨(Conn.one hed).trans g1.2, g1.2⟩
      have hne : E[i].f0.toNat ≠ E[i].f1.toNat := by omega
      have hl0 : Lab K E (p.set E[i].f0.toNat m) := hp.set h0 hm0.1 hm0.2.1 (by rw [Int.toNat_of_nonneg (by omega)]; exact hreach.1)
      have h1' : E[i].f1.toNat < (p.set E[i].f0.toNat m).length := by simpa using h1
      have hget : (p.set E[i].f0.toNat m)[E[i].f1.toNat] = p[E[i].f1.toNat] := List.getElem_set_ne hne h1'
      have hl1 : Lab K E ((p.set E[i].f0.toNat m).set E[i].f1.toNat m) := hl0.set h1' hm0.1 (by rw [hget]; exact hm0.2.2.1) (by rw [Int.toNat_of_nonneg (by omega)]; exact hreach.2)
      have s0 := sum_set p E[i].f0.toNat h0 m
      have s1 := sum_set (p.set E[i].f0.toNat m) E[i].f1.toNat h1' m
      rw [hget] at s1
      have hsum : ((p.set E[i].f0.toNat m).set E[i].f1.toNat m).sum < p.sum := by omega
      have hpn : p.sum ≤ (n : Int) := by
        cases b with
        | true => have := ht rfl; omega
        | false => exact (hf rfl).1
      exact ih (i + 1) _ true (by omega) hl1 (fun _ => by omega) (fun h => by simp at h)
theorem e_impl_Net_parts_l1 {K : Int} {E : List STie} (hE : Ok K E) (n : Nat) : ∀ p, Lab K E p → p.sum < (n : Int) → Ev (fun k => impl_Net_parts.l1 k p true K E) (partsL K E) := by
  induction n with
  | zero => intro p hp h; have := hp.sum; omega
  | succ n ih =>
    intro p hp h
    refine Ev.succ ?_
    simp only [impl_Net_parts.l1]
    exact Ev.yes (by simp) (e_impl_Net_parts_l2 hE n ih E.length 0 p false (by omega) hp (fun h => by simp at h) (fun _ => ⟨by omega, fun j hj hji => by omega⟩))
theorem e_impl_Net_parts_l0 {K : Int} {E : List STie} (hE : Ok K E) (d : Nat) : ∀ i : Nat, (i : Int) + d = K → Ev (fun k => impl_Net_parts.l0 k ((List.range i).map Int.ofNat) K (i : Int) K E) (partsL K E) := by
  have h8 := hE.k8
  induction d with
  | zero =>
    intro i hi
    refine Ev.succ ?_
    simp only [impl_Net_parts.l0]
    refine Ev.no (by omega) ?_
    have hlab : Lab K E ((List.range i).map Int.ofNat) := by
      refine ⟨by simp; omega, fun j hj => ?_⟩
      have e : ((List.range i).map Int.ofNat)[j] = (j : Int) := by simp
      rw [e]
      exact ⟨by omega, .refl⟩
    exact e_impl_Net_parts_l1 hE (((List.range i).map Int.ofNat).sum.toNat + 1) _ hlab (by have := hlab.sum; omega)
  | succ d ih =>
    intro i hi
    refine Ev.succ ?_
    simp only [impl_Net_parts.l0]
    rw [w64s (by omega)]
    have e : (List.range i).map Int.ofNat ++ [(i : Int)] = (List.range (i + 1)).map Int.ofNat := by simp [List.range_succ]
    rw [e]
    exact Ev.yes (by omega) (Ev.yes (by simp; omega) (ih (i + 1) (by omega)))
theorem e_impl_Net_parts {K : Int} {E : List STie} (hE : Ok K E) : Ev (fun k => impl_Net_parts.f k K E) (partsL K E) := by
  simp only [impl_Net_parts.f]
  exact e_impl_Net_parts_l0 hE K.toNat 0 (by have := hE.k0; omega)
theorem e_impl_Net_joined {K : Int} {E : List STie} (hE : Ok K E) {a b : Int} (ha : 0 ≤ a ∧ a < K) (hb : 0 ≤ b ∧ b < K) : Ev (fun k => impl_Net_joined.f k K E a b) (dec (Conn E a b)) := by
  simp only [impl_Net_joined.f]
  refine Ev.bind (e_impl_Net_parts hE) ?_
  have hl := partsL_len (E := E) hE.k0
  have g : ∀ {x : Int}, 0 ≤ x ∧ x < K → rd (partsL K E) x = prt K E x := by
    intro x hx
    have h : x.toNat < (partsL K E).length := by omega
    have := rdI h
    rw [Int.toNat_of_nonneg hx.1] at this
    rw [this, partsL_get, Int.toNat_of_nonneg hx.1]
  rw [g ha, g hb]
  refine Ev.yes ha.1 (Ev.yes (by omega) (Ev.yes hb.1 (Ev.yes (by omega) ((Ev.pure _).value ?_))))
  rw [← dec_congr (part_eq_iff (E := E) ha.1 ha.2 hb.1 hb.2)]
  by_cases h : prt K E a = prt K E b
  · rw [dec_true h]; simpa using h
  · rw [dec_false h]; simpa using h
theorem nexts_snoc (E : List STie) (l : List Int) (a x : Int) : nexts E (l ++ [x]) a = nexts E l a ++ (if mkT a x ∈ E then [x] else []) := by
  unfold nexts
  rw [List.filter_append]
  congr 1
  by_cases h : mkT a x ∈ E <;> simp [h]
theorem e_spec_l2Next_l0 {K : Int} {E : List STie} (hE : Ok K E) (a : Int) (d : Nat) : ∀ i : Nat, (i : Int) + d = K → Ev (fun k => spec_l2Next.l0 k a (nexts E ((List.range i).map Int.ofNat) a) (i : Int) K E) (nexts E (knots K) a) := by
  have h8 := hE.k8
  have hl := hE.len
  induction d with
  | zero =>
    intro i hi
    refine Ev.succ ?_
    simp only [spec_l2Next.l0]
    refine Ev.no (by omega) ?_
    have : knots K = (List.range i).map Int.ofNat := by unfold knots; congr 2; omega
    rw [this]; exact Ev.pure _
  | succ d ih =>
    intro i hi
    refine Ev.succ ?_
    simp only [spec_l2Next.l0]
    have hih := ih (i + 1) (by omega)
    have e : (List.range (i + 1)).map Int.ofNat = (List.range i).map Int.ofNat ++ [(i : Int)] := by simp [List.range_succ]
    rw [e, nexts_snoc] at hih
    have hlen : (nexts E ((List.range i).map Int.ofNat) a).length ≤ i := by
      have := List.length_filter_le (fun x => decide (mkT a x ∈ E)) ((List.range i).map Int.ofNat)
      simpa [nexts] using this
    rw [w64s (by omega)]
    refine Ev.yes (by omega) (Ev.bind (e_spec_l1Has K E a (i : Int) (by omega)) ?_)
    by_cases h : mkT a (i : Int) ∈ E
    · rw [if_pos h] at hih
      exact Ev.yes (dec_true h) (Ev.yes (by omega) hih)
    · rw [if_neg h, List.append_nil] at hih
      exact Ev.no (by rw [dec_false h]; simp) hih
theorem e_spec_l2Next {K : Int} {E : List STie} (hE : Ok K E) (a : Int) : Ev (fun k => spec_l2Next.f k K E a) (nexts E (knots K) a) := by
  simp only [spec_l2Next.f]
  exact e_spec_l2Next_l0 hE a K.toNat 0 (by have := hE.k0; omega)
noncomputable def reachL (K : Int) (E : List STie) (a : Int) : List Bool := (knots K).map (fun k => dec (Conn E a k))
theorem reachL_len {K : Int} {E : List STie} {a : Int} (h : 0 ≤ K) : ((reachL K E a).length : Int) = K := by simp only [reachL, List.length_map]; exact knots_len h
theorem reachL_get {K : Int} {E : List STie} {a : Int} {j : Nat} (h : j < (reachL K E a).length) : (reachL K E a)[j] = dec (Conn E a (j : Int)) := by
  simp only [reachL, List.getElem_map]
  rw [knots_get]
def isIn (out : List Bool) (x : Int) : Prop := ∃ h : x.toNat < out.length, 0 ≤ x ∧ out[x.toNat] = true
theorem isIn_set {out : List Bool} {x y : Int} (hx : x.toNat < out.length) (h0 : 0 ≤ x) : isIn (out.set x.toNat true) y ↔ y = x ∨ isIn out y := by
  unfold isIn
  constructor
  · rintro ⟨h, h1, h2⟩
    by_cases e : y = x
    · exact .inl e
    · have hne : x.toNat ≠ y.toNat := by omega
      rw [List.getElem_set_ne hne] at h2
      exact .inr ⟨by simpa using h, h1, h2⟩
  · rintro (rfl | ⟨h, h1, h2⟩)
    · exact ⟨by simpa using hx, h0, by simp⟩
    · refine ⟨by simpa using h, h1, ?_⟩
      rw [List.getElem_set]
      split
      · rfl
      · exact h2
theorem count_set (out : List Bool) : ∀ (i : Nat) (h : i < out.length), out[i] = false → (out.set i true).countP (fun b => !b) + 1 = out.countP (fun b => !b) := by
  induction out with
  | nil => intro i h; simp at h
  | cons b out ih =>
    intro i h hb
    cases i with
    | zero =>
      simp only [List.getElem_cons_zero] at hb
      subst hb
      simp
    | succ i =>
      have := ih i (by simpa using h) (by simpa using hb)
      rw [List.set_cons_succ]
      cases b <;> simp <;> omega
structure Bfs (K : Int) (E : List STie) (a : Int) (out : List Bool) (row : List Int) (S : Int → Prop) : Prop where
  len : (out.length : Int) = K
  sound : ∀ x, isIn out x → Conn E a x
  start : isIn out a
  row_in : ∀ x ∈ row, isIn out x
  done : ∀ x, isIn out x → x ∈ row ∨ S x ∨ ∀ y, Ed E x y → isIn out y
theorem Bfs.final {K : Int} {E : List STie} {a : Int} {out : List Bool} (hE : Ok K E) (h : Bfs K E a out [] (fun _ => False)) : out = reachL K E a := by
  have hl := reachL_len (E := E) (a := a) hE.k0
  have hlen := h.len
  refine List.ext_getElem (by omega) (fun j h1 h2 => ?_)
  rw [reachL_get h2]
  have key : isIn out (j : Int) ↔ Conn E a (j : Int) := by
    constructor
    · exact h.sound _
    · intro hr
      refine Conn.closed (S := fun x => isIn out x) (fun b c hb hed => ?_) h.start hr
      rcases h.done b hb with h' | h' | h'
      · simp at h'
      · exact h'.elim
      · exact h' c hed
  have e : isIn out (j : Int) ↔ out[j] = true := by
    unfold isIn
    simp only [Int.toNat_natCast]
    exact ⟨fun ⟨_, _, h⟩ => h, fun h => ⟨h1, by omega, h⟩⟩
  rw [dec_congr (key.symm.trans e), dec_bool]
theorem e_spec_WayReach_l1 {K : Int} {E : List STie} (hE : Ok K E) {a : Int} (at_ : Int) (n : Nat) (IH : ∀ out row, Bfs K E a out row (fun _ => False) → out.countP (fun b => !b) + row.length < n + 1 → Ev (fun k => spec_WayReach.l0 k out row K E) (reachL K E a)) (hat : Conn E a at_) (d : Nat) :
    ∀ (i : Nat) (out : List Bool) (row : List Int), i + d = (nexts E (knots K) at_).length → Bfs K E a out row (fun x => x = at_) → (∀ j (h : j < (nexts E (knots K) at_).length), j < i → isIn out (nexts E (knots K) at_)[j]) → out.countP (fun b => !b) + row.length ≤ n → row.length ≤ 1000 → n ≤ 100 →
      Ev (fun k => spec_WayReach.l1 k out row (nexts E (knots K) at_) (i : Int) K E) (reachL K E a) := by
  induction d with
  | zero =>
    intro i out row hi hb hp hn hr h100
    refine Ev.succ ?_
    simp only [spec_WayReach.l1]
    refine Ev.no (by omega) (IH out row ⟨hb.len, hb.sound, hb.start, hb.row_in, fun x hx => ?_⟩ (by omega))
    rcases hb.done x hx with h | h | h
    · exact .inl h
    · subst h
      refine .inr (.inr (fun y hy => ?_))
      obtain ⟨j, hj, e⟩ := List.getElem_of_mem ((mem_nexts hE).2 hy)
      rw [← e]
      exact hp j hj (by omega)
    · exact .inr (.inr h)
  | succ d ih =>
    intro i out row hi hb hp hn hr h100
    have hlt : i < (nexts E (knots K) at_).length := by omega
    have hed := (mem_nexts hE).1 (List.getElem_mem hlt)
    have hin := (hE.ed_in hed).2.1
    have hnl : (nexts E (knots K) at_).length ≤ 8 := by
      have := List.length_filter_le (fun x => decide (mkT at_ x ∈ E)) (knots K)
      have h8 := hE.k8
      have h0 := knots_len hE.k0
      unfold nexts at *
      omega
    have hbl := hb.len
    have hx : (nexts E (knots K) at_)[i].toNat < out.length := by omega
    refine Ev.succ ?_
    simp only [spec_WayReach.l1]
    rw [rdI hlt, w64s (by omega)]
    have hrb : rdOf false out (nexts E (knots K) at_)[i] = out[(nexts E (knots K) at_)[i].toNat] := by
      have := rdB (xs := out) hx
      rwa [Int.toNat_of_nonneg hin.1] at this
    rw [hrb]
    refine Ev.yes (by omega) (Ev.yes (by omega) (Ev.yes hin.1 (Ev.yes (by omega) ?_)))
    by_cases hv : out[(nexts E (knots K) at_)[i].toNat] = true
    · refine Ev.yes hv (ih (i + 1) out row (by omega) hb (fun j hj hji => ?_) hn hr h100)
      rcases Nat.eq_or_lt_of_le (Nat.le_of_lt_succ hji) with e | e
      · subst e; exact ⟨hx, hin.1, hv⟩
      · exact hp j hj e
    · refine Ev.no hv (Ev.yes (by omega) (ih (i + 1) _ _ (by omega) ?_ (fun j hj hji => ?_) ?_ (by have := count_set out _ hx (by simpa using hv); simp; omega) h100))
      · refine ⟨by simpa using hb.len, fun x h => ?_, (isIn_set hx hin.1).2 (.inr hb.start), fun x h => ?_, fun x h => ?_⟩
        · rcases (isIn_set hx hin.1).1 h with rfl | h
          · exact hat.step hed
          · exact hb.sound x h
        · simp only [List.mem_append, List.mem_singleton] at h
          rcases h with h | rfl
          · exact (isIn_set hx hin.1).2 (.inr (hb.row_in x h))
          · exact (isIn_set hx hin.1).2 (.inl rfl)
        · rcases (isIn_set hx hin.1).1 h with rfl | h
          · exact .inl (by simp)
          · rcases hb.done x h with h | h | h
            · exact .inl (by simp [h])
            · exact .inr (.inl h)
            · exact .inr (.inr (fun y hy => (isIn_set hx hin.1).2 (.inr (h y hy))))
      · rcases Nat.eq_or_lt_of_le (Nat.le_of_lt_succ hji) with e | e
        · subst e; exact (isIn_set hx hin.1).2 (.inl rfl)
        · exact (isIn_set hx hin.1).2 (.inr (hp j hj e))
      · have := count_set out _ hx (by simpa using hv)
        simp only [List.length_append, List.length_cons, List.length_nil]
        omega
theorem e_spec_WayReach_l0 {K : Int} {E : List STie} (hE : Ok K E) {a : Int} (n : Nat) (h100 : n ≤ 100) : ∀ out row, Bfs K E a out row (fun _ => False) → out.countP (fun b => !b) + row.length < n + 1 → Ev (fun k => spec_WayReach.l0 k out row K E) (reachL K E a) := by
  induction n with
  | zero =>
    intro out row hb hn
    have : row = [] := List.eq_nil_of_length_eq_zero (by omega)
    subst this
    refine Ev.succ ?_
    simp only [spec_WayReach.l0]
    refine Ev.no (by simp) ?_
    rw [hb.final hE]
    exact Ev.pure _
  | succ n ih =>
    intro out row hb hn
    refine Ev.succ ?_
    simp only [spec_WayReach.l0]
    cases row with
    | nil =>
      refine Ev.no (by simp) ?_
      rw [hb.final hE]
      exact Ev.pure _
    | cons x row =>
      have hx := hb.row_in x (by simp)
      have e0 : rd (x :: row) 0 = x := rfl
      rw [e0]
      have e1 : (x :: row).drop (1 : Int).toNat = row := rfl
      rw [e1]
      simp only [List.length_cons] at hn
      refine Ev.yes (by simp only [List.length_cons]; omega) (Ev.yes (by simp only [List.length_cons]; omega) (Ev.bind (e_spec_l2Next hE x) (Ev.yes (by simp only [List.length_cons]; omega) ?_)))
      refine e_spec_WayReach_l1 hE x n (ih (by omega)) (hb.sound x hx) (nexts E (knots K) x).length 0 out row (by omega) ⟨hb.len, hb.sound, hb.start, fun y hy => hb.row_in y (by simp [hy]), fun y hy => ?_⟩ (fun j hj hji => by omega) (by omega) (by omega) (by omega)
      rcases hb.done y hy with h | h | h
      · simp only [List.mem_cons] at h
        rcases h with h | h
        · exact .inr (.inl h)
        · exact .inl h
      · exact h.elim
      · exact .inr (.inr h)
noncomputable def reachV (K : Int) (E : List STie) (a : Int) : List Bool := if dec (Ok K E ∧ 0 ≤ a ∧ a < K) = true then reachL K E a else []
theorem e_spec_WayReach (K : Int) (E : List STie) (a : Int) : Ev (fun k => spec_WayReach.f k K E a) (reachV K E a) := by
  simp only [spec_WayReach.f]
  refine Ev.bind (e_spec_l1Knot K E a) ?_
  unfold reachV
  by_cases h : Ok K E ∧ 0 ≤ a ∧ a < K
  · rw [if_pos (dec_true h)]
    have h8 := h.1.k8
    refine Ev.yes (dec_true h) (Ev.yes (by omega) (Ev.yes (by omega) (Ev.bind (Ev.pure _) ?_)))
    refine Ev.yes h.2.1 (Ev.yes (by simp; omega) ?_)
    have hlen : a.toNat < (List.replicate K.toNat false).length := by simp; omega
    have hnone : ∀ x, ¬ isIn (List.replicate K.toNat false) x := fun x ⟨_, _, h⟩ => by simp at h
    refine e_spec_WayReach_l0 h.1 20 (by omega) _ _ ⟨by simp; omega, fun x hx => ?_, (isIn_set hlen h.2.1).2 (.inl rfl), fun x hx => ?_, fun x hx => ?_⟩ ?_
    · rcases (isIn_set hlen h.2.1).1 hx with rfl | hx
      · exact .refl
      · exact absurd hx (hnone x)
    · simp only [List.mem_singleton] at hx
      subst hx
      exact (isIn_set hlen h.2.1).2 (.inl rfl)
    · rcases (isIn_set hlen h.2.1).1 hx with rfl | hx
      · exact .inl (by simp)
      · exact absurd hx (hnone x)
    · have := List.countP_le_length (p := fun b => !b) (l := (List.replicate K.toNat false).set a.toNat true)
      simp only [List.length_set, List.length_replicate] at this
      simp only [List.length_cons, List.length_nil]
      omega
  · rw [if_neg (by rw [dec_false h]; simp)]
    exact Ev.no (by rw [dec_false h]; simp) (Ev.pure _)
end Go.Proofs.Ytleibnekeioamaa.E
end
section
namespace Go.Proofs.Ytleibnekeioamaa.E
open Go.RowKit Go.Proofs.YtleibnekeioamaaW.PrintWords Go.Proofs.YtleibnekeioamaaW.PrintMore Go.Proofs.Ytleibnekeioamaa.P Osier
set_option linter.unusedVariables false
theorem rd_partsL {K : Int} {E : List STie} (hK : 0 ≤ K) {x : Int} (hx : 0 ≤ x ∧ x < K) : rd (partsL K E) x = prt K E x := by
  have hl := partsL_len (E := E) hK
  have h : x.toNat < (partsL K E).length := by omega
  have := rdI h
  rw [Int.toNat_of_nonneg hx.1] at this
  rw [this, partsL_get, Int.toNat_of_nonneg hx.1]
noncomputable def partsV (K : Int) (E : List STie) : List Int := if dec (Ok K E) = true then partsL K E else []
theorem e_spec_WayParts_l1 {K : Int} {E : List STie} (hE : Ok K E) (acc : List Int) (hacc : acc.length ≤ 100) (v : Int) (hv : 0 ≤ v ∧ v < K) (R : List Int) (IH : Ev (fun k => spec_WayParts.l0 k (acc ++ [prt K E v]) (wrap64 (v + 1)) K E) R) (d : Nat) :
    ∀ i : Nat, (i : Int) + d = prt K E v → Ev (fun k => spec_WayParts.l1 k acc v (reachL K E v) (i : Int) K E) R := by
  have hr := reachL_len (E := E) (a := v) hE.k0
  have h8 := hE.k8
  have hp := part_in (E := E) hv.1 hv.2
  induction d with
  | zero =>
    intro i hi
    have hir : i < (reachL K E v).length := by omega
    refine Ev.succ ?_
    simp only [spec_WayParts.l1]
    rw [rdB hir, reachL_get]
    have e : (i : Int) = prt K E v := by omega
    rw [e]
    exact Ev.yes (by omega) (Ev.yes (by omega) (Ev.yes (dec_true (part_reach hv.1 hv.2)) (Ev.yes (by omega) IH)))
  | succ d ih =>
    intro i hi
    have hir : i < (reachL K E v).length := by omega
    refine Ev.succ ?_
    simp only [spec_WayParts.l1]
    rw [rdB hir, reachL_get, w64s (by omega)]
    refine Ev.yes (by omega) (Ev.yes (by omega) (Ev.no (fun h => ?_) (ih (i + 1) (by omega))))
    have := part_le hv.1 hv.2 (show (0 : Int) ≤ (i : Int) by omega) (by omega) (dec_iff.1 h)
    omega
theorem e_spec_WayParts_l0 {K : Int} {E : List STie} (hE : Ok K E) (d : Nat) : ∀ i : Nat, (i : Int) + d = K → Ev (fun k => spec_WayParts.l0 k ((partsL K E).take i) (i : Int) K E) (partsL K E) := by
  have hl := partsL_len (E := E) hE.k0
  have h8 := hE.k8
  induction d with
  | zero =>
    intro i hi
    refine Ev.succ ?_
    simp only [spec_WayParts.l0]
    refine Ev.no (by omega) ?_
    rw [List.take_of_length_le (by omega)]
    exact Ev.pure _
  | succ d ih =>
    intro i hi
    have hip : i < (partsL K E).length := by omega
    have hv : (0 : Int) ≤ (i : Int) ∧ (i : Int) < K := by omega
    refine Ev.succ ?_
    simp only [spec_WayParts.l0]
    refine Ev.yes (by omega) (Ev.bind (e_spec_WayReach K E (i : Int)) ?_)
    have er : reachV K E (i : Int) = reachL K E (i : Int) := by unfold reachV; rw [if_pos (dec_true ⟨hE, hv⟩)]
    rw [er]
    refine e_spec_WayParts_l1 hE _ (by simp only [List.length_take]; omega) (i : Int) hv _ ?_ (prt K E (i : Int)).toNat 0 (by have := part_in (E := E) hv.1 hv.2; omega)
    have e : (partsL K E).take i ++ [prt K E (i : Int)] = (partsL K E).take (i + 1) := by rw [take_snoc _ hip, partsL_get]
    rw [e, w64s (by omega)]
    exact ih (i + 1) (by omega)
theorem e_spec_WayParts (K : Int) (E : List STie) : Ev (fun k => spec_WayParts.f k K E) (partsV K E) := by
  simp only [spec_WayParts.f]
  refine Ev.bind (Ev.pure _) (Ev.bind (e_spec_NetOk K E) ?_)
  unfold partsV
  by_cases h : Ok K E
  · rw [if_pos (dec_true h)]
    exact Ev.yes (dec_true h) (e_spec_WayParts_l0 h K.toNat 0 (by have := h.k0; omega))
  · rw [if_neg (by rw [dec_false h]; simp)]
    exact Ev.no (by rw [dec_false h]; simp) (Ev.pure _)
noncomputable def rootsTo (K : Int) (E : List STie) (i : Nat) : Nat := ((List.range i).map Int.ofNat).countP (fun k => dec (Root K E k))
theorem rootsTo_succ (K : Int) (E : List STie) (i : Nat) : rootsTo K E (i + 1) = rootsTo K E i + if dec (Root K E (i : Int)) = true then 1 else 0 := by
  unfold rootsTo
  rw [List.range_succ, List.map_append, List.countP_append]
  simp only [List.map_cons, List.map_nil, List.countP_cons, List.countP_nil, Int.ofNat_eq_natCast]
  split <;> simp_all
theorem rootsTo_le (K : Int) (E : List STie) (i : Nat) : rootsTo K E i ≤ i := countP_ints_le i _
theorem rootsTo_all (K : Int) (E : List STie) : rootsTo K E K.toNat = comps K E := by
  unfold rootsTo comps
  congr 1
theorem root_dec {K : Int} {E : List STie} {i : Int} (h : 0 ≤ i ∧ i < K) : (prt K E i = i) ↔ Root K E i := (root_iff h.1 h.2).symm
theorem e_spec_WayCount_l0 {K : Int} {E : List STie} (hE : Ok K E) (d : Nat) : ∀ i : Nat, i + d = (partsL K E).length → Ev (fun k => spec_WayCount.l0 k (partsL K E) (rootsTo K E i : Int) (i : Int)) (comps K E : Int) := by
  have hl := partsL_len (E := E) hE.k0
  have h8 := hE.k8
  induction d with
  | zero =>
    intro i hi
    refine Ev.succ ?_
    simp only [spec_WayCount.l0]
    refine Ev.no (by omega) ?_
    have : i = K.toNat := by omega
    subst this
    rw [rootsTo_all]; exact Ev.pure _
  | succ d ih =>
    intro i hi
    have hle := rootsTo_le K E i
    refine Ev.succ ?_
    simp only [spec_WayCount.l0]
    rw [rd_partsL hE.k0 (x := (i : Int)) (by omega), w64s (n := i) (by omega), w64s (n := rootsTo K E i) (by omega)]
    have hih := ih (i + 1) (by omega)
    rw [rootsTo_succ] at hih
    refine Ev.yes (by omega) (Ev.yes (by omega) ?_)
    by_cases h : Root K E (i : Int)
    · rw [if_pos (dec_true h)] at hih
      exact Ev.yes ((root_dec (by omega)).2 h) hih
    · rw [if_neg (by rw [dec_false h]; simp)] at hih
      exact Ev.no (fun k => h ((root_dec (by omega)).1 k)) hih
noncomputable def countV (K : Int) (E : List STie) : Int := if dec (Ok K E) = true then (comps K E : Int) else -1
theorem e_spec_WayCount (K : Int) (E : List STie) : Ev (fun k => spec_WayCount.f k K E) (countV K E) := by
  simp only [spec_WayCount.f]
  refine Ev.bind (e_spec_NetOk K E) ?_
  unfold countV
  by_cases h : Ok K E
  · rw [if_pos (dec_true h)]
    have ep : partsV K E = partsL K E := by unfold partsV; rw [if_pos (dec_true h)]
    refine Ev.yes (dec_true h) (Ev.bind (e_spec_WayParts K E) ?_)
    rw [ep]
    exact e_spec_WayCount_l0 h (partsL K E).length 0 (by omega)
  · rw [if_neg (by rw [dec_false h]; simp)]
    exact Ev.no (by rw [dec_false h]; simp) (Ev.pure _)
end Go.Proofs.Ytleibnekeioamaa.E
end
section
namespace Go.Proofs.Ytleibnekeioamaa.E
open Go.RowKit Go.Proofs.YtleibnekeioamaaW.PrintWords Go.Proofs.YtleibnekeioamaaW.PrintMore Go.Proofs.Ytleibnekeioamaa.P Osier
set_option linter.unusedVariables false
theorem countV_yes {K : Int} {E : List STie} (h : Ok K E) : countV K E = (comps K E : Int) := by unfold countV; rw [if_pos (dec_true h)]
theorem cutV_yes {K : Int} {E : List STie} {a b : Int} (h : Ok K E ∧ mkT a b ∈ E) : cutV K E a b = (K, cut E (mkT a b), true) := by unfold cutV; rw [if_pos (dec_true h)]
theorem cutV_none {K : Int} {E : List STie} {a b : Int} (h : ¬ (Ok K E ∧ mkT a b ∈ E)) : cutV K E a b = (0, [], false) := by unfold cutV; rw [if_neg (by rw [dec_false h]; simp)]
theorem e_spec_BridgeIs (K : Int) (E : List STie) (a b : Int) (hE : E.length < 1099511627776) : Ev (fun k => spec_BridgeIs.f k K E a b) (dec ((Ok K E ∧ mkT a b ∈ E) ∧ Bridge E (mkT a b))) := by
  simp only [spec_BridgeIs.f]
  refine Ev.bind (e_spec_NetCut K E a b hE) ?_
  by_cases h : Ok K E ∧ mkT a b ∈ E
  · rw [cutV_yes h]
    refine Ev.yes rfl (Ev.bind (e_spec_WayCount K _) (Ev.bind (e_spec_WayCount K E) ((Ev.pure _).value ?_)))
    rw [countV_yes h.1, countV_yes (h.1.cut _), dec_decide]
    have hb := bridge_iff_comps h.1 h.2
    exact dec_congr ⟨fun k => ⟨h, hb.2 (by omega)⟩, fun k => by have := hb.1 k.2; omega⟩
  · rw [cutV_none h]
    refine Ev.no (by simp) ?_
    rw [dec_false (fun k => h k.1)]; exact Ev.pure _
noncomputable def bridgesL (E : List STie) : List STie := E.filter (fun t => dec (Bridge E t))
theorem e_impl_Net_bridges_l0 {K : Int} {E : List STie} (hE : Ok K E) (d : Nat) : ∀ (i : Nat) (acc : List STie), i + d = E.length → acc.length ≤ i → Ev (fun k => impl_Net_bridges.l0 k acc E (E.length : Int) (i : Int) K E) (acc ++ (E.drop i).filter (fun t => dec (Bridge E t))) := by
  have hl := hE.len
  induction d with
  | zero =>
    intro i acc hi ha
    refine Ev.succ ?_
    simp only [impl_Net_bridges.l0]
    refine Ev.no (by omega) ?_
    rw [List.drop_eq_nil_of_le (by omega)]
    simpa using Ev.pure _
  | succ d ih =>
    intro i acc hi ha
    have hlt : i < E.length := by omega
    have ht := hE.tie _ (List.getElem_mem hlt)
    refine Ev.succ ?_
    simp only [impl_Net_bridges.l0]
    rw [rdT hlt, w64s (by omega), filter_drop_step hlt, ← List.append_assoc]
    have hless := e_impl_Net_less K E [E[i]] (by omega) (by simp)
    rw [less_one] at hless
    refine Ev.yes (by omega) (Ev.yes (by omega) (Ev.yes (by omega) (Ev.bind hless (Ev.bind (e_impl_Net_joined (hE.cut _) (by omega) (by omega)) ?_))))
    by_cases h : Conn (cut E E[i]) E[i].f0 E[i].f1
    · refine Ev.yes (dec_true h) ((ih (i + 1) acc (by omega) (by omega)).value ?_)
      rw [if_neg (by rw [dec_false (fun k => k h)]; simp), List.append_nil]
    · refine Ev.no (by rw [dec_false h]; simp) (Ev.yes (by omega) ((ih (i + 1) _ (by omega) (by simp; omega)).value ?_))
      rw [if_pos (show dec (Bridge E E[i]) = true from dec_true h)]
theorem e_impl_Net_bridges {K : Int} {E : List STie} (hE : Ok K E) : Ev (fun k => impl_Net_bridges.f k K E) (bridgesL E) := by
  simp only [impl_Net_bridges.f]
  exact (e_impl_Net_bridges_l0 hE E.length 0 [] (by omega) (by simp)).value (by simp [bridgesL])
theorem bridgesL_len (E : List STie) : (bridgesL E).length ≤ E.length := List.length_filter_le _ _
theorem mem_bridgesL {E : List STie} {t : STie} : t ∈ bridgesL E ↔ t ∈ E ∧ Bridge E t := by
  unfold bridgesL
  rw [List.mem_filter, dec_iff]
end Go.Proofs.Ytleibnekeioamaa.E
end
section
namespace Go.Proofs.Ytleibnekeioamaa.E
open Go.RowKit Go.Proofs.YtleibnekeioamaaW.PrintWords Go.Proofs.YtleibnekeioamaaW.PrintMore Go.Proofs.Ytleibnekeioamaa.P Osier
set_option linter.unusedVariables false
noncomputable def bridgesV (K : Int) (E : List STie) : List STie := if dec (Ok K E) = true then bridgesL E else []
theorem bridgesV_yes {K : Int} {E : List STie} (h : Ok K E) : bridgesV K E = bridgesL E := by unfold bridgesV; rw [if_pos (dec_true h)]
theorem bridgesV_none {K : Int} {E : List STie} (h : ¬ Ok K E) : bridgesV K E = [] := by unfold bridgesV; rw [if_neg (by rw [dec_false h]; simp)]
theorem bridgesV_len (K : Int) (E : List STie) : (bridgesV K E).length ≤ E.length := by
  unfold bridgesV
  split
  · exact bridgesL_len E
  · simp
theorem mkT_own {K : Int} {E : List STie} (hE : Ok K E) {t : STie} (ht : t ∈ E) : mkT t.f0 t.f1 = t := by
  have := hE.tie t ht
  unfold mkT
  rw [if_pos (by omega)]
theorem cutV_own {K : Int} {E : List STie} (hE : Ok K E) {t : STie} (ht : t ∈ E) : cutV K E t.f0 t.f1 = (K, cut E t, true) := by
  have e := mkT_own hE ht
  rw [cutV_yes ⟨hE, by rw [e]; exact ht⟩, e]
theorem e_spec_BridgeList_l0 {K : Int} {E : List STie} (hE : Ok K E) (d : Nat) : ∀ (i : Nat) (acc : List STie), i + d = E.length → acc.length ≤ i → Ev (fun k => spec_BridgeList.l0 k acc (i : Int) K E) (acc ++ (E.drop i).filter (fun t => dec (Bridge E t))) := by
  have hl := hE.len
  induction d with
  | zero =>
    intro i acc hi ha
    refine Ev.succ ?_
    simp only [spec_BridgeList.l0]
    refine Ev.no (by omega) ?_
    rw [List.drop_eq_nil_of_le (by omega)]
    simpa using Ev.pure _
  | succ d ih =>
    intro i acc hi ha
    have hlt : i < E.length := by omega
    have hm : E[i] ∈ E := List.getElem_mem hlt
    refine Ev.succ ?_
    simp only [spec_BridgeList.l0]
    rw [rdT hlt, w64s (by omega), filter_drop_step hlt, ← List.append_assoc]
    refine Ev.yes (by omega) (Ev.yes (by omega) (Ev.bind (e_spec_BridgeIs K E _ _ (by omega)) ?_))
    rw [mkT_own hE hm, dec_congr (show ((Ok K E ∧ E[i] ∈ E) ∧ Bridge E E[i]) ↔ Bridge E E[i] from ⟨fun k => k.2, fun k => ⟨⟨hE, hm⟩, k⟩⟩)]
    by_cases h : Bridge E E[i]
    · refine Ev.yes (dec_true h) (Ev.yes (by omega) ((ih (i + 1) _ (by omega) (by simp; omega)).value ?_))
      rw [if_pos (dec_true h)]
    · refine Ev.no (by rw [dec_false h]; simp) ((ih (i + 1) acc (by omega) (by omega)).value ?_)
      rw [if_neg (by rw [dec_false h]; simp), List.append_nil]
theorem e_spec_BridgeList (K : Int) (E : List STie) : Ev (fun k => spec_BridgeList.f k K E) (bridgesV K E) := by
  simp only [spec_BridgeList.f]
  refine Ev.bind (Ev.pure _) (Ev.bind (e_spec_NetOk K E) ?_)
  by_cases h : Ok K E
  · rw [bridgesV_yes h]
    exact Ev.yes (dec_true h) ((e_spec_BridgeList_l0 h E.length 0 [] (by omega) (by simp)).value (by simp [bridgesL]))
  · rw [bridgesV_none h]
    exact Ev.no (by rw [dec_false h]; simp) (Ev.pure _)
theorem e_impl_BridgeList (K : Int) (E : List STie) (hl : E.length < 4611686018427387904) : Ev (fun k => impl_BridgeList.f k K E) (bridgesV K E) := by
  simp only [impl_BridgeList.f]
  refine Ev.bind (e_impl_NetOk K E hl) ?_
  by_cases h : Ok K E
  · rw [bridgesV_yes h]
    exact Ev.yes (dec_true h) (Ev.bind (e_impl_Net_bridges h) (Ev.pure _))
  · rw [bridgesV_none h]
    exact Ev.no (by rw [dec_false h]; simp) (Ev.pure _)
end Go.Proofs.Ytleibnekeioamaa.E
end
section
namespace Go.Proofs.Ytleibnekeioamaa.E
open Go.RowKit Go.Proofs.Ytleibnekeioamaa.P Osier
set_option linter.unusedVariables false
theorem e_spec_DrawBridgeList {l : List Int} (hl : ∀ x ∈ l, (Lit.int .u8 x).wf = true) : ∃ K E, Ev (fun k => spec_DrawBridgeList.f k l) (K, E) ∧ Small K E := by
  obtain ⟨xs, hx, hs⟩ := e_spec_l6Open hl
  obtain ⟨K, E, q, hq, ho, _, _⟩ := e_spec_l71Any hs (p := 0) (by omega) (by omega)
  simp only [spec_DrawBridgeList.f]
  exact ⟨K, E, Ev.bind (Ev.const hx) (Ev.bind hq (Ev.pure _)), ho⟩
end Go.Proofs.Ytleibnekeioamaa.E
end
section
namespace Go.Proofs.Ytleibnekeioamaa.E
open Go.RowKit Go.Proofs.Ytleibnekeioamaa.P Osier
set_option linter.unusedVariables false
theorem filter_but {l : List STie} (hn : l.Nodup) {n : Nat} (h : n < l.length) : l.filter (fun s => decide (s ≠ l[n])) = l.take n ++ l.drop (n + 1) := by
  have e : l = l.take n ++ (l[n] :: l.drop (n + 1)) := by rw [← drop_cons _ h, List.take_append_drop]
  have hn' := hn
  rw [e, List.nodup_append] at hn'
  have h1 : ∀ s ∈ l.take n, s ≠ l[n] := fun s hs e2 => hn'.2.2 s hs l[n] (List.mem_cons_self ..) e2
  have h2 : ∀ s ∈ l.drop (n + 1), s ≠ l[n] := fun s hs e2 => by
    have h3 := hn'.2.1
    rw [List.nodup_cons] at h3
    exact h3.1 (e2 ▸ hs)
  have key : ∀ b : STie, b = l[n] → l.filter (fun s => decide (s ≠ b)) = l.take n ++ l.drop (n + 1) := by
    intro b hb
    have e3 : l.filter (fun s => decide (s ≠ b)) = (l.take n ++ (l[n] :: l.drop (n + 1))).filter (fun s => decide (s ≠ b)) := by rw [← e]
    rw [e3, List.filter_append, List.filter_cons, if_neg (by simp [hb])]
    congr 1
    · exact List.filter_eq_self.2 (fun s hs => by simpa [hb] using h1 s hs)
    · exact List.filter_eq_self.2 (fun s hs => by simpa [hb] using h2 s hs)
  exact key _ rfl
theorem bridges_less {E : List STie} (hE : Asc E) {n : Nat} (h : n < (bridgesL E).length) : bridgesL (cut E (bridgesL E)[n]) = (bridgesL E).take n ++ (bridgesL E).drop (n + 1) := by
  have hb := mem_bridgesL.1 (List.getElem_mem h)
  have hn : (bridgesL E).Nodup := List.Nodup.sublist List.filter_sublist hE.nodup
  rw [← filter_but hn h]
  generalize (bridgesL E)[n] = b at hb
  unfold bridgesL cut
  rw [List.filter_filter, List.filter_filter]
  refine List.filter_congr (fun t ht => ?_)
  by_cases e : t = b
  · simp [e]
  · have e2 := bridge_cut hb.1 hb.2 ht e
    have e3 : dec (Bridge (E.filter (fun s => decide (s ≠ b))) t) = dec (Bridge E t) := dec_congr e2
    rw [e3, Bool.and_comm]
theorem FnBridgeCut (l : List Int) (hl : l.length ≤ maxLen) (hw : ∀ x ∈ l, (Lit.int .u8 x).wf = true) (m : List Int) (hm : m.length ≤ maxLen) (hwm : ∀ x ∈ m, (Lit.int .u8 x).wf = true) : ∃ k, laws_FnBridgeCut.f k l m = some true := by
  refine Ev.get ?_
  simp only [laws_FnBridgeCut.f]
  have yes : Ev (fun k => laws_FnBridgeCut.j0 k l m true) true := by
    refine Ev.succ ?_
    simp only [laws_FnBridgeCut.j0]
    exact Ev.yes (by trivial) (Ev.pure _)
  by_cases h : (l.length : Int) > 1048576
  · exact Ev.yes h yes
  · refine Ev.no h ?_
    by_cases h2 : (m.length : Int) > 1048576
    · rw [decide_eq_true h2]
      exact yes
    · rw [decide_eq_false h2]
      obtain ⟨K, E, hd, hs⟩ := e_spec_DrawBridgeList hw
      have hlen := hs.len
      have hbv := bridgesV_len K E
      refine Ev.succ ?_
      simp only [laws_FnBridgeCut.j0]
      refine Ev.no (by simp) (Ev.bind hd (Ev.bind (e_impl_BridgeList K E (by omega)) (Ev.bind (e_spec_BridgeList K E) (Ev.bind (e_laws_loTies _ _ (by omega)) (Ev.yes (dec_true rfl) (Ev.succ ?_))))))
      simp only [laws_FnBridgeCut.j1]
      by_cases c : (bridgesV K E).length = 0
      · exact Ev.yes (by simp [c]) (Ev.bind (e_spec_BridgeList K E) (Ev.bind (e_laws_loTies _ _ (by omega)) ((Ev.pure _).value (dec_true rfl))))
      · have g : Ok K E := by
          by_cases g : Ok K E
          · exact g
          · rw [bridgesV_none g] at c; exact absurd rfl c
        rw [bridgesV_yes g] at *
        have e0 : (m.length : Int) % ((bridgesL E).length : Int) = ((m.length % (bridgesL E).length : Nat) : Int) := by rw [Int.natCast_emod]
        have hlt : m.length % (bridgesL E).length < (bridgesL E).length := Nat.mod_lt _ (by omega)
        rw [e0]
        generalize m.length % (bridgesL E).length = n at hlt
        have hb := mem_bridgesL.1 (List.getElem_mem hlt)
        have hC := e_impl_NetCut K E (bridgesL E)[n].f0 (bridgesL E)[n].f1 (by omega)
        rw [cutV_own g hb.1] at hC
        have hcl := cut_length g.asc.nodup hb.1
        have hcb := bridgesL_len (cut E (bridgesL E)[n])
        have hB := e_impl_BridgeList K (cut E (bridgesL E)[n]) (by omega)
        rw [bridgesV_yes (g.cut _)] at hB
        have key := bridges_less g.asc hlt
        rw [rdT hlt, Int.toNat_natCast]
        refine Ev.no (by simp; exact fun e => c (by rw [e]; rfl)) (Ev.no (by omega) (Ev.yes (by omega) (Ev.yes (by omega) (Ev.bind hC (Ev.yes (by trivial) (Ev.bind hB (Ev.bind (Ev.pure _) (Ev.yes (by simp; omega) (Ev.bind (Ev.pure _) (Ev.yes (by simp; omega) (Ev.bind (e_laws_loTies _ _ (by omega)) ((Ev.pure _).value (dec_true ?_)))))))))))))
        rw [key]
        simp
end Go.Proofs.Ytleibnekeioamaa.E
end
