/- FnExactWayAll: the pure statement, and what it leans on: graphs, and how the printed functions are reckoned. -/
import Derived.Test.YtmfmeenfhdohcaaEO
section
namespace Osier
set_option linter.unusedVariables false
def Asc (E : List Tie) : Prop := E.Pairwise tlt
structure Ok (K : Int) (E : List Tie) : Prop where
  k0 : 0 ≤ K
  k8 : K ≤ 8
  tie : ∀ t ∈ E, 0 ≤ t.f0 ∧ t.f0 < t.f1 ∧ t.f1 < K
  asc : Asc E
theorem asc_len (l : List Int) (hl : l.Pairwise (· < ·)) : ∀ (lo hi : Int), lo ≤ hi → (∀ x ∈ l, lo ≤ x ∧ x < hi) → (l.length : Int) ≤ hi - lo := by
  induction l with
  | nil => intro lo hi h _; simp; omega
  | cons x l ih =>
    intro lo hi h hm
    have hp := List.pairwise_cons.1 hl
    have hx := hm x (by simp)
    have := ih hp.2 (x + 1) hi (by omega) (fun y hy => ⟨by have := hp.1 y hy; omega, (hm y (by simp [hy])).2⟩)
    simp only [List.length_cons]
    omega
theorem Ok.len {K : Int} {E : List Tie} (h : Ok K E) : E.length ≤ 64 := by
  have h1 : (E.map fun t => t.f0 * 8 + t.f1).Pairwise (· < ·) := by
    rw [List.pairwise_map]
    refine List.Pairwise.imp_of_mem ?_ h.asc
    intro a b ha hb hab
    have := h.tie a ha
    have := h.tie b hb
    have := h.k8
    unfold tlt at hab
    omega
  have := asc_len _ h1 0 64 (by omega) (by
    intro x hx
    obtain ⟨t, ht, rfl⟩ := List.mem_map.1 hx
    have := h.tie t ht
    have := h.k8
    omega)
  simp at this
  omega
def mkT (a b : Int) : Tie := if a < b then ⟨a, b⟩ else ⟨b, a⟩
def Ed (E : List Tie) (a b : Int) : Prop := (⟨a, b⟩ : Tie) ∈ E ∨ (⟨b, a⟩ : Tie) ∈ E
theorem Ok.ed {K : Int} {E : List Tie} (h : Ok K E) {a b : Int} : Ed E a b ↔ mkT a b ∈ E := by
  unfold Ed mkT
  constructor
  · rintro (h1 | h1)
    · have := h.tie _ h1
      dsimp only at this
      rw [if_pos (by omega)]; exact h1
    · have := h.tie _ h1
      dsimp only at this
      rw [if_neg (by omega)]; exact h1
  · split
    · exact .inl
    · exact .inr
theorem Ok.ed_in {K : Int} {E : List Tie} (h : Ok K E) {a b : Int} (he : Ed E a b) : (0 ≤ a ∧ a < K) ∧ (0 ≤ b ∧ b < K) ∧ a ≠ b := by
  rcases he with h1 | h1 <;> have := h.tie _ h1 <;> dsimp only at this <;> omega
theorem mem_ints {K x : Int} : x ∈ (List.range K.toNat).map Int.ofNat ↔ 0 ≤ x ∧ x < K := by
  simp only [List.mem_map, List.mem_range]
  constructor
  · rintro ⟨n, hn, rfl⟩
    simp only [Int.ofNat_eq_natCast]; omega
  · rintro ⟨h0, h1⟩
    exact ⟨x.toNat, by omega, by simp only [Int.ofNat_eq_natCast]; omega⟩
theorem ints_asc (n : Nat) : ((List.range n).map Int.ofNat).Pairwise (· < ·) := by
  rw [List.pairwise_map]
  exact List.Pairwise.imp (fun {a b} h => by simp only [Int.ofNat_eq_natCast]; omega) List.pairwise_lt_range
end Osier
/- Plain facts on spanning forests and bridges. No program in sight. -/
namespace Osier
set_option linter.unusedVariables false
end Osier
/- Plain facts on ways: order, enumeration, shortest ways, distances. No program in sight. -/
namespace Osier
set_option linter.unusedVariables false
theorem sorted_eq {α : Type} {R : α → α → Prop} (irr : ∀ a, ¬ R a a) (asy : ∀ a b, R a b → ¬ R b a) {E F : List α} (hE : E.Pairwise R) (hF : F.Pairwise R) (h : ∀ t, t ∈ E ↔ t ∈ F) : E = F := by
  induction E generalizing F with
  | nil =>
    cases F with
    | nil => rfl
    | cons f F => exact absurd ((h f).2 (by simp)) (by simp)
  | cons e E ih =>
    cases F with
    | nil => exact absurd ((h e).1 (by simp)) (by simp)
    | cons f F =>
      have hE' := List.pairwise_cons.1 hE
      have hF' := List.pairwise_cons.1 hF
      have hef : e = f := by
        have h1 := (h e).1 (by simp)
        have h2 := (h f).2 (by simp)
        simp only [List.mem_cons] at h1 h2
        rcases h1 with h1 | h1
        · exact h1
        · rcases h2 with h2 | h2
          · exact h2.symm
          · exact absurd (hF'.1 _ h1) (asy _ _ (hE'.1 _ h2))
      subst hef
      congr 1
      refine ih hE'.2 hF'.2 (fun t => ?_)
      have ht := h t
      simp only [List.mem_cons] at ht
      constructor
      · intro hm
        rcases ht.1 (.inr hm) with rfl | hm'
        · exact absurd (hE'.1 _ hm) (irr _)
        · exact hm'
      · intro hm
        rcases ht.2 (.inr hm) with rfl | hm'
        · exact absurd (hF'.1 _ hm) (irr _)
        · exact hm'
def lex : List Int → List Int → Prop
  | _, [] => False
  | [], _ :: _ => True
  | x :: xs, y :: ys => x < y ∨ x = y ∧ lex xs ys
theorem lex_irrefl (x : List Int) : ¬ lex x x := by
  induction x with
  | nil => exact id
  | cons a x ih => simp only [lex]; rintro (h | h); omega; exact ih h.2
theorem lex_trans {x y z : List Int} (h : lex x y) (k : lex y z) : lex x z := by
  induction x generalizing y z with
  | nil =>
    cases y with
    | nil => exact h.elim
    | cons b y => cases z with
      | nil => exact k.elim
      | cons c z => trivial
  | cons a x ih =>
    cases y with
    | nil => exact h.elim
    | cons b y => cases z with
      | nil => exact k.elim
      | cons c z =>
        simp only [lex] at *
        rcases h with h | ⟨rfl, h⟩
        · rcases k with k | ⟨rfl, k⟩
          · exact .inl (by omega)
          · exact .inl h
        · rcases k with k | ⟨rfl, k⟩
          · exact .inl k
          · exact .inr ⟨rfl, ih h k⟩
theorem lex_total (x y : List Int) : lex x y ∨ x = y ∨ lex y x := by
  induction x generalizing y with
  | nil => cases y with
    | nil => exact .inr (.inl rfl)
    | cons b y => exact .inl trivial
  | cons a x ih => cases y with
    | nil => exact .inr (.inr trivial)
    | cons b y =>
      simp only [lex]
      rcases Int.lt_trichotomy a b with h | h | h
      · exact .inl (.inl h)
      · subst h
        rcases ih y with h | h | h
        · exact .inl (.inr ⟨rfl, h⟩)
        · subst h; exact .inr (.inl rfl)
        · exact .inr (.inr (.inr ⟨rfl, h⟩))
      · exact .inr (.inr (.inl h))
theorem lex_prefix {p : List Int} {a b : Int} (h : a < b) (x y : List Int) : lex (p ++ a :: x) (p ++ b :: y) := by
  induction p with
  | nil => exact .inl h
  | cons c p ih => exact .inr ⟨rfl, ih⟩
def wlt (x y : List Int) : Prop := x.length < y.length ∨ x.length = y.length ∧ lex x y
theorem wlt_irrefl (x : List Int) : ¬ wlt x x := by rintro (h | h); omega; exact lex_irrefl _ h.2
theorem wlt_trans {x y z : List Int} (h : wlt x y) (k : wlt y z) : wlt x z := by
  rcases h with h | ⟨h1, h2⟩ <;> rcases k with k | ⟨k1, k2⟩
  · exact .inl (by omega)
  · exact .inl (by omega)
  · exact .inl (by omega)
  · exact .inr ⟨by omega, lex_trans h2 k2⟩
theorem wlt_asymm {x y : List Int} (h : wlt x y) : ¬ wlt y x := fun k => wlt_irrefl _ (wlt_trans h k)
theorem wlt_total (x y : List Int) : wlt x y ∨ x = y ∨ wlt y x := by
  rcases Nat.lt_trichotomy x.length y.length with h | h | h
  · exact .inl (.inl h)
  · rcases lex_total x y with k | k | k
    · exact .inl (.inr ⟨h, k⟩)
    · exact .inr (.inl k)
    · exact .inr (.inr (.inr ⟨h.symm, k⟩))
  · exact .inr (.inr (.inl h))
def Walk (E : List Tie) : List Int → Prop
  | [] => True
  | [_] => True
  | a :: b :: l => Ed E a b ∧ Walk E (b :: l)
theorem Walk.tail {E : List Tie} {a : Int} {l : List Int} (h : Walk E (a :: l)) : Walk E l := by
  cases l with
  | nil => trivial
  | cons b l => exact h.2
theorem Walk.append {E : List Tie} {x y : List Int} {a b : Int} (hx : Walk E (x ++ [a])) (he : Ed E a b) (hy : Walk E (b :: y)) : Walk E (x ++ a :: b :: y) := by
  induction x with
  | nil => exact ⟨he, hy⟩
  | cons c x ih =>
    cases x with
    | nil => exact ⟨hx.1, ih hx.2⟩
    | cons d x => exact ⟨hx.1, ih hx.2⟩
theorem Walk.left {E : List Tie} {x y : List Int} (h : Walk E (x ++ y)) : Walk E x := by
  induction x with
  | nil => trivial
  | cons c x ih =>
    cases x with
    | nil => trivial
    | cons d x => exact ⟨h.1, ih h.2⟩
theorem Walk.right {E : List Tie} {x y : List Int} (h : Walk E (x ++ y)) : Walk E y := by
  induction x with
  | nil => exact h
  | cons c x ih => exact ih (Walk.tail h)
theorem Walk.mid {E : List Tie} {x y : List Int} {a b : Int} (h : Walk E (x ++ a :: b :: y)) : Ed E a b := (Walk.right h).1
theorem Walk.snoc {E : List Tie} {x : List Int} {a b : Int} (hx : Walk E (x ++ [a])) (he : Ed E a b) : Walk E (x ++ [a] ++ [b]) := by
  have := Walk.append (y := []) hx he trivial
  simpa using this
structure Pth (K : Int) (E : List Tie) (w : List Int) : Prop where
  ne : w ≠ []
  in_ : ∀ v ∈ w, 0 ≤ v ∧ v < K
  walk : Walk E w
  nodup : w.Nodup
theorem Pth.left {K : Int} {E : List Tie} {x y : List Int} (h : Pth K E (x ++ y)) (hx : x ≠ []) : Pth K E x :=
  ⟨hx, fun v hv => h.in_ v (by simp [hv]), h.walk.left, (List.nodup_append.1 h.nodup).1⟩
end Osier
/- Plain facts on the list of all ways. No program in sight. -/
namespace Osier
set_option linter.unusedVariables false
def nexts (E : List Tie) (ks : List Int) (a : Int) : List Int := ks.filter (fun x => decide (mkT a x ∈ E))
def knots (K : Int) : List Int := (List.range K.toNat).map Int.ofNat
theorem mem_nexts {K : Int} {E : List Tie} (hE : Ok K E) {a x : Int} : x ∈ nexts E (knots K) a ↔ Ed E a x := by
  unfold nexts knots
  simp only [List.mem_filter, decide_eq_true_eq, ← hE.ed]
  constructor
  · exact fun h => h.2
  · intro h; exact ⟨mem_ints.2 (hE.ed_in h).2.1, h⟩
theorem nexts_asc (K : Int) (E : List Tie) (a : Int) : (nexts E (knots K) a).Pairwise (· < ·) := List.Pairwise.sublist List.filter_sublist (ints_asc _)
def waysF (E : List Tie) (ks : List Int) (tg : Int) : Nat → List Int → List (List Int)
  | 0, _ => []
  | f + 1, way =>
    if way.getLast? = some tg then [way]
    else ((nexts E ks ((way.getLast?).getD 0)).filter (fun x => decide (x ∉ way))).flatMap (fun x => waysF E ks tg f (way ++ [x]))
def onF (E : List Tie) (ks : List Int) (tg : Int) (size : Nat) : Nat → List Int → List (List Int)
  | 0, _ => []
  | f + 1, way =>
    if way.getLast? = some tg then (if way.length = size then [way] else [])
    else if way.length ≥ size then []
    else ((nexts E ks ((way.getLast?).getD 0)).filter (fun x => decide (x ∉ way))).flatMap (fun x => onF E ks tg size f (way ++ [x]))
theorem nodup_le_of_in {K : Int} {l : List Int} (hn : l.Nodup) (h : ∀ v ∈ l, 0 ≤ v ∧ v < K) : (l.length : Int) ≤ K ∨ l = [] := by
  by_cases hl : l = []
  · exact .inr hl
  · refine .inl ?_
    have hK : 0 ≤ K := by
      cases l with
      | nil => exact absurd rfl hl
      | cons a l => have := h a (by simp); omega
    -- by counting: remove members from the list of numbers
    have key : ∀ (l r : List Int), l.Nodup → (∀ v ∈ l, v ∈ r) → l.length ≤ r.length := by
      intro l
      induction l with
      | nil => intro r _ _; simp
      | cons a l ih =>
        intro r hn hs
        have ha := hs a (by simp)
        have hc := List.nodup_cons.1 hn
        have := ih (r.erase a) hc.2 (fun v hv => (List.mem_erase_of_ne (fun e => by subst e; exact hc.1 hv)).2 (hs v (by simp [hv])))
        rw [List.length_erase_of_mem ha] at this
        have : 0 < r.length := List.length_pos_of_mem ha
        simp only [List.length_cons]
        omega
    have := key l ((List.range K.toNat).map Int.ofNat) hn (fun v hv => mem_ints.2 (h v hv))
    simp at this
    omega
theorem Pth.length_le {K : Int} {E : List Tie} {w : List Int} (h : Pth K E w) : (w.length : Int) ≤ K := by
  rcases nodup_le_of_in h.nodup h.in_ with h1 | h1
  · exact h1
  · exact absurd h1 h.ne
theorem Pth.snoc_iff {K : Int} {E : List Tie} (hE : Ok K E) {way : List Int} (hw : Pth K E way) {x : Int} : Pth K E (way ++ [x]) ↔ Ed E ((way.getLast?).getD 0) x ∧ x ∉ way := by
  obtain ⟨p, a, rfl⟩ : ∃ p a, way = p ++ [a] := by
    exact ⟨_, _, (List.dropLast_concat_getLast hw.ne).symm⟩
  have hl : ((p ++ [a]).getLast?).getD 0 = a := by simp
  rw [hl]
  constructor
  · intro h
    refine ⟨?_, ?_⟩
    · have := h.walk
      rw [List.append_assoc] at this
      exact Walk.mid this
    · have := h.nodup
      rw [List.nodup_append] at this
      intro hm
      exact this.2.2 x hm x (by simp) rfl
  · rintro ⟨h1, h2⟩
    refine ⟨by simp, ?_, Walk.snoc hw.walk h1, ?_⟩
    · intro v hv
      simp only [List.mem_append, List.mem_singleton] at hv
      rcases hv with hv | rfl
      · exact hw.in_ v (by simpa using hv)
      · exact (hE.ed_in h1).2.1
    · rw [List.nodup_append]
      refine ⟨hw.nodup, by simp, ?_⟩
      intro v hv u hu
      simp only [List.mem_singleton] at hu
      subst hu
      rintro rfl
      exact h2 hv
theorem mem_waysF {K : Int} {E : List Tie} (hE : Ok K E) {tg : Int} (f : Nat) : ∀ way, Pth K E way → K < f + way.length → ∀ x, x ∈ waysF E (knots K) tg f way ↔ (∃ s, x = way ++ s) ∧ Pth K E x ∧ x.getLast? = some tg := by
  induction f with
  | zero =>
    intro way hw hf x
    have := hw.length_le
    omega
  | succ f ih =>
    intro way hw hf x
    rw [waysF]
    by_cases hl : way.getLast? = some tg
    · rw [if_pos hl]
      simp only [List.mem_singleton]
      constructor
      · rintro rfl; exact ⟨⟨[], by simp⟩, hw, hl⟩
      · rintro ⟨⟨s, rfl⟩, h1, h2⟩
        cases s with
        | nil => simp
        | cons c s =>
          exfalso
          have hd := (List.nodup_append.1 h1.nodup).2.2
          have hm : tg ∈ way := List.mem_of_getLast? hl
          have hm2 : tg ∈ c :: s := by
            rw [List.getLast?_append] at h2
            have : (c :: s).getLast? = some tg := by
              cases hcs : (c :: s).getLast? with
              | none => simp at hcs
              | some z => rw [hcs] at h2; simpa using h2
            exact List.mem_of_getLast? this
          exact hd tg hm tg hm2 rfl
    · rw [if_neg hl]
      simp only [List.mem_flatMap, List.mem_filter, decide_eq_true_eq, mem_nexts hE]
      constructor
      · rintro ⟨y, ⟨hy, hny⟩, hx⟩
        have hw' := (Pth.snoc_iff hE hw).2 ⟨hy, hny⟩
        obtain ⟨⟨s, rfl⟩, h1, h2⟩ := (ih _ hw' (by simp; omega) x).1 hx
        exact ⟨⟨y :: s, by simp⟩, h1, h2⟩
      · rintro ⟨⟨s, rfl⟩, h1, h2⟩
        cases s with
        | nil => simp at h2; exact absurd h2 hl
        | cons y s =>
          have h1' : Pth K E (way ++ [y] ++ s) := by simpa using h1
          have hw' : Pth K E (way ++ [y]) := h1'.left (by simp)
          have hy := (Pth.snoc_iff hE hw).1 hw'
          exact ⟨y, hy, (ih _ hw' (by simp; omega) _).2 ⟨⟨s, by simp⟩, h1, h2⟩⟩
theorem mem_onF {K : Int} {E : List Tie} (hE : Ok K E) {tg : Int} {size : Nat} (f : Nat) : ∀ way, Pth K E way → size < f + way.length → ∀ x, x ∈ onF E (knots K) tg size f way ↔ (∃ s, x = way ++ s) ∧ Pth K E x ∧ x.getLast? = some tg ∧ x.length = size := by
  induction f with
  | zero =>
    intro way hw hf x
    simp only [onF, List.not_mem_nil, false_iff]
    rintro ⟨⟨s, rfl⟩, _, _, h⟩
    simp at h; omega
  | succ f ih =>
    intro way hw hf x
    rw [onF]
    by_cases hl : way.getLast? = some tg
    · rw [if_pos hl]
      have key : (∃ s, x = way ++ s) ∧ Pth K E x ∧ x.getLast? = some tg → x = way := by
        rintro ⟨⟨s, rfl⟩, h1, h2⟩
        cases s with
        | nil => simp
        | cons c s =>
          exfalso
          have hd := (List.nodup_append.1 h1.nodup).2.2
          have hm : tg ∈ way := List.mem_of_getLast? hl
          have hm2 : tg ∈ c :: s := by
            rw [List.getLast?_append] at h2
            have : (c :: s).getLast? = some tg := by
              cases hcs : (c :: s).getLast? with
              | none => simp at hcs
              | some z => rw [hcs] at h2; simpa using h2
            exact List.mem_of_getLast? this
          exact hd tg hm tg hm2 rfl
      by_cases hs : way.length = size
      · rw [if_pos hs]
        simp only [List.mem_singleton]
        constructor
        · rintro rfl; exact ⟨⟨[], by simp⟩, hw, hl, hs⟩
        · rintro ⟨h0, h1, h2, _⟩; exact key ⟨h0, h1, h2⟩
      · rw [if_neg hs]
        simp only [List.not_mem_nil, false_iff]
        rintro ⟨h0, h1, h2, h3⟩
        have := key ⟨h0, h1, h2⟩
        subst this
        exact hs h3
    · rw [if_neg hl]
      by_cases hs : way.length ≥ size
      · rw [if_pos hs]
        simp only [List.not_mem_nil, false_iff]
        rintro ⟨⟨s, rfl⟩, h1, h2, h3⟩
        simp only [List.length_append] at h3
        have : s = [] := List.eq_nil_of_length_eq_zero (by omega)
        subst this
        simp at h2
        exact hl h2
      · rw [if_neg hs]
        simp only [List.mem_flatMap, List.mem_filter, decide_eq_true_eq, mem_nexts hE]
        constructor
        · rintro ⟨y, ⟨hy, hny⟩, hx⟩
          have hw' := (Pth.snoc_iff hE hw).2 ⟨hy, hny⟩
          obtain ⟨⟨s, rfl⟩, h1, h2⟩ := (ih _ hw' (by simp; omega) x).1 hx
          exact ⟨⟨y :: s, by simp⟩, h1, h2⟩
        · rintro ⟨⟨s, rfl⟩, h1, h2⟩
          cases s with
          | nil => simp at h2; exact absurd h2.1 hl
          | cons y s =>
            have h1' : Pth K E (way ++ [y] ++ s) := by simpa using h1
            have hw' : Pth K E (way ++ [y]) := h1'.left (by simp)
            have hy := (Pth.snoc_iff hE hw).1 hw'
            exact ⟨y, hy, (ih _ hw' (by simp; omega) _).2 ⟨⟨s, by simp⟩, h1, h2⟩⟩
theorem pairwise_flatMap_of {α β : Type} {R : β → β → Prop} {f : α → List β} (l : List α) (h1 : ∀ a ∈ l, (f a).Pairwise R) (h2 : l.Pairwise (fun a b => ∀ x ∈ f a, ∀ y ∈ f b, R x y)) : (l.flatMap f).Pairwise R := by
  induction l with
  | nil => simp
  | cons a l ih =>
    have hc := List.pairwise_cons.1 h2
    rw [List.flatMap_cons, List.pairwise_append]
    refine ⟨h1 a (by simp), ih (fun b hb => h1 b (by simp [hb])) hc.2, ?_⟩
    intro x hx y hy
    obtain ⟨b, hb, hyb⟩ := List.mem_flatMap.1 hy
    exact hc.1 b hb x hx y hyb
theorem waysF_begin (E : List Tie) (ks : List Int) (tg : Int) (f : Nat) : ∀ way x, x ∈ waysF E ks tg f way → ∃ s, x = way ++ s := by
  induction f with
  | zero => intro way x hx; simp [waysF] at hx
  | succ f ih =>
    intro way x hx
    rw [waysF] at hx
    split at hx
    · simp only [List.mem_singleton] at hx; exact ⟨[], by simp [hx]⟩
    · obtain ⟨y, _, hx⟩ := List.mem_flatMap.1 hx
      obtain ⟨s, rfl⟩ := ih _ _ hx
      exact ⟨y :: s, by simp⟩
theorem onF_begin (E : List Tie) (ks : List Int) (tg : Int) (size : Nat) (f : Nat) : ∀ way x, x ∈ onF E ks tg size f way → (∃ s, x = way ++ s) ∧ x.length = size := by
  induction f with
  | zero => intro way x hx; simp [onF] at hx
  | succ f ih =>
    intro way x hx
    rw [onF] at hx
    split at hx
    · split at hx
      · simp only [List.mem_singleton] at hx; subst hx; exact ⟨⟨[], by simp⟩, by assumption⟩
      · simp at hx
    · split at hx
      · simp at hx
      · obtain ⟨y, _, hx⟩ := List.mem_flatMap.1 hx
        obtain ⟨⟨s, rfl⟩, h⟩ := ih _ _ hx
        exact ⟨⟨y :: s, by simp⟩, h⟩
theorem waysF_lex (K : Int) (E : List Tie) (tg : Int) (f : Nat) : ∀ way, (waysF E (knots K) tg f way).Pairwise lex := by
  induction f with
  | zero => intro way; simp [waysF]
  | succ f ih =>
    intro way
    rw [waysF]
    split
    · simp
    · refine pairwise_flatMap_of _ (fun a _ => ih _) ?_
      refine List.Pairwise.imp ?_ (List.Pairwise.sublist List.filter_sublist (nexts_asc K E _))
      intro a b hab x hx y hy
      obtain ⟨s, rfl⟩ := waysF_begin _ _ _ _ _ _ hx
      obtain ⟨t, rfl⟩ := waysF_begin _ _ _ _ _ _ hy
      rw [List.append_assoc, List.append_assoc]
      exact lex_prefix hab s t
theorem onF_lex (K : Int) (E : List Tie) (tg : Int) (size : Nat) (f : Nat) : ∀ way, (onF E (knots K) tg size f way).Pairwise lex := by
  induction f with
  | zero => intro way; simp [onF]
  | succ f ih =>
    intro way
    rw [onF]
    split
    · split <;> simp
    · split
      · simp
      · refine pairwise_flatMap_of _ (fun a _ => ih _) ?_
        refine List.Pairwise.imp ?_ (List.Pairwise.sublist List.filter_sublist (nexts_asc K E _))
        intro a b hab x hx y hy
        obtain ⟨⟨s, rfl⟩, _⟩ := onF_begin _ _ _ _ _ _ _ hx
        obtain ⟨⟨t, rfl⟩, _⟩ := onF_begin _ _ _ _ _ _ _ hy
        rw [List.append_assoc, List.append_assoc]
        exact lex_prefix hab s t
def allW (K : Int) (E : List Tie) (a b : Int) : List (List Int) := (List.range K.toNat).flatMap (fun i => onF E (knots K) b (i + 1) (i + 2) [a])
theorem way_one {K : Int} {E : List Tie} {a : Int} (ha : 0 ≤ a ∧ a < K) : Pth K E [a] := ⟨by simp, by simpa using ha, trivial, by simp⟩
theorem mem_allW {K : Int} {E : List Tie} (hE : Ok K E) {a b : Int} (ha : 0 ≤ a ∧ a < K) (x : List Int) : x ∈ allW K E a b ↔ Pth K E x ∧ x.head? = some a ∧ x.getLast? = some b := by
  unfold allW
  simp only [List.mem_flatMap, List.mem_range]
  constructor
  · rintro ⟨i, hi, hx⟩
    obtain ⟨⟨s, rfl⟩, h1, h2, h3⟩ := (mem_onF hE _ _ (way_one ha) (by simp) x).1 hx
    exact ⟨h1, by simp, h2⟩
  · rintro ⟨h1, h2, h3⟩
    have hle := h1.length_le
    cases x with
    | nil => simp at h2
    | cons c s =>
      simp only [List.head?_cons, Option.some.injEq] at h2
      subst h2
      simp only [List.length_cons] at hle
      exact ⟨s.length, by omega, (mem_onF hE _ _ (way_one ha) (by simp) _).2 ⟨⟨s, by simp⟩, h1, h3, by simp⟩⟩
theorem allW_sorted (K : Int) (E : List Tie) (a b : Int) : (allW K E a b).Pairwise wlt := by
  unfold allW
  refine pairwise_flatMap_of _ (fun i _ => ?_) ?_
  · refine List.Pairwise.imp_of_mem ?_ (onF_lex K E b (i + 1) (i + 2) [a])
    intro x y hx hy hxy
    exact .inr ⟨by rw [(onF_begin _ _ _ _ _ _ _ hx).2, (onF_begin _ _ _ _ _ _ _ hy).2], hxy⟩
  · refine List.Pairwise.imp ?_ List.pairwise_lt_range
    intro i j hij x hx y hy
    exact .inl (by rw [(onF_begin _ _ _ _ _ _ _ hx).2, (onF_begin _ _ _ _ _ _ _ hy).2]; omega)
theorem sorted_allW {K : Int} {E : List Tie} (hE : Ok K E) {a b : Int} (ha : 0 ≤ a ∧ a < K) {l : List (List Int)} {f : Nat} (hf : K < f + 1) (hp : l.Perm (waysF E (knots K) b f [a])) (hs : l.Pairwise (fun x y => ¬ wlt y x)) : l = allW K E a b := by
  have hn : l.Nodup := by
    rw [List.Perm.nodup_iff hp]
    exact List.Pairwise.imp (fun {x y} h e => by subst e; exact lex_irrefl _ h) (waysF_lex K E b f [a])
  have hs' : l.Pairwise wlt := by
    have := List.Pairwise.and hs hn
    refine List.Pairwise.imp ?_ this
    rintro x y ⟨h1, h2⟩
    rcases wlt_total x y with h | h | h
    · exact h
    · exact absurd h h2
    · exact absurd h h1
  refine sorted_eq wlt_irrefl (fun _ _ => wlt_asymm) hs' (allW_sorted K E a b) (fun x => ?_)
  rw [hp.mem_iff, mem_waysF hE _ _ (way_one ha) (by simp; omega), mem_allW hE ha]
  constructor
  · rintro ⟨⟨s, rfl⟩, h1, h2⟩; exact ⟨h1, by simp, h2⟩
  · rintro ⟨h1, h2, h3⟩
    cases x with
    | nil => simp at h2
    | cons c s => simp at h2; subst h2; exact ⟨⟨s, by simp⟩, h1, h3⟩
end Osier
end
section
namespace Go.Proofs.Ytmfmeenfhdohcaa.E
open Go.RowKit Go.Proofs.YtmfmeenfhdohcaaW.PrintWords Go.Proofs.YtmfmeenfhdohcaaW.PrintMore Go.Proofs.Ytmfmeenfhdohcaa.P Osier
set_option linter.unusedVariables false
theorem e_spec_l6In (a b c : Int) : spec_l6In.f a b c = some (dec (b ≤ a ∧ a ≤ c)) := by
  unfold spec_l6In.f
  by_cases h : a ≥ b
  · rw [if_pos h, dec_decide]
    exact congrArg some (dec_congr ⟨fun h' => ⟨h, h'⟩, fun h' => h'.2⟩)
  · rw [if_neg h, dec_false (by omega)]
theorem e_spec_l1Less (s t : STie) : spec_l1Less.f s.f0 s.f1 t.f0 t.f1 = some (dec (tlt s t)) := by
  unfold spec_l1Less.f
  by_cases h : s.f0 < t.f0
  · rw [if_pos h, dec_true (.inl h)]
  · rw [if_neg h]
    by_cases h' : s.f0 = t.f0
    · rw [if_pos h', dec_decide]
      exact congrArg some (dec_congr ⟨fun k => .inr ⟨h', k⟩, fun k => k.elim (fun k => absurd k h) (fun k => k.2)⟩)
    · rw [if_neg h', dec_false (fun k => k.elim h (fun k => h' k.1))]
def At (K : Int) (E : List STie) (j : Nat) (h : j < E.length) : Prop := (0 ≤ E[j].f0 ∧ E[j].f0 < E[j].f1 ∧ E[j].f1 < K) ∧ (∀ h0 : 0 < j, tlt E[j - 1] E[j])
theorem asc_iff (E : List STie) : Asc E ↔ ∀ j (h : j < E.length), 0 < j → tlt E[j - 1] E[j] := by
  constructor
  · intro h j hj h0
    exact List.pairwise_iff_getElem.1 h (j - 1) j (by omega) hj (by omega)
  · intro h
    refine List.pairwise_iff_getElem.2 ?_
    intro i j hi hj hij
    obtain ⟨d, rfl⟩ : ∃ d, j = i + d + 1 := ⟨j - i - 1, by omega⟩
    induction d with
    | zero => have := h (i + 1) hj (by omega); simpa using this
    | succ d ih =>
      have h1 := ih (by omega) (by omega)
      have h2 := h (i + (d + 1) + 1) hj (by omega)
      exact tlt_trans h1 h2
theorem ok_iff (K : Int) (E : List STie) : Ok K E ↔ (0 ≤ K ∧ K ≤ 8) ∧ ∀ j (h : j < E.length), At K E j h := by
  constructor
  · intro h
    refine ⟨⟨h.k0, h.k8⟩, fun j hj => ⟨h.tie _ (List.getElem_mem hj), fun h0 => (asc_iff E).1 h.asc j hj h0⟩⟩
  · rintro ⟨⟨h0, h1⟩, h⟩
    refine ⟨h0, h1, fun t ht => ?_, (asc_iff E).2 (fun j hj h0 => (h j hj).2 h0)⟩
    obtain ⟨j, hj, rfl⟩ := List.getElem_of_mem ht
    exact (h j hj).1
theorem e_spec_NetOk_l0 (K : Int) (E : List STie) (hK : 0 ≤ K ∧ K ≤ 8) (hE : E.length ≤ 64) (d : Nat) : ∀ i, i + d = E.length → Ev (fun k => spec_NetOk.l0 k (i : Int) K E) (dec (∀ j (h : j < E.length), i ≤ j → At K E j h)) := by
  induction d with
  | zero =>
    intro i hi
    refine Ev.succ ?_
    simp only [spec_NetOk.l0]
    refine Ev.no (by omega) ?_
    rw [dec_true (fun j h hij => by omega)]
    exact Ev.pure _
  | succ d ih =>
    intro i hi
    have hlt : i < E.length := by omega
    have hih := ih (i + 1) (by omega)
    refine Ev.succ ?_
    simp only [spec_NetOk.l0]
    refine Ev.yes (by omega) (Ev.yes (by omega) ?_)
    rw [rdT hlt, w64s (by omega)]
    refine Ev.bind (Ev.const (e_spec_l6In _ _ _)) ?_
    by_cases h1 : 0 ≤ E[i].f0 ∧ E[i].f0 ≤ wrap64 (K - 1)
    · have hw : wrap64 (K - 1) = K - 1 := w64 (by omega) (by omega)
      refine Ev.yes (dec_true h1) ?_
      rw [hw] at h1 ⊢
      rw [w64 (x := E[i].f0 + 1) (by omega) (by omega)]
      refine Ev.bind (Ev.const (e_spec_l6In _ _ _)) ?_
      by_cases h2 : E[i].f0 + 1 ≤ E[i].f1 ∧ E[i].f1 ≤ K - 1
      · refine Ev.yes (dec_true h2) ?_
        have hb : 0 ≤ E[i].f0 ∧ E[i].f0 < E[i].f1 ∧ E[i].f1 < K := by omega
        by_cases h3 : 0 < i
        · refine Ev.yes (by omega) ?_
          rw [w64p h3 (by omega)]
          refine Ev.yes (by omega) (Ev.yes (by omega) ?_)
          rw [rdT (show i - 1 < E.length by omega)]
          refine Ev.bind (Ev.const (e_spec_l1Less _ _)) ?_
          by_cases h4 : tlt E[i - 1] E[i]
          · refine Ev.yes (dec_true h4) (hih.value (dec_congr ⟨fun h j hj hij => ?_, fun h j hj hij => h j hj (by omega)⟩))
            rcases Nat.eq_or_lt_of_le hij with rfl | h5
            · exact ⟨hb, fun _ => h4⟩
            · exact h j hj h5
          · refine Ev.no (by rw [dec_false h4]; simp) ?_
            rw [dec_false (fun h => h4 ((h i hlt (Nat.le_refl _)).2 h3))]
            exact Ev.pure _
        · refine Ev.no (by omega) (hih.value (dec_congr ⟨fun h j hj hij => ?_, fun h j hj hij => h j hj (by omega)⟩))
          rcases Nat.eq_or_lt_of_le hij with rfl | h5
          · exact ⟨hb, fun h0 => absurd h0 h3⟩
          · exact h j hj h5
      · refine Ev.no (by rw [dec_false h2]; simp) ?_
        rw [dec_false (fun h => h2 (by have := (h i hlt (Nat.le_refl _)).1; omega))]
        exact Ev.pure _
    · refine Ev.no (by rw [dec_false h1]; simp) ?_
      have hw : wrap64 (K - 1) = K - 1 := w64 (by omega) (by omega)
      rw [hw] at h1
      rw [dec_false (fun h => h1 (by have := (h i hlt (Nat.le_refl _)).1; omega))]
      exact Ev.pure _
theorem e_spec_NetOk (K : Int) (E : List STie) : Ev (fun k => spec_NetOk.f k K E) (dec (Ok K E)) := by
  simp only [spec_NetOk.f]
  refine Ev.bind (Ev.const (e_spec_l6In _ _ _)) ?_
  by_cases hK : 0 ≤ K ∧ K ≤ 8
  · refine Ev.yes (dec_true hK) ?_
    refine Ev.succ ?_
    simp only [spec_NetOk.j0]
    by_cases hl : E.length ≤ 64
    · refine Ev.no (by simp; omega) ((e_spec_NetOk_l0 K E hK hl E.length 0 (by omega)).value (dec_congr ?_))
      rw [ok_iff]
      exact ⟨fun h => ⟨hK, fun j hj => h j hj (Nat.zero_le _)⟩, fun h j hj _ => h.2 j hj⟩
    · refine Ev.yes (by simp; omega) ?_
      rw [dec_false (fun h => hl h.len)]
      exact Ev.pure _
  · refine Ev.no (by rw [dec_false hK]; simp) ?_
    refine Ev.succ ?_
    simp only [spec_NetOk.j0]
    refine Ev.yes (by simp) ?_
    rw [dec_false (fun h => hK ⟨h.k0, h.k8⟩)]
    exact Ev.pure _
theorem e_impl_ascending_l0 (E : List STie) (hE : E.length < 4611686018427387904) (d : Nat) : ∀ i, i + d = E.length → 0 < i → Ev (fun k => impl_ascending.l0 k E (i : Int)) (dec (∀ j (h : j < E.length), i ≤ j → tlt E[j - 1] E[j])) := by
  induction d with
  | zero =>
    intro i hi h0
    refine Ev.succ ?_
    simp only [impl_ascending.l0]
    refine Ev.no (by omega) ?_
    rw [dec_true (fun j h hij => by omega)]
    exact Ev.pure _
  | succ d ih =>
    intro i hi h0
    have hlt : i < E.length := by omega
    have hih := ih (i + 1) (by omega) (by omega)
    refine Ev.succ ?_
    simp only [impl_ascending.l0]
    rw [w64p h0 (by omega), w64s (by omega)]
    refine Ev.yes (by omega) (Ev.yes (by omega) (Ev.yes (by omega) (Ev.yes (by omega) ?_)))
    rw [rdT hlt, rdT (show i - 1 < E.length by omega)]
    refine Ev.bind (e_impl_tieOrder _ _) ?_
    by_cases h4 : tlt E[i - 1] E[i]
    · have := (ord_neg E[i - 1] E[i]).2 h4
      refine Ev.no (by omega) (hih.value (dec_congr ⟨fun h j hj hij => ?_, fun h j hj hij => h j hj (by omega)⟩))
      rcases Nat.eq_or_lt_of_le hij with rfl | h5
      · exact h4
      · exact h j hj h5
    · have : ¬ ord E[i - 1] E[i] < 0 := fun h => h4 ((ord_neg E[i - 1] E[i]).1 h)
      refine Ev.yes (by omega) ?_
      rw [dec_false (fun h => h4 (h i hlt (Nat.le_refl _)))]
      exact Ev.pure _
theorem e_impl_ascending (E : List STie) (hE : E.length < 4611686018427387904) : Ev (fun k => impl_ascending.f k E) (dec (Asc E)) := by
  simp only [impl_ascending.f]
  by_cases h : E.length = 0
  · refine Ev.succ ?_
    simp only [impl_ascending.l0]
    refine Ev.no (by omega) ?_
    rw [dec_true ((asc_iff E).2 (fun j hj _ => by omega))]
    exact Ev.pure _
  · refine (e_impl_ascending_l0 E hE (E.length - 1) 1 (by omega) (by omega)).value (dec_congr ?_)
    rw [asc_iff]
    exact Iff.rfl
theorem e_impl_NetOk_l0 (K : Int) (E : List STie) (hK : 0 ≤ K ∧ K ≤ 8) (hE : E.length < 4611686018427387904) (d : Nat) : ∀ i, i + d = E.length → Ev (fun k => impl_NetOk.l0 k E (E.length : Int) (i : Int) K E) (dec ((∀ j (h : j < E.length), i ≤ j → 0 ≤ E[j].f0 ∧ E[j].f0 < E[j].f1 ∧ E[j].f1 < K) ∧ Asc E)) := by
  induction d with
  | zero =>
    intro i hi
    refine Ev.succ ?_
    simp only [impl_NetOk.l0]
    refine Ev.no (by omega) (Ev.bind (e_impl_ascending E hE) ((Ev.pure _).value (dec_congr ⟨fun h => ⟨fun j hj hij => by omega, h⟩, fun h => h.2⟩)))
  | succ d ih =>
    intro i hi
    have hlt : i < E.length := by omega
    have hih := ih (i + 1) (by omega)
    refine Ev.succ ?_
    simp only [impl_NetOk.l0]
    refine Ev.yes (by omega) (Ev.yes (by omega) (Ev.yes (by omega) ?_))
    rw [rdT hlt, w64s (by omega)]
    by_cases h1 : E[i].f0 < 0
    · refine Ev.yes h1 ?_
      rw [dec_false (fun h => by have := h.1 i hlt (Nat.le_refl _); omega)]
      exact Ev.pure _
    · refine Ev.no h1 ?_
      by_cases h2 : E[i].f0 ≥ E[i].f1
      · refine Ev.yes h2 ?_
        rw [dec_false (fun h => by have := h.1 i hlt (Nat.le_refl _); omega)]
        exact Ev.pure _
      · refine Ev.no h2 ?_
        by_cases h3 : E[i].f1 ≥ K
        · refine Ev.yes h3 ?_
          rw [dec_false (fun h => by have := h.1 i hlt (Nat.le_refl _); omega)]
          exact Ev.pure _
        · refine Ev.no h3 (hih.value (dec_congr ⟨fun h => ⟨fun j hj hij => ?_, h.2⟩, fun h => ⟨fun j hj hij => h.1 j hj (by omega), h.2⟩⟩))
          rcases Nat.eq_or_lt_of_le hij with rfl | h5
          · omega
          · exact h.1 j hj h5
theorem e_impl_NetOk (K : Int) (E : List STie) (hE : E.length < 4611686018427387904) : Ev (fun k => impl_NetOk.f k K E) (dec (Ok K E)) := by
  simp only [impl_NetOk.f]
  by_cases h1 : K < 0
  · refine Ev.yes h1 (Ev.succ ?_)
    simp only [impl_NetOk.j0]
    refine Ev.yes (by simp) ?_
    rw [dec_false (fun h => by have := h.k0; omega)]
    exact Ev.pure _
  · refine Ev.no h1 (Ev.succ ?_)
    simp only [impl_NetOk.j0]
    by_cases h2 : K > 8
    · refine Ev.yes (by simpa using h2) ?_
      rw [dec_false (fun h => by have := h.k8; omega)]
      exact Ev.pure _
    · refine Ev.no (by simpa using h2) ((e_impl_NetOk_l0 K E (by omega) hE E.length 0 (by omega)).value (dec_congr ⟨fun h => ⟨by omega, by omega, fun t ht => ?_, h.2⟩, fun h => ⟨fun j hj _ => h.tie _ (List.getElem_mem hj), h.asc⟩⟩))
      obtain ⟨j, hj, rfl⟩ := List.getElem_of_mem ht
      exact h.1 j hj (Nat.zero_le _)
end Go.Proofs.Ytmfmeenfhdohcaa.E
end
section
namespace Go.Proofs.Ytmfmeenfhdohcaa.E
open Go.RowKit Go.Proofs.YtmfmeenfhdohcaaW.PrintWords Go.Proofs.YtmfmeenfhdohcaaW.PrintMore Go.Proofs.Ytmfmeenfhdohcaa.P Osier
set_option linter.unusedVariables false
theorem rdL {xs : List SLTie} {n : Nat} (h : n < xs.length) : rd_TLTie xs (n : Int) = xs[n] := by
  unfold rd_TLTie
  rw [Int.toNat_natCast, List.getD_eq_getElem?_getD, List.getElem?_eq_getElem h]; rfl
theorem set_take {α : Type} (xs : List α) {i : Nat} (h : i < xs.length) (v : α) : (xs.set i v).take (i + 1) = xs.take i ++ [v] := by
  rw [take_snoc _ (by simpa using h), List.take_set_of_le (Nat.le_refl _), List.getElem_set_self]
theorem take_all {α : Type} {xs ys : List α} (hl : xs.length = ys.length) (h : xs.take ys.length = ys.take ys.length) : xs = ys := by
  rw [List.take_of_length_le (by omega), List.take_of_length_le (Nat.le_refl _)] at h
  exact h
theorem e_laws_szNet (K : Int) (l : List SLTie) (h : l.length ≤ maxLen) : laws_szNet.f K l 1048576 = some (if l.length ≤ 1048576 then 1048576 - (l.length : Int) else -1) := by
  rw [maxLen_val] at h
  have hw : wrap64 (1048576 - (l.length : Int)) = 1048576 - (l.length : Int) := w64 (by omega) (by omega)
  unfold laws_szNet.f laws_szTieS.f
  rw [hw]
  by_cases hl : l.length ≤ 1048576
  · rw [if_neg (by omega), if_pos hl, Option.bind_some, if_neg (by omega)]
  · rw [if_pos (by omega), if_neg hl, Option.bind_some, if_pos (by omega)]
theorem e_laws_toTieS_l0 (l : List SLTie) (hl : l.length < 4611686018427387904) (d : Nat) : ∀ (i : Nat) (xs : List STie), i + d = l.length → xs.length = l.length → xs.take i = l.take i → Ev (fun k => laws_toTieS.l0 k l xs (i : Int)) l := by
  induction d with
  | zero =>
    intro i xs hi hx ht
    refine Ev.succ ?_
    simp only [laws_toTieS.l0]
    refine Ev.no (by omega) ?_
    obtain rfl : i = l.length := by omega
    rw [take_all hx ht]
    exact Ev.pure _
  | succ d ih =>
    intro i xs hi hx ht
    refine Ev.succ ?_
    simp only [laws_toTieS.l0, laws_toTie.f]
    refine Ev.yes (by omega) (Ev.yes (by omega) (Ev.bind (Ev.pure _) (Ev.yes (by omega) ?_)))
    rw [rdL (show i < l.length by omega), w64s (by omega), Int.toNat_natCast]
    refine ih (i + 1) _ (by omega) (by simpa using hx) ?_
    rw [set_take _ (by omega), take_snoc l (by omega), ht]
theorem e_laws_toTieS (l : List SLTie) (hl : l.length ≤ 1048576) : Ev (fun k => laws_toTieS.f k l) l := by
  simp only [laws_toTieS.f]
  refine Ev.yes (by omega) (Ev.yes (by simp; omega) ?_)
  exact e_laws_toTieS_l0 l (by omega) l.length 0 _ (by omega) (by simp) (by simp)
theorem e_laws_toNet (K : Int) (l : List SLTie) (hl : l.length ≤ 1048576) : Ev (fun k => laws_toNet.f k K l) (K, l) := by
  simp only [laws_toNet.f]
  exact Ev.bind (e_laws_toTieS l hl) (Ev.pure _)
theorem e_laws_eqTie (s t : STie) : laws_eqTie.f s.f0 s.f1 t.f0 t.f1 = some (dec (s = t)) := by
  unfold laws_eqTie.f
  by_cases h0 : s.f0 = t.f0
  · rw [if_pos h0]
    by_cases h1 : s.f1 = t.f1
    · rw [if_pos h1, dec_true (Tie.ext' h0 h1)]
    · rw [if_neg h1, dec_false (fun e => h1 (by rw [e]))]
  · rw [if_neg h0, dec_false (fun e => h0 (by rw [e]))]
theorem list_eq_iff {α : Type} {a b : List α} (hl : a.length = b.length) : a = b ↔ ∀ j (h : j < a.length), a[j] = b[j]'(hl ▸ h) := by
  constructor
  · rintro rfl j h; rfl
  · intro h
    exact List.ext_getElem hl (fun j h1 h2 => h j h1)
theorem e_laws_eqTieS_l0 (a b : List STie) (hl : a.length = b.length) (ha : a.length < 4611686018427387904) (d : Nat) : ∀ i, i + d = a.length → Ev (fun k => laws_eqTieS.l0 k a b (i : Int)) (dec (∀ j (h : j < a.length), i ≤ j → a[j] = b[j])) := by
  induction d with
  | zero =>
    intro i hi
    refine Ev.succ ?_
    simp only [laws_eqTieS.l0]
    refine Ev.no (by omega) ?_
    rw [dec_true (fun j h hij => by omega)]
    exact Ev.pure _
  | succ d ih =>
    intro i hi
    have hlt : i < a.length := by omega
    refine Ev.succ ?_
    simp only [laws_eqTieS.l0]
    refine Ev.yes (by omega) (Ev.yes (by omega) (Ev.yes (by omega) ?_))
    rw [rdT hlt, rdT (show i < b.length by omega), w64s (by omega)]
    refine Ev.bind (Ev.const (e_laws_eqTie _ _)) ?_
    by_cases h : a[i] = b[i]
    · refine Ev.yes (dec_true h) ((ih (i + 1) (by omega)).value (dec_congr ⟨fun h' j hj hij => ?_, fun h' j hj hij => h' j hj (by omega)⟩))
      rcases Nat.eq_or_lt_of_le hij with rfl | h5
      · exact h
      · exact h' j hj h5
    · refine Ev.no (by rw [dec_false h]; simp) ?_
      rw [dec_false (fun h' => h (h' i hlt (Nat.le_refl _)))]
      exact Ev.pure _
theorem e_laws_eqTieS (a b : List STie) (ha : a.length < 4611686018427387904) : Ev (fun k => laws_eqTieS.f k a b) (dec (a = b)) := by
  simp only [laws_eqTieS.f]
  by_cases hl : a.length = b.length
  · refine Ev.yes (by omega) ((e_laws_eqTieS_l0 a b hl ha a.length 0 (by omega)).value (dec_congr ?_))
    rw [list_eq_iff hl]
    exact ⟨fun h j hj => h j hj (Nat.zero_le _), fun h j hj _ => h j hj⟩
  · refine Ev.no (by omega) ?_
    rw [dec_false (fun e => hl (by rw [e]))]
    exact Ev.pure _
theorem e_laws_eqNet (K L : Int) (a b : List STie) (ha : a.length < 4611686018427387904) : Ev (fun k => laws_eqNet.f k K a L b) (dec (K = L ∧ a = b)) := by
  simp only [laws_eqNet.f]
  by_cases hK : K = L
  · refine Ev.yes hK (Ev.bind (e_laws_eqTieS a b ha) ?_)
    by_cases h : a = b
    · refine Ev.yes (dec_true h) ?_
      rw [dec_true ⟨hK, h⟩]; exact Ev.pure _
    · refine Ev.no (by rw [dec_false h]; simp) ?_
      rw [dec_false (fun e => h e.2)]; exact Ev.pure _
  · refine Ev.no hK ?_
    rw [dec_false (fun e => hK e.1)]; exact Ev.pure _
end Go.Proofs.Ytmfmeenfhdohcaa.E
end
section
namespace Go.Proofs.Ytmfmeenfhdohcaa.E
open Go.RowKit Go.Proofs.YtmfmeenfhdohcaaW.PrintWords Go.Proofs.YtmfmeenfhdohcaaW.PrintMore Go.Proofs.Ytmfmeenfhdohcaa.P Osier
set_option linter.unusedVariables false
theorem e_spec_l1Tie (a b : Int) : spec_l1Tie.f a b = some ((mkT a b).f0, (mkT a b).f1) := by
  unfold spec_l1Tie.f mkT
  split <;> rfl
theorem e_impl_tie (a b : Int) : impl_tie.f a b = some ((mkT a b).f0, (mkT a b).f1) := by
  unfold impl_tie.f mkT mn mx
  by_cases h : a < b
  · rw [if_pos h, if_pos h, if_neg (by omega)]
  · by_cases h' : b < a
    · rw [if_neg h, if_neg h, if_pos h']
    · have : a = b := by omega
      subst this
      rw [if_neg h, if_neg h]
theorem beq_tie (s t : STie) : (s.f0 == t.f0 && (s.f1 == t.f1)) = dec (s = t) := by
  by_cases h : s = t
  · subst h; rw [dec_true rfl]; simp
  · rw [dec_false h]
    by_cases h0 : s.f0 = t.f0
    · have h1 : ¬ s.f1 = t.f1 := fun h1 => h (Tie.ext' h0 h1)
      simp [h1]
    · simp [h0]
theorem mem_drop_step {E : List STie} {i : Nat} (hi : i < E.length) (t : STie) : t ∈ E.drop i ↔ E[i] = t ∨ t ∈ E.drop (i + 1) := by
  rw [drop_cons _ hi, List.mem_cons]
  exact or_congr eq_comm Iff.rfl
theorem e_spec_l1Has_l0 (K : Int) (E : List STie) (a b : Int) (hE : E.length < 4611686018427387904) (d : Nat) : ∀ i, i + d = E.length → Ev (fun k => spec_l1Has.l0 k a b (i : Int) K E) (dec (mkT a b ∈ E.drop i)) := by
  induction d with
  | zero =>
    intro i hi
    refine Ev.succ ?_
    simp only [spec_l1Has.l0]
    refine Ev.no (by omega) ?_
    rw [List.drop_eq_nil_of_le (by omega), dec_false (by simp)]
    exact Ev.pure _
  | succ d ih =>
    intro i hi
    have hlt : i < E.length := by omega
    refine Ev.succ ?_
    simp only [spec_l1Has.l0]
    rw [rdT hlt, w64s (by omega)]
    refine Ev.yes (by omega) (Ev.yes (by omega) (Ev.bind (Ev.const (e_spec_l1Tie a b)) ?_))
    dsimp only
    rw [beq_tie, dec_congr (mem_drop_step hlt _)]
    by_cases h : E[i] = mkT a b
    · refine Ev.yes (dec_true h) ?_
      rw [dec_true (.inl h)]
      exact Ev.pure _
    · refine Ev.no (by rw [dec_false h]; simp) ((ih (i + 1) (by omega)).value (dec_congr ⟨.inr, fun k => k.resolve_left h⟩))
theorem e_spec_l1Has (K : Int) (E : List STie) (a b : Int) (hE : E.length < 4611686018427387904) : Ev (fun k => spec_l1Has.f k K E a b) (dec (mkT a b ∈ E)) := by
  simp only [spec_l1Has.f]
  exact (e_spec_l1Has_l0 K E a b hE E.length 0 (by omega)).value (by simp)
theorem e_slices_Index_Tie_l0 (E : List STie) (t : STie) (hE : E.length < 4611686018427387904) (d : Nat) : ∀ i, i + d = E.length → ∃ r, Ev (fun k => slices_Index_Tie.l0 k E (E.length : Int) (i : Int) t.f0 t.f1) r ∧ (r ≥ 0 ↔ t ∈ E.drop i) := by
  induction d with
  | zero =>
    intro i hi
    refine ⟨-1, Ev.succ ?_, ?_⟩
    · simp only [slices_Index_Tie.l0]
      exact Ev.no (by omega) (Ev.pure _)
    · rw [List.drop_eq_nil_of_le (by omega)]; simp
  | succ d ih =>
    intro i hi
    have hlt : i < E.length := by omega
    by_cases h : t = E[i]
    · refine ⟨(i : Int), Ev.succ ?_, ?_⟩
      · simp only [slices_Index_Tie.l0]
        rw [rdT hlt, beq_tie]
        exact Ev.yes (by omega) (Ev.yes (by omega) (Ev.yes (by omega) (Ev.yes (dec_true h) (Ev.pure _))))
      · rw [mem_drop_step hlt]
        exact ⟨fun _ => .inl h.symm, fun _ => by omega⟩
    · obtain ⟨r, hr, hr'⟩ := ih (i + 1) (by omega)
      refine ⟨r, Ev.succ ?_, ?_⟩
      · simp only [slices_Index_Tie.l0]
        rw [rdT hlt, beq_tie, w64s (by omega)]
        exact Ev.yes (by omega) (Ev.yes (by omega) (Ev.yes (by omega) (Ev.no (by rw [dec_false h]; simp) hr)))
      · rw [mem_drop_step hlt, hr']
        exact ⟨.inr, fun k => k.resolve_left (fun e => h e.symm)⟩
theorem e_slices_Contains_Tie (E : List STie) (t : STie) (hE : E.length < 4611686018427387904) : Ev (fun k => slices_Contains_Tie.f k E t.f0 t.f1) (dec (t ∈ E)) := by
  simp only [slices_Contains_Tie.f, slices_Index_Tie.f]
  obtain ⟨r, hr, hr'⟩ := e_slices_Index_Tie_l0 E t hE E.length 0 (by omega)
  refine Ev.bind hr ((Ev.pure _).value ?_)
  rw [dec_decide]
  exact dec_congr (by simpa using hr')
theorem e_impl_Net_has (K : Int) (E : List STie) (a b : Int) (hE : E.length < 4611686018427387904) : Ev (fun k => impl_Net_has.f k K E a b) (dec (mkT a b ∈ E)) := by
  simp only [impl_Net_has.f]
  exact Ev.bind (Ev.const (e_impl_tie a b)) (Ev.bind (e_slices_Contains_Tie E (mkT a b) hE) (Ev.pure _))
theorem e_spec_l1Knot (K : Int) (E : List STie) (a : Int) : Ev (fun k => spec_l1Knot.f k K E a) (dec (Ok K E ∧ 0 ≤ a ∧ a < K)) := by
  simp only [spec_l1Knot.f]
  refine Ev.bind (e_spec_NetOk K E) ?_
  by_cases h : Ok K E
  · have := h.k0
    have := h.k8
    refine Ev.yes (dec_true h) ?_
    rw [w64 (x := K - 1) (by omega) (by omega)]
    exact Ev.bind (Ev.const (e_spec_l6In _ _ _)) ((Ev.pure _).value (dec_congr ⟨fun k => ⟨h, k.1, by omega⟩, fun k => ⟨k.2.1, by omega⟩⟩))
  · refine Ev.no (by rw [dec_false h]; simp) ?_
    rw [dec_false (fun k => h k.1)]; exact Ev.pure _
theorem e_impl_Net_knot (K : Int) (E : List STie) (a : Int) : impl_Net_knot.f K E a = some (dec (0 ≤ a ∧ a < K)) := by
  unfold impl_Net_knot.f
  by_cases h : a ≥ 0
  · rw [if_pos h, dec_decide]
    exact congrArg some (dec_congr ⟨fun k => ⟨h, k⟩, fun k => k.2⟩)
  · rw [if_neg h, dec_false (by omega)]
end Go.Proofs.Ytmfmeenfhdohcaa.E
end
section
namespace Go.Proofs.Ytmfmeenfhdohcaa.E
open Go.RowKit Go.Proofs.YtmfmeenfhdohcaaW.PrintWords Go.Proofs.YtmfmeenfhdohcaaW.PrintMore Go.Proofs.Ytmfmeenfhdohcaa.P Osier
set_option linter.unusedVariables false
theorem mem_drop_int {l : List Int} {i : Nat} (hi : i < l.length) (t : Int) : t ∈ l.drop i ↔ l[i] = t ∨ t ∈ l.drop (i + 1) := by
  rw [drop_cons _ hi, List.mem_cons]
  exact or_congr eq_comm Iff.rfl
theorem e_spec_l2Has_l0 (l : List Int) (x : Int) (hl : l.length < 4611686018427387904) (d : Nat) : ∀ i, i + d = l.length → Ev (fun k => spec_l2Has.l0 k l x (i : Int)) (dec (x ∈ l.drop i)) := by
  induction d with
  | zero =>
    intro i hi
    refine Ev.succ ?_
    simp only [spec_l2Has.l0]
    refine Ev.no (by omega) ?_
    rw [List.drop_eq_nil_of_le (by omega), dec_false (by simp)]
    exact Ev.pure _
  | succ d ih =>
    intro i hi
    have hlt : i < l.length := by omega
    refine Ev.succ ?_
    simp only [spec_l2Has.l0]
    rw [rdI hlt, w64s (by omega), dec_congr (mem_drop_int hlt _)]
    refine Ev.yes (by omega) (Ev.yes (by omega) ?_)
    by_cases h : l[i] = x
    · refine Ev.yes h ?_
      rw [dec_true (.inl h)]; exact Ev.pure _
    · exact Ev.no h ((ih (i + 1) (by omega)).value (dec_congr ⟨.inr, fun k => k.resolve_left h⟩))
theorem e_spec_l2Has (l : List Int) (x : Int) (hl : l.length < 4611686018427387904) : Ev (fun k => spec_l2Has.f k l x) (dec (x ∈ l)) := by
  simp only [spec_l2Has.f]
  exact (e_spec_l2Has_l0 l x hl l.length 0 (by omega)).value (by simp)
theorem e_slices_Index_int_l0 (l : List Int) (x : Int) (hl : l.length < 4611686018427387904) (d : Nat) : ∀ i, i + d = l.length → ∃ r, Ev (fun k => slices_Index_int.l0 k l x (l.length : Int) (i : Int)) r ∧ (r ≥ 0 ↔ x ∈ l.drop i) := by
  induction d with
  | zero =>
    intro i hi
    refine ⟨-1, Ev.succ ?_, ?_⟩
    · simp only [slices_Index_int.l0]
      exact Ev.no (by omega) (Ev.pure _)
    · rw [List.drop_eq_nil_of_le (by omega)]; simp
  | succ d ih =>
    intro i hi
    have hlt : i < l.length := by omega
    by_cases h : x = l[i]
    · refine ⟨(i : Int), Ev.succ ?_, ?_⟩
      · simp only [slices_Index_int.l0]
        rw [rdI hlt]
        exact Ev.yes (by omega) (Ev.yes (by omega) (Ev.yes (by omega) (Ev.yes h (Ev.pure _))))
      · rw [mem_drop_int hlt]
        exact ⟨fun _ => .inl h.symm, fun _ => by omega⟩
    · obtain ⟨r, hr, hr'⟩ := ih (i + 1) (by omega)
      refine ⟨r, Ev.succ ?_, ?_⟩
      · simp only [slices_Index_int.l0]
        rw [rdI hlt, w64s (by omega)]
        exact Ev.yes (by omega) (Ev.yes (by omega) (Ev.yes (by omega) (Ev.no h hr)))
      · rw [mem_drop_int hlt, hr']
        exact ⟨.inr, fun k => k.resolve_left (fun e => h e.symm)⟩
theorem e_slices_Contains_int (l : List Int) (x : Int) (hl : l.length < 4611686018427387904) : Ev (fun k => slices_Contains_int.f k l x) (dec (x ∈ l)) := by
  simp only [slices_Contains_int.f, slices_Index_int.f]
  obtain ⟨r, hr, hr'⟩ := e_slices_Index_int_l0 l x hl l.length 0 (by omega)
  refine Ev.bind hr ((Ev.pure _).value ?_)
  rw [dec_decide]
  exact dec_congr (by simpa using hr')
theorem e_laws_eqIntS_l0 (a b : List Int) (hl : a.length = b.length) (ha : a.length < 4611686018427387904) (d : Nat) : ∀ i, i + d = a.length → Ev (fun k => laws_eqIntS.l0 k a b (i : Int)) (dec (∀ j (h : j < a.length), i ≤ j → a[j] = b[j])) := by
  induction d with
  | zero =>
    intro i hi
    refine Ev.succ ?_
    simp only [laws_eqIntS.l0]
    refine Ev.no (by omega) ?_
    rw [dec_true (fun j h hij => by omega)]
    exact Ev.pure _
  | succ d ih =>
    intro i hi
    have hlt : i < a.length := by omega
    refine Ev.succ ?_
    simp only [laws_eqIntS.l0]
    refine Ev.yes (by omega) (Ev.yes (by omega) (Ev.yes (by omega) ?_))
    rw [rdI hlt, rdI (show i < b.length by omega), w64s (by omega)]
    by_cases h : a[i] = b[i]
    · refine Ev.yes h ((ih (i + 1) (by omega)).value (dec_congr ⟨fun h' j hj hij => ?_, fun h' j hj hij => h' j hj (by omega)⟩))
      rcases Nat.eq_or_lt_of_le hij with rfl | h5
      · exact h
      · exact h' j hj h5
    · refine Ev.no h ?_
      rw [dec_false (fun h' => h (h' i hlt (Nat.le_refl _)))]
      exact Ev.pure _
theorem e_laws_eqIntS (a b : List Int) (ha : a.length < 4611686018427387904) : Ev (fun k => laws_eqIntS.f k a b) (dec (a = b)) := by
  simp only [laws_eqIntS.f]
  by_cases hl : a.length = b.length
  · refine Ev.yes (by omega) ((e_laws_eqIntS_l0 a b hl ha a.length 0 (by omega)).value (dec_congr ?_))
    rw [list_eq_iff hl]
    exact ⟨fun h j hj => h j hj (Nat.zero_le _), fun h j hj _ => h j hj⟩
  · refine Ev.no (by omega) ?_
    rw [dec_false (fun e => hl (by rw [e]))]
    exact Ev.pure _
end Go.Proofs.Ytmfmeenfhdohcaa.E
end
section
namespace Go.Proofs.Ytmfmeenfhdohcaa.E
open Go.RowKit Go.Proofs.YtmfmeenfhdohcaaW.PrintWords Go.Proofs.YtmfmeenfhdohcaaW.PrintMore Go.Proofs.Ytmfmeenfhdohcaa.P Osier
set_option linter.unusedVariables false
theorem knots_len {K : Int} (h : 0 ≤ K) : ((knots K).length : Int) = K := by simp [knots]; omega
theorem knots_get {K : Int} {j : Nat} (h : j < (knots K).length) : (knots K)[j] = (j : Int) := by simp [knots]
theorem nexts_snoc (E : List STie) (l : List Int) (a x : Int) : nexts E (l ++ [x]) a = nexts E l a ++ (if mkT a x ∈ E then [x] else []) := by
  unfold nexts
  rw [List.filter_append]
  congr 1
  by_cases h : mkT a x ∈ E <;> simp [h]
theorem e_spec_l2Next_l0 {K : Int} {E : List STie} (hE : Ok K E) (a : Int) (d : Nat) : ∀ i : Nat, (i : Int) + d = K → Ev (fun k => spec_l2Next.l0 k a (nexts E ((List.range i).map Int.ofNat) a) (i : Int) K E) (nexts E (knots K) a) := by
  have h8 := hE.k8
  have hl := hE.len
  induction d with
  | zero =>
    intro i hi
    refine Ev.succ ?_
    simp only [spec_l2Next.l0]
    refine Ev.no (by omega) ?_
    have : knots K = (List.range i).map Int.ofNat := by unfold knots; congr 2; omega
    rw [this]; exact Ev.pure _
  | succ d ih =>
    intro i hi
    refine Ev.succ ?_
    simp only [spec_l2Next.l0]
    have hih := ih (i + 1) (by omega)
    have e : (List.range (i + 1)).map Int.ofNat = (List.range i).map Int.ofNat ++ [(i : Int)] := by simp [List.range_succ]
    rw [e, nexts_snoc] at hih
    have hlen : (nexts E ((List.range i).map Int.ofNat) a).length ≤ i := by
      have := List.length_filter_le (fun x => decide (mkT a x ∈ E)) ((List.range i).map Int.ofNat)
      simpa [nexts] using this
    rw [w64s (by omega)]
    refine Ev.yes (by omega) (Ev.bind (e_spec_l1Has K E a (i : Int) (by omega)) ?_)
    by_cases h : mkT a (i : Int) ∈ E
    · rw [if_pos h] at hih
      exact Ev.yes (dec_true h) (Ev.yes (by omega) hih)
    · rw [if_neg h, List.append_nil] at hih
      exact Ev.no (by rw [dec_false h]; simp) hih
theorem e_spec_l2Next {K : Int} {E : List STie} (hE : Ok K E) (a : Int) : Ev (fun k => spec_l2Next.f k K E a) (nexts E (knots K) a) := by
  simp only [spec_l2Next.f]
  exact e_spec_l2Next_l0 hE a K.toNat 0 (by have := hE.k0; omega)
end Go.Proofs.Ytmfmeenfhdohcaa.E
end
section
namespace Go.Proofs.Ytmfmeenfhdohcaa.E
open Go.RowKit Go.Proofs.YtmfmeenfhdohcaaW.PrintWords Go.Proofs.YtmfmeenfhdohcaaW.PrintMore Go.Proofs.Ytmfmeenfhdohcaa.P Osier
set_option linter.unusedVariables false
theorem lcmp_lt (x : List Int) : ∀ y, lcmp x y < 0 ↔ lex x y := by
  induction x with
  | nil => intro y; cases y <;> simp [lcmp, lex]
  | cons a x ih =>
    intro y
    cases y with
    | nil => simp [lcmp, lex]
    | cons b y =>
      simp only [lcmp, lex]
      by_cases h : a < b
      · simp [h]
      · by_cases h' : a > b
        · rw [if_neg h, if_pos h']; omega
        · rw [if_neg h, if_neg h', ih y]
          have e : a = b := by omega
          simp [e]
theorem wcmp_lt (x y : List Int) : wcmp x y < 0 ↔ wlt x y := by
  unfold wcmp wlt
  by_cases h : x.length < y.length
  · simp [h]
  · by_cases h' : x.length > y.length
    · rw [if_neg h, if_pos h']
      have : ¬ x.length = y.length := by omega
      simp [h, this]
    · rw [if_neg h, if_neg h', lcmp_lt]
      have : x.length = y.length := by omega
      simp [this]
theorem e_slices_Clone_int {l : List Int} (hl : l.length < 1099511627776) : slices_Clone_int.f l = some l := by
  unfold slices_Clone_int.f
  simp only [Option.bind_some]
  rw [if_pos (by simp; omega)]; rfl
theorem flatMap_le {α β : Type} (l : List α) (f : α → List β) (m : Nat) (h : ∀ a ∈ l, (f a).length ≤ m) : (l.flatMap f).length ≤ l.length * m := by
  induction l with
  | nil => simp
  | cons a l ih =>
    have h1 := h a (by simp)
    have h2 := ih (fun b hb => h b (by simp [hb]))
    rw [List.flatMap_cons, List.length_append, List.length_cons, Nat.add_mul]
    omega
theorem waysF_len (E : List STie) (ks : List Int) (hk : ks.length ≤ 8) (tg : Int) (f : Nat) : ∀ way, (waysF E ks tg f way).length ≤ 8 ^ f := by
  induction f with
  | zero => intro way; simp [waysF]
  | succ f ih =>
    intro way
    rw [waysF]
    split
    · have : 0 < 8 ^ (f + 1) := Nat.pow_pos (by omega)
      simp; omega
    · refine Nat.le_trans (flatMap_le _ _ (8 ^ f) (fun x _ => ih _)) ?_
      have h1 : ((nexts E ks ((way.getLast?).getD 0)).filter (fun x => decide (x ∉ way))).length ≤ 8 := Nat.le_trans (List.length_filter_le _ _) (Nat.le_trans (List.length_filter_le _ _) hk)
      have h2 : 8 ^ (f + 1) = 8 ^ f * 8 := Nat.pow_succ 8 f
      have h3 := Nat.mul_le_mul_right (8 ^ f) h1
      omega
theorem e_impl_Net_ways_l0 {K : Int} {E : List STie} (hE : Ok K E) (tg : Int) (f : Nat) (hf9 : f ≤ 9)
    (IH : ∀ way out, Pth K E way → K < f + way.length → out.length + 8 ^ f ≤ 1000000000000 → Ev (fun k => impl_Net_ways.f k K E way tg out) (out ++ waysF E (knots K) tg f way))
    (way : List Int) (hw : Pth K E way) (hf : K < f + 1 + way.length) (last : Int) (hl : (way.getLast?).getD 0 = last) (d : Nat) :
    ∀ (i : Nat) (out : List (List Int)), (i : Int) + d = K → out.length + d * 8 ^ f ≤ 1000000000000 →
      Ev (fun k => impl_Net_ways.l0 k way tg out last K (i : Int) K E) (out ++ ((((knots K).drop i).filter (fun x => decide (mkT last x ∈ E))).filter (fun x => decide (x ∉ way))).flatMap (fun x => waysF E (knots K) tg f (way ++ [x]))) := by
  have hlen := hE.len
  have hk8 := hE.k8
  have hwl := hw.length_le
  have hkl := knots_len hE.k0
  have hpow : (8 : Nat) ^ f ≤ 134217728 := Nat.le_trans (Nat.pow_le_pow_right (by omega) hf9) (by decide)
  induction d with
  | zero =>
    intro i out hi ho
    refine Ev.succ ?_
    simp only [impl_Net_ways.l0]
    refine Ev.no (by omega) ?_
    rw [List.drop_eq_nil_of_le (by omega)]
    simpa using Ev.pure _
  | succ d ih =>
    intro i out hi ho
    have hlt : i < (knots K).length := by omega
    have hmul : (d + 1) * 8 ^ f = d * 8 ^ f + 8 ^ f := Nat.succ_mul d (8 ^ f)
    have hpos : 0 < (8 : Nat) ^ f := Nat.pow_pos (by omega)
    have hd1 : out.length + d * 8 ^ f ≤ 1000000000000 := Nat.le_trans (by rw [hmul]; exact Nat.le_add_right _ _ |> Nat.add_le_add_left (k := out.length)) ho
    rw [drop_cons _ hlt, knots_get hlt]
    refine Ev.succ ?_
    simp only [impl_Net_ways.l0]
    refine Ev.yes (by omega) (Ev.bind (e_impl_Net_has K E last (i : Int) (by omega)) ?_)
    by_cases h1 : mkT last (i : Int) ∈ E
    · rw [dec_true h1, List.filter_cons, if_pos (by simpa using h1)]
      refine Ev.yes (by trivial) (Ev.bind (e_slices_Contains_int way (i : Int) (by omega)) ?_)
      by_cases h2 : (i : Int) ∈ way
      · rw [dec_true h2, List.filter_cons, if_neg (by simpa using h2)]
        refine Ev.succ ?_
        simp only [impl_Net_ways.j1]
        rw [w64s (by omega)]
        exact Ev.no (by simp) (ih (i + 1) out (by omega) hd1)
      · rw [dec_false h2, List.filter_cons, if_pos (by simpa using h2), List.flatMap_cons, ← List.append_assoc]
        refine Ev.succ ?_
        simp only [impl_Net_ways.j1]
        have hp : Pth K E (way ++ [(i : Int)]) := (Pth.snoc_iff hE hw).2 ⟨by rw [hl]; exact hE.ed.2 h1, h2⟩
        have hwl2 := waysF_len E (knots K) (by omega) tg f (way ++ [(i : Int)])
        rw [w64s (by omega)]
        refine Ev.yes (by trivial) (Ev.bind (Ev.const (e_slices_Clone_int (by omega))) (Ev.bind (Ev.pure _) (Ev.yes (by simp; omega) (Ev.bind (IH (way ++ [(i : Int)]) out hp (by simp; omega) (by omega)) ?_))))
        exact ih (i + 1) _ (by omega) (by rw [List.length_append]; omega)
    · rw [dec_false h1, List.filter_cons, if_neg (by simpa using h1)]
      refine Ev.no (by simp) (Ev.succ ?_)
      simp only [impl_Net_ways.j1]
      rw [w64s (by omega)]
      exact Ev.no (by simp) (ih (i + 1) out (by omega) hd1)
theorem e_impl_Net_ways {K : Int} {E : List STie} (hE : Ok K E) (tg : Int) (f : Nat) (hf9 : f ≤ 9) : ∀ (way : List Int) (out : List (List Int)), Pth K E way → K < f + way.length → out.length + 8 ^ f ≤ 1000000000000 → Ev (fun k => impl_Net_ways.f k K E way tg out) (out ++ waysF E (knots K) tg f way) := by
  induction f with
  | zero =>
    intro way out hw hf ho
    have := hw.length_le
    omega
  | succ f ih =>
    intro way out hw hf ho
    have hk8 := hE.k8
    have hk0 := hE.k0
    have hwl := hw.length_le
    have h0 : 0 < way.length := List.length_pos_iff.2 hw.ne
    have hpow : (8 : Nat) ^ (f + 1) = 8 ^ f * 8 := Nat.pow_succ 8 f
    have e0 : wrap64 ((way.length : Int) - 1) = ((way.length - 1 : Nat) : Int) := w64p h0 (by omega)
    have hlast : way.getLast? = some (way[way.length - 1]'(by omega)) := by rw [List.getLast?_eq_getElem?, List.getElem?_eq_getElem (by omega)]
    refine Ev.succ ?_
    simp only [impl_Net_ways.f]
    rw [e0, rdI (show way.length - 1 < way.length by omega)]
    refine Ev.yes (by omega) (Ev.yes (by omega) ?_)
    rw [waysF]
    by_cases h : way[way.length - 1]'(by omega) = tg
    · rw [if_pos (by rw [hlast, h])]
      exact Ev.yes h (Ev.bind (Ev.const (e_slices_Clone_int (by omega))) (Ev.yes (by omega) (Ev.pure _)))
    · rw [if_neg (by rw [hlast]; simpa using h)]
      refine Ev.no h ?_
      have := e_impl_Net_ways_l0 hE tg f (by omega) (ih (by omega)) way hw (by omega) (way[way.length - 1]'(by omega)) (by rw [hlast]; rfl) K.toNat 0 out (by omega) (by
        have h1 : K.toNat * 8 ^ f ≤ 8 * 8 ^ f := Nat.mul_le_mul_right _ (by omega)
        omega)
      rw [List.drop_zero] at this
      have e1 : ((way.getLast?).getD 0) = way[way.length - 1]'(by omega) := by rw [hlast]; rfl
      rw [e1]
      exact this
theorem allW_row {K : Int} {E : List STie} (hE : Ok K E) {a b : Int} (ha : 0 ≤ a ∧ a < K) {x : List Int} (hx : x ∈ allW K E a b) : x.length ≤ 8 := by
  have := ((mem_allW hE ha x).1 hx).1.length_le
  have := hE.k8
  omega
theorem e_impl_Net_all {K : Int} {E : List STie} (hE : Ok K E) {a b : Int} (ha : 0 ≤ a ∧ a < K) : Ev (fun k => impl_Net_all.f k K E a b) (allW K E a b) ∧ (allW K E a b).length ≤ 134217728 := by
  have hk8 := hE.k8
  have hkl := knots_len hE.k0
  have hwl := waysF_len E (knots K) (by omega) b 9 [a]
  have h8 : (8 : Nat) ^ 9 = 134217728 := by decide
  have hp := List.mergeSort_perm (waysF E (knots K) b 9 [a]) (fun x y => !decide (wcmp y x < 0))
  have hs := List.pairwise_mergeSort (le := fun x y : List Int => !decide (wcmp y x < 0)) (fun x y z h1 h2 => by
    have n1 := wcmp_neg x y
    have n2 := wcmp_neg y z
    have n3 := wcmp_neg x z
    have := wcmp_le x y z
    simp at *
    omega) (fun x y => by
    have n1 := wcmp_neg x y
    simp
    omega) (waysF E (knots K) b 9 [a])
  have hrow : ∀ x ∈ waysF E (knots K) b 9 [a], x.length < 4611686018427387904 := by
    intro x hx
    have h1 := ((mem_waysF hE 9 [a] (way_one ha) (by simp; omega) x).1 hx).2.1.length_le
    omega
  have heq : (waysF E (knots K) b 9 [a]).mergeSort (fun x y => !decide (wcmp y x < 0)) = allW K E a b := by
    refine sorted_allW hE ha (f := 9) (by omega) hp (List.Pairwise.imp (fun {x y} h => ?_) hs)
    rw [← wcmp_lt]
    simpa using h
  refine ⟨?_, by rw [← heq, List.length_mergeSort]; omega⟩
  simp only [impl_Net_all.f]
  refine Ev.bind (e_impl_Net_ways hE b 9 (by omega) [a] [] (way_one ha) (by simp; omega) (by simp [h8])) (Ev.bind (a := allW K E a b) ?_ (Ev.pure _))
  rw [List.nil_append]
  simp only [slices_SortFunc_Row.f]
  rw [if_pos ⟨by omega, hrow⟩, heq]
  exact Ev.pure _
def Two (K : Int) (E : List STie) (a b : Int) : Prop := Ok K E ∧ (0 ≤ a ∧ a < K) ∧ (0 ≤ b ∧ b < K)
noncomputable def allV (K : Int) (E : List STie) (a b : Int) : List (List Int) := if dec (Two K E a b) = true then allW K E a b else []
theorem allV_yes {K : Int} {E : List STie} {a b : Int} (h : Two K E a b) : allV K E a b = allW K E a b := by unfold allV; rw [if_pos (dec_true h)]
theorem allV_none {K : Int} {E : List STie} {a b : Int} (h : ¬ Two K E a b) : allV K E a b = [] := by unfold allV; rw [if_neg (by rw [dec_false h]; simp)]
theorem allV_len (K : Int) (E : List STie) (a b : Int) : (allV K E a b).length ≤ 134217728 := by
  by_cases h : Two K E a b
  · rw [allV_yes h]; exact (e_impl_Net_all h.1 h.2.1).2
  · rw [allV_none h]; simp
theorem e_impl_WayAll (K : Int) (E : List STie) (a b : Int) (hl : E.length < 4611686018427387904) : Ev (fun k => impl_WayAll.f k K E a b) (allV K E a b) := by
  simp only [impl_WayAll.f]
  refine Ev.bind (e_impl_NetOk K E hl) ?_
  by_cases h0 : Ok K E
  · refine Ev.yes (dec_true h0) (Ev.bind (Ev.const (e_impl_Net_knot K E a)) ?_)
    by_cases h1 : 0 ≤ a ∧ a < K
    · refine Ev.yes (dec_true h1) (Ev.bind (Ev.const (e_impl_Net_knot K E b)) ?_)
      by_cases h2 : 0 ≤ b ∧ b < K
      · rw [allV_yes ⟨h0, h1, h2⟩]
        exact Ev.yes (dec_true h2) (Ev.bind (e_impl_Net_all h0 h1).1 (Ev.pure _))
      · rw [allV_none (fun k => h2 k.2.2)]
        exact Ev.no (by rw [dec_false h2]; simp) (Ev.pure _)
    · rw [allV_none (fun k => h1 k.2.1)]
      exact Ev.no (by rw [dec_false h1]; simp) (Ev.pure _)
  · rw [allV_none (fun k => h0 k.1)]
    exact Ev.no (by rw [dec_false h0]; simp) (Ev.pure _)
theorem rdW {xs : List (List Int)} {n : Nat} (h : n < xs.length) : rd_LI xs (n : Int) = xs[n] := by
  unfold rd_LI
  rw [Int.toNat_natCast, List.getD_eq_getElem?_getD, List.getElem?_eq_getElem h]; rfl
end Go.Proofs.Ytmfmeenfhdohcaa.E
end
section
namespace Go.Proofs.Ytmfmeenfhdohcaa.E
open Go.RowKit Go.Proofs.YtmfmeenfhdohcaaW.PrintWords Go.Proofs.YtmfmeenfhdohcaaW.PrintMore Go.Proofs.Ytmfmeenfhdohcaa.P Osier
set_option linter.unusedVariables false
def mk1 (j : Nat) : STie := ⟨1 + 2 * (j : Int), 2 + 2 * (j : Int)⟩
def marks (n : Nat) : List STie := (List.range n).map mk1
theorem marks_succ (n : Nat) : marks (n + 1) = marks n ++ [mk1 n] := by simp [marks, List.range_succ]
theorem e_laws_markTieS_l0 (n : Nat) (hn : n < 1099511627776) (d : Nat) : ∀ (i : Nat) (xs : List STie), i + d = n → xs.length = n → xs.take i = marks i → Ev (fun k => laws_markTieS.l0 k xs (1 + 2 * (i : Int)) (i : Int)) (1 + 2 * (n : Int), marks n) := by
  induction d with
  | zero =>
    intro i xs hi hx ht
    refine Ev.succ ?_
    simp only [laws_markTieS.l0]
    refine Ev.no (by omega) ?_
    obtain rfl : i = n := by omega
    have : xs = marks i := by rw [← ht, List.take_of_length_le (by omega)]
    rw [this]
    exact Ev.pure _
  | succ d ih =>
    intro i xs hi hx ht
    have hlt : i < xs.length := by omega
    refine Ev.succ ?_
    simp only [laws_markTieS.l0]
    refine Ev.yes (by omega) (Ev.yes (by omega) (Ev.bind (Ev.pure _) ?_))
    rw [rdT (show i < (xs.set ((i : Int).toNat) _).length by simpa using hlt)]
    simp only [Int.toNat_natCast, List.getElem_set_self, List.set_set]
    rw [w64 (x := 1 + 2 * (i : Int) + 1) (by omega) (by omega), w64s (by omega), w64 (by omega) (by omega)]
    have e1 : (1 + 2 * (i : Int) + 1 + 1) = 1 + 2 * ((i + 1 : Nat) : Int) := by omega
    have e2 : (⟨1 + 2 * (i : Int), 1 + 2 * (i : Int) + 1⟩ : STie) = mk1 i := by unfold mk1; exact Tie.ext' rfl (by show (1 + 2 * (i : Int) + 1 : Int) = 2 + 2 * (i : Int); omega)
    rw [e1, e2]
    refine ih (i + 1) _ (by omega) (by simpa using hx) ?_
    rw [set_take _ hlt, ht, marks_succ]
theorem e_laws_markTieS (xs : List STie) (hx : xs.length < 1099511627776) : Ev (fun k => laws_markTieS.f k xs 1) (1 + 2 * (xs.length : Int), marks xs.length) := by
  simp only [laws_markTieS.f]
  exact e_laws_markTieS_l0 xs.length hx xs.length 0 xs (by omega) rfl (by simp [marks])
theorem e_laws_markNet (K : Int) (xs : List STie) (hx : xs.length < 1099511627776) : Ev (fun k => laws_markNet.f k K xs 1) (1 + 2 * (xs.length : Int), marks xs.length) := by
  simp only [laws_markNet.f]
  exact Ev.bind (e_laws_markTieS xs hx) (Ev.pure _)
end Go.Proofs.Ytmfmeenfhdohcaa.E
end
section
namespace Go.Proofs.Ytmfmeenfhdohcaa.E
open Go.RowKit Go.Proofs.YtmfmeenfhdohcaaW.PrintWords Go.Proofs.YtmfmeenfhdohcaaW.PrintMore Go.Proofs.Ytmfmeenfhdohcaa.P Osier
set_option linter.unusedVariables false
theorem onF_len (E : List STie) (ks : List Int) (hk : ks.length ≤ 8) (tg : Int) (size f : Nat) : ∀ way, (onF E ks tg size f way).length ≤ 8 ^ f := by
  induction f with
  | zero => intro way; simp [onF]
  | succ f ih =>
    intro way
    have hp : 0 < 8 ^ (f + 1) := Nat.pow_pos (by omega)
    rw [onF]
    split
    · split
      · simp; omega
      · simp
    · split
      · simp
      · refine Nat.le_trans (flatMap_le _ _ (8 ^ f) (fun x _ => ih _)) ?_
        have h1 : ((nexts E ks ((way.getLast?).getD 0)).filter (fun x => decide (x ∉ way))).length ≤ 8 := Nat.le_trans (List.length_filter_le _ _) (Nat.le_trans (List.length_filter_le _ _) hk)
        have h2 : 8 ^ (f + 1) = 8 ^ f * 8 := Nat.pow_succ 8 f
        have h3 := Nat.mul_le_mul_right (8 ^ f) h1
        omega
theorem e_spec_l2On_l0 {K : Int} {E : List STie} (hE : Ok K E) (tg : Int) (size f : Nat) (hf9 : f ≤ 9)
    (IH : ∀ way out, Pth K E way → size < f + way.length → out.length + 8 ^ f ≤ 1000000000000 → Ev (fun k => spec_l2On.f k K E way tg (size : Int) out) (out ++ onF E (knots K) tg size f way))
    (way : List Int) (hw : Pth K E way) (hf : size < f + 1 + way.length) (last : Int) (hl : (way.getLast?).getD 0 = last) (L : List Int) (hL : ∀ x ∈ L, Ed E last x) (hL8 : L.length ≤ 8) (d : Nat) :
    ∀ (i : Nat) (out : List (List Int)), i + d = L.length → out.length + d * 8 ^ f ≤ 1000000000000 →
      Ev (fun k => spec_l2On.l0 k way tg (size : Int) out L (i : Int) K E) (out ++ ((L.drop i).filter (fun x => decide (x ∉ way))).flatMap (fun x => onF E (knots K) tg size f (way ++ [x]))) := by
  have hk8 := hE.k8
  have hwl := hw.length_le
  have hkl := knots_len hE.k0
  have hpow : (8 : Nat) ^ f ≤ 134217728 := Nat.le_trans (Nat.pow_le_pow_right (by omega) hf9) (by decide)
  induction d with
  | zero =>
    intro i out hi ho
    refine Ev.succ ?_
    simp only [spec_l2On.l0]
    refine Ev.no (by omega) ?_
    rw [List.drop_eq_nil_of_le (by omega)]
    simpa using Ev.pure _
  | succ d ih =>
    intro i out hi ho
    have hlt : i < L.length := by omega
    have hmul : (d + 1) * 8 ^ f = d * 8 ^ f + 8 ^ f := Nat.succ_mul d (8 ^ f)
    have hd1 : out.length + d * 8 ^ f ≤ 1000000000000 := Nat.le_trans (by rw [hmul]; exact Nat.le_add_right _ _ |> Nat.add_le_add_left (k := out.length)) ho
    refine Ev.succ ?_
    simp only [spec_l2On.l0]
    rw [drop_cons _ hlt, rdI hlt, w64s (by omega)]
    refine Ev.yes (by omega) (Ev.yes (by omega) (Ev.bind (e_spec_l2Has way L[i] (by omega)) ?_))
    by_cases h2 : L[i] ∈ way
    · rw [List.filter_cons, if_neg (by simpa using h2)]
      exact Ev.yes (dec_true h2) (ih (i + 1) out (by omega) hd1)
    · rw [List.filter_cons, if_pos (by simpa using h2), List.flatMap_cons, ← List.append_assoc]
      have hp : Pth K E (way ++ [L[i]]) := (Pth.snoc_iff hE hw).2 ⟨by rw [hl]; exact hL _ (List.getElem_mem hlt), h2⟩
      have hwl2 := onF_len E (knots K) (by omega) tg size f (way ++ [L[i]])
      refine Ev.no (by rw [dec_false h2]; simp) (Ev.bind (Ev.pure _) (Ev.yes (by simp; omega) (Ev.bind (Ev.pure _) (Ev.bind (Ev.pure _) (Ev.yes (by simp; omega) (Ev.bind (IH (way ++ [L[i]]) out hp (by simp; omega) (by omega)) ?_))))))
      exact ih (i + 1) _ (by omega) (by rw [List.length_append]; omega)
theorem e_spec_l2On {K : Int} {E : List STie} (hE : Ok K E) (tg : Int) (size f : Nat) (hf9 : f ≤ 9) : ∀ (way : List Int) (out : List (List Int)), Pth K E way → size < f + way.length → out.length + 8 ^ f ≤ 1000000000000 → Ev (fun k => spec_l2On.f k K E way tg (size : Int) out) (out ++ onF E (knots K) tg size f way) := by
  induction f with
  | zero =>
    intro way out hw hf ho
    have hk8 := hE.k8
    have hwl := hw.length_le
    have h0 : 0 < way.length := List.length_pos_iff.2 hw.ne
    have e0 : wrap64 ((way.length : Int) - 1) = ((way.length - 1 : Nat) : Int) := w64p h0 (by omega)
    refine Ev.succ ?_
    simp only [spec_l2On.f]
    rw [e0, rdI (show way.length - 1 < way.length by omega)]
    refine Ev.yes (by omega) (Ev.yes (by omega) ?_)
    rw [onF, List.append_nil]
    by_cases h : way[way.length - 1]'(by omega) = tg
    · exact Ev.yes h (Ev.no (by omega) (Ev.pure _))
    · exact Ev.no h (Ev.yes (by omega) (Ev.pure _))
  | succ f ih =>
    intro way out hw hf ho
    have hk8 := hE.k8
    have hk0 := hE.k0
    have hwl := hw.length_le
    have hkl := knots_len hE.k0
    have h0 : 0 < way.length := List.length_pos_iff.2 hw.ne
    have hpow : (8 : Nat) ^ (f + 1) = 8 ^ f * 8 := Nat.pow_succ 8 f
    have e0 : wrap64 ((way.length : Int) - 1) = ((way.length - 1 : Nat) : Int) := w64p h0 (by omega)
    have hlast : way.getLast? = some (way[way.length - 1]'(by omega)) := by rw [List.getLast?_eq_getElem?, List.getElem?_eq_getElem (by omega)]
    refine Ev.succ ?_
    simp only [spec_l2On.f]
    rw [e0, rdI (show way.length - 1 < way.length by omega)]
    refine Ev.yes (by omega) (Ev.yes (by omega) ?_)
    rw [onF]
    by_cases h : way[way.length - 1]'(by omega) = tg
    · rw [if_pos (show way.getLast? = some tg by rw [hlast, h])]
      refine Ev.yes h ?_
      by_cases h2 : way.length = size
      · rw [if_pos h2]
        exact Ev.yes (by omega) (Ev.bind (Ev.pure _) (Ev.yes (by simp; omega) (Ev.bind (Ev.pure _) (Ev.yes (by omega) (Ev.pure _)))))
      · rw [if_neg h2, List.append_nil]
        exact Ev.no (by omega) (Ev.pure _)
    · rw [if_neg (show ¬ way.getLast? = some tg by rw [hlast]; simpa using h)]
      refine Ev.no h ?_
      by_cases h2 : way.length ≥ size
      · rw [if_pos h2, List.append_nil]
        exact Ev.yes (by omega) (Ev.pure _)
      · rw [if_neg h2]
        have e1 : ((way.getLast?).getD 0) = way[way.length - 1]'(by omega) := by rw [hlast]; rfl
        rw [e1]
        have hn8 : (nexts E (knots K) (way[way.length - 1]'(by omega))).length ≤ 8 := Nat.le_trans (List.length_filter_le _ _) (by omega)
        refine Ev.no (by omega) (Ev.bind (e_spec_l2Next hE _) ?_)
        have := e_spec_l2On_l0 hE tg size f (by omega) (ih (by omega)) way hw (by omega) (way[way.length - 1]'(by omega)) e1 (nexts E (knots K) (way[way.length - 1]'(by omega))) (fun x hx => (mem_nexts hE).1 hx) hn8 (nexts E (knots K) (way[way.length - 1]'(by omega))).length 0 out (by omega) (by
          have h1 : (nexts E (knots K) (way[way.length - 1]'(by omega))).length * 8 ^ f ≤ 8 * 8 ^ f := Nat.mul_le_mul_right _ hn8
          omega)
        rw [List.drop_zero] at this
        exact this
theorem e_spec_WayAll_l0 {K : Int} {E : List STie} (hE : Ok K E) {a b : Int} (ha : 0 ≤ a ∧ a < K) (d : Nat) : ∀ (i : Nat) (out : List (List Int)), i + d = K.toNat → out.length + d * 134217728 ≤ 900000000000 →
    Ev (fun k => spec_WayAll.l0 k a b out ((i : Int) + 1) K E) (out ++ ((List.range K.toNat).drop i).flatMap (fun i => onF E (knots K) b (i + 1) (i + 2) [a])) := by
  have hk8 := hE.k8
  have hk0 := hE.k0
  have hkl := knots_len hE.k0
  induction d with
  | zero =>
    intro i out hi ho
    refine Ev.succ ?_
    simp only [spec_WayAll.l0]
    refine Ev.no (by omega) ?_
    rw [List.drop_eq_nil_of_le (by simp; omega)]
    simpa using Ev.pure _
  | succ d ih =>
    intro i out hi ho
    have hlt : i < (List.range K.toNat).length := by simp; omega
    have hpow : (8 : Nat) ^ (i + 2) ≤ 134217728 := Nat.le_trans (Nat.pow_le_pow_right (by omega) (show i + 2 ≤ 9 by omega)) (by decide)
    have hlen := onF_len E (knots K) (by omega) b (i + 1) (i + 2) [a]
    have h1 := e_spec_l2On hE b (i + 1) (i + 2) (by omega) [a] out (way_one ha) (by simp) (by omega)
    rw [drop_cons _ hlt, List.getElem_range, List.flatMap_cons, ← List.append_assoc]
    refine Ev.succ ?_
    simp only [spec_WayAll.l0]
    rw [show ((i : Int) + 1) = ((i + 1 : Nat) : Int) by omega, w64 (x := ((i + 1 : Nat) : Int) + 1) (by omega) (by omega)]
    exact Ev.yes (by omega) (Ev.bind h1 (ih (i + 1) _ (by omega) (by rw [List.length_append]; omega)))
theorem e_spec_WayAll (K : Int) (E : List STie) (a b : Int) : Ev (fun k => spec_WayAll.f k K E a b) (allV K E a b) := by
  have no : ¬ Two K E a b → Ev (fun k => spec_WayAll.j0 k a b [] true K E) (allV K E a b) := by
    intro h
    rw [allV_none h]
    refine Ev.succ ?_
    simp only [spec_WayAll.j0]
    exact Ev.yes (by trivial) (Ev.pure _)
  simp only [spec_WayAll.f]
  refine Ev.bind (Ev.pure _) (Ev.bind (e_spec_l1Knot K E a) ?_)
  by_cases h1 : Ok K E ∧ 0 ≤ a ∧ a < K
  · refine Ev.yes (dec_true h1) (Ev.bind (e_spec_l1Knot K E b) ?_)
    by_cases h2 : Ok K E ∧ 0 ≤ b ∧ b < K
    · have hk0 := h1.1.k0
      have hk8 := h1.1.k8
      rw [dec_true h2, allV_yes ⟨h1.1, h1.2, h2.2⟩]
      refine Ev.succ ?_
      simp only [spec_WayAll.j0]
      have := e_spec_WayAll_l0 h1.1 (b := b) h1.2 K.toNat 0 [] (by omega) (by simp; omega)
      exact Ev.no (by simp) this
    · rw [dec_false h2]
      exact no (fun h => h2 ⟨h.1, h.2.2⟩)
  · exact Ev.no (by rw [dec_false h1]; simp) (no (fun h => h1 ⟨h.1, h.2.1⟩))
end Go.Proofs.Ytmfmeenfhdohcaa.E
end
section
namespace Go.Proofs.Ytmfmeenfhdohcaa.E
open Go.RowKit Go.Proofs.YtmfmeenfhdohcaaW.PrintWords Go.Proofs.YtmfmeenfhdohcaaW.PrintMore Go.Proofs.Ytmfmeenfhdohcaa.P Osier
set_option linter.unusedVariables false
def mF (a : Int) (n : Nat) : List Int := (List.range n).map (fun j : Nat => a + (j : Int))
theorem mF_len (a : Int) (n : Nat) : (mF a n).length = n := by simp [mF]
theorem mF_succ (a : Int) (n : Nat) : mF a (n + 1) = mF a n ++ [a + (n : Int)] := by simp [mF, List.range_succ]
theorem mF_get {a : Int} {n j : Nat} (h : j < (mF a n).length) : (mF a n)[j] = a + (j : Int) := by simp [mF]
theorem e_mark_l0 (a : Int) (ha : 1 ≤ a ∧ a ≤ 1000000000000) (n : Nat) (hn : n ≤ 1000) (d : Nat) : ∀ (i : Nat) (xs : List Int), i + d = n → xs.length = n → xs.take i = mF a i → Ev (fun k => laws_markIntS.l0 k xs (a + (i : Int)) (i : Int)) (a + (n : Int), mF a n) := by
  induction d with
  | zero =>
    intro i xs hi hx ht
    refine Ev.succ ?_
    simp only [laws_markIntS.l0]
    refine Ev.no (by omega) ?_
    obtain rfl : i = n := by omega
    have : xs = mF a i := by rw [← ht, List.take_of_length_le (by omega)]
    rw [this]
    exact Ev.pure _
  | succ d ih =>
    intro i xs hi hx ht
    have hlt : i < xs.length := by omega
    refine Ev.succ ?_
    simp only [laws_markIntS.l0]
    rw [w64 (x := a + (i : Int) + 1) (by omega) (by omega), w64s (n := i) (by omega), Int.toNat_natCast]
    have e1 : (a + (i : Int) + 1) = a + ((i + 1 : Nat) : Int) := by omega
    rw [e1]
    refine Ev.yes (by omega) (Ev.yes (by omega) (ih (i + 1) _ (by omega) (by simpa using hx) ?_))
    rw [set_take _ hlt, ht, mF_succ]
theorem e_mark (a : Int) (ha : 1 ≤ a ∧ a ≤ 1000000000000) (xs : List Int) (hx : xs.length ≤ 1000) : Ev (fun k => laws_markIntS.f k xs a) (a + (xs.length : Int), mF a xs.length) := by
  simp only [laws_markIntS.f]
  have := e_mark_l0 a ha xs.length hx xs.length 0 xs (by omega) rfl (by simp [mF])
  simpa using this
theorem e_held_l0 (a : Int) (ha : 1 ≤ a ∧ a ≤ 1000000000000) (n : Nat) (hn : n ≤ 1000) (d : Nat) : ∀ (i : Nat), i + d = n → Ev (fun k => laws_heldIntS.l0 k (mF a n) (a + (i : Int)) (i : Int)) (a + (n : Int)) := by
  induction d with
  | zero =>
    intro i hi
    refine Ev.succ ?_
    simp only [laws_heldIntS.l0]
    rw [mF_len]
    refine Ev.no (by omega) ?_
    obtain rfl : i = n := by omega
    exact Ev.pure _
  | succ d ih =>
    intro i hi
    have hlt : i < (mF a n).length := by rw [mF_len]; omega
    refine Ev.succ ?_
    simp only [laws_heldIntS.l0]
    rw [rdI hlt, mF_get hlt, w64 (x := a + (i : Int) + 1) (by omega) (by omega), w64s (n := i) (by omega)]
    have e1 : (a + (i : Int) + 1) = a + ((i + 1 : Nat) : Int) := by omega
    rw [e1]
    exact Ev.yes (by rw [mF_len]; omega) (Ev.yes (by omega) (Ev.yes rfl (ih (i + 1) (by omega))))
theorem e_held (a : Int) (ha : 1 ≤ a ∧ a ≤ 1000000000000) (n : Nat) (hn : n ≤ 1000) : Ev (fun k => laws_heldIntS.f k (mF a n) a) (a + (n : Int)) := by
  simp only [laws_heldIntS.f]
  have := e_held_l0 a ha n hn n 0 (by omega)
  simpa using this
def mR (a : Int) : List (List Int) → List (List Int)
  | [] => []
  | x :: l => mF a x.length :: mR (a + (x.length : Int)) l
def mE (a : Int) : List (List Int) → Int
  | [] => a
  | x :: l => mE (a + (x.length : Int)) l
theorem mR_len (L : List (List Int)) : ∀ a, (mR a L).length = L.length := by
  induction L with
  | nil => intro a; rfl
  | cons x l ih => intro a; simp [mR, ih]
theorem mE_ge (L : List (List Int)) : ∀ a, a ≤ mE a L := by
  induction L with
  | nil => intro a; exact Int.le_refl a
  | cons x l ih => intro a; have := ih (a + (x.length : Int)); simp only [mE]; omega
theorem rd_mid (pre : List (List Int)) (x : List Int) (l : List (List Int)) : rd_LI (pre ++ x :: l) (pre.length : Int) = x := by
  rw [rdW (by simp)]; simp
theorem e_markSS (L : List (List Int)) : ∀ (pre : List (List Int)) (a : Int), (∀ x ∈ L, x.length ≤ 8) → 1 ≤ a → a + 8 * (L.length : Int) ≤ 1000000000000 → pre.length + L.length ≤ 1000000000 → Ev (fun k => laws_markIntSS.l0 k (pre ++ L) a (pre.length : Int)) (mE a L, pre ++ mR a L) := by
  induction L with
  | nil =>
    intro pre a _ _ _ _
    refine Ev.succ ?_
    simp only [laws_markIntSS.l0]
    exact Ev.no (by simp) (Ev.pure _)
  | cons x l ih =>
    intro pre a h8 ha hb hp
    have h9 := h8 x (by simp)
    simp only [List.length_cons] at hb hp
    have h1 := ih (pre ++ [mF a x.length]) (a + (x.length : Int)) (fun y hy => h8 y (by simp [hy])) (by omega) (by omega) (by simp; omega)
    have e1 : ((pre ++ [mF a x.length]).length : Int) = ((pre.length + 1 : Nat) : Int) := by simp
    have e2 : (pre ++ [mF a x.length]) ++ l = (pre ++ x :: l).set pre.length (mF a x.length) := by simp
    have e3 : (pre ++ [mF a x.length]) ++ mR (a + (x.length : Int)) l = pre ++ mR a (x :: l) := by simp [mR]
    rw [e1, e2, e3] at h1
    refine Ev.succ ?_
    simp only [laws_markIntSS.l0]
    rw [rd_mid, w64s (n := pre.length) (by omega), Int.toNat_natCast]
    exact Ev.yes (by simp; omega) (Ev.yes (by omega) (Ev.bind (e_mark a ⟨ha, by omega⟩ x (by omega)) h1))
theorem e_heldSS (L : List (List Int)) : ∀ (pre : List (List Int)) (a : Int), (∀ x ∈ L, x.length ≤ 8) → 1 ≤ a → a + 8 * (L.length : Int) ≤ 1000000000000 → pre.length + L.length ≤ 1000000000 → Ev (fun k => laws_heldIntSS.l0 k (pre ++ mR a L) a (pre.length : Int)) (mE a L) := by
  induction L with
  | nil =>
    intro pre a _ _ _ _
    refine Ev.succ ?_
    simp only [laws_heldIntSS.l0]
    exact Ev.no (by simp [mR]) (Ev.pure _)
  | cons x l ih =>
    intro pre a h8 ha hb hp
    have h9 := h8 x (by simp)
    simp only [List.length_cons] at hb hp
    have h1 := ih (pre ++ [mF a x.length]) (a + (x.length : Int)) (fun y hy => h8 y (by simp [hy])) (by omega) (by omega) (by simp; omega)
    have e1 : ((pre ++ [mF a x.length]).length : Int) = ((pre.length + 1 : Nat) : Int) := by simp
    have e3 : (pre ++ [mF a x.length]) ++ mR (a + (x.length : Int)) l = pre ++ mR a (x :: l) := by simp [mR]
    rw [e1, e3] at h1
    have hl := mR_len l (a + (x.length : Int))
    refine Ev.succ ?_
    simp only [laws_heldIntSS.l0]
    rw [show rd_LI (pre ++ mR a (x :: l)) (pre.length : Int) = mF a x.length from rd_mid pre (mF a x.length) _, w64s (n := pre.length) (by omega)]
    exact Ev.yes (by simp [mR]; omega) (Ev.yes (by omega) (Ev.bind (e_held a ⟨ha, by omega⟩ x.length (by omega)) (Ev.no (by omega) h1)))
theorem e_laws_eqIntSS_l0 (L : List (List Int)) (hL : L.length ≤ 134217728) (h8 : ∀ x ∈ L, x.length ≤ 8) (d : Nat) : ∀ i, i + d = L.length → Ev (fun k => laws_eqIntSS.l0 k L L (i : Int)) true := by
  induction d with
  | zero =>
    intro i hi
    refine Ev.succ ?_
    simp only [laws_eqIntSS.l0]
    exact Ev.no (by omega) (Ev.pure _)
  | succ d ih =>
    intro i hi
    have hlt : i < L.length := by omega
    have h9 := h8 _ (List.getElem_mem hlt)
    refine Ev.succ ?_
    simp only [laws_eqIntSS.l0]
    rw [rdW hlt, w64s (by omega)]
    exact Ev.yes (by omega) (Ev.yes (by omega) (Ev.yes (by omega) (Ev.bind (e_laws_eqIntS _ _ (by omega)) (Ev.yes (dec_true rfl) (ih (i + 1) (by omega))))))
theorem e_laws_eqIntSS (L : List (List Int)) (hL : L.length ≤ 134217728) (h8 : ∀ x ∈ L, x.length ≤ 8) : Ev (fun k => laws_eqIntSS.f k L L) true := by
  simp only [laws_eqIntSS.f]
  exact Ev.yes (by trivial) (e_laws_eqIntSS_l0 L hL h8 L.length 0 (by omega))
theorem FnExactWayAll (K : Int) (hK : (Lit.int .i64 K).wf = true) (l : List SLTie) (hl : l.length ≤ maxLen) (a : Int) (ha : (Lit.int .i64 a).wf = true) (b : Int) (hb : (Lit.int .i64 b).wf = true) : ∃ k, laws_FnExactWayAll.f k K l a b = some true := by
  refine Ev.get ?_
  simp only [laws_FnExactWayAll.f]
  refine Ev.bind (Ev.const (e_laws_szNet K l hl)) ?_
  by_cases h : l.length ≤ 1048576
  · rw [if_pos h]
    have hal := allV_len K l a b
    have h8 : ∀ x ∈ allV K l a b, x.length ≤ 8 := by
      intro x hx
      by_cases g : Two K l a b
      · rw [allV_yes g] at hx; exact allW_row g.1 g.2.1 hx
      · rw [allV_none g] at hx; simp at hx
    have hge := mE_ge (allV K l a b) 1
    have hmark : Ev (fun k => laws_markIntSS.f k (allV K l a b) 1) (mE 1 (allV K l a b), mR 1 (allV K l a b)) := by
      simp only [laws_markIntSS.f]
      exact e_markSS (allV K l a b) [] 1 h8 (by omega) (by omega) (by simp; omega)
    have hheld : Ev (fun k => laws_heldIntSS.f k (mR 1 (allV K l a b)) 1) (mE 1 (allV K l a b)) := by
      simp only [laws_heldIntSS.f]
      exact e_heldSS (allV K l a b) [] 1 h8 (by omega) (by omega) (by simp; omega)
    refine Ev.no (by omega) (Ev.bind (e_laws_toNet K l h) (Ev.bind (e_spec_WayAll K l a b) (Ev.bind (e_laws_toNet K l h) (Ev.bind (e_impl_WayAll K l a b (by omega)) (Ev.bind (e_laws_eqIntSS _ hal h8) ?_)))))
    refine Ev.yes (by trivial) (Ev.bind (e_laws_toNet K l h) (Ev.bind (e_laws_eqNet K K l l (by omega)) ?_))
    refine Ev.yes (dec_true ⟨rfl, rfl⟩) (Ev.bind (e_laws_markNet K l (by omega)) ?_)
    refine Ev.no (by dsimp only; omega) (Ev.bind (e_laws_eqIntSS _ hal h8) (Ev.succ ?_))
    simp only [laws_FnExactWayAll.j0]
    refine Ev.no (by simp) (Ev.bind hmark (Ev.bind hheld ?_))
    refine Ev.no (by omega) (Ev.yes rfl (Ev.bind (e_laws_toNet K l h) (Ev.bind (e_impl_WayAll K l a b (by omega)) (Ev.bind (e_laws_eqIntSS _ hal h8) ?_))))
    exact Ev.yes (by trivial) (Ev.bind hheld (Ev.no (by omega) (Ev.yes rfl (Ev.pure _))))
  · rw [if_neg h]
    exact Ev.yes (by omega) (Ev.pure _)
end Go.Proofs.Ytmfmeenfhdohcaa.E
end
