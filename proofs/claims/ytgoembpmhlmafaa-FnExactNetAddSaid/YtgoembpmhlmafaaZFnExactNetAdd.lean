/- FnExactNetAdd: the pure statement, and what it leans on: graphs, and how the printed functions are reckoned. -/
import Derived.Test.YtgoembpmhlmafaaEO
section
namespace Osier
set_option linter.unusedVariables false
def Asc (E : List Tie) : Prop := E.Pairwise tlt
structure Ok (K : Int) (E : List Tie) : Prop where
  k0 : 0 ≤ K
  k8 : K ≤ 8
  tie : ∀ t ∈ E, 0 ≤ t.f0 ∧ t.f0 < t.f1 ∧ t.f1 < K
  asc : Asc E
theorem asc_len (l : List Int) (hl : l.Pairwise (· < ·)) : ∀ (lo hi : Int), lo ≤ hi → (∀ x ∈ l, lo ≤ x ∧ x < hi) → (l.length : Int) ≤ hi - lo := by
  induction l with
  | nil => intro lo hi h _; simp; omega
  | cons x l ih =>
    intro lo hi h hm
    have hp := List.pairwise_cons.1 hl
    have hx := hm x (by simp)
    have := ih hp.2 (x + 1) hi (by omega) (fun y hy => ⟨by have := hp.1 y hy; omega, (hm y (by simp [hy])).2⟩)
    simp only [List.length_cons]
    omega
theorem Ok.len {K : Int} {E : List Tie} (h : Ok K E) : E.length ≤ 64 := by
  have h1 : (E.map fun t => t.f0 * 8 + t.f1).Pairwise (· < ·) := by
    rw [List.pairwise_map]
    refine List.Pairwise.imp_of_mem ?_ h.asc
    intro a b ha hb hab
    have := h.tie a ha
    have := h.tie b hb
    have := h.k8
    unfold tlt at hab
    omega
  have := asc_len _ h1 0 64 (by omega) (by
    intro x hx
    obtain ⟨t, ht, rfl⟩ := List.mem_map.1 hx
    have := h.tie t ht
    have := h.k8
    omega)
  simp at this
  omega
def mkT (a b : Int) : Tie := if a < b then ⟨a, b⟩ else ⟨b, a⟩
end Osier
/- Plain facts on spanning forests and bridges. No program in sight. -/
namespace Osier
set_option linter.unusedVariables false
end Osier
/- Plain facts on ways: order, enumeration, shortest ways, distances. No program in sight. -/
namespace Osier
set_option linter.unusedVariables false
theorem sorted_eq {α : Type} {R : α → α → Prop} (irr : ∀ a, ¬ R a a) (asy : ∀ a b, R a b → ¬ R b a) {E F : List α} (hE : E.Pairwise R) (hF : F.Pairwise R) (h : ∀ t, t ∈ E ↔ t ∈ F) : E = F := by
  induction E generalizing F with
  | nil =>
    cases F with
    | nil => rfl
    | cons f F => exact absurd ((h f).2 (by simp)) (by simp)
  | cons e E ih =>
    cases F with
    | nil => exact absurd ((h e).1 (by simp)) (by simp)
    | cons f F =>
      have hE' := List.pairwise_cons.1 hE
      have hF' := List.pairwise_cons.1 hF
      have hef : e = f := by
        have h1 := (h e).1 (by simp)
        have h2 := (h f).2 (by simp)
        simp only [List.mem_cons] at h1 h2
        rcases h1 with h1 | h1
        · exact h1
        · rcases h2 with h2 | h2
          · exact h2.symm
          · exact absurd (hF'.1 _ h1) (asy _ _ (hE'.1 _ h2))
      subst hef
      congr 1
      refine ih hE'.2 hF'.2 (fun t => ?_)
      have ht := h t
      simp only [List.mem_cons] at ht
      constructor
      · intro hm
        rcases ht.1 (.inr hm) with rfl | hm'
        · exact absurd (hE'.1 _ hm) (irr _)
        · exact hm'
      · intro hm
        rcases ht.2 (.inr hm) with rfl | hm'
        · exact absurd (hF'.1 _ hm) (irr _)
        · exact hm'
end Osier
/- Plain facts on the list of all ways. No program in sight. -/
namespace Osier
set_option linter.unusedVariables false
end Osier
end
section
namespace Go.Proofs.Ytgoembpmhlmafaa.E
open Go.RowKit Go.Proofs.YtgoembpmhlmafaaW.PrintWords Go.Proofs.YtgoembpmhlmafaaW.PrintMore Go.Proofs.Ytgoembpmhlmafaa.P Osier
set_option linter.unusedVariables false
theorem e_spec_l6In (a b c : Int) : spec_l6In.f a b c = some (dec (b ≤ a ∧ a ≤ c)) := by
  unfold spec_l6In.f
  by_cases h : a ≥ b
  · rw [if_pos h, dec_decide]
    exact congrArg some (dec_congr ⟨fun h' => ⟨h, h'⟩, fun h' => h'.2⟩)
  · rw [if_neg h, dec_false (by omega)]
theorem e_spec_l1Less (s t : STie) : spec_l1Less.f s.f0 s.f1 t.f0 t.f1 = some (dec (tlt s t)) := by
  unfold spec_l1Less.f
  by_cases h : s.f0 < t.f0
  · rw [if_pos h, dec_true (.inl h)]
  · rw [if_neg h]
    by_cases h' : s.f0 = t.f0
    · rw [if_pos h', dec_decide]
      exact congrArg some (dec_congr ⟨fun k => .inr ⟨h', k⟩, fun k => k.elim (fun k => absurd k h) (fun k => k.2)⟩)
    · rw [if_neg h', dec_false (fun k => k.elim h (fun k => h' k.1))]
def At (K : Int) (E : List STie) (j : Nat) (h : j < E.length) : Prop := (0 ≤ E[j].f0 ∧ E[j].f0 < E[j].f1 ∧ E[j].f1 < K) ∧ (∀ h0 : 0 < j, tlt E[j - 1] E[j])
theorem asc_iff (E : List STie) : Asc E ↔ ∀ j (h : j < E.length), 0 < j → tlt E[j - 1] E[j] := by
  constructor
  · intro h j hj h0
    exact List.pairwise_iff_getElem.1 h (j - 1) j (by omega) hj (by omega)
  · intro h
    refine List.pairwise_iff_getElem.2 ?_
    intro i j hi hj hij
    obtain ⟨d, rfl⟩ : ∃ d, j = i + d + 1 := ⟨j - i - 1, by omega⟩
    induction d with
    | zero => have := h (i + 1) hj (by omega); simpa using this
    | succ d ih =>
      have h1 := ih (by omega) (by omega)
      have h2 := h (i + (d + 1) + 1) hj (by omega)
      exact tlt_trans h1 h2
theorem ok_iff (K : Int) (E : List STie) : Ok K E ↔ (0 ≤ K ∧ K ≤ 8) ∧ ∀ j (h : j < E.length), At K E j h := by
  constructor
  · intro h
    refine ⟨⟨h.k0, h.k8⟩, fun j hj => ⟨h.tie _ (List.getElem_mem hj), fun h0 => (asc_iff E).1 h.asc j hj h0⟩⟩
  · rintro ⟨⟨h0, h1⟩, h⟩
    refine ⟨h0, h1, fun t ht => ?_, (asc_iff E).2 (fun j hj h0 => (h j hj).2 h0)⟩
    obtain ⟨j, hj, rfl⟩ := List.getElem_of_mem ht
    exact (h j hj).1
theorem e_spec_NetOk_l0 (K : Int) (E : List STie) (hK : 0 ≤ K ∧ K ≤ 8) (hE : E.length ≤ 64) (d : Nat) : ∀ i, i + d = E.length → Ev (fun k => spec_NetOk.l0 k (i : Int) K E) (dec (∀ j (h : j < E.length), i ≤ j → At K E j h)) := by
  induction d with
  | zero =>
    intro i hi
    refine Ev.succ ?_
    simp only [spec_NetOk.l0]
    refine Ev.no (by omega) ?_
    rw [dec_true (fun j h hij => by omega)]
    exact Ev.pure _
  | succ d ih =>
    intro i hi
    have hlt : i < E.length := by omega
    have hih := ih (i + 1) (by omega)
    refine Ev.succ ?_
    simp only [spec_NetOk.l0]
    refine Ev.yes (by omega) (Ev.yes (by omega) ?_)
    rw [rdT hlt, w64s (by omega)]
    refine Ev.bind (Ev.const (e_spec_l6In _ _ _)) ?_
    by_cases h1 : 0 ≤ E[i].f0 ∧ E[i].f0 ≤ wrap64 (K - 1)
    · have hw : wrap64 (K - 1) = K - 1 := w64 (by omega) (by omega)
      refine Ev.yes (dec_true h1) ?_
      rw [hw] at h1 ⊢
      rw [w64 (x := E[i].f0 + 1) (by omega) (by omega)]
      refine Ev.bind (Ev.const (e_spec_l6In _ _ _)) ?_
      by_cases h2 : E[i].f0 + 1 ≤ E[i].f1 ∧ E[i].f1 ≤ K - 1
      · refine Ev.yes (dec_true h2) ?_
        have hb : 0 ≤ E[i].f0 ∧ E[i].f0 < E[i].f1 ∧ E[i].f1 < K := by omega
        by_cases h3 : 0 < i
        · refine Ev.yes (by omega) ?_
          rw [w64p h3 (by omega)]
          refine Ev.yes (by omega) (Ev.yes (by omega) ?_)
          rw [rdT (show i - 1 < E.length by omega)]
          refine Ev.bind (Ev.const (e_spec_l1Less _ _)) ?_
          by_cases h4 : tlt E[i - 1] E[i]
          · refine Ev.yes (dec_true h4) (hih.value (dec_congr ⟨fun h j hj hij => ?_, fun h j hj hij => h j hj (by omega)⟩))
            rcases Nat.eq_or_lt_of_le hij with rfl | h5
            · exact ⟨hb, fun _ => h4⟩
            · exact h j hj h5
          · refine Ev.no (by rw [dec_false h4]; simp) ?_
            rw [dec_false (fun h => h4 ((h i hlt (Nat.le_refl _)).2 h3))]
            exact Ev.pure _
        · refine Ev.no (by omega) (hih.value (dec_congr ⟨fun h j hj hij => ?_, fun h j hj hij => h j hj (by omega)⟩))
          rcases Nat.eq_or_lt_of_le hij with rfl | h5
          · exact ⟨hb, fun h0 => absurd h0 h3⟩
          · exact h j hj h5
      · refine Ev.no (by rw [dec_false h2]; simp) ?_
        rw [dec_false (fun h => h2 (by have := (h i hlt (Nat.le_refl _)).1; omega))]
        exact Ev.pure _
    · refine Ev.no (by rw [dec_false h1]; simp) ?_
      have hw : wrap64 (K - 1) = K - 1 := w64 (by omega) (by omega)
      rw [hw] at h1
      rw [dec_false (fun h => h1 (by have := (h i hlt (Nat.le_refl _)).1; omega))]
      exact Ev.pure _
theorem e_spec_NetOk (K : Int) (E : List STie) : Ev (fun k => spec_NetOk.f k K E) (dec (Ok K E)) := by
  simp only [spec_NetOk.f]
  refine Ev.bind (Ev.const (e_spec_l6In _ _ _)) ?_
  by_cases hK : 0 ≤ K ∧ K ≤ 8
  · refine Ev.yes (dec_true hK) ?_
    refine Ev.succ ?_
    simp only [spec_NetOk.j0]
    by_cases hl : E.length ≤ 64
    · refine Ev.no (by simp; omega) ((e_spec_NetOk_l0 K E hK hl E.length 0 (by omega)).value (dec_congr ?_))
      rw [ok_iff]
      exact ⟨fun h => ⟨hK, fun j hj => h j hj (Nat.zero_le _)⟩, fun h j hj _ => h.2 j hj⟩
    · refine Ev.yes (by simp; omega) ?_
      rw [dec_false (fun h => hl h.len)]
      exact Ev.pure _
  · refine Ev.no (by rw [dec_false hK]; simp) ?_
    refine Ev.succ ?_
    simp only [spec_NetOk.j0]
    refine Ev.yes (by simp) ?_
    rw [dec_false (fun h => hK ⟨h.k0, h.k8⟩)]
    exact Ev.pure _
theorem e_impl_ascending_l0 (E : List STie) (hE : E.length < 4611686018427387904) (d : Nat) : ∀ i, i + d = E.length → 0 < i → Ev (fun k => impl_ascending.l0 k E (i : Int)) (dec (∀ j (h : j < E.length), i ≤ j → tlt E[j - 1] E[j])) := by
  induction d with
  | zero =>
    intro i hi h0
    refine Ev.succ ?_
    simp only [impl_ascending.l0]
    refine Ev.no (by omega) ?_
    rw [dec_true (fun j h hij => by omega)]
    exact Ev.pure _
  | succ d ih =>
    intro i hi h0
    have hlt : i < E.length := by omega
    have hih := ih (i + 1) (by omega) (by omega)
    refine Ev.succ ?_
    simp only [impl_ascending.l0]
    rw [w64p h0 (by omega), w64s (by omega)]
    refine Ev.yes (by omega) (Ev.yes (by omega) (Ev.yes (by omega) (Ev.yes (by omega) ?_)))
    rw [rdT hlt, rdT (show i - 1 < E.length by omega)]
    refine Ev.bind (e_impl_tieOrder _ _) ?_
    by_cases h4 : tlt E[i - 1] E[i]
    · have := (ord_neg E[i - 1] E[i]).2 h4
      refine Ev.no (by omega) (hih.value (dec_congr ⟨fun h j hj hij => ?_, fun h j hj hij => h j hj (by omega)⟩))
      rcases Nat.eq_or_lt_of_le hij with rfl | h5
      · exact h4
      · exact h j hj h5
    · have : ¬ ord E[i - 1] E[i] < 0 := fun h => h4 ((ord_neg E[i - 1] E[i]).1 h)
      refine Ev.yes (by omega) ?_
      rw [dec_false (fun h => h4 (h i hlt (Nat.le_refl _)))]
      exact Ev.pure _
theorem e_impl_ascending (E : List STie) (hE : E.length < 4611686018427387904) : Ev (fun k => impl_ascending.f k E) (dec (Asc E)) := by
  simp only [impl_ascending.f]
  by_cases h : E.length = 0
  · refine Ev.succ ?_
    simp only [impl_ascending.l0]
    refine Ev.no (by omega) ?_
    rw [dec_true ((asc_iff E).2 (fun j hj _ => by omega))]
    exact Ev.pure _
  · refine (e_impl_ascending_l0 E hE (E.length - 1) 1 (by omega) (by omega)).value (dec_congr ?_)
    rw [asc_iff]
    exact Iff.rfl
theorem e_impl_NetOk_l0 (K : Int) (E : List STie) (hK : 0 ≤ K ∧ K ≤ 8) (hE : E.length < 4611686018427387904) (d : Nat) : ∀ i, i + d = E.length → Ev (fun k => impl_NetOk.l0 k E (E.length : Int) (i : Int) K E) (dec ((∀ j (h : j < E.length), i ≤ j → 0 ≤ E[j].f0 ∧ E[j].f0 < E[j].f1 ∧ E[j].f1 < K) ∧ Asc E)) := by
  induction d with
  | zero =>
    intro i hi
    refine Ev.succ ?_
    simp only [impl_NetOk.l0]
    refine Ev.no (by omega) (Ev.bind (e_impl_ascending E hE) ((Ev.pure _).value (dec_congr ⟨fun h => ⟨fun j hj hij => by omega, h⟩, fun h => h.2⟩)))
  | succ d ih =>
    intro i hi
    have hlt : i < E.length := by omega
    have hih := ih (i + 1) (by omega)
    refine Ev.succ ?_
    simp only [impl_NetOk.l0]
    refine Ev.yes (by omega) (Ev.yes (by omega) (Ev.yes (by omega) ?_))
    rw [rdT hlt, w64s (by omega)]
    by_cases h1 : E[i].f0 < 0
    · refine Ev.yes h1 ?_
      rw [dec_false (fun h => by have := h.1 i hlt (Nat.le_refl _); omega)]
      exact Ev.pure _
    · refine Ev.no h1 ?_
      by_cases h2 : E[i].f0 ≥ E[i].f1
      · refine Ev.yes h2 ?_
        rw [dec_false (fun h => by have := h.1 i hlt (Nat.le_refl _); omega)]
        exact Ev.pure _
      · refine Ev.no h2 ?_
        by_cases h3 : E[i].f1 ≥ K
        · refine Ev.yes h3 ?_
          rw [dec_false (fun h => by have := h.1 i hlt (Nat.le_refl _); omega)]
          exact Ev.pure _
        · refine Ev.no h3 (hih.value (dec_congr ⟨fun h => ⟨fun j hj hij => ?_, h.2⟩, fun h => ⟨fun j hj hij => h.1 j hj (by omega), h.2⟩⟩))
          rcases Nat.eq_or_lt_of_le hij with rfl | h5
          · omega
          · exact h.1 j hj h5
theorem e_impl_NetOk (K : Int) (E : List STie) (hE : E.length < 4611686018427387904) : Ev (fun k => impl_NetOk.f k K E) (dec (Ok K E)) := by
  simp only [impl_NetOk.f]
  by_cases h1 : K < 0
  · refine Ev.yes h1 (Ev.succ ?_)
    simp only [impl_NetOk.j0]
    refine Ev.yes (by simp) ?_
    rw [dec_false (fun h => by have := h.k0; omega)]
    exact Ev.pure _
  · refine Ev.no h1 (Ev.succ ?_)
    simp only [impl_NetOk.j0]
    by_cases h2 : K > 8
    · refine Ev.yes (by simpa using h2) ?_
      rw [dec_false (fun h => by have := h.k8; omega)]
      exact Ev.pure _
    · refine Ev.no (by simpa using h2) ((e_impl_NetOk_l0 K E (by omega) hE E.length 0 (by omega)).value (dec_congr ⟨fun h => ⟨by omega, by omega, fun t ht => ?_, h.2⟩, fun h => ⟨fun j hj _ => h.tie _ (List.getElem_mem hj), h.asc⟩⟩))
      obtain ⟨j, hj, rfl⟩ := List.getElem_of_mem ht
      exact h.1 j hj (Nat.zero_le _)
end Go.Proofs.Ytgoembpmhlmafaa.E
end
section
namespace Go.Proofs.Ytgoembpmhlmafaa.E
open Go.RowKit Go.Proofs.YtgoembpmhlmafaaW.PrintWords Go.Proofs.YtgoembpmhlmafaaW.PrintMore Go.Proofs.Ytgoembpmhlmafaa.P Osier
set_option linter.unusedVariables false
theorem rdL {xs : List SLTie} {n : Nat} (h : n < xs.length) : rd_TLTie xs (n : Int) = xs[n] := by
  unfold rd_TLTie
  rw [Int.toNat_natCast, List.getD_eq_getElem?_getD, List.getElem?_eq_getElem h]; rfl
theorem set_take {α : Type} (xs : List α) {i : Nat} (h : i < xs.length) (v : α) : (xs.set i v).take (i + 1) = xs.take i ++ [v] := by
  rw [take_snoc _ (by simpa using h), List.take_set_of_le (Nat.le_refl _), List.getElem_set_self]
theorem take_all {α : Type} {xs ys : List α} (hl : xs.length = ys.length) (h : xs.take ys.length = ys.take ys.length) : xs = ys := by
  rw [List.take_of_length_le (by omega), List.take_of_length_le (Nat.le_refl _)] at h
  exact h
theorem e_laws_szNet (K : Int) (l : List SLTie) (h : l.length ≤ maxLen) : laws_szNet.f K l 1048576 = some (if l.length ≤ 1048576 then 1048576 - (l.length : Int) else -1) := by
  rw [maxLen_val] at h
  have hw : wrap64 (1048576 - (l.length : Int)) = 1048576 - (l.length : Int) := w64 (by omega) (by omega)
  unfold laws_szNet.f laws_szTieS.f
  rw [hw]
  by_cases hl : l.length ≤ 1048576
  · rw [if_neg (by omega), if_pos hl, Option.bind_some, if_neg (by omega)]
  · rw [if_pos (by omega), if_neg hl, Option.bind_some, if_pos (by omega)]
theorem e_laws_toTieS_l0 (l : List SLTie) (hl : l.length < 4611686018427387904) (d : Nat) : ∀ (i : Nat) (xs : List STie), i + d = l.length → xs.length = l.length → xs.take i = l.take i → Ev (fun k => laws_toTieS.l0 k l xs (i : Int)) l := by
  induction d with
  | zero =>
    intro i xs hi hx ht
    refine Ev.succ ?_
    simp only [laws_toTieS.l0]
    refine Ev.no (by omega) ?_
    obtain rfl : i = l.length := by omega
    rw [take_all hx ht]
    exact Ev.pure _
  | succ d ih =>
    intro i xs hi hx ht
    refine Ev.succ ?_
    simp only [laws_toTieS.l0, laws_toTie.f]
    refine Ev.yes (by omega) (Ev.yes (by omega) (Ev.bind (Ev.pure _) (Ev.yes (by omega) ?_)))
    rw [rdL (show i < l.length by omega), w64s (by omega), Int.toNat_natCast]
    refine ih (i + 1) _ (by omega) (by simpa using hx) ?_
    rw [set_take _ (by omega), take_snoc l (by omega), ht]
theorem e_laws_toTieS (l : List SLTie) (hl : l.length ≤ 1048576) : Ev (fun k => laws_toTieS.f k l) l := by
  simp only [laws_toTieS.f]
  refine Ev.yes (by omega) (Ev.yes (by simp; omega) ?_)
  exact e_laws_toTieS_l0 l (by omega) l.length 0 _ (by omega) (by simp) (by simp)
theorem e_laws_toNet (K : Int) (l : List SLTie) (hl : l.length ≤ 1048576) : Ev (fun k => laws_toNet.f k K l) (K, l) := by
  simp only [laws_toNet.f]
  exact Ev.bind (e_laws_toTieS l hl) (Ev.pure _)
theorem e_laws_eqTie (s t : STie) : laws_eqTie.f s.f0 s.f1 t.f0 t.f1 = some (dec (s = t)) := by
  unfold laws_eqTie.f
  by_cases h0 : s.f0 = t.f0
  · rw [if_pos h0]
    by_cases h1 : s.f1 = t.f1
    · rw [if_pos h1, dec_true (Tie.ext' h0 h1)]
    · rw [if_neg h1, dec_false (fun e => h1 (by rw [e]))]
  · rw [if_neg h0, dec_false (fun e => h0 (by rw [e]))]
theorem list_eq_iff {α : Type} {a b : List α} (hl : a.length = b.length) : a = b ↔ ∀ j (h : j < a.length), a[j] = b[j]'(hl ▸ h) := by
  constructor
  · rintro rfl j h; rfl
  · intro h
    exact List.ext_getElem hl (fun j h1 h2 => h j h1)
theorem e_laws_eqTieS_l0 (a b : List STie) (hl : a.length = b.length) (ha : a.length < 4611686018427387904) (d : Nat) : ∀ i, i + d = a.length → Ev (fun k => laws_eqTieS.l0 k a b (i : Int)) (dec (∀ j (h : j < a.length), i ≤ j → a[j] = b[j])) := by
  induction d with
  | zero =>
    intro i hi
    refine Ev.succ ?_
    simp only [laws_eqTieS.l0]
    refine Ev.no (by omega) ?_
    rw [dec_true (fun j h hij => by omega)]
    exact Ev.pure _
  | succ d ih =>
    intro i hi
    have hlt : i < a.length := by omega
    refine Ev.succ ?_
    simp only [laws_eqTieS.l0]
    refine Ev.yes (by omega) (Ev.yes (by omega) (Ev.yes (by omega) ?_))
    rw [rdT hlt, rdT (show i < b.length by omega), w64s (by omega)]
    refine Ev.bind (Ev.const (e_laws_eqTie _ _)) ?_
    by_cases h : a[i] = b[i]
    · refine Ev.yes (dec_true h) ((ih (i + 1) (by omega)).value (dec_congr ⟨fun h' j hj hij => ?_, fun h' j hj hij => h' j hj (by omega)⟩))
      rcases Nat.eq_or_lt_of_le hij with rfl | h5
      · exact h
      · exact h' j hj h5
    · refine Ev.no (by rw [dec_false h]; simp) ?_
      rw [dec_false (fun h' => h (h' i hlt (Nat.le_refl _)))]
      exact Ev.pure _
theorem e_laws_eqTieS (a b : List STie) (ha : a.length < 4611686018427387904) : Ev (fun k => laws_eqTieS.f k a b) (dec (a = b)) := by
  simp only [laws_eqTieS.f]
  by_cases hl : a.length = b.length
  · refine Ev.yes (by omega) ((e_laws_eqTieS_l0 a b hl ha a.length 0 (by omega)).value (dec_congr ?_))
    rw [list_eq_iff hl]
    exact ⟨fun h j hj => h j hj (Nat.zero_le _), fun h j hj _ => h j hj⟩
  · refine Ev.no (by omega) ?_
    rw [dec_false (fun e => hl (by rw [e]))]
    exact Ev.pure _
theorem e_laws_eqNet (K L : Int) (a b : List STie) (ha : a.length < 4611686018427387904) : Ev (fun k => laws_eqNet.f k K a L b) (dec (K = L ∧ a = b)) := by
  simp only [laws_eqNet.f]
  by_cases hK : K = L
  · refine Ev.yes hK (Ev.bind (e_laws_eqTieS a b ha) ?_)
    by_cases h : a = b
    · refine Ev.yes (dec_true h) ?_
      rw [dec_true ⟨hK, h⟩]; exact Ev.pure _
    · refine Ev.no (by rw [dec_false h]; simp) ?_
      rw [dec_false (fun e => h e.2)]; exact Ev.pure _
  · refine Ev.no hK ?_
    rw [dec_false (fun e => hK e.1)]; exact Ev.pure _
end Go.Proofs.Ytgoembpmhlmafaa.E
end
section
namespace Go.Proofs.Ytgoembpmhlmafaa.E
open Go.RowKit Go.Proofs.YtgoembpmhlmafaaW.PrintWords Go.Proofs.YtgoembpmhlmafaaW.PrintMore Go.Proofs.Ytgoembpmhlmafaa.P Osier
set_option linter.unusedVariables false
theorem e_spec_l1Tie (a b : Int) : spec_l1Tie.f a b = some ((mkT a b).f0, (mkT a b).f1) := by
  unfold spec_l1Tie.f mkT
  split <;> rfl
theorem e_impl_tie (a b : Int) : impl_tie.f a b = some ((mkT a b).f0, (mkT a b).f1) := by
  unfold impl_tie.f mkT mn mx
  by_cases h : a < b
  · rw [if_pos h, if_pos h, if_neg (by omega)]
  · by_cases h' : b < a
    · rw [if_neg h, if_neg h, if_pos h']
    · have : a = b := by omega
      subst this
      rw [if_neg h, if_neg h]
theorem beq_tie (s t : STie) : (s.f0 == t.f0 && (s.f1 == t.f1)) = dec (s = t) := by
  by_cases h : s = t
  · subst h; rw [dec_true rfl]; simp
  · rw [dec_false h]
    by_cases h0 : s.f0 = t.f0
    · have h1 : ¬ s.f1 = t.f1 := fun h1 => h (Tie.ext' h0 h1)
      simp [h1]
    · simp [h0]
theorem mem_drop_step {E : List STie} {i : Nat} (hi : i < E.length) (t : STie) : t ∈ E.drop i ↔ E[i] = t ∨ t ∈ E.drop (i + 1) := by
  rw [drop_cons _ hi, List.mem_cons]
  exact or_congr eq_comm Iff.rfl
theorem e_spec_l1Has_l0 (K : Int) (E : List STie) (a b : Int) (hE : E.length < 4611686018427387904) (d : Nat) : ∀ i, i + d = E.length → Ev (fun k => spec_l1Has.l0 k a b (i : Int) K E) (dec (mkT a b ∈ E.drop i)) := by
  induction d with
  | zero =>
    intro i hi
    refine Ev.succ ?_
    simp only [spec_l1Has.l0]
    refine Ev.no (by omega) ?_
    rw [List.drop_eq_nil_of_le (by omega), dec_false (by simp)]
    exact Ev.pure _
  | succ d ih =>
    intro i hi
    have hlt : i < E.length := by omega
    refine Ev.succ ?_
    simp only [spec_l1Has.l0]
    rw [rdT hlt, w64s (by omega)]
    refine Ev.yes (by omega) (Ev.yes (by omega) (Ev.bind (Ev.const (e_spec_l1Tie a b)) ?_))
    dsimp only
    rw [beq_tie, dec_congr (mem_drop_step hlt _)]
    by_cases h : E[i] = mkT a b
    · refine Ev.yes (dec_true h) ?_
      rw [dec_true (.inl h)]
      exact Ev.pure _
    · refine Ev.no (by rw [dec_false h]; simp) ((ih (i + 1) (by omega)).value (dec_congr ⟨.inr, fun k => k.resolve_left h⟩))
theorem e_spec_l1Has (K : Int) (E : List STie) (a b : Int) (hE : E.length < 4611686018427387904) : Ev (fun k => spec_l1Has.f k K E a b) (dec (mkT a b ∈ E)) := by
  simp only [spec_l1Has.f]
  exact (e_spec_l1Has_l0 K E a b hE E.length 0 (by omega)).value (by simp)
theorem e_spec_NetHas (K : Int) (E : List STie) (a b : Int) (hE : E.length < 4611686018427387904) : Ev (fun k => spec_NetHas.f k K E a b) (dec (Ok K E ∧ mkT a b ∈ E)) := by
  simp only [spec_NetHas.f]
  refine Ev.bind (e_spec_NetOk K E) ?_
  by_cases h : Ok K E
  · refine Ev.yes (dec_true h) (Ev.bind (e_spec_l1Has K E a b hE) ((Ev.pure _).value (dec_congr ⟨fun k => ⟨h, k⟩, fun k => k.2⟩)))
  · refine Ev.no (by rw [dec_false h]; simp) ?_
    rw [dec_false (fun k => h k.1)]; exact Ev.pure _
theorem e_slices_Index_Tie_l0 (E : List STie) (t : STie) (hE : E.length < 4611686018427387904) (d : Nat) : ∀ i, i + d = E.length → ∃ r, Ev (fun k => slices_Index_Tie.l0 k E (E.length : Int) (i : Int) t.f0 t.f1) r ∧ (r ≥ 0 ↔ t ∈ E.drop i) := by
  induction d with
  | zero =>
    intro i hi
    refine ⟨-1, Ev.succ ?_, ?_⟩
    · simp only [slices_Index_Tie.l0]
      exact Ev.no (by omega) (Ev.pure _)
    · rw [List.drop_eq_nil_of_le (by omega)]; simp
  | succ d ih =>
    intro i hi
    have hlt : i < E.length := by omega
    by_cases h : t = E[i]
    · refine ⟨(i : Int), Ev.succ ?_, ?_⟩
      · simp only [slices_Index_Tie.l0]
        rw [rdT hlt, beq_tie]
        exact Ev.yes (by omega) (Ev.yes (by omega) (Ev.yes (by omega) (Ev.yes (dec_true h) (Ev.pure _))))
      · rw [mem_drop_step hlt]
        exact ⟨fun _ => .inl h.symm, fun _ => by omega⟩
    · obtain ⟨r, hr, hr'⟩ := ih (i + 1) (by omega)
      refine ⟨r, Ev.succ ?_, ?_⟩
      · simp only [slices_Index_Tie.l0]
        rw [rdT hlt, beq_tie, w64s (by omega)]
        exact Ev.yes (by omega) (Ev.yes (by omega) (Ev.yes (by omega) (Ev.no (by rw [dec_false h]; simp) hr)))
      · rw [mem_drop_step hlt, hr']
        exact ⟨.inr, fun k => k.resolve_left (fun e => h e.symm)⟩
theorem e_slices_Contains_Tie (E : List STie) (t : STie) (hE : E.length < 4611686018427387904) : Ev (fun k => slices_Contains_Tie.f k E t.f0 t.f1) (dec (t ∈ E)) := by
  simp only [slices_Contains_Tie.f, slices_Index_Tie.f]
  obtain ⟨r, hr, hr'⟩ := e_slices_Index_Tie_l0 E t hE E.length 0 (by omega)
  refine Ev.bind hr ((Ev.pure _).value ?_)
  rw [dec_decide]
  exact dec_congr (by simpa using hr')
theorem e_impl_Net_has (K : Int) (E : List STie) (a b : Int) (hE : E.length < 4611686018427387904) : Ev (fun k => impl_Net_has.f k K E a b) (dec (mkT a b ∈ E)) := by
  simp only [impl_Net_has.f]
  exact Ev.bind (Ev.const (e_impl_tie a b)) (Ev.bind (e_slices_Contains_Tie E (mkT a b) hE) (Ev.pure _))
theorem e_spec_l1Knot (K : Int) (E : List STie) (a : Int) : Ev (fun k => spec_l1Knot.f k K E a) (dec (Ok K E ∧ 0 ≤ a ∧ a < K)) := by
  simp only [spec_l1Knot.f]
  refine Ev.bind (e_spec_NetOk K E) ?_
  by_cases h : Ok K E
  · have := h.k0
    have := h.k8
    refine Ev.yes (dec_true h) ?_
    rw [w64 (x := K - 1) (by omega) (by omega)]
    exact Ev.bind (Ev.const (e_spec_l6In _ _ _)) ((Ev.pure _).value (dec_congr ⟨fun k => ⟨h, k.1, by omega⟩, fun k => ⟨k.2.1, by omega⟩⟩))
  · refine Ev.no (by rw [dec_false h]; simp) ?_
    rw [dec_false (fun k => h k.1)]; exact Ev.pure _
theorem e_impl_Net_knot (K : Int) (E : List STie) (a : Int) : impl_Net_knot.f K E a = some (dec (0 ≤ a ∧ a < K)) := by
  unfold impl_Net_knot.f
  by_cases h : a ≥ 0
  · rw [if_pos h, dec_decide]
    exact congrArg some (dec_congr ⟨fun k => ⟨h, k⟩, fun k => k.2⟩)
  · rw [if_neg h, dec_false (by omega)]
end Go.Proofs.Ytgoembpmhlmafaa.E
end
section
namespace Go.Proofs.Ytgoembpmhlmafaa.E
open Go.RowKit Go.Proofs.YtgoembpmhlmafaaW.PrintWords Go.Proofs.YtgoembpmhlmafaaW.PrintMore Go.Proofs.Ytgoembpmhlmafaa.P Osier
set_option linter.unusedVariables false
def mk1 (j : Nat) : STie := ⟨1 + 2 * (j : Int), 2 + 2 * (j : Int)⟩
def marks (n : Nat) : List STie := (List.range n).map mk1
theorem marks_len (n : Nat) : (marks n).length = n := by simp [marks]
theorem marks_get {n j : Nat} (h : j < (marks n).length) : (marks n)[j] = mk1 j := by simp [marks]
theorem marks_succ (n : Nat) : marks (n + 1) = marks n ++ [mk1 n] := by simp [marks, List.range_succ]
theorem e_laws_markTieS_l0 (n : Nat) (hn : n < 1099511627776) (d : Nat) : ∀ (i : Nat) (xs : List STie), i + d = n → xs.length = n → xs.take i = marks i → Ev (fun k => laws_markTieS.l0 k xs (1 + 2 * (i : Int)) (i : Int)) (1 + 2 * (n : Int), marks n) := by
  induction d with
  | zero =>
    intro i xs hi hx ht
    refine Ev.succ ?_
    simp only [laws_markTieS.l0]
    refine Ev.no (by omega) ?_
    obtain rfl : i = n := by omega
    have : xs = marks i := by rw [← ht, List.take_of_length_le (by omega)]
    rw [this]
    exact Ev.pure _
  | succ d ih =>
    intro i xs hi hx ht
    have hlt : i < xs.length := by omega
    refine Ev.succ ?_
    simp only [laws_markTieS.l0]
    refine Ev.yes (by omega) (Ev.yes (by omega) (Ev.bind (Ev.pure _) ?_))
    rw [rdT (show i < (xs.set ((i : Int).toNat) _).length by simpa using hlt)]
    simp only [Int.toNat_natCast, List.getElem_set_self, List.set_set]
    rw [w64 (x := 1 + 2 * (i : Int) + 1) (by omega) (by omega), w64s (by omega), w64 (by omega) (by omega)]
    have e1 : (1 + 2 * (i : Int) + 1 + 1) = 1 + 2 * ((i + 1 : Nat) : Int) := by omega
    have e2 : (⟨1 + 2 * (i : Int), 1 + 2 * (i : Int) + 1⟩ : STie) = mk1 i := by unfold mk1; exact Tie.ext' rfl (by show (1 + 2 * (i : Int) + 1 : Int) = 2 + 2 * (i : Int); omega)
    rw [e1, e2]
    refine ih (i + 1) _ (by omega) (by simpa using hx) ?_
    rw [set_take _ hlt, ht, marks_succ]
theorem e_laws_markTieS (xs : List STie) (hx : xs.length < 1099511627776) : Ev (fun k => laws_markTieS.f k xs 1) (1 + 2 * (xs.length : Int), marks xs.length) := by
  simp only [laws_markTieS.f]
  exact e_laws_markTieS_l0 xs.length hx xs.length 0 xs (by omega) rfl (by simp [marks])
theorem e_laws_markNet (K : Int) (xs : List STie) (hx : xs.length < 1099511627776) : Ev (fun k => laws_markNet.f k K xs 1) (1 + 2 * (xs.length : Int), marks xs.length) := by
  simp only [laws_markNet.f]
  exact Ev.bind (e_laws_markTieS xs hx) (Ev.pure _)
theorem e_laws_heldTieS_l0 (n : Nat) (hn : n < 1099511627776) (d : Nat) : ∀ (i : Nat), i + d = n → Ev (fun k => laws_heldTieS.l0 k (marks n) (1 + 2 * (i : Int)) (i : Int)) (1 + 2 * (n : Int)) := by
  induction d with
  | zero =>
    intro i hi
    refine Ev.succ ?_
    simp only [laws_heldTieS.l0]
    rw [marks_len]
    refine Ev.no (by omega) ?_
    obtain rfl : i = n := by omega
    exact Ev.pure _
  | succ d ih =>
    intro i hi
    have hlt : i < (marks n).length := by rw [marks_len]; omega
    have hm := hlt
    rw [marks_len] at hm
    refine Ev.succ ?_
    simp only [laws_heldTieS.l0]
    rw [rdT hlt, marks_get hlt, w64 (x := 1 + 2 * (i : Int) + 1) (by omega) (by omega), w64s (by omega), w64 (by omega) (by omega)]
    have e1 : (1 + 2 * (i : Int) + 1 + 1) = 1 + 2 * ((i + 1 : Nat) : Int) := by omega
    rw [e1]
    exact Ev.yes (by rw [marks_len]; omega) (Ev.yes (by omega) (Ev.yes (by unfold mk1; rfl) (Ev.yes (by unfold mk1; show (2 : Int) + _ = _; omega) (ih (i + 1) (by omega)))))
theorem e_laws_heldTieS (n : Nat) (hn : n < 1099511627776) : Ev (fun k => laws_heldTieS.f k (marks n) 1) (1 + 2 * (n : Int)) := by
  simp only [laws_heldTieS.f]
  exact e_laws_heldTieS_l0 n hn n 0 (by omega)
theorem e_laws_heldNet (K : Int) (n : Nat) (hn : n < 1099511627776) : Ev (fun k => laws_heldNet.f k K (marks n) 1) (1 + 2 * (n : Int)) := by
  simp only [laws_heldNet.f]
  exact Ev.bind (e_laws_heldTieS n hn) (Ev.no (by omega) (Ev.pure _))
end Go.Proofs.Ytgoembpmhlmafaa.E
end
section
namespace Go.Proofs.Ytgoembpmhlmafaa.E
open Go.RowKit Go.Proofs.YtgoembpmhlmafaaW.PrintWords Go.Proofs.YtgoembpmhlmafaaW.PrintMore Go.Proofs.Ytgoembpmhlmafaa.P Osier
set_option linter.unusedVariables false
noncomputable def ins (t : STie) : List STie → List STie
  | [] => [t]
  | s :: l => if dec (tlt t s) = true then t :: s :: l else s :: ins t l
theorem mem_ins {t s : STie} {l : List STie} : s ∈ ins t l ↔ s = t ∨ s ∈ l := by
  induction l with
  | nil => simp [ins]
  | cons u l ih =>
    rw [ins]
    split
    · simp
    · simp only [List.mem_cons, ih]
      constructor
      · rintro (h | h | h) <;> simp [h]
      · rintro (h | h | h) <;> simp [h]
theorem length_ins (t : STie) (l : List STie) : (ins t l).length = l.length + 1 := by
  induction l with
  | nil => rfl
  | cons u l ih =>
    rw [ins]
    split
    · rfl
    · simp [ih]
theorem asc_ins {t : STie} {l : List STie} (h : Asc l) (ht : t ∉ l) : Asc (ins t l) := by
  induction l with
  | nil => exact List.pairwise_singleton _ _
  | cons u l ih =>
    rw [ins]
    have hu : ∀ s ∈ l, tlt u s := (List.pairwise_cons.1 h).1
    split
    · rename_i hd
      have hd := dec_iff.1 hd
      refine List.pairwise_cons.2 ⟨fun s hs => ?_, h⟩
      rcases List.mem_cons.1 hs with rfl | hs
      · exact hd
      · exact tlt_trans hd (hu s hs)
    · rename_i hd
      have hd : ¬ tlt t u := fun k => hd (dec_true k)
      refine List.pairwise_cons.2 ⟨fun s hs => ?_, ih (List.pairwise_cons.1 h).2 (fun k => ht (List.mem_cons_of_mem _ k))⟩
      rcases mem_ins.1 hs with rfl | hs
      · rcases tlt_total s u with k | k | k
        · exact absurd k hd
        · exact absurd (k ▸ List.mem_cons_self) ht
        · exact k
      · exact hu s hs
def Addable (K : Int) (E : List STie) (a b : Int) : Prop := Ok K E ∧ (0 ≤ a ∧ a < K) ∧ (0 ≤ b ∧ b < K) ∧ a ≠ b ∧ mkT a b ∉ E
noncomputable def addV (K : Int) (E : List STie) (a b : Int) : Int × List STie × Bool := if dec (Addable K E a b) = true then (K, ins (mkT a b) E, true) else (0, [], false)
theorem ins_step {E : List STie} {i : Nat} (hi : i < E.length) (t : STie) : ins t (E.drop i) = if dec (tlt t E[i]) = true then t :: E[i] :: E.drop (i + 1) else E[i] :: ins t (E.drop (i + 1)) := by
  rw [drop_cons _ hi, ins]
theorem e_spec_NetAdd_l0t (K : Int) (E : List STie) (t : STie) (hE : E.length < 1099511627776) (d : Nat) : ∀ (i : Nat) (acc : List STie), i + d = E.length → acc.length ≤ i + 1 → Ev (fun k => spec_NetAdd.l0 k true (i : Int) K E K acc t.f0 t.f1) (K, acc ++ E.drop i, true) := by
  induction d with
  | zero =>
    intro i acc hi ha
    refine Ev.succ ?_
    simp only [spec_NetAdd.l0]
    refine Ev.no (by omega) (Ev.yes (by trivial) ?_)
    rw [List.drop_eq_nil_of_le (by omega), List.append_nil]
    exact Ev.pure _
  | succ d ih =>
    intro i acc hi ha
    have hlt : i < E.length := by omega
    refine Ev.succ ?_
    simp only [spec_NetAdd.l0]
    rw [rdT hlt, w64s (by omega), drop_cons _ hlt]
    refine Ev.yes (by omega) (Ev.yes (by trivial) (Ev.yes (by omega) (Ev.yes (by omega) ((ih (i + 1) _ (by omega) (by simp; omega)).value ?_))))
    simp
    exact (drop_cons _ hlt).symm
theorem e_spec_NetAdd_l0 (K : Int) (E : List STie) (t : STie) (hE : E.length < 1099511627776) (d : Nat) : ∀ (i : Nat) (acc : List STie), i + d = E.length → acc.length ≤ i → Ev (fun k => spec_NetAdd.l0 k false (i : Int) K E K acc t.f0 t.f1) (K, acc ++ ins t (E.drop i), true) := by
  induction d with
  | zero =>
    intro i acc hi ha
    refine Ev.succ ?_
    simp only [spec_NetAdd.l0]
    refine Ev.no (by omega) (Ev.no (by simp) ?_)
    rw [List.drop_eq_nil_of_le (by omega)]
    exact Ev.yes (by omega) (Ev.pure _)
  | succ d ih =>
    intro i acc hi ha
    have hlt : i < E.length := by omega
    refine Ev.succ ?_
    simp only [spec_NetAdd.l0]
    rw [rdT hlt, w64s (by omega), ins_step hlt]
    refine Ev.yes (by omega) (Ev.no (by simp) (Ev.yes (by omega) (Ev.bind (Ev.const (e_spec_l1Less t E[i])) ?_)))
    by_cases h : tlt t E[i]
    · rw [dec_true h]
      refine Ev.yes (by trivial) (Ev.yes (by omega) (Ev.bind (Ev.pure _) (Ev.yes (by simp; omega) ((e_spec_NetAdd_l0t K E t hE d (i + 1) _ (by omega) (by simp; omega)).value ?_))))
      simp
      exact (drop_cons _ hlt).symm
    · rw [dec_false h]
      refine Ev.no (by simp) (Ev.yes (by omega) ((ih (i + 1) _ (by omega) (by simp; omega)).value ?_))
      simp
theorem e_spec_NetAdd (K : Int) (E : List STie) (a b : Int) (hE : E.length < 1099511627776) : Ev (fun k => spec_NetAdd.f k K E a b) (addV K E a b) := by
  simp only [spec_NetAdd.f]
  have no : ¬ Addable K E a b → Ev (fun k => spec_NetAdd.j0 k a b true K E) (addV K E a b) := by
    intro h
    unfold addV
    rw [if_neg (by rw [dec_false h]; simp)]
    refine Ev.succ ?_
    simp only [spec_NetAdd.j0]
    exact Ev.yes (by trivial) (Ev.pure _)
  refine Ev.bind (e_spec_l1Knot K E a) ?_
  by_cases h1 : Ok K E ∧ 0 ≤ a ∧ a < K
  · refine Ev.yes (dec_true h1) (Ev.bind (e_spec_l1Knot K E b) ?_)
    by_cases h2 : Ok K E ∧ 0 ≤ b ∧ b < K
    · refine Ev.yes (dec_true h2) ?_
      by_cases h3 : a = b
      · exact Ev.yes h3 (no (fun h => h.2.2.2.1 h3))
      · refine Ev.no h3 (Ev.bind (e_spec_NetHas K E a b (by omega)) ?_)
        by_cases h4 : mkT a b ∈ E
        · rw [dec_true ⟨h1.1, h4⟩]
          exact no (fun h => h.2.2.2.2 h4)
        · rw [dec_false (fun h => h4 h.2)]
          refine Ev.succ ?_
          simp only [spec_NetAdd.j0]
          refine Ev.no (by simp) (Ev.bind (Ev.const (e_spec_l1Tie a b)) ((e_spec_NetAdd_l0 K E (mkT a b) hE E.length 0 [] (by omega) (by simp)).value ?_))
          unfold addV
          rw [if_pos (dec_true ⟨h1.1, h1.2, h2.2, h3, h4⟩)]
          simp
    · exact Ev.no (by rw [dec_false h2]; simp) (no (fun h => h2 ⟨h.1, h.2.2.1⟩))
  · exact Ev.no (by rw [dec_false h1]; simp) (no (fun h => h1 ⟨h.1, h.2.1⟩))
end Go.Proofs.Ytgoembpmhlmafaa.E
end
section
namespace Go.Proofs.Ytgoembpmhlmafaa.E
open Go.RowKit Go.Proofs.YtgoembpmhlmafaaW.PrintWords Go.Proofs.YtgoembpmhlmafaaW.PrintMore Go.Proofs.Ytgoembpmhlmafaa.P Osier
set_option linter.unusedVariables false
theorem ins_unique {E F : List STie} {t : STie} (hE : Asc E) (ht : t ∉ E) (hF : Asc F) (h : ∀ s, s ∈ F ↔ s = t ∨ s ∈ E) : F = ins t E :=
  sorted_eq tlt_irrefl (fun _ _ => tlt_asymm) hF (asc_ins hE ht) (fun s => by rw [h, mem_ins])
theorem asc_of_sorted {L : List STie} (hn : L.Nodup) (hs : L.Pairwise (fun x y => ¬ tlt y x)) : Asc L := by
  refine List.Pairwise.imp ?_ (List.Pairwise.and hs hn)
  rintro x y ⟨h1, h2⟩
  rcases tlt_total x y with h | h | h
  · exact h
  · exact absurd h h2
  · exact absurd h h1
theorem mergeSort_ins {E : List STie} (hE : Asc E) {t : STie} (ht : t ∉ E) : (E ++ [t]).mergeSort (fun x y => !decide (y.f0 < x.f0 ∨ y.f0 = x.f0 ∧ y.f1 < x.f1)) = ins t E := by
  have hp := List.mergeSort_perm (E ++ [t]) (fun x y : STie => !decide (y.f0 < x.f0 ∨ y.f0 = x.f0 ∧ y.f1 < x.f1))
  have hs := List.pairwise_mergeSort (le := fun x y : STie => !decide (y.f0 < x.f0 ∨ y.f0 = x.f0 ∧ y.f1 < x.f1)) (fun a b c h1 h2 => by simp at *; omega) (fun a b => by simp; omega) (E ++ [t])
  generalize (E ++ [t]).mergeSort (fun x y => !decide (y.f0 < x.f0 ∨ y.f0 = x.f0 ∧ y.f1 < x.f1)) = L at hp hs
  have hnE : E.Nodup := List.Pairwise.imp (fun {a b} h e => by subst e; exact tlt_irrefl _ h) hE
  have hn : L.Nodup := by
    rw [hp.nodup_iff, List.nodup_append]
    refine ⟨hnE, by simp, ?_⟩
    intro x hx y hy e
    simp only [List.mem_singleton] at hy
    subst hy; subst e
    exact ht hx
  refine ins_unique hE ht (asc_of_sorted hn (List.Pairwise.imp (fun {x y} h k => by unfold tlt at k; simp at h; omega) hs)) (fun s => ?_)
  rw [hp.mem_iff]
  simp [or_comm]
theorem e_slices_SortFunc_Tie {E : List STie} (hE : Asc E) {t : STie} (ht : t ∉ E) (hl : E.length < 1099511627776) : Ev (fun k => slices_SortFunc_Tie.f k (E ++ [t])) (ins t E) := by
  simp only [slices_SortFunc_Tie.f]
  rw [if_pos (by simp; omega), mergeSort_ins hE ht]
  exact Ev.pure _
theorem addV_len' (K : Int) (E : List STie) (a b : Int) : (addV K E a b).2.1.length ≤ E.length + 1 := by
  unfold addV
  split
  · simp [length_ins]
  · simp
theorem addV_yes {K : Int} {E : List STie} {a b : Int} (h : Addable K E a b) : addV K E a b = (K, ins (mkT a b) E, true) := by unfold addV; rw [if_pos (dec_true h)]
theorem addV_none {K : Int} {E : List STie} {a b : Int} (h : ¬ Addable K E a b) : addV K E a b = (0, [], false) := by unfold addV; rw [if_neg (by rw [dec_false h]; simp)]
theorem e_impl_NetAdd (K : Int) (E : List STie) (a b : Int) (hE : E.length < 1099511627776) : Ev (fun k => impl_NetAdd.f k K E a b) (addV K E a b) := by
  have no : ¬ Addable K E a b → Ev (fun k => impl_NetAdd.j0 k a b true K E) (addV K E a b) := by
    intro h
    rw [addV_none h]
    refine Ev.succ ?_
    simp only [impl_NetAdd.j0]
    exact Ev.yes (by trivial) (Ev.pure _)
  simp only [impl_NetAdd.f]
  refine Ev.bind (e_impl_NetOk K E (by omega)) ?_
  by_cases h0 : Ok K E
  · refine Ev.yes (dec_true h0) (Ev.bind (Ev.const (e_impl_Net_knot K E a)) ?_)
    by_cases h1 : 0 ≤ a ∧ a < K
    · refine Ev.yes (dec_true h1) (Ev.bind (Ev.const (e_impl_Net_knot K E b)) ?_)
      by_cases h2 : 0 ≤ b ∧ b < K
      · refine Ev.yes (dec_true h2) ?_
        by_cases h3 : a = b
        · exact Ev.yes h3 (no (fun h => h.2.2.2.1 h3))
        · refine Ev.no h3 (Ev.bind (e_impl_Net_has K E a b (by omega)) ?_)
          by_cases h4 : mkT a b ∈ E
          · rw [dec_true h4]
            exact no (fun h => h.2.2.2.2 h4)
          · rw [dec_false h4, addV_yes ⟨h0, h1, h2, h3, h4⟩]
            refine Ev.succ ?_
            simp only [impl_NetAdd.j0]
            refine Ev.no (by simp) (Ev.bind (Ev.pure _) (Ev.yes (by simp; omega) (Ev.bind (Ev.pure _) (Ev.bind (Ev.const (e_impl_tie a b)) (Ev.bind (Ev.pure _) (Ev.yes (by simp; omega) (Ev.bind (v := (K, ins (mkT a b) E, true)) (a := ins (mkT a b) E) ?_ (Ev.pure _))))))))
            rw [List.nil_append]
            exact e_slices_SortFunc_Tie h0.asc h4 hE
      · exact Ev.no (by rw [dec_false h2]; simp) (no (fun h => h2 h.2.2.1))
    · exact Ev.no (by rw [dec_false h1]; simp) (no (fun h => h1 h.2.1))
  · exact Ev.no (by rw [dec_false h0]; simp) (no (fun h => h0 h.1))
end Go.Proofs.Ytgoembpmhlmafaa.E
end
section
namespace Go.Proofs.Ytgoembpmhlmafaa.E
open Go.RowKit Go.Proofs.Ytgoembpmhlmafaa.P Osier
set_option linter.unusedVariables false
theorem FnExactNetAdd (K : Int) (hK : (Lit.int .i64 K).wf = true) (l : List SLTie) (hl : l.length ≤ maxLen) (a : Int) (ha : (Lit.int .i64 a).wf = true) (b : Int) (hb : (Lit.int .i64 b).wf = true) : ∃ k, laws_FnExactNetAdd.f k K l a b = some true := by
  refine Ev.get ?_
  simp only [laws_FnExactNetAdd.f]
  refine Ev.bind (Ev.const (e_laws_szNet K l hl)) ?_
  by_cases h : l.length ≤ 1048576
  · rw [if_pos h]
    have hw := addV_len' K l a b
    refine Ev.no (by omega) (Ev.bind (e_laws_toNet K l h) (Ev.bind (e_spec_NetAdd K l a b (by omega)) (Ev.bind (e_laws_toNet K l h) (Ev.bind (e_impl_NetAdd K l a b (by omega)) (Ev.bind (e_laws_eqNet _ _ _ _ (by omega)) ?_)))))
    refine Ev.yes (dec_true ⟨rfl, rfl⟩) (Ev.succ ?_)
    simp only [laws_FnExactNetAdd.j0]
    refine Ev.no (by simp) (Ev.bind (e_laws_toNet K l h) (Ev.bind (e_laws_eqNet K K l l (by omega)) ?_))
    refine Ev.yes (dec_true ⟨rfl, rfl⟩) (Ev.bind (e_laws_markNet K l (by omega)) ?_)
    refine Ev.no (by dsimp only; omega) (Ev.bind (e_laws_eqNet _ _ _ _ (by omega)) ?_)
    refine Ev.yes (dec_true ⟨rfl, rfl⟩) (Ev.succ ?_)
    simp only [laws_FnExactNetAdd.j1]
    refine Ev.no (by simp) (Ev.bind (e_laws_markNet _ _ (by omega)) (Ev.bind (e_laws_heldNet _ _ (by omega)) ?_))
    refine Ev.no (by omega) (Ev.yes rfl (Ev.bind (e_laws_toNet K l h) (Ev.bind (e_impl_NetAdd K l a b (by omega)) (Ev.bind (e_laws_eqNet _ _ _ _ (by omega)) ?_))))
    refine Ev.yes (dec_true ⟨rfl, rfl⟩) (Ev.succ ?_)
    simp only [laws_FnExactNetAdd.j2]
    exact Ev.no (by simp) (Ev.bind (e_laws_heldNet _ _ (by omega)) (Ev.no (by omega) (Ev.yes rfl (Ev.pure _))))
  · rw [if_neg h]
    exact Ev.yes (by omega) (Ev.pure _)
end Go.Proofs.Ytgoembpmhlmafaa.E
end
