/- Nets: what the printed functions answer. Order, being well made, having a tie, being a knot. -/
import Derived.Test.YtheoebelhgbejabE0
namespace Go.Proofs.Ytheoebelhgbejab.E
open Go.RowKit Go.Proofs.YtheoebelhgbejabW.PrintWords Go.Proofs.YtheoebelhgbejabW.PrintMore Go.Proofs.Ytheoebelhgbejab.P Osier
set_option linter.unusedVariables false

theorem e_spec_l6In (a b c : Int) : spec_l6In.f a b c = some (dec (b ≤ a ∧ a ≤ c)) := by
  unfold spec_l6In.f
  by_cases h : a ≥ b
  · rw [if_pos h, dec_decide]
    exact congrArg some (dec_congr ⟨fun h' => ⟨h, h'⟩, fun h' => h'.2⟩)
  · rw [if_neg h, dec_false (by omega)]
theorem e_spec_l1Less (s t : STie) : spec_l1Less.f s.f0 s.f1 t.f0 t.f1 = some (dec (tlt s t)) := by
  unfold spec_l1Less.f
  by_cases h : s.f0 < t.f0
  · rw [if_pos h, dec_true (.inl h)]
  · rw [if_neg h]
    by_cases h' : s.f0 = t.f0
    · rw [if_pos h', dec_decide]
      exact congrArg some (dec_congr ⟨fun k => .inr ⟨h', k⟩, fun k => k.elim (fun k => absurd k h) (fun k => k.2)⟩)
    · rw [if_neg h', dec_false (fun k => k.elim h (fun k => h' k.1))]

/-- Place j of the ties is in order: the tie is one, and stands behind the one before it. -/
def At (K : Int) (E : List STie) (j : Nat) (h : j < E.length) : Prop := (0 ≤ E[j].f0 ∧ E[j].f0 < E[j].f1 ∧ E[j].f1 < K) ∧ (∀ h0 : 0 < j, tlt E[j - 1] E[j])
theorem asc_iff (E : List STie) : Asc E ↔ ∀ j (h : j < E.length), 0 < j → tlt E[j - 1] E[j] := by
  constructor
  · intro h j hj h0
    exact List.pairwise_iff_getElem.1 h (j - 1) j (by omega) hj (by omega)
  · intro h
    refine List.pairwise_iff_getElem.2 ?_
    intro i j hi hj hij
    obtain ⟨d, rfl⟩ : ∃ d, j = i + d + 1 := ⟨j - i - 1, by omega⟩
    induction d with
    | zero => have := h (i + 1) hj (by omega); simpa using this
    | succ d ih =>
      have h1 := ih (by omega) (by omega)
      have h2 := h (i + (d + 1) + 1) hj (by omega)
      exact tlt_trans h1 h2
theorem ok_iff (K : Int) (E : List STie) : Ok K E ↔ (0 ≤ K ∧ K ≤ 8) ∧ ∀ j (h : j < E.length), At K E j h := by
  constructor
  · intro h
    refine ⟨⟨h.k0, h.k8⟩, fun j hj => ⟨h.tie _ (List.getElem_mem hj), fun h0 => (asc_iff E).1 h.asc j hj h0⟩⟩
  · rintro ⟨⟨h0, h1⟩, h⟩
    refine ⟨h0, h1, fun t ht => ?_, (asc_iff E).2 (fun j hj h0 => (h j hj).2 h0)⟩
    obtain ⟨j, hj, rfl⟩ := List.getElem_of_mem ht
    exact (h j hj).1

theorem e_spec_NetOk_l0 (K : Int) (E : List STie) (hK : 0 ≤ K ∧ K ≤ 8) (hE : E.length ≤ 64) (d : Nat) : ∀ i, i + d = E.length → Ev (fun k => spec_NetOk.l0 k (i : Int) K E) (dec (∀ j (h : j < E.length), i ≤ j → At K E j h)) := by
  induction d with
  | zero =>
    intro i hi
    refine Ev.succ ?_
    simp only [spec_NetOk.l0]
    refine Ev.no (by omega) ?_
    rw [dec_true (fun j h hij => by omega)]
    exact Ev.pure _
  | succ d ih =>
    intro i hi
    have hlt : i < E.length := by omega
    have hih := ih (i + 1) (by omega)
    refine Ev.succ ?_
    simp only [spec_NetOk.l0]
    refine Ev.yes (by omega) (Ev.yes (by omega) ?_)
    rw [rdT hlt, w64s (by omega)]
    refine Ev.bind (Ev.const (e_spec_l6In _ _ _)) ?_
    by_cases h1 : 0 ≤ E[i].f0 ∧ E[i].f0 ≤ wrap64 (K - 1)
    · have hw : wrap64 (K - 1) = K - 1 := w64 (by omega) (by omega)
      refine Ev.yes (dec_true h1) ?_
      rw [hw] at h1 ⊢
      rw [w64 (x := E[i].f0 + 1) (by omega) (by omega)]
      refine Ev.bind (Ev.const (e_spec_l6In _ _ _)) ?_
      by_cases h2 : E[i].f0 + 1 ≤ E[i].f1 ∧ E[i].f1 ≤ K - 1
      · refine Ev.yes (dec_true h2) ?_
        have hb : 0 ≤ E[i].f0 ∧ E[i].f0 < E[i].f1 ∧ E[i].f1 < K := by omega
        by_cases h3 : 0 < i
        · refine Ev.yes (by omega) ?_
          rw [w64p h3 (by omega)]
          refine Ev.yes (by omega) (Ev.yes (by omega) ?_)
          rw [rdT (show i - 1 < E.length by omega)]
          refine Ev.bind (Ev.const (e_spec_l1Less _ _)) ?_
          by_cases h4 : tlt E[i - 1] E[i]
          · refine Ev.yes (dec_true h4) (hih.value (dec_congr ⟨fun h j hj hij => ?_, fun h j hj hij => h j hj (by omega)⟩))
            rcases Nat.eq_or_lt_of_le hij with rfl | h5
            · exact ⟨hb, fun _ => h4⟩
            · exact h j hj h5
          · refine Ev.no (by rw [dec_false h4]; simp) ?_
            rw [dec_false (fun h => h4 ((h i hlt (Nat.le_refl _)).2 h3))]
            exact Ev.pure _
        · refine Ev.no (by omega) (hih.value (dec_congr ⟨fun h j hj hij => ?_, fun h j hj hij => h j hj (by omega)⟩))
          rcases Nat.eq_or_lt_of_le hij with rfl | h5
          · exact ⟨hb, fun h0 => absurd h0 h3⟩
          · exact h j hj h5
      · refine Ev.no (by rw [dec_false h2]; simp) ?_
        rw [dec_false (fun h => h2 (by have := (h i hlt (Nat.le_refl _)).1; omega))]
        exact Ev.pure _
    · refine Ev.no (by rw [dec_false h1]; simp) ?_
      have hw : wrap64 (K - 1) = K - 1 := w64 (by omega) (by omega)
      rw [hw] at h1
      rw [dec_false (fun h => h1 (by have := (h i hlt (Nat.le_refl _)).1; omega))]
      exact Ev.pure _
theorem e_spec_NetOk (K : Int) (E : List STie) : Ev (fun k => spec_NetOk.f k K E) (dec (Ok K E)) := by
  simp only [spec_NetOk.f]
  refine Ev.bind (Ev.const (e_spec_l6In _ _ _)) ?_
  by_cases hK : 0 ≤ K ∧ K ≤ 8
  · refine Ev.yes (dec_true hK) ?_
    refine Ev.succ ?_
    simp only [spec_NetOk.j0]
    by_cases hl : E.length ≤ 64
    · refine Ev.no (by simp; omega) ((e_spec_NetOk_l0 K E hK hl E.length 0 (by omega)).value (dec_congr ?_))
      rw [ok_iff]
      exact ⟨fun h => ⟨hK, fun j hj => h j hj (Nat.zero_le _)⟩, fun h j hj _ => h.2 j hj⟩
    · refine Ev.yes (by simp; omega) ?_
      rw [dec_false (fun h => hl h.len)]
      exact Ev.pure _
  · refine Ev.no (by rw [dec_false hK]; simp) ?_
    refine Ev.succ ?_
    simp only [spec_NetOk.j0]
    refine Ev.yes (by simp) ?_
    rw [dec_false (fun h => hK ⟨h.k0, h.k8⟩)]
    exact Ev.pure _

/-! ### The program's own way -/
theorem e_cmp_Compare (a b : Int) : cmp_Compare_int.f a b = some (if a < b then -1 else if a > b then 1 else 0) := by
  unfold cmp_Compare_int.f cmp_isNaN_int.f
  simp only [bne_self_eq_false, Option.bind_some, Bool.false_eq_true, if_false]
  split
  · rfl
  · split <;> rfl
theorem e_cmp_Or (a b : Int) : Ev (fun k => cmp_Or_int.f k [a, b]) (if a = 0 then b else a) := by
  simp only [cmp_Or_int.f]
  refine Ev.succ ?_
  simp only [cmp_Or_int.l0]
  refine Ev.yes (by simp) (Ev.yes (by omega) (Ev.yes (by simp) ?_))
  have e0 : rd [a, b] 0 = a := rfl
  have e1 : rd [a, b] 1 = b := rfl
  rw [e0]
  by_cases ha : a = 0
  · refine Ev.yes ha ?_
    rw [w64 (by omega) (by omega)]
    refine Ev.succ ?_
    simp only [cmp_Or_int.l0]
    refine Ev.yes (by simp) (Ev.yes (by omega) (Ev.yes (by simp) ?_))
    have h01 : (0 : Int) + 1 = 1 := rfl
    rw [h01, e1, if_pos ha]
    by_cases hb : b = 0
    · refine Ev.yes hb ?_
      refine Ev.succ ?_
      simp only [cmp_Or_int.l0]
      refine Ev.no (by rw [w64 (by omega) (by omega)]; simp) ?_
      rw [hb]; exact Ev.pure _
    · exact Ev.no hb (Ev.pure _)
  · refine Ev.no ha ?_
    rw [if_neg ha]; exact Ev.pure _
/-- The order of ties, as a number: negative, nought or positive. -/
def ord (s t : STie) : Int := if s.f0 < t.f0 then -1 else if s.f0 > t.f0 then 1 else if s.f1 < t.f1 then -1 else if s.f1 > t.f1 then 1 else 0
theorem ord_neg (s t : STie) : ord s t < 0 ↔ tlt s t := by
  unfold ord tlt
  split
  · simp; omega
  · split
    · simp; omega
    · split
      · simp; omega
      · split <;> simp <;> omega
theorem e_impl_tieOrder (s t : STie) : Ev (fun k => impl_tieOrder.f k s.f0 s.f1 t.f0 t.f1) (ord s t) := by
  simp only [impl_tieOrder.f]
  refine Ev.bind (Ev.const (e_cmp_Compare _ _)) (Ev.bind (Ev.const (e_cmp_Compare _ _)) (Ev.bind (e_cmp_Or _ _) ((Ev.pure _).value ?_)))
  unfold ord
  by_cases h1 : s.f0 < t.f0
  · simp [h1]
  · by_cases h2 : s.f0 > t.f0
    · simp [h1, h2]
    · simp [h1, h2]
theorem e_impl_ascending_l0 (E : List STie) (hE : E.length < 4611686018427387904) (d : Nat) : ∀ i, i + d = E.length → 0 < i → Ev (fun k => impl_ascending.l0 k E (i : Int)) (dec (∀ j (h : j < E.length), i ≤ j → tlt E[j - 1] E[j])) := by
  induction d with
  | zero =>
    intro i hi h0
    refine Ev.succ ?_
    simp only [impl_ascending.l0]
    refine Ev.no (by omega) ?_
    rw [dec_true (fun j h hij => by omega)]
    exact Ev.pure _
  | succ d ih =>
    intro i hi h0
    have hlt : i < E.length := by omega
    have hih := ih (i + 1) (by omega) (by omega)
    refine Ev.succ ?_
    simp only [impl_ascending.l0]
    rw [w64p h0 (by omega), w64s (by omega)]
    refine Ev.yes (by omega) (Ev.yes (by omega) (Ev.yes (by omega) (Ev.yes (by omega) ?_)))
    rw [rdT hlt, rdT (show i - 1 < E.length by omega)]
    refine Ev.bind (e_impl_tieOrder _ _) ?_
    by_cases h4 : tlt E[i - 1] E[i]
    · have := (ord_neg E[i - 1] E[i]).2 h4
      refine Ev.no (by omega) (hih.value (dec_congr ⟨fun h j hj hij => ?_, fun h j hj hij => h j hj (by omega)⟩))
      rcases Nat.eq_or_lt_of_le hij with rfl | h5
      · exact h4
      · exact h j hj h5
    · have : ¬ ord E[i - 1] E[i] < 0 := fun h => h4 ((ord_neg E[i - 1] E[i]).1 h)
      refine Ev.yes (by omega) ?_
      rw [dec_false (fun h => h4 (h i hlt (Nat.le_refl _)))]
      exact Ev.pure _
theorem e_impl_ascending (E : List STie) (hE : E.length < 4611686018427387904) : Ev (fun k => impl_ascending.f k E) (dec (Asc E)) := by
  simp only [impl_ascending.f]
  by_cases h : E.length = 0
  · refine Ev.succ ?_
    simp only [impl_ascending.l0]
    refine Ev.no (by omega) ?_
    rw [dec_true ((asc_iff E).2 (fun j hj _ => by omega))]
    exact Ev.pure _
  · refine (e_impl_ascending_l0 E hE (E.length - 1) 1 (by omega) (by omega)).value (dec_congr ?_)
    rw [asc_iff]
    exact Iff.rfl
theorem e_impl_NetOk_l0 (K : Int) (E : List STie) (hK : 0 ≤ K ∧ K ≤ 8) (hE : E.length < 4611686018427387904) (d : Nat) : ∀ i, i + d = E.length → Ev (fun k => impl_NetOk.l0 k E (E.length : Int) (i : Int) K E) (dec ((∀ j (h : j < E.length), i ≤ j → 0 ≤ E[j].f0 ∧ E[j].f0 < E[j].f1 ∧ E[j].f1 < K) ∧ Asc E)) := by
  induction d with
  | zero =>
    intro i hi
    refine Ev.succ ?_
    simp only [impl_NetOk.l0]
    refine Ev.no (by omega) (Ev.bind (e_impl_ascending E hE) ((Ev.pure _).value (dec_congr ⟨fun h => ⟨fun j hj hij => by omega, h⟩, fun h => h.2⟩)))
  | succ d ih =>
    intro i hi
    have hlt : i < E.length := by omega
    have hih := ih (i + 1) (by omega)
    refine Ev.succ ?_
    simp only [impl_NetOk.l0]
    refine Ev.yes (by omega) (Ev.yes (by omega) (Ev.yes (by omega) ?_))
    rw [rdT hlt, w64s (by omega)]
    by_cases h1 : E[i].f0 < 0
    · refine Ev.yes h1 ?_
      rw [dec_false (fun h => by have := h.1 i hlt (Nat.le_refl _); omega)]
      exact Ev.pure _
    · refine Ev.no h1 ?_
      by_cases h2 : E[i].f0 ≥ E[i].f1
      · refine Ev.yes h2 ?_
        rw [dec_false (fun h => by have := h.1 i hlt (Nat.le_refl _); omega)]
        exact Ev.pure _
      · refine Ev.no h2 ?_
        by_cases h3 : E[i].f1 ≥ K
        · refine Ev.yes h3 ?_
          rw [dec_false (fun h => by have := h.1 i hlt (Nat.le_refl _); omega)]
          exact Ev.pure _
        · refine Ev.no h3 (hih.value (dec_congr ⟨fun h => ⟨fun j hj hij => ?_, h.2⟩, fun h => ⟨fun j hj hij => h.1 j hj (by omega), h.2⟩⟩))
          rcases Nat.eq_or_lt_of_le hij with rfl | h5
          · omega
          · exact h.1 j hj h5
theorem e_impl_NetOk (K : Int) (E : List STie) (hE : E.length < 4611686018427387904) : Ev (fun k => impl_NetOk.f k K E) (dec (Ok K E)) := by
  simp only [impl_NetOk.f]
  by_cases h1 : K < 0
  · refine Ev.yes h1 (Ev.succ ?_)
    simp only [impl_NetOk.j0]
    refine Ev.yes (by simp) ?_
    rw [dec_false (fun h => by have := h.k0; omega)]
    exact Ev.pure _
  · refine Ev.no h1 (Ev.succ ?_)
    simp only [impl_NetOk.j0]
    by_cases h2 : K > 8
    · refine Ev.yes (by simpa using h2) ?_
      rw [dec_false (fun h => by have := h.k8; omega)]
      exact Ev.pure _
    · refine Ev.no (by simpa using h2) ((e_impl_NetOk_l0 K E (by omega) hE E.length 0 (by omega)).value (dec_congr ⟨fun h => ⟨by omega, by omega, fun t ht => ?_, h.2⟩, fun h => ⟨fun j hj _ => h.tie _ (List.getElem_mem hj), h.asc⟩⟩))
      obtain ⟨j, hj, rfl⟩ := List.getElem_of_mem ht
      exact h.1 j hj (Nat.zero_le _)
end Go.Proofs.Ytheoebelhgbejab.E
