/- The laws' own words: comparing. -/
import Derived.Test.YtheoebelhgbejaaE5
namespace Go.Proofs.Ytheoebelhgbejaa.E
open Go.RowKit Go.Proofs.YtheoebelhgbejaaW.PrintWords Go.Proofs.YtheoebelhgbejaaW.PrintMore Go.Proofs.Ytheoebelhgbejaa.P Osier
set_option linter.unusedVariables false
theorem e_laws_loTies_l0 (a b : List STie) (hl : a.length = b.length) (ha : a.length < 4611686018427387904) (d : Nat) : ∀ i, i + d = a.length → Ev (fun k => laws_loTies.l0 k a b (i : Int)) (dec (∀ j (h : j < a.length), i ≤ j → a[j] = b[j])) := by
  induction d with
  | zero =>
    intro i hi
    refine Ev.succ ?_
    simp only [laws_loTies.l0]
    refine Ev.no (by omega) ?_
    rw [dec_true (fun j h hij => by omega)]
    exact Ev.pure _
  | succ d ih =>
    intro i hi
    have hlt : i < a.length := by omega
    refine Ev.succ ?_
    simp only [laws_loTies.l0]
    refine Ev.yes (by omega) (Ev.yes (by omega) (Ev.yes (by omega) ?_))
    rw [rdT hlt, rdT (show i < b.length by omega), w64s (by omega), bne_tie]
    by_cases h : a[i] = b[i]
    · refine Ev.no (by rw [dec_false (fun k => k h)]; simp) ((ih (i + 1) (by omega)).value (dec_congr ⟨fun h' j hj hij => ?_, fun h' j hj hij => h' j hj (by omega)⟩))
      rcases Nat.eq_or_lt_of_le hij with rfl | h5
      · exact h
      · exact h' j hj h5
    · refine Ev.yes (dec_true h) ?_
      rw [dec_false (fun h' => h (h' i hlt (Nat.le_refl _)))]
      exact Ev.pure _
theorem e_laws_loTies (a b : List STie) (ha : a.length < 4611686018427387904) : Ev (fun k => laws_loTies.f k a b) (dec (a = b)) := by
  simp only [laws_loTies.f]
  by_cases hl : a.length = b.length
  · refine Ev.yes (by omega) ((e_laws_loTies_l0 a b hl ha a.length 0 (by omega)).value (dec_congr ?_))
    rw [list_eq_iff hl]
    exact ⟨fun h j hj => h j hj (Nat.zero_le _), fun h j hj _ => h j hj⟩
  · refine Ev.no (by omega) ?_
    rw [dec_false (fun e => hl (by rw [e]))]
    exact Ev.pure _
theorem e_laws_loNet (K L : Int) (a b : List STie) (ha : a.length < 4611686018427387904) : Ev (fun k => laws_loNet.f k K a L b) (dec (K = L ∧ a = b)) := by
  simp only [laws_loNet.f]
  by_cases hK : K = L
  · exact Ev.yes hK (Ev.bind (e_laws_loTies a b ha) ((Ev.pure _).value (dec_congr ⟨fun h => ⟨hK, h⟩, fun h => h.2⟩)))
  · refine Ev.no hK ?_
    rw [dec_false (fun e => hK e.1)]; exact Ev.pure _
theorem e_laws_loNet_same (K : Int) (a : List STie) (ha : a.length < 4611686018427387904) : Ev (fun k => laws_loNet.f k K a K a) true := (e_laws_loNet K K a a ha).value (dec_true ⟨rfl, rfl⟩)
theorem e_laws_loHas_l0 (E : List STie) (t : STie) (hE : E.length < 4611686018427387904) (d : Nat) : ∀ i, i + d = E.length → Ev (fun k => laws_loHas.l0 k E (i : Int) t.f0 t.f1) (dec (t ∈ E.drop i)) := by
  induction d with
  | zero =>
    intro i hi
    refine Ev.succ ?_
    simp only [laws_loHas.l0]
    refine Ev.no (by omega) ?_
    rw [List.drop_eq_nil_of_le (by omega), dec_false (by simp)]
    exact Ev.pure _
  | succ d ih =>
    intro i hi
    have hlt : i < E.length := by omega
    refine Ev.succ ?_
    simp only [laws_loHas.l0]
    rw [rdT hlt, w64s (by omega), beq_tie, dec_congr (mem_drop_step hlt _)]
    refine Ev.yes (by omega) (Ev.yes (by omega) ?_)
    by_cases h : E[i] = t
    · refine Ev.yes (dec_true h) ?_
      rw [dec_true (.inl h)]
      exact Ev.pure _
    · exact Ev.no (by rw [dec_false h]; simp) ((ih (i + 1) (by omega)).value (dec_congr ⟨.inr, fun k => k.resolve_left h⟩))
theorem e_laws_loHas (E : List STie) (t : STie) (hE : E.length < 4611686018427387904) : Ev (fun k => laws_loHas.f k E t.f0 t.f1) (dec (t ∈ E)) := by
  simp only [laws_loHas.f]
  exact (e_laws_loHas_l0 E t hE E.length 0 (by omega)).value (by simp)
theorem e_laws_loInts_l0 (a b : List Int) (hl : a.length = b.length) (ha : a.length < 4611686018427387904) (d : Nat) : ∀ i, i + d = a.length → Ev (fun k => laws_loInts.l0 k a b (i : Int)) (dec (∀ j (h : j < a.length), i ≤ j → a[j] = b[j])) := by
  induction d with
  | zero =>
    intro i hi
    refine Ev.succ ?_
    simp only [laws_loInts.l0]
    refine Ev.no (by omega) ?_
    rw [dec_true (fun j h hij => by omega)]
    exact Ev.pure _
  | succ d ih =>
    intro i hi
    have hlt : i < a.length := by omega
    refine Ev.succ ?_
    simp only [laws_loInts.l0]
    refine Ev.yes (by omega) (Ev.yes (by omega) (Ev.yes (by omega) ?_))
    rw [rdI hlt, rdI (show i < b.length by omega), w64s (by omega)]
    by_cases h : a[i] = b[i]
    · refine Ev.yes h ((ih (i + 1) (by omega)).value (dec_congr ⟨fun h' j hj hij => ?_, fun h' j hj hij => h' j hj (by omega)⟩))
      rcases Nat.eq_or_lt_of_le hij with rfl | h5
      · exact h
      · exact h' j hj h5
    · refine Ev.no h ?_
      rw [dec_false (fun h' => h (h' i hlt (Nat.le_refl _)))]
      exact Ev.pure _
theorem e_laws_loInts (a b : List Int) (ha : a.length < 4611686018427387904) : Ev (fun k => laws_loInts.f k a b) (dec (a = b)) := by
  simp only [laws_loInts.f]
  by_cases hl : a.length = b.length
  · refine Ev.yes (by omega) ((e_laws_loInts_l0 a b hl ha a.length 0 (by omega)).value (dec_congr ?_))
    rw [list_eq_iff hl]
    exact ⟨fun h j hj => h j hj (Nat.zero_le _), fun h j hj _ => h j hj⟩
  · refine Ev.no (by omega) ?_
    rw [dec_false (fun e => hl (by rw [e]))]
    exact Ev.pure _
theorem e_laws_loBools_l0 (a b : List Bool) (hl : a.length = b.length) (ha : a.length < 4611686018427387904) (d : Nat) : ∀ i, i + d = a.length → Ev (fun k => laws_loBools.l0 k a b (i : Int)) (dec (∀ j (h : j < a.length), i ≤ j → a[j] = b[j])) := by
  induction d with
  | zero =>
    intro i hi
    refine Ev.succ ?_
    simp only [laws_loBools.l0]
    refine Ev.no (by omega) ?_
    rw [dec_true (fun j h hij => by omega)]
    exact Ev.pure _
  | succ d ih =>
    intro i hi
    have hlt : i < a.length := by omega
    refine Ev.succ ?_
    simp only [laws_loBools.l0]
    refine Ev.yes (by omega) (Ev.yes (by omega) (Ev.yes (by omega) ?_))
    rw [rdB hlt, rdB (show i < b.length by omega), w64s (by omega)]
    by_cases h : a[i] = b[i]
    · refine Ev.no (by rw [h]; simp) ((ih (i + 1) (by omega)).value (dec_congr ⟨fun h' j hj hij => ?_, fun h' j hj hij => h' j hj (by omega)⟩))
      rcases Nat.eq_or_lt_of_le hij with rfl | h5
      · exact h
      · exact h' j hj h5
    · refine Ev.yes (by simpa using h) ?_
      rw [dec_false (fun h' => h (h' i hlt (Nat.le_refl _)))]
      exact Ev.pure _
theorem e_laws_loBools (a b : List Bool) (ha : a.length < 4611686018427387904) : Ev (fun k => laws_loBools.f k a b) (dec (a = b)) := by
  simp only [laws_loBools.f]
  by_cases hl : a.length = b.length
  · refine Ev.yes (by omega) ((e_laws_loBools_l0 a b hl ha a.length 0 (by omega)).value (dec_congr ?_))
    rw [list_eq_iff hl]
    exact ⟨fun h j hj => h j hj (Nat.zero_le _), fun h j hj _ => h j hj⟩
  · refine Ev.no (by omega) ?_
    rw [dec_false (fun e => hl (by rw [e]))]
    exact Ev.pure _
theorem e_laws_loBack_l0 (l : List Int) (hl : l.length < 1099511627776) (d : Nat) : ∀ (acc : List Int), d ≤ l.length → acc = (l.drop d).reverse → Ev (fun k => laws_loBack.l0 k l acc ((d : Int) - 1)) l.reverse := by
  induction d with
  | zero =>
    intro acc hd ha
    refine Ev.succ ?_
    simp only [laws_loBack.l0]
    refine Ev.no (by omega) ?_
    rw [ha]; exact Ev.pure _
  | succ d ih =>
    intro acc hd ha
    have hlt : d < l.length := by omega
    have hal : acc.length < 17592186044416 := by rw [ha]; simp; omega
    refine Ev.succ ?_
    simp only [laws_loBack.l0]
    have e0 : ((d + 1 : Nat) : Int) - 1 = (d : Int) := by omega
    rw [e0, rdI hlt, w64 (by omega) (by omega)]
    refine Ev.yes (by omega) (Ev.yes (by omega) (Ev.yes (by omega) (Ev.yes hal (ih _ (by omega) ?_))))
    rw [ha, drop_cons _ hlt, List.reverse_cons]
theorem e_laws_loBack (l : List Int) (hl : l.length < 1099511627776) : Ev (fun k => laws_loBack.f k l) l.reverse := by
  simp only [laws_loBack.f]
  rw [w64 (by omega) (by omega)]
  exact e_laws_loBack_l0 l hl l.length [] (Nat.le_refl _) (by simp)
end Go.Proofs.Ytheoebelhgbejaa.E
