/- Rows of numbers, and ways. -/
import Derived.Test.YtheoebelhgbejabE2
import Derived.Test.YtheoebelhgbejabE3
namespace Go.Proofs.Ytheoebelhgbejab.E
open Go.RowKit Go.Proofs.YtheoebelhgbejabW.PrintWords Go.Proofs.YtheoebelhgbejabW.PrintMore Go.Proofs.Ytheoebelhgbejab.P Osier
set_option linter.unusedVariables false

theorem mem_drop_int {l : List Int} {i : Nat} (hi : i < l.length) (t : Int) : t ∈ l.drop i ↔ l[i] = t ∨ t ∈ l.drop (i + 1) := by
  rw [drop_cons _ hi, List.mem_cons]
  exact or_congr eq_comm Iff.rfl
theorem e_laws_eqIntS_l0 (a b : List Int) (hl : a.length = b.length) (ha : a.length < 4611686018427387904) (d : Nat) : ∀ i, i + d = a.length → Ev (fun k => laws_eqIntS.l0 k a b (i : Int)) (dec (∀ j (h : j < a.length), i ≤ j → a[j] = b[j])) := by
  induction d with
  | zero =>
    intro i hi
    refine Ev.succ ?_
    simp only [laws_eqIntS.l0]
    refine Ev.no (by omega) ?_
    rw [dec_true (fun j h hij => by omega)]
    exact Ev.pure _
  | succ d ih =>
    intro i hi
    have hlt : i < a.length := by omega
    refine Ev.succ ?_
    simp only [laws_eqIntS.l0]
    refine Ev.yes (by omega) (Ev.yes (by omega) (Ev.yes (by omega) ?_))
    rw [rdI hlt, rdI (show i < b.length by omega), w64s (by omega)]
    by_cases h : a[i] = b[i]
    · refine Ev.yes h ((ih (i + 1) (by omega)).value (dec_congr ⟨fun h' j hj hij => ?_, fun h' j hj hij => h' j hj (by omega)⟩))
      rcases Nat.eq_or_lt_of_le hij with rfl | h5
      · exact h
      · exact h' j hj h5
    · refine Ev.no h ?_
      rw [dec_false (fun h' => h (h' i hlt (Nat.le_refl _)))]
      exact Ev.pure _
theorem e_laws_eqIntS (a b : List Int) (ha : a.length < 4611686018427387904) : Ev (fun k => laws_eqIntS.f k a b) (dec (a = b)) := by
  simp only [laws_eqIntS.f]
  by_cases hl : a.length = b.length
  · refine Ev.yes (by omega) ((e_laws_eqIntS_l0 a b hl ha a.length 0 (by omega)).value (dec_congr ?_))
    rw [list_eq_iff hl]
    exact ⟨fun h j hj => h j hj (Nat.zero_le _), fun h j hj _ => h j hj⟩
  · refine Ev.no (by omega) ?_
    rw [dec_false (fun e => hl (by rw [e]))]
    exact Ev.pure _

/-! ### Ways, place by place -/
theorem walk_iff (E : List STie) (w : List Int) : Walk E w ↔ ∀ j (h : j < w.length), 0 < j → Ed E w[j - 1] w[j] := by
  induction w with
  | nil => exact ⟨fun _ j h => by simp at h, fun _ => trivial⟩
  | cons a w ih =>
    cases w with
    | nil => exact ⟨fun _ j h h0 => by simp at h; omega, fun _ => trivial⟩
    | cons b w =>
      constructor
      · rintro ⟨h1, h2⟩ j hj h0
        obtain ⟨m, rfl⟩ : ∃ m, j = m + 1 := ⟨j - 1, by omega⟩
        cases m with
        | zero => exact h1
        | succ m => exact (ih.1 h2) (m + 1) (by simpa using hj) (by omega)
      · intro h
        refine ⟨h 1 (by simp) (by omega), ih.2 (fun j hj h0 => ?_)⟩
        obtain ⟨m, rfl⟩ : ∃ m, j = m + 1 := ⟨j - 1, by omega⟩
        exact h (m + 2) (by simpa using hj) (by omega)
theorem nodup_iff_take (w : List Int) : w.Nodup ↔ ∀ j (h : j < w.length), w[j] ∉ w.take j := by
  unfold List.Nodup
  rw [List.pairwise_iff_getElem]
  constructor
  · intro h j hj hm
    obtain ⟨i, hi, he⟩ := List.getElem_of_mem hm
    simp only [List.length_take] at hi
    rw [List.getElem_take] at he
    exact h i j (by omega) hj (by omega) he
  · intro h i j hi hj hij he
    refine h j hj ?_
    rw [← he]
    have : i < (w.take j).length := by simp only [List.length_take]; omega
    have h2 := List.getElem_mem this
    rwa [List.getElem_take] at h2
theorem way_iff {K : Int} {E : List STie} (hE : Ok K E) (w : List Int) : Pth K E w ↔ 0 < w.length ∧ ∀ j (h : j < w.length), (0 ≤ w[j] ∧ w[j] < K) ∧ w[j] ∉ w.take j ∧ (0 < j → mkT w[j - 1] w[j] ∈ E) := by
  constructor
  · intro h
    refine ⟨List.length_pos_iff.2 h.ne, fun j hj => ⟨h.in_ _ (List.getElem_mem hj), (nodup_iff_take w).1 h.nodup j hj, fun h0 => hE.ed.1 ((walk_iff E w).1 h.walk j hj h0)⟩⟩
  · rintro ⟨h0, h⟩
    refine ⟨List.length_pos_iff.1 h0, fun v hv => ?_, (walk_iff E w).2 (fun j hj h0 => hE.ed.2 ((h j hj).2.2 h0)), (nodup_iff_take w).2 (fun j hj => (h j hj).2.1)⟩
    obtain ⟨j, hj, rfl⟩ := List.getElem_of_mem hv
    exact (h j hj).1

end Go.Proofs.Ytheoebelhgbejab.E
