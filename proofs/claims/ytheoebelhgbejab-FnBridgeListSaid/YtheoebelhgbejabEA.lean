/- A tie added. -/
import Derived.Test.YtheoebelhgbejabE4
namespace Go.Proofs.Ytheoebelhgbejab.E
open Go.RowKit Go.Proofs.YtheoebelhgbejabW.PrintWords Go.Proofs.YtheoebelhgbejabW.PrintMore Go.Proofs.Ytheoebelhgbejab.P Osier
set_option linter.unusedVariables false

/-- A tie at its place. -/
noncomputable def ins (t : STie) : List STie → List STie
  | [] => [t]
  | s :: l => if dec (tlt t s) = true then t :: s :: l else s :: ins t l
theorem mem_ins {t s : STie} {l : List STie} : s ∈ ins t l ↔ s = t ∨ s ∈ l := by
  induction l with
  | nil => simp [ins]
  | cons u l ih =>
    rw [ins]
    split
    · simp
    · simp only [List.mem_cons, ih]
      constructor
      · rintro (h | h | h) <;> simp [h]
      · rintro (h | h | h) <;> simp [h]
theorem length_ins (t : STie) (l : List STie) : (ins t l).length = l.length + 1 := by
  induction l with
  | nil => rfl
  | cons u l ih =>
    rw [ins]
    split
    · rfl
    · simp [ih]
theorem asc_ins {t : STie} {l : List STie} (h : Asc l) (ht : t ∉ l) : Asc (ins t l) := by
  induction l with
  | nil => exact List.pairwise_singleton _ _
  | cons u l ih =>
    rw [ins]
    have hu : ∀ s ∈ l, tlt u s := (List.pairwise_cons.1 h).1
    split
    · rename_i hd
      have hd := dec_iff.1 hd
      refine List.pairwise_cons.2 ⟨fun s hs => ?_, h⟩
      rcases List.mem_cons.1 hs with rfl | hs
      · exact hd
      · exact tlt_trans hd (hu s hs)
    · rename_i hd
      have hd : ¬ tlt t u := fun k => hd (dec_true k)
      refine List.pairwise_cons.2 ⟨fun s hs => ?_, ih (List.pairwise_cons.1 h).2 (fun k => ht (List.mem_cons_of_mem _ k))⟩
      rcases mem_ins.1 hs with rfl | hs
      · rcases tlt_total s u with k | k | k
        · exact absurd k hd
        · exact absurd (k ▸ List.mem_cons_self) ht
        · exact k
      · exact hu s hs
theorem ok_ins {K : Int} {E : List STie} {t : STie} (h : Ok K E) (ht : t ∉ E) (h0 : 0 ≤ t.f0) (h1 : t.f0 < t.f1) (h2 : t.f1 < K) : Ok K (ins t E) := by
  refine ⟨h.k0, h.k8, fun s hs => ?_, asc_ins h.asc ht⟩
  rcases mem_ins.1 hs with rfl | hs
  · exact ⟨h0, h1, h2⟩
  · exact h.tie s hs
/-- What NetAdd answers. -/
def Addable (K : Int) (E : List STie) (a b : Int) : Prop := Ok K E ∧ (0 ≤ a ∧ a < K) ∧ (0 ≤ b ∧ b < K) ∧ a ≠ b ∧ mkT a b ∉ E
noncomputable def addV (K : Int) (E : List STie) (a b : Int) : Int × List STie × Bool := if dec (Addable K E a b) = true then (K, ins (mkT a b) E, true) else (0, [], false)
theorem mkT_in {K a b : Int} (ha : 0 ≤ a ∧ a < K) (hb : 0 ≤ b ∧ b < K) (h : a ≠ b) : 0 ≤ (mkT a b).f0 ∧ (mkT a b).f0 < (mkT a b).f1 ∧ (mkT a b).f1 < K := by
  unfold mkT
  split <;> simp only <;> omega
theorem addable_ok {K : Int} {E : List STie} {a b : Int} (h : Addable K E a b) : Ok K (ins (mkT a b) E) := by
  obtain ⟨h1, h2, h3, h4, h5⟩ := h
  have := mkT_in h2 h3 h4
  exact ok_ins h1 h5 this.1 this.2.1 this.2.2
theorem ok_none : Ok 0 ([] : List STie) := ⟨by omega, by omega, fun t h => by simp at h, List.Pairwise.nil⟩
theorem addV_ok (K : Int) (E : List STie) (a b : Int) : Ok (addV K E a b).1 (addV K E a b).2.1 := by
  unfold addV
  by_cases h : Addable K E a b
  · rw [if_pos (dec_true h)]; exact addable_ok h
  · rw [if_neg (by rw [dec_false h]; simp)]; exact ok_none
theorem ins_step {E : List STie} {i : Nat} (hi : i < E.length) (t : STie) : ins t (E.drop i) = if dec (tlt t E[i]) = true then t :: E[i] :: E.drop (i + 1) else E[i] :: ins t (E.drop (i + 1)) := by
  rw [drop_cons _ hi, ins]
theorem e_spec_NetAdd_l0t (K : Int) (E : List STie) (t : STie) (hE : E.length < 1099511627776) (d : Nat) : ∀ (i : Nat) (acc : List STie), i + d = E.length → acc.length ≤ i + 1 → Ev (fun k => spec_NetAdd.l0 k true (i : Int) K E K acc t.f0 t.f1) (K, acc ++ E.drop i, true) := by
  induction d with
  | zero =>
    intro i acc hi ha
    refine Ev.succ ?_
    simp only [spec_NetAdd.l0]
    refine Ev.no (by omega) (Ev.yes (by trivial) ?_)
    rw [List.drop_eq_nil_of_le (by omega), List.append_nil]
    exact Ev.pure _
  | succ d ih =>
    intro i acc hi ha
    have hlt : i < E.length := by omega
    refine Ev.succ ?_
    simp only [spec_NetAdd.l0]
    rw [rdT hlt, w64s (by omega), drop_cons _ hlt]
    refine Ev.yes (by omega) (Ev.yes (by trivial) (Ev.yes (by omega) (Ev.yes (by omega) ((ih (i + 1) _ (by omega) (by simp; omega)).value ?_))))
    simp
    exact (drop_cons _ hlt).symm
theorem e_spec_NetAdd_l0 (K : Int) (E : List STie) (t : STie) (hE : E.length < 1099511627776) (d : Nat) : ∀ (i : Nat) (acc : List STie), i + d = E.length → acc.length ≤ i → Ev (fun k => spec_NetAdd.l0 k false (i : Int) K E K acc t.f0 t.f1) (K, acc ++ ins t (E.drop i), true) := by
  induction d with
  | zero =>
    intro i acc hi ha
    refine Ev.succ ?_
    simp only [spec_NetAdd.l0]
    refine Ev.no (by omega) (Ev.no (by simp) ?_)
    rw [List.drop_eq_nil_of_le (by omega)]
    exact Ev.yes (by omega) (Ev.pure _)
  | succ d ih =>
    intro i acc hi ha
    have hlt : i < E.length := by omega
    refine Ev.succ ?_
    simp only [spec_NetAdd.l0]
    rw [rdT hlt, w64s (by omega), ins_step hlt]
    refine Ev.yes (by omega) (Ev.no (by simp) (Ev.yes (by omega) (Ev.bind (Ev.const (e_spec_l1Less t E[i])) ?_)))
    by_cases h : tlt t E[i]
    · rw [dec_true h]
      refine Ev.yes (by trivial) (Ev.yes (by omega) (Ev.bind (Ev.pure _) (Ev.yes (by simp; omega) ((e_spec_NetAdd_l0t K E t hE d (i + 1) _ (by omega) (by simp; omega)).value ?_))))
      simp
      exact (drop_cons _ hlt).symm
    · rw [dec_false h]
      refine Ev.no (by simp) (Ev.yes (by omega) ((ih (i + 1) _ (by omega) (by simp; omega)).value ?_))
      simp
theorem e_spec_NetAdd (K : Int) (E : List STie) (a b : Int) (hE : E.length < 1099511627776) : Ev (fun k => spec_NetAdd.f k K E a b) (addV K E a b) := by
  simp only [spec_NetAdd.f]
  have no : ¬ Addable K E a b → Ev (fun k => spec_NetAdd.j0 k a b true K E) (addV K E a b) := by
    intro h
    unfold addV
    rw [if_neg (by rw [dec_false h]; simp)]
    refine Ev.succ ?_
    simp only [spec_NetAdd.j0]
    exact Ev.yes (by trivial) (Ev.pure _)
  refine Ev.bind (e_spec_l1Knot K E a) ?_
  by_cases h1 : Ok K E ∧ 0 ≤ a ∧ a < K
  · refine Ev.yes (dec_true h1) (Ev.bind (e_spec_l1Knot K E b) ?_)
    by_cases h2 : Ok K E ∧ 0 ≤ b ∧ b < K
    · refine Ev.yes (dec_true h2) ?_
      by_cases h3 : a = b
      · exact Ev.yes h3 (no (fun h => h.2.2.2.1 h3))
      · refine Ev.no h3 (Ev.bind (e_spec_NetHas K E a b (by omega)) ?_)
        by_cases h4 : mkT a b ∈ E
        · rw [dec_true ⟨h1.1, h4⟩]
          exact no (fun h => h.2.2.2.2 h4)
        · rw [dec_false (fun h => h4 h.2)]
          refine Ev.succ ?_
          simp only [spec_NetAdd.j0]
          refine Ev.no (by simp) (Ev.bind (Ev.const (e_spec_l1Tie a b)) ((e_spec_NetAdd_l0 K E (mkT a b) hE E.length 0 [] (by omega) (by simp)).value ?_))
          unfold addV
          rw [if_pos (dec_true ⟨h1.1, h1.2, h2.2, h3, h4⟩)]
          simp
    · exact Ev.no (by rw [dec_false h2]; simp) (no (fun h => h2 ⟨h.1, h.2.2.1⟩))
  · exact Ev.no (by rw [dec_false h1]; simp) (no (fun h => h1 ⟨h.1, h.2.1⟩))
end Go.Proofs.Ytheoebelhgbejab.E
