/- Ties and knots: having a tie, without a knot, with a tie cut. -/
import Derived.Test.YtheoebelhgbejabE1
namespace Go.Proofs.Ytheoebelhgbejab.E
open Go.RowKit Go.Proofs.YtheoebelhgbejabW.PrintWords Go.Proofs.YtheoebelhgbejabW.PrintMore Go.Proofs.Ytheoebelhgbejab.P Osier
set_option linter.unusedVariables false

theorem e_spec_l1Tie (a b : Int) : spec_l1Tie.f a b = some ((mkT a b).f0, (mkT a b).f1) := by
  unfold spec_l1Tie.f mkT
  split <;> rfl
theorem e_impl_tie (a b : Int) : impl_tie.f a b = some ((mkT a b).f0, (mkT a b).f1) := by
  unfold impl_tie.f mkT mn mx
  by_cases h : a < b
  · rw [if_pos h, if_pos h, if_neg (by omega)]
  · by_cases h' : b < a
    · rw [if_neg h, if_neg h, if_pos h']
    · have : a = b := by omega
      subst this
      rw [if_neg h, if_neg h]
theorem beq_tie (s t : STie) : (s.f0 == t.f0 && (s.f1 == t.f1)) = dec (s = t) := by
  by_cases h : s = t
  · subst h; rw [dec_true rfl]; simp
  · rw [dec_false h]
    by_cases h0 : s.f0 = t.f0
    · have h1 : ¬ s.f1 = t.f1 := fun h1 => h (Tie.ext' h0 h1)
      simp [h1]
    · simp [h0]
theorem bne_tie (s t : STie) : (!(s.f0 == t.f0) || (!(s.f1 == t.f1))) = dec (s ≠ t) := by
  by_cases h : s = t
  · subst h; rw [dec_false (fun h => h rfl)]; simp
  · rw [dec_true h]
    by_cases h0 : s.f0 = t.f0
    · have h1 : ¬ s.f1 = t.f1 := fun h1 => h (Tie.ext' h0 h1)
      simp [h1]
    · simp [h0]
theorem mem_drop_step {E : List STie} {i : Nat} (hi : i < E.length) (t : STie) : t ∈ E.drop i ↔ E[i] = t ∨ t ∈ E.drop (i + 1) := by
  rw [drop_cons _ hi, List.mem_cons]
  exact or_congr eq_comm Iff.rfl
theorem e_spec_l1Has_l0 (K : Int) (E : List STie) (a b : Int) (hE : E.length < 4611686018427387904) (d : Nat) : ∀ i, i + d = E.length → Ev (fun k => spec_l1Has.l0 k a b (i : Int) K E) (dec (mkT a b ∈ E.drop i)) := by
  induction d with
  | zero =>
    intro i hi
    refine Ev.succ ?_
    simp only [spec_l1Has.l0]
    refine Ev.no (by omega) ?_
    rw [List.drop_eq_nil_of_le (by omega), dec_false (by simp)]
    exact Ev.pure _
  | succ d ih =>
    intro i hi
    have hlt : i < E.length := by omega
    refine Ev.succ ?_
    simp only [spec_l1Has.l0]
    rw [rdT hlt, w64s (by omega)]
    refine Ev.yes (by omega) (Ev.yes (by omega) (Ev.bind (Ev.const (e_spec_l1Tie a b)) ?_))
    dsimp only
    rw [beq_tie, dec_congr (mem_drop_step hlt _)]
    by_cases h : E[i] = mkT a b
    · refine Ev.yes (dec_true h) ?_
      rw [dec_true (.inl h)]
      exact Ev.pure _
    · refine Ev.no (by rw [dec_false h]; simp) ((ih (i + 1) (by omega)).value (dec_congr ⟨.inr, fun k => k.resolve_left h⟩))
theorem e_spec_l1Has (K : Int) (E : List STie) (a b : Int) (hE : E.length < 4611686018427387904) : Ev (fun k => spec_l1Has.f k K E a b) (dec (mkT a b ∈ E)) := by
  simp only [spec_l1Has.f]
  exact (e_spec_l1Has_l0 K E a b hE E.length 0 (by omega)).value (by simp)
theorem e_spec_NetHas (K : Int) (E : List STie) (a b : Int) (hE : E.length < 4611686018427387904) : Ev (fun k => spec_NetHas.f k K E a b) (dec (Ok K E ∧ mkT a b ∈ E)) := by
  simp only [spec_NetHas.f]
  refine Ev.bind (e_spec_NetOk K E) ?_
  by_cases h : Ok K E
  · refine Ev.yes (dec_true h) (Ev.bind (e_spec_l1Has K E a b hE) ((Ev.pure _).value (dec_congr ⟨fun k => ⟨h, k⟩, fun k => k.2⟩)))
  · refine Ev.no (by rw [dec_false h]; simp) ?_
    rw [dec_false (fun k => h k.1)]; exact Ev.pure _
theorem e_slices_Index_Tie_l0 (E : List STie) (t : STie) (hE : E.length < 4611686018427387904) (d : Nat) : ∀ i, i + d = E.length → ∃ r, Ev (fun k => slices_Index_Tie.l0 k E (E.length : Int) (i : Int) t.f0 t.f1) r ∧ (r ≥ 0 ↔ t ∈ E.drop i) := by
  induction d with
  | zero =>
    intro i hi
    refine ⟨-1, Ev.succ ?_, ?_⟩
    · simp only [slices_Index_Tie.l0]
      exact Ev.no (by omega) (Ev.pure _)
    · rw [List.drop_eq_nil_of_le (by omega)]; simp
  | succ d ih =>
    intro i hi
    have hlt : i < E.length := by omega
    by_cases h : t = E[i]
    · refine ⟨(i : Int), Ev.succ ?_, ?_⟩
      · simp only [slices_Index_Tie.l0]
        rw [rdT hlt, beq_tie]
        exact Ev.yes (by omega) (Ev.yes (by omega) (Ev.yes (by omega) (Ev.yes (dec_true h) (Ev.pure _))))
      · rw [mem_drop_step hlt]
        exact ⟨fun _ => .inl h.symm, fun _ => by omega⟩
    · obtain ⟨r, hr, hr'⟩ := ih (i + 1) (by omega)
      refine ⟨r, Ev.succ ?_, ?_⟩
      · simp only [slices_Index_Tie.l0]
        rw [rdT hlt, beq_tie, w64s (by omega)]
        exact Ev.yes (by omega) (Ev.yes (by omega) (Ev.yes (by omega) (Ev.no (by rw [dec_false h]; simp) hr)))
      · rw [mem_drop_step hlt, hr']
        exact ⟨.inr, fun k => k.resolve_left (fun e => h e.symm)⟩
theorem e_slices_Contains_Tie (E : List STie) (t : STie) (hE : E.length < 4611686018427387904) : Ev (fun k => slices_Contains_Tie.f k E t.f0 t.f1) (dec (t ∈ E)) := by
  simp only [slices_Contains_Tie.f, slices_Index_Tie.f]
  obtain ⟨r, hr, hr'⟩ := e_slices_Index_Tie_l0 E t hE E.length 0 (by omega)
  refine Ev.bind hr ((Ev.pure _).value ?_)
  rw [dec_decide]
  exact dec_congr (by simpa using hr')
theorem e_impl_Net_has (K : Int) (E : List STie) (a b : Int) (hE : E.length < 4611686018427387904) : Ev (fun k => impl_Net_has.f k K E a b) (dec (mkT a b ∈ E)) := by
  simp only [impl_Net_has.f]
  exact Ev.bind (Ev.const (e_impl_tie a b)) (Ev.bind (e_slices_Contains_Tie E (mkT a b) hE) (Ev.pure _))
theorem e_impl_NetHas (K : Int) (E : List STie) (a b : Int) (hE : E.length < 4611686018427387904) : Ev (fun k => impl_NetHas.f k K E a b) (dec (Ok K E ∧ mkT a b ∈ E)) := by
  simp only [impl_NetHas.f]
  refine Ev.bind (e_impl_NetOk K E hE) ?_
  by_cases h : Ok K E
  · refine Ev.yes (dec_true h) (Ev.bind (e_impl_Net_has K E a b hE) ((Ev.pure _).value (dec_congr ⟨fun k => ⟨h, k⟩, fun k => k.2⟩)))
  · refine Ev.no (by rw [dec_false h]; simp) ?_
    rw [dec_false (fun k => h k.1)]; exact Ev.pure _
theorem e_spec_l1Knot (K : Int) (E : List STie) (a : Int) : Ev (fun k => spec_l1Knot.f k K E a) (dec (Ok K E ∧ 0 ≤ a ∧ a < K)) := by
  simp only [spec_l1Knot.f]
  refine Ev.bind (e_spec_NetOk K E) ?_
  by_cases h : Ok K E
  · have := h.k0
    have := h.k8
    refine Ev.yes (dec_true h) ?_
    rw [w64 (x := K - 1) (by omega) (by omega)]
    exact Ev.bind (Ev.const (e_spec_l6In _ _ _)) ((Ev.pure _).value (dec_congr ⟨fun k => ⟨h, k.1, by omega⟩, fun k => ⟨k.2.1, by omega⟩⟩))
  · refine Ev.no (by rw [dec_false h]; simp) ?_
    rw [dec_false (fun k => h k.1)]; exact Ev.pure _
theorem e_impl_Net_knot (K : Int) (E : List STie) (a : Int) : impl_Net_knot.f K E a = some (dec (0 ≤ a ∧ a < K)) := by
  unfold impl_Net_knot.f
  by_cases h : a ≥ 0
  · rw [if_pos h, dec_decide]
    exact congrArg some (dec_congr ⟨fun k => ⟨h, k⟩, fun k => k.2⟩)
  · rw [if_neg h, dec_false (by omega)]

/-! ### Without a knot -/
def far (k : Int) (t : STie) : Bool := decide (t.f0 ≠ k ∧ t.f1 ≠ k)
theorem filter_drop_step {E : List STie} {i : Nat} (hi : i < E.length) (p : STie → Bool) : (E.drop i).filter p = (if p E[i] then [E[i]] else []) ++ (E.drop (i + 1)).filter p := by
  rw [drop_cons _ hi, List.filter_cons]
  split <;> simp_all
/-- What NetWithout answers. -/
noncomputable def woV (K : Int) (E : List STie) (a : Int) : Int × List STie := if dec (Ok K E ∧ 0 ≤ a ∧ a < K) = true then (K, E.filter (far a)) else (0, [])
theorem woV_len (K : Int) (E : List STie) (a : Int) : (woV K E a).2.length ≤ E.length := by
  unfold woV
  split
  · exact List.length_filter_le _ _
  · simp
end Go.Proofs.Ytheoebelhgbejab.E
