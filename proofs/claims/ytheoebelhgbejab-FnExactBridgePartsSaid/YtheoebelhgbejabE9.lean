/- TreeOk: both answers. -/
import Derived.Test.YtheoebelhgbejabE7
import Derived.Test.YtheoebelhgbejabE4
namespace Go.Proofs.Ytheoebelhgbejab.E
open Go.RowKit Go.Proofs.YtheoebelhgbejabW.PrintWords Go.Proofs.YtheoebelhgbejabW.PrintMore Go.Proofs.Ytheoebelhgbejab.P Osier
set_option linter.unusedVariables false
/-- F is a tree, or a wood, of the net that holds all together. -/
def TreeP (K : Int) (E F : List STie) : Prop := Ok K E ∧ Ok K F ∧ (∀ t ∈ F, t ∈ E) ∧ comps K F = comps K E ∧ (F.length : Int) = K - comps K E
theorem comps_leK {K : Int} {E : List STie} (h : 0 ≤ K) : (comps K E : Int) ≤ K := by
  have := rootsTo_le K E K.toNat
  rw [rootsTo_all] at this
  omega
theorem mkT_eta {K : Int} {F : List STie} (hF : Ok K F) {t : STie} (ht : t ∈ F) : mkT t.f0 t.f1 = t := by
  have := hF.tie t ht
  unfold mkT
  rw [if_pos (by omega)]
theorem countV_ok {K : Int} {E : List STie} (h : Ok K E) : countV K E = (comps K E : Int) := by unfold countV; rw [if_pos (dec_true h)]
theorem countV_no {K : Int} {E : List STie} (h : ¬ Ok K E) : countV K E = -1 := by unfold countV; rw [if_neg (by rw [dec_false h]; simp)]
theorem e_spec_TreeOk_l0 {K : Int} {E F : List STie} (hE : Ok K E) (hF : Ok K F) (d : Nat) : ∀ i, i + d = F.length → (∀ t ∈ F.take i, t ∈ E) → Ev (fun k => spec_TreeOk.l0 k F (i : Int) K E K F) (dec (TreeP K E F)) := by
  have hlE := hE.len
  have hlF := hF.len
  have h8 := hE.k8
  have hc := comps_leK (E := E) hE.k0
  induction d with
  | zero =>
    intro i hi hs
    rw [List.take_of_length_le (by omega)] at hs
    refine Ev.succ ?_
    simp only [spec_TreeOk.l0]
    refine Ev.no (by omega) (Ev.bind (e_spec_WayCount K F) (Ev.bind (e_spec_WayCount K E) ?_))
    rw [countV_ok hE, countV_ok hF]
    by_cases h : comps K F = comps K E
    · refine Ev.yes (by omega) (Ev.bind (e_spec_WayCount K E) ((Ev.pure _).value ?_))
      rw [countV_ok hE, w64 (by omega) (by omega)]
      by_cases g : (F.length : Int) = K - comps K E
      · rw [dec_true ⟨hE, hF, hs, h, g⟩]; simpa using g
      · rw [dec_false (fun k => g k.2.2.2.2)]; simpa using g
    · refine Ev.no (by omega) ?_
      rw [dec_false (fun k => h k.2.2.2.1)]; exact Ev.pure _
  | succ d ih =>
    intro i hi hs
    have hlt : i < F.length := by omega
    have hm : F[i] ∈ F := List.getElem_mem hlt
    refine Ev.succ ?_
    simp only [spec_TreeOk.l0]
    rw [rdT hlt, w64s (by omega)]
    refine Ev.yes (by omega) (Ev.yes (by omega) (Ev.bind (e_spec_NetHas K E _ _ (by omega)) ?_))
    rw [mkT_eta hF hm]
    by_cases h : F[i] ∈ E
    · refine Ev.yes (dec_true ⟨hE, h⟩) (ih (i + 1) (by omega) ?_)
      intro t ht
      rw [take_snoc _ hlt] at ht
      rcases List.mem_append.1 ht with ht | ht
      · exact hs t ht
      · rw [List.mem_singleton.1 ht]; exact h
    · refine Ev.no (by rw [dec_false (fun k => h k.2)]; simp) ?_
      rw [dec_false (fun k => h (k.2.2.1 _ hm))]; exact Ev.pure _
theorem e_spec_TreeOk (K : Int) (E F : List STie) : Ev (fun k => spec_TreeOk.f k K E F) (dec (TreeP K E F)) := by
  have no : ¬ TreeP K E F → Ev (fun k => spec_TreeOk.j0 k F true K E K F) (dec (TreeP K E F)) := by
    intro h
    rw [dec_false h]
    refine Ev.succ ?_
    simp only [spec_TreeOk.j0]
    exact Ev.yes (by trivial) (Ev.pure _)
  simp only [spec_TreeOk.f]
  refine Ev.bind (e_spec_NetOk K E) ?_
  by_cases h : Ok K E
  · refine Ev.yes (dec_true h) (Ev.bind (e_spec_NetOk K F) ?_)
    by_cases g : Ok K F
    · rw [dec_true g]
      refine Ev.succ ?_
      simp only [spec_TreeOk.j0]
      exact Ev.no (by simp) (e_spec_TreeOk_l0 h g F.length 0 (by omega) (by simp))
    · rw [dec_false g]
      exact no (fun k => g k.2.1)
  · exact Ev.no (by rw [dec_false h]; simp) (no (fun k => h k.1))
theorem e_impl_Net_own_l0 (K : Int) (E F : List STie) (hE : E.length < 1099511627776) (hF : F.length < 1099511627776) (d : Nat) : ∀ i, i + d = F.length → (∀ t ∈ F.take i, t ∈ E) → Ev (fun k => impl_Net_own.l0 k F F (F.length : Int) (i : Int) K E) (dec ((∀ t ∈ F, t ∈ E) ∧ Asc F)) := by
  induction d with
  | zero =>
    intro i hi hs
    rw [List.take_of_length_le (by omega)] at hs
    refine Ev.succ ?_
    simp only [impl_Net_own.l0]
    exact Ev.no (by omega) (Ev.bind (e_impl_ascending F (by omega)) ((Ev.pure _).value (dec_congr ⟨fun h => ⟨hs, h⟩, fun h => h.2⟩)))
  | succ d ih =>
    intro i hi hs
    have hlt : i < F.length := by omega
    have hm : F[i] ∈ F := List.getElem_mem hlt
    refine Ev.succ ?_
    simp only [impl_Net_own.l0]
    rw [rdT hlt, w64s (by omega)]
    refine Ev.yes (by omega) (Ev.yes (by omega) (Ev.yes (by omega) (Ev.bind (e_slices_Contains_Tie E F[i] (by omega)) ?_)))
    by_cases h : F[i] ∈ E
    · refine Ev.yes (dec_true h) (ih (i + 1) (by omega) ?_)
      intro t ht
      rw [take_snoc _ hlt] at ht
      rcases List.mem_append.1 ht with ht | ht
      · exact hs t ht
      · rw [List.mem_singleton.1 ht]; exact h
    · refine Ev.no (by rw [dec_false h]; simp) ?_
      rw [dec_false (fun k => h (k.1 _ hm))]; exact Ev.pure _
theorem e_impl_Net_own (K : Int) (E F : List STie) (hE : E.length < 1099511627776) (hF : F.length < 1099511627776) : Ev (fun k => impl_Net_own.f k K E F) (dec ((∀ t ∈ F, t ∈ E) ∧ Asc F)) := by
  simp only [impl_Net_own.f]
  exact e_impl_Net_own_l0 K E F hE hF F.length 0 (by omega) (by simp)
theorem e_impl_TreeOk (K : Int) (E F : List STie) (hE : E.length < 1099511627776) (hF : F.length < 1099511627776) : Ev (fun k => impl_TreeOk.f k K E F) (dec (TreeP K E F)) := by
  have no : ¬ TreeP K E F → Ev (fun k => impl_TreeOk.j0 k F true K E) (dec (TreeP K E F)) := by
    intro h
    rw [dec_false h]
    refine Ev.succ ?_
    simp only [impl_TreeOk.j0]
    exact Ev.yes (by trivial) (Ev.pure _)
  simp only [impl_TreeOk.f]
  refine Ev.bind (e_impl_NetOk K E (by omega)) ?_
  by_cases h : Ok K E
  · have h8 := h.k8
    have hc := comps_leK (E := E) h.k0
    refine Ev.yes (dec_true h) (Ev.bind (e_impl_Net_own K E F hE hF) ?_)
    by_cases g : (∀ t ∈ F, t ∈ E) ∧ Asc F
    · have hF : Ok K F := ⟨h.k0, h.k8, fun t ht => h.tie t (g.1 t ht), g.2⟩
      rw [dec_true g]
      refine Ev.succ ?_
      simp only [impl_TreeOk.j0]
      refine Ev.no (by simp) (Ev.bind (e_impl_Net_count h) (Ev.bind (e_impl_Net_count hF) ?_))
      by_cases c : comps K F = comps K E
      · refine Ev.yes (by omega) ((Ev.pure _).value ?_)
        rw [w64 (by omega) (by omega)]
        by_cases e : (F.length : Int) = K - comps K E
        · rw [dec_true ⟨h, hF, g.1, c, e⟩]; simpa using e
        · rw [dec_false (fun k => e k.2.2.2.2)]; simpa using e
      · refine Ev.no (by omega) ?_
        rw [dec_false (fun k => c k.2.2.2.1)]; exact Ev.pure _
    · rw [dec_false g]
      exact no (fun k => g ⟨k.2.2.1, k.2.1.asc⟩)
  · exact Ev.no (by rw [dec_false h]; simp) (no (fun k => h k.1))
end Go.Proofs.Ytheoebelhgbejab.E
