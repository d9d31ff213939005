/- TreeOf (P25): the pure statement. -/
import Derived.Test.YtheoebelhgbejabEY
import Derived.Test.YtheoebelhgbejabEL
import Derived.Test.YtheoebelhgbejabE8
import Derived.Test.YtheoebelhgbejabE9
namespace Go.Proofs.Ytheoebelhgbejab.E
open Go.RowKit Go.Proofs.Ytheoebelhgbejab.P Osier
set_option linter.unusedVariables false
theorem e_spec_DrawTreeOf {l : List Int} (hl : ∀ x ∈ l, (Lit.int .u8 x).wf = true) : ∃ K E, Ev (fun k => spec_DrawTreeOf.f k l) (K, E) ∧ Small K E := by
  obtain ⟨xs, hx, hs⟩ := e_spec_l6Open hl
  obtain ⟨K, E, q, hq, ho, _, _⟩ := e_spec_l71Any hs (p := 0) (by omega) (by omega)
  simp only [spec_DrawTreeOf.f]
  exact ⟨K, E, Ev.bind (Ev.const hx) (Ev.bind hq (Ev.pure _)), ho⟩
theorem kr_tree {K : Int} {E : List STie} (h : Ok K E) : TreeP K E (kr [] E) :=
  ⟨h, kr_ok h, fun t ht => (kr_sublist E).subset ht, kr_comps K E, kr_length h⟩
theorem FnTreeOf (l : List Int) (hl : l.length ≤ maxLen) (hw : ∀ x ∈ l, (Lit.int .u8 x).wf = true) : ∃ k, laws_FnTreeOf.f k l = some true := by
  refine Ev.get ?_
  simp only [laws_FnTreeOf.f]
  by_cases h : (l.length : Int) > 1048576
  · exact Ev.yes h (Ev.pure _)
  · obtain ⟨K, E, hd, hs⟩ := e_spec_DrawTreeOf hw
    have hlen := hs.len
    have ht := treeV_len K E
    refine Ev.no h (Ev.bind hd (Ev.bind (e_impl_TreeOf K E (by omega)) (Ev.bind (e_spec_TreeOf K E) (Ev.bind (e_laws_loTies _ _ (by omega)) (Ev.yes (dec_true rfl) (Ev.bind (e_spec_NetOk K E) (Ev.succ ?_)))))))
    simp only [laws_FnTreeOf.j0]
    by_cases g : Ok K E
    · have ev : treeV K E = kr [] E := by unfold treeV; rw [if_pos (dec_true g)]
      have hc := comps_leK (E := E) g.k0
      have h8 := g.k8
      have hkl := (kr_sublist E).length_le
      rw [dec_true g, ev]
      refine Ev.no (by simp) (Ev.bind (e_impl_TreeOk K E _ (by omega) (by omega)) (Ev.yes (dec_true (kr_tree g)) (Ev.bind (e_impl_WayCount K E (by omega)) ((Ev.pure _).value ?_))))
      rw [countV_ok g, w64 (by omega) (by omega), kr_length g]
      simp
    · rw [dec_false g]
      exact Ev.yes (by trivial) (Ev.bind (e_spec_TreeOf K E) (Ev.bind (e_laws_loTies _ _ (by omega)) ((Ev.pure _).value (dec_true rfl))))
end Go.Proofs.Ytheoebelhgbejab.E
