/- WayOk: the pure statement. -/
import Derived.Test.YthaihdfkjhammaaE5
namespace Go.Proofs.Ythaihdfkjhammaa.E
open Go.RowKit Go.Proofs.Ythaihdfkjhammaa.P Osier
set_option linter.unusedVariables false
theorem FnExactWayOk (K : Int) (hK : (Lit.int .i64 K).wf = true) (l : List SLTie) (hl : l.length ≤ maxLen) (r : List Int) (hr : r.length ≤ maxLen) : ∃ k, laws_FnExactWayOk.f k K l r = some true := by
  refine Ev.get ?_
  simp only [laws_FnExactWayOk.f]
  by_cases h2 : r.length ≤ 1048576
  · refine Ev.no (by omega) (Ev.bind (Ev.const (e_laws_szNet K l hl)) ?_)
    by_cases h : l.length ≤ 1048576
    · rw [if_pos h]
      refine Ev.no (by omega) (Ev.bind (e_laws_toNet K l h) (Ev.bind (e_laws_toIntS r h2) (Ev.bind (e_spec_WayOk K l r (by omega) (by omega)) (Ev.bind (e_laws_toNet K l h) (Ev.bind (e_laws_toIntS r h2) (Ev.bind (e_impl_WayOk K l r (by omega) (by omega)) ?_))))))
      refine Ev.no (by simp) (Ev.bind (e_laws_toNet K l h) (Ev.bind (e_laws_eqNet K K l l (by omega)) ?_))
      refine Ev.yes (dec_true ⟨rfl, rfl⟩) (Ev.bind (e_laws_toIntS r h2) (Ev.bind (e_laws_eqIntS r r (by omega)) ?_))
      exact Ev.yes (dec_true rfl) (Ev.pure _)
    · rw [if_neg h]
      exact Ev.yes (by omega) (Ev.pure _)
  · exact Ev.yes (by omega) (Ev.pure _)
end Go.Proofs.Ythaihdfkjhammaa.E
