/- WayCount: the pure statement. -/
import Derived.Test.YthaihdfkjhammaaE7
namespace Go.Proofs.Ythaihdfkjhammaa.E
open Go.RowKit Go.Proofs.Ythaihdfkjhammaa.P Osier
set_option linter.unusedVariables false
theorem FnExactWayCount (K : Int) (hK : (Lit.int .i64 K).wf = true) (l : List SLTie) (hl : l.length ≤ maxLen) : ∃ k, laws_FnExactWayCount.f k K l = some true := by
  refine Ev.get ?_
  simp only [laws_FnExactWayCount.f]
  refine Ev.bind (Ev.const (e_laws_szNet K l hl)) ?_
  by_cases h : l.length ≤ 1048576
  · rw [if_pos h]
    refine Ev.no (by omega) (Ev.bind (e_laws_toNet K l h) (Ev.bind (e_spec_WayCount K l) (Ev.bind (e_laws_toNet K l h) (Ev.bind (e_impl_WayCount K l (by omega)) ?_))))
    refine Ev.yes rfl (Ev.bind (e_laws_toNet K l h) (Ev.bind (e_laws_eqNet K K l l (by omega)) ?_))
    exact Ev.yes (dec_true ⟨rfl, rfl⟩) (Ev.pure _)
  · rw [if_neg h]
    exact Ev.yes (by omega) (Ev.pure _)
end Go.Proofs.Ythaihdfkjhammaa.E
