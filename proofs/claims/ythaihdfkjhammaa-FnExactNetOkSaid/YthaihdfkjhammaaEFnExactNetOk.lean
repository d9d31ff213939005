/- NetOk: the pure statement. -/
import Derived.Test.YthaihdfkjhammaaE2
namespace Go.Proofs.Ythaihdfkjhammaa.E
open Go.RowKit Go.Proofs.Ythaihdfkjhammaa.P Osier
set_option linter.unusedVariables false
theorem FnExactNetOk (K : Int) (hK : (Lit.int .i64 K).wf = true) (l : List SLTie) (hl : l.length ≤ maxLen) : ∃ k, laws_FnExactNetOk.f k K l = some true := by
  refine Ev.get ?_
  simp only [laws_FnExactNetOk.f]
  refine Ev.bind (Ev.const (e_laws_szNet K l hl)) ?_
  by_cases h : l.length ≤ 1048576
  · rw [if_pos h]
    refine Ev.no (by omega) (Ev.bind (e_laws_toNet K l h) (Ev.bind (e_spec_NetOk K l) (Ev.bind (e_laws_toNet K l h) (Ev.bind (e_impl_NetOk K l (by omega)) ?_))))
    refine Ev.no (by simp) (Ev.bind (e_laws_toNet K l h) (Ev.bind (e_laws_eqNet K K l l (by omega)) ?_))
    exact Ev.yes (dec_true ⟨rfl, rfl⟩) (Ev.pure _)
  · rw [if_neg h]
    exact Ev.yes (by omega) (Ev.pure _)
end Go.Proofs.Ythaihdfkjhammaa.E
