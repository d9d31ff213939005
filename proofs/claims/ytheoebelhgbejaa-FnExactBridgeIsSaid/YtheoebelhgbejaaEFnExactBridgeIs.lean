/- BridgeIs: the pure statement. -/
import Derived.Test.YtheoebelhgbejaaEX
import Derived.Test.YtheoebelhgbejaaE2
namespace Go.Proofs.Ytheoebelhgbejaa.E
open Go.RowKit Go.Proofs.Ytheoebelhgbejaa.P Osier
set_option linter.unusedVariables false
theorem FnExactBridgeIs (K : Int) (hK : (Lit.int .i64 K).wf = true) (l : List SLTie) (hl : l.length ≤ maxLen) (a : Int) (ha : (Lit.int .i64 a).wf = true) (b : Int) (hb : (Lit.int .i64 b).wf = true) : ∃ k, laws_FnExactBridgeIs.f k K l a b = some true := by
  refine Ev.get ?_
  simp only [laws_FnExactBridgeIs.f]
  refine Ev.bind (Ev.const (e_laws_szNet K l hl)) ?_
  by_cases h : l.length ≤ 1048576
  · rw [if_pos h]
    refine Ev.no (by omega) (Ev.bind (e_laws_toNet K l h) (Ev.bind (e_spec_BridgeIs K l a b (by omega)) (Ev.bind (e_laws_toNet K l h) (Ev.bind (e_impl_BridgeIs K l a b (by omega)) ?_))))
    refine Ev.no (by simp) (Ev.bind (e_laws_toNet K l h) (Ev.bind (e_laws_eqNet K K l l (by omega)) ?_))
    exact Ev.yes (dec_true ⟨rfl, rfl⟩) (Ev.pure _)
  · rw [if_neg h]
    exact Ev.yes (by omega) (Ev.pure _)
end Go.Proofs.Ytheoebelhgbejaa.E
