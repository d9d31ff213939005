/- BridgeParts: the pure statement. -/
import Derived.Test.YtheoebelhgbejabEZ
import Derived.Test.YtheoebelhgbejabE4
import Derived.Test.YtheoebelhgbejabEK
namespace Go.Proofs.Ytheoebelhgbejab.E
open Go.RowKit Go.Proofs.Ytheoebelhgbejab.P Osier
set_option linter.unusedVariables false
theorem FnExactBridgeParts (K : Int) (hK : (Lit.int .i64 K).wf = true) (l : List SLTie) (hl : l.length ≤ maxLen) : ∃ k, laws_FnExactBridgeParts.f k K l = some true := by
  refine Ev.get ?_
  simp only [laws_FnExactBridgeParts.f]
  refine Ev.bind (Ev.const (e_laws_szNet K l hl)) ?_
  by_cases h : l.length ≤ 1048576
  · rw [if_pos h]
    have hw := blocksV_len K l
    refine Ev.no (by omega) (Ev.bind (e_laws_toNet K l h) (Ev.bind (e_spec_BridgeParts K l) (Ev.bind (e_laws_toNet K l h) (Ev.bind (e_impl_BridgeParts K l (by omega)) (Ev.bind (e_laws_eqIntS _ _ (by omega)) ?_)))))
    refine Ev.yes (dec_true rfl) (Ev.bind (e_laws_toNet K l h) (Ev.bind (e_laws_eqNet K K l l (by omega)) ?_))
    refine Ev.yes (dec_true ⟨rfl, rfl⟩) (Ev.bind (e_laws_markNet K l (by omega)) ?_)
    refine Ev.no (by dsimp only; omega) (Ev.bind (e_laws_eqIntS _ _ (by omega)) ?_)
    rw [dec_true rfl]
    refine Ev.succ ?_
    simp only [laws_FnExactBridgeParts.j0]
    refine Ev.no (by simp) (Ev.bind (e_laws_markIntS _ (by omega)) (Ev.bind (e_laws_heldIntS _ (by omega)) ?_))
    refine Ev.no (by omega) (Ev.yes rfl (Ev.bind (e_laws_toNet K l h) (Ev.bind (e_impl_BridgeParts K l (by omega)) (Ev.bind (e_laws_eqIntS _ _ (by omega)) ?_))))
    exact Ev.yes (dec_true rfl) (Ev.bind (e_laws_heldIntS _ (by omega)) (Ev.no (by omega) (Ev.yes rfl (Ev.pure _))))
  · rw [if_neg h]
    exact Ev.yes (by omega) (Ev.pure _)
end Go.Proofs.Ytheoebelhgbejab.E
