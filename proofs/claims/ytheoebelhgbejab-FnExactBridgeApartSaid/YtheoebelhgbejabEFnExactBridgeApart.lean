/- BridgeApart: the pure statement. -/
import Derived.Test.YtheoebelhgbejabEZ
import Derived.Test.YtheoebelhgbejabE2
namespace Go.Proofs.Ytheoebelhgbejab.E
open Go.RowKit Go.Proofs.Ytheoebelhgbejab.P Osier
set_option linter.unusedVariables false
theorem FnExactBridgeApart (K : Int) (hK : (Lit.int .i64 K).wf = true) (l : List SLTie) (hl : l.length ≤ maxLen) (a : Int) (ha : (Lit.int .i64 a).wf = true) (b : Int) (hb : (Lit.int .i64 b).wf = true) : ∃ k, laws_FnExactBridgeApart.f k K l a b = some true := by
  refine Ev.get ?_
  simp only [laws_FnExactBridgeApart.f]
  refine Ev.bind (Ev.const (e_laws_szNet K l hl)) ?_
  by_cases h : l.length ≤ 1048576
  · rw [if_pos h]
    refine Ev.no (by omega) (Ev.bind (e_laws_toNet K l h) (Ev.bind (e_spec_BridgeApart K l a b) (Ev.bind (e_laws_toNet K l h) (Ev.bind (e_impl_BridgeApart K l a b (by omega)) ?_))))
    refine Ev.bind (Ev.const (e_laws_eqTie ⟨(apartV K l a b).1, (apartV K l a b).2.1⟩ ⟨(apartV K l a b).1, (apartV K l a b).2.1⟩)) (Ev.yes (dec_true rfl) (Ev.succ ?_))
    simp only [laws_FnExactBridgeApart.j0]
    exact Ev.no (by simp) (Ev.bind (e_laws_toNet K l h) (Ev.bind (e_laws_eqNet K K l l (by omega)) (Ev.yes (dec_true ⟨rfl, rfl⟩) (Ev.pure _))))
  · rw [if_neg h]
    exact Ev.yes (by omega) (Ev.pure _)
end Go.Proofs.Ytheoebelhgbejab.E
