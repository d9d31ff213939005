/- TreeOk: the pure statement. -/
import Derived.Test.YtheoebelhgbejaaE9
import Derived.Test.YtheoebelhgbejaaE2
namespace Go.Proofs.Ytheoebelhgbejaa.E
open Go.RowKit Go.Proofs.Ytheoebelhgbejaa.P Osier
set_option linter.unusedVariables false
theorem e_laws_szTieS (l : List SLTie) (h : l.length ≤ maxLen) (n : Int) (h0 : 0 ≤ n) (h1 : n ≤ 1048576) : laws_szTieS.f l n = some (if (l.length : Int) ≤ n then n - (l.length : Int) else -1) := by
  rw [maxLen_val] at h
  have hw : wrap64 (n - (l.length : Int)) = n - (l.length : Int) := w64 (by omega) (by omega)
  unfold laws_szTieS.f
  rw [hw]
  by_cases hl : (l.length : Int) ≤ n
  · rw [if_neg (by omega), if_pos hl]
  · rw [if_pos (by omega), if_neg hl]
theorem FnExactTreeOk (K : Int) (hK : (Lit.int .i64 K).wf = true) (l : List SLTie) (hl : l.length ≤ maxLen) (m : List SLTie) (hm : m.length ≤ maxLen) : ∃ k, laws_FnExactTreeOk.f k K l m = some true := by
  refine Ev.get ?_
  simp only [laws_FnExactTreeOk.f]
  refine Ev.bind (Ev.const (e_laws_szNet K l hl)) ?_
  by_cases h : l.length ≤ 1048576
  · rw [if_pos h]
    refine Ev.no (by omega) (Ev.bind (Ev.const (e_laws_szTieS m hm _ (by omega) (by omega))) ?_)
    by_cases g : (m.length : Int) ≤ 1048576 - l.length
    · rw [if_pos g]
      have h' : m.length ≤ 1048576 := by omega
      refine Ev.no (by omega) (Ev.bind (e_laws_toNet K l h) (Ev.bind (e_laws_toTieS m h') (Ev.bind (e_spec_TreeOk K l m) (Ev.bind (e_laws_toNet K l h) (Ev.bind (e_laws_toTieS m h') (Ev.bind (e_impl_TreeOk K l m (by omega) (by omega)) ?_))))))
      refine Ev.no (by simp) (Ev.bind (e_laws_toNet K l h) (Ev.bind (e_laws_eqNet K K l l (by omega)) (Ev.yes (dec_true ⟨rfl, rfl⟩) ?_)))
      exact Ev.bind (e_laws_toTieS m h') (Ev.bind (e_laws_eqTieS m m (by omega)) (Ev.yes (dec_true rfl) (Ev.pure _)))
    · rw [if_neg g]
      exact Ev.yes (by omega) (Ev.pure _)
  · rw [if_neg h]
    exact Ev.yes (by omega) (Ev.pure _)
end Go.Proofs.Ytheoebelhgbejaa.E
