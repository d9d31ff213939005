/- The order of ways: what the printed functions answer. -/
import Derived.Test.YtgoembpmhlmafaaEO
namespace Go.Proofs.Ytgoembpmhlmafaa.E
open Go.RowKit Go.Proofs.YtgoembpmhlmafaaW.PrintWords Go.Proofs.YtgoembpmhlmafaaW.PrintMore Go.Proofs.Ytgoembpmhlmafaa.P Osier
set_option linter.unusedVariables false
theorem e_slices_Compare_int_l0 (x y : List Int) (hx : x.length < 4611686018427387904) (hy : y.length < 4611686018427387904) (d : Nat) : ∀ i, i + d = x.length → i ≤ y.length → Ev (fun k => slices_Compare_int.l0 k x y x (x.length : Int) (i : Int)) (lcmp (x.drop i) (y.drop i)) := by
  induction d with
  | zero =>
    intro i hi hj
    refine Ev.succ ?_
    simp only [slices_Compare_int.l0]
    refine Ev.no (by omega) ?_
    rw [List.drop_eq_nil_of_le (by omega : x.length ≤ i)]
    by_cases h : i < y.length
    · rw [drop_cons _ h]
      exact Ev.yes (by omega) (Ev.pure _)
    · rw [List.drop_eq_nil_of_le (by omega : y.length ≤ i)]
      exact Ev.no (by omega) (Ev.pure _)
  | succ d ih =>
    intro i hi hj
    have hlt : i < x.length := by omega
    refine Ev.succ ?_
    simp only [slices_Compare_int.l0]
    refine Ev.yes (by omega) (Ev.yes (by omega) (Ev.yes (by omega) ?_))
    rw [drop_cons _ hlt]
    by_cases h : i < y.length
    · rw [drop_cons _ h]
      refine Ev.no (by omega) (Ev.yes (by omega) ?_)
      rw [rdI hlt, rdI h, w64s (by omega)]
      refine Ev.bind (Ev.const (e_cmp_Compare _ _)) ?_
      simp only [lcmp]
      by_cases h1 : x[i] < y[i]
      · simp only [if_pos h1]
        exact Ev.no (by omega) (Ev.pure _)
      · simp only [if_neg h1]
        by_cases h2 : x[i] > y[i]
        · simp only [if_pos h2]
          exact Ev.no (by omega) (Ev.pure _)
        · simp only [if_neg h2]
          exact Ev.yes (by trivial) (ih (i + 1) (by omega) (by omega))
    · rw [List.drop_eq_nil_of_le (by omega : y.length ≤ i)]
      exact Ev.yes (by omega) (Ev.pure _)
theorem e_slices_Compare_int (x y : List Int) (hx : x.length < 4611686018427387904) (hy : y.length < 4611686018427387904) : Ev (fun k => slices_Compare_int.f k x y) (lcmp x y) := by
  simp only [slices_Compare_int.f]
  exact e_slices_Compare_int_l0 x y hx hy x.length 0 (by omega) (by omega)
theorem e_impl_wayOrder (x y : List Int) (hx : x.length < 4611686018427387904) (hy : y.length < 4611686018427387904) : Ev (fun k => impl_wayOrder.f k x y) (wcmp x y) := by
  simp only [impl_wayOrder.f]
  refine Ev.bind (Ev.const (e_cmp_Compare _ _)) (Ev.bind (e_slices_Compare_int x y hx hy) (Ev.bind (e_cmp_Or _ _) ((Ev.pure _).value ?_)))
  unfold wcmp
  by_cases h1 : x.length < y.length
  · simp [h1]
  · by_cases h2 : x.length > y.length
    · simp [h1, h2]
    · simp [h1, h2]
end Go.Proofs.Ytgoembpmhlmafaa.E
