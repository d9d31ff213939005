/- WayParts (P12): the pure statement. -/
import Derived.Test.YtheoebelhgbejaaEY
import Derived.Test.YtheoebelhgbejaaEL
import Derived.Test.YtheoebelhgbejaaEX
namespace Go.Proofs.Ytheoebelhgbejaa.E
open Go.RowKit Go.Proofs.Ytheoebelhgbejaa.P Osier
set_option linter.unusedVariables false
theorem prt_le {K : Int} {E : List STie} {i : Int} (h : 0 ≤ i ∧ i < K) : prt K E i ≤ i := part_le h.1 h.2 h.1 h.2 .refl
theorem prt_prt {K : Int} {E : List STie} {i : Int} (h : 0 ≤ i ∧ i < K) : prt K E (prt K E i) = prt K E i := by
  have hp := part_in (E := E) h.1 h.2
  exact (part_eq_iff hp.1 hp.2 h.1 h.2).2 (part_reach h.1 h.2).symm
theorem e_laws_FnWayParts_l1 {K : Int} {E : List STie} (hE : Ok K E) {i : Int} (hi : 0 ≤ i ∧ i < K) (R : Bool) (hnext : Ev (fun k => laws_FnWayParts.l0 k (partsL K E) (wrap64 (i + 1)) K E) R) (d : Nat) : ∀ j, j + d = (partsL K E).length → Ev (fun k => laws_FnWayParts.l1 k (partsL K E) i (reachL K E i) (j : Int) K E) R := by
  have h8 := hE.k8
  have hpl := partsL_len (E := E) hE.k0
  have hr := reachL_len (E := E) (a := i) hE.k0
  have hp := part_in (E := E) hi.1 hi.2
  have hle := prt_le (E := E) hi
  induction d with
  | zero =>
    intro j hj
    refine Ev.succ ?_
    simp only [laws_FnWayParts.l1]
    rw [rd_partsL hE.k0 hi, rd_partsL hE.k0 hp, prt_prt hi]
    exact Ev.no (by omega) (Ev.yes (by omega) (Ev.yes (by omega) (Ev.no (by omega) (Ev.yes (by omega) (Ev.yes (by omega) (Ev.yes (by trivial) hnext))))))
  | succ d ih =>
    intro j hj
    have hj' : (0 : Int) ≤ (j : Int) ∧ (j : Int) < K := by omega
    refine Ev.succ ?_
    simp only [laws_FnWayParts.l1]
    rw [rd_partsL hE.k0 hi, rd_partsL hE.k0 hj', rd_reachL hE.k0 hj', beq_part hi hj', w64s (by omega)]
    exact Ev.yes (by omega) (Ev.yes (by omega) (Ev.yes (by omega) (Ev.yes (by omega) (Ev.yes (by omega) (Ev.no (by simp) (ih (j + 1) (by omega)))))))
theorem e_laws_FnWayParts_l0 {K : Int} {E : List STie} (hE : Ok K E) (d : Nat) : ∀ i, i + d = (partsL K E).length → Ev (fun k => laws_FnWayParts.l0 k (partsL K E) (i : Int) K E) true := by
  have h8 := hE.k8
  have hl := hE.len
  have hpl := partsL_len (E := E) hE.k0
  induction d with
  | zero =>
    intro i hi
    refine Ev.succ ?_
    simp only [laws_FnWayParts.l0]
    exact Ev.no (by omega) (Ev.pure _)
  | succ d ih =>
    intro i hi
    have hi' : (0 : Int) ≤ (i : Int) ∧ (i : Int) < K := by omega
    refine Ev.succ ?_
    simp only [laws_FnWayParts.l0]
    refine Ev.yes (by omega) (Ev.bind (e_impl_WayReach K E (i : Int) (by omega)) ?_)
    rw [reachV_ok ⟨hE, hi'⟩]
    refine e_laws_FnWayParts_l1 hE hi' true ?_ (partsL K E).length 0 (by omega)
    rw [w64s (by omega)]
    exact ih (i + 1) (by omega)
theorem FnWayParts (l : List Int) (hl : l.length ≤ maxLen) (hw : ∀ x ∈ l, (Lit.int .u8 x).wf = true) : ∃ k, laws_FnWayParts.f k l = some true := by
  refine Ev.get ?_
  simp only [laws_FnWayParts.f]
  by_cases h : (l.length : Int) > 1048576
  · exact Ev.yes h (Ev.pure _)
  · obtain ⟨K, E, hd, hs⟩ := e_spec_DrawWayParts hw
    have hlen := hs.len
    have hp := partsV_len K E
    refine Ev.no h (Ev.bind hd (Ev.bind (e_spec_WayParts K E) (Ev.bind (e_impl_WayParts K E (by omega)) (Ev.bind (e_laws_loInts _ _ (by omega)) (Ev.yes (dec_true rfl) ?_)))))
    by_cases g : Ok K E
    · have ep : partsV K E = partsL K E := by unfold partsV; rw [if_pos (dec_true g)]
      rw [ep]
      exact e_laws_FnWayParts_l0 g (partsL K E).length 0 (by omega)
    · have ep : partsV K E = [] := by unfold partsV; rw [if_neg (by rw [dec_false g]; simp)]
      rw [ep]
      refine Ev.succ ?_
      simp only [laws_FnWayParts.l0]
      exact Ev.no (by simp) (Ev.pure _)
end Go.Proofs.Ytheoebelhgbejaa.E
