/- WayCount (P13): the pure statement. -/
import Derived.Test.YtheoebelhgbejaaEY
import Derived.Test.YtheoebelhgbejaaEL
import Derived.Test.YtheoebelhgbejaaEX
namespace Go.Proofs.Ytheoebelhgbejaa.E
open Go.RowKit Go.Proofs.Ytheoebelhgbejaa.P Osier
set_option linter.unusedVariables false
theorem e_laws_FnWayCount_l0 {K : Int} {E : List STie} (hE : Ok K E) (d : Nat) : ∀ i, i + d = (partsL K E).length → Ev (fun k => laws_FnWayCount.l0 k (comps K E : Int) (rootsTo K E i : Int) (partsL K E) (i : Int) K E) true := by
  have hl := partsL_len (E := E) hE.k0
  have h8 := hE.k8
  have hlen := hE.len
  have hle := rootsTo_le K E K.toNat
  rw [rootsTo_all] at hle
  induction d with
  | zero =>
    intro i hi
    refine Ev.succ ?_
    simp only [laws_FnWayCount.l0]
    have : i = K.toNat := by omega
    subst this
    have hge := comps_ge (K := K) (E := E) (fun t ht => by have := hE.tie t ht; omega) hE.k0
    rw [rootsTo_all, w64 (x := K - (E.length : Int)) (by omega) (by omega)]
    exact Ev.no (by omega) (Ev.yes (by trivial) (Ev.yes (by omega) ((Ev.pure _).value (decide_eq_true (by omega)))))
  | succ d ih =>
    intro i hi
    have hri := rootsTo_le K E i
    refine Ev.succ ?_
    simp only [laws_FnWayCount.l0]
    rw [rd_partsL hE.k0 (x := (i : Int)) (by omega), w64s (n := i) (by omega), w64s (n := rootsTo K E i) (by omega)]
    have hih := ih (i + 1) (by omega)
    rw [rootsTo_succ] at hih
    refine Ev.yes (by omega) (Ev.yes (by omega) ?_)
    by_cases h : Root K E (i : Int)
    · rw [if_pos (dec_true h)] at hih
      exact Ev.yes ((root_dec (by omega)).2 h) hih
    · rw [if_neg (by rw [dec_false h]; simp)] at hih
      exact Ev.no (fun k => h ((root_dec (by omega)).1 k)) hih
theorem FnWayCount (l : List Int) (hl : l.length ≤ maxLen) (hw : ∀ x ∈ l, (Lit.int .u8 x).wf = true) : ∃ k, laws_FnWayCount.f k l = some true := by
  refine Ev.get ?_
  simp only [laws_FnWayCount.f]
  by_cases h : (l.length : Int) > 1048576
  · exact Ev.yes h (Ev.pure _)
  · obtain ⟨K, E, hd, hs⟩ := e_spec_DrawWayCount hw
    have hlen := hs.len
    refine Ev.no h (Ev.bind hd (Ev.bind (e_impl_WayCount K E (by omega)) (Ev.bind (e_spec_WayCount K E) (Ev.yes rfl (Ev.succ ?_)))))
    simp only [laws_FnWayCount.j0]
    by_cases g : Ok K E
    · have ep : partsV K E = partsL K E := by unfold partsV; rw [if_pos (dec_true g)]
      rw [countV_yes g]
      refine Ev.no (by simp) (Ev.bind (e_impl_WayParts K E (by omega)) ?_)
      rw [ep]
      exact e_laws_FnWayCount_l0 g (partsL K E).length 0 (by omega)
    · rw [countV_none g]
      refine Ev.yes (by simp) (Ev.bind (e_spec_WayCount K E) ((Ev.pure _).value ?_))
      rw [countV_none g]; rfl
end Go.Proofs.Ytheoebelhgbejaa.E
