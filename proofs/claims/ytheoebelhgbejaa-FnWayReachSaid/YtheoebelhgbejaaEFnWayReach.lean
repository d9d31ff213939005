/- WayReach (P10): the pure statement. -/
import Derived.Test.YtheoebelhgbejaaEY
import Derived.Test.YtheoebelhgbejaaEL
import Derived.Test.YtheoebelhgbejaaEX
namespace Go.Proofs.Ytheoebelhgbejaa.E
open Go.RowKit Go.Proofs.Ytheoebelhgbejaa.P Osier
set_option linter.unusedVariables false
theorem e_laws_FnWayReach_l0 {K : Int} {E : List STie} {a : Int} (hE : Ok K E) (ha : 0 ≤ a ∧ a < K) (d : Nat) : ∀ i, i + d = (reachL K E a).length → Ev (fun k => laws_FnWayReach.l0 k a (reachL K E a) (i : Int) K E) true := by
  have hl := hE.len
  have h8 := hE.k8
  have hr := reachL_len (E := E) (a := a) hE.k0
  induction d with
  | zero =>
    intro i hi
    refine Ev.succ ?_
    simp only [laws_FnWayReach.l0]
    rw [rd_reachL hE.k0 ha, dec_true (Conn.refl)]
    refine Ev.no (by omega) (Ev.yes (by omega) (Ev.yes (by omega) (Ev.yes (by trivial) ((Ev.pure _).value ?_))))
    simpa using hr
  | succ d ih =>
    intro i hi
    have hi' : (0 : Int) ≤ (i : Int) ∧ (i : Int) < K := by omega
    have hr2 := reachL_len (E := E) (a := (i : Int)) hE.k0
    refine Ev.succ ?_
    simp only [laws_FnWayReach.l0]
    refine Ev.yes (by omega) (Ev.bind (e_impl_WayReach K E (i : Int) (by omega)) ?_)
    rw [reachV_ok ⟨hE, hi'⟩, rd_reachL hE.k0 ha, rd_reachL hE.k0 hi', dec_congr (conn_comm (a := a)), w64s (by omega)]
    exact Ev.yes (by omega) (Ev.yes (by omega) (Ev.yes (by omega) (Ev.no (by simp) (ih (i + 1) (by omega)))))
theorem FnWayReach (l : List Int) (hl : l.length ≤ maxLen) (hw : ∀ x ∈ l, (Lit.int .u8 x).wf = true) : ∃ k, laws_FnWayReach.f k l = some true := by
  refine Ev.get ?_
  simp only [laws_FnWayReach.f]
  by_cases h : (l.length : Int) > 1048576
  · exact Ev.yes h (Ev.pure _)
  · obtain ⟨K, E, a, hd, hs⟩ := e_spec_DrawWayReach hw
    have hlen := hs.len
    have hr := reachV_len K E a
    refine Ev.no h (Ev.bind hd (Ev.bind (e_spec_WayReach K E a) (Ev.bind (e_impl_WayReach K E a (by omega)) (Ev.bind (e_laws_loBools _ _ (by omega)) (Ev.yes (dec_true rfl) (Ev.succ ?_))))))
    simp only [laws_FnWayReach.j0]
    by_cases g : Ok K E ∧ 0 ≤ a ∧ a < K
    · have := reachL_len (E := E) (a := a) g.1.k0
      rw [reachV_ok g]
      refine Ev.no ?_ (e_laws_FnWayReach_l0 g.1 g.2 (reachL K E a).length 0 (by omega))
      intro h; have h := eq_of_beq h; omega
    · rw [reachV_no g]
      exact Ev.yes (by simp) (Ev.bind (e_laws_loBools _ _ (by simp)) ((Ev.pure _).value (dec_true rfl)))
end Go.Proofs.Ytheoebelhgbejaa.E
