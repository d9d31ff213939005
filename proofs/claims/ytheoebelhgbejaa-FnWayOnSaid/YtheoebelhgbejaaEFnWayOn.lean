/- WayOn (P11): the pure statement. -/
import Derived.Test.YtheoebelhgbejaaEY
import Derived.Test.YtheoebelhgbejaaEL
import Derived.Test.YtheoebelhgbejaaEX
namespace Go.Proofs.Ytheoebelhgbejaa.E
open Go.RowKit Go.Proofs.Ytheoebelhgbejaa.P Osier
set_option linter.unusedVariables false
theorem e_laws_FnWayOn_l0 {K : Int} {E : List STie} {a : Int} (hE : Ok K E) (d : Nat) : ∀ i, i + d = E.length → Ev (fun k => laws_FnWayOn.l0 k (reachL K E a) (i : Int) K E) true := by
  have hl := hE.len
  have hr := reachL_len (E := E) (a := a) hE.k0
  induction d with
  | zero =>
    intro i hi
    refine Ev.succ ?_
    simp only [laws_FnWayOn.l0]
    exact Ev.no (by omega) (Ev.pure _)
  | succ d ih =>
    intro i hi
    have hlt : i < E.length := by omega
    have hm : E[i] ∈ E := List.getElem_mem hlt
    have ht := hE.tie _ hm
    refine Ev.succ ?_
    simp only [laws_FnWayOn.l0]
    rw [rdT hlt, w64s (by omega), rd_reachL hE.k0 (x := E[i].f0) (by omega), rd_reachL hE.k0 (x := E[i].f1) (by omega)]
    have hc : Conn E E[i].f0 E[i].f1 := Conn.one (.inl hm)
    rw [dec_congr (show Conn E a E[i].f0 ↔ Conn E a E[i].f1 from ⟨fun k => k.trans hc, fun k => k.trans hc.symm⟩)]
    exact Ev.yes (by omega) (Ev.yes (by omega) (Ev.yes (by omega) (Ev.yes (by omega) (Ev.yes (by omega) (Ev.yes (by omega) (Ev.no (by simp) (ih (i + 1) (by omega))))))))
theorem FnWayOn (l : List Int) (hl : l.length ≤ maxLen) (hw : ∀ x ∈ l, (Lit.int .u8 x).wf = true) : ∃ k, laws_FnWayOn.f k l = some true := by
  refine Ev.get ?_
  simp only [laws_FnWayOn.f]
  by_cases h : (l.length : Int) > 1048576
  · exact Ev.yes h (Ev.pure _)
  · obtain ⟨K, E, a, hd, hs⟩ := e_spec_DrawWayReach hw
    have hlen := hs.len
    have hr := reachV_len K E a
    refine Ev.no h (Ev.bind hd (Ev.bind (e_spec_WayReach K E a) (Ev.bind (e_impl_WayReach K E a (by omega)) (Ev.bind (e_laws_loBools _ _ (by omega)) (Ev.yes (dec_true rfl) (Ev.succ ?_))))))
    simp only [laws_FnWayOn.j0]
    by_cases g : Ok K E ∧ 0 ≤ a ∧ a < K
    · have := reachL_len (E := E) (a := a) g.1.k0
      rw [reachV_ok g]
      refine Ev.no ?_ (e_laws_FnWayOn_l0 g.1 E.length 0 (by omega))
      intro h; have h := eq_of_beq h; omega
    · rw [reachV_no g]
      exact Ev.yes (by simp) (Ev.bind (e_laws_loBools _ _ (by simp)) ((Ev.pure _).value (dec_true rfl)))
end Go.Proofs.Ytheoebelhgbejaa.E
