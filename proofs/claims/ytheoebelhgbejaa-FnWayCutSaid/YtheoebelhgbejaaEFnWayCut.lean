/- A tie less (P15): the pure statement. -/
import Derived.Test.YtheoebelhgbejaaEY
import Derived.Test.YtheoebelhgbejaaEL
import Derived.Test.YtheoebelhgbejaaEX
namespace Go.Proofs.Ytheoebelhgbejaa.E
open Go.RowKit Go.Proofs.Ytheoebelhgbejaa.P Osier
set_option linter.unusedVariables false
theorem conn_mkT {E : List STie} {a b : Int} : Conn E (mkT a b).f0 (mkT a b).f1 ↔ Conn E a b := by
  unfold mkT
  split
  · exact Iff.rfl
  · exact conn_comm
theorem mkT_mem_in {K : Int} {E : List STie} (h : Ok K E) {a b : Int} (hm : mkT a b ∈ E) : (0 ≤ a ∧ a < K) ∧ (0 ≤ b ∧ b < K) ∧ a ≠ b := h.ed_in (h.ed.2 hm)
theorem FnWayCut (l : List Int) (hl : l.length ≤ maxLen) (hw : ∀ x ∈ l, (Lit.int .u8 x).wf = true) : ∃ k, laws_FnWayCut.f k l = some true := by
  refine Ev.get ?_
  simp only [laws_FnWayCut.f]
  by_cases h : (l.length : Int) > 1048576
  · exact Ev.yes h (Ev.pure _)
  · obtain ⟨K, E, a, b, hd, hs⟩ := e_spec_DrawNetCut hw
    have hlen := hs.len
    have hc := cutV_len K E a b
    refine Ev.no h (Ev.bind hd (Ev.bind (e_impl_NetCut K E a b (by omega)) (Ev.bind (e_spec_NetCut K E a b (by omega)) (Ev.no (by simp) (Ev.bind (e_laws_loNet_same _ _ (by omega)) (Ev.yes (by trivial) (Ev.succ ?_)))))))
    simp only [laws_FnWayCut.j0]
    by_cases g : Ok K E ∧ mkT a b ∈ E
    · rw [cutV_yes g] at hc ⊢
      have h8 := g.1.k8
      have hin := mkT_mem_in g.1 g.2
      have hok := g.1.cut (mkT a b)
      have hr := reachL_len (E := cut E (mkT a b)) (a := a) g.1.k0
      have hcE := rootsTo_le K E K.toNat
      rw [rootsTo_all] at hcE
      dsimp only at hc ⊢
      refine Ev.no (by simp) (Ev.bind (e_impl_WayReach K _ a (by omega)) ?_)
      rw [reachV_ok ⟨hok, hin.1⟩, rd_reachL g.1.k0 hin.2.1]
      refine Ev.yes (by omega) (Ev.yes (by omega) ?_)
      by_cases c : Conn (cut E (mkT a b)) a b
      · refine Ev.yes (dec_true c) (Ev.bind (e_impl_WayCount K _ (by omega)) (Ev.bind (e_impl_WayCount K _ (by omega)) ((Ev.pure _).value ?_)))
        rw [countV_yes hok, countV_yes g.1, comps_cut_same g.2 (conn_mkT.2 c), w64 (by omega) (by omega)]
        simp
      · refine Ev.no (by rw [dec_false c]; simp) (Ev.bind (e_impl_WayCount K _ (by omega)) (Ev.bind (e_impl_WayCount K _ (by omega)) ((Ev.pure _).value ?_)))
        rw [countV_yes hok, countV_yes g.1, comps_cut_more g.1 g.2 (fun k => c (conn_mkT.1 k)), w64 (by omega) (by omega)]
        simp
    · rw [cutV_none g]
      exact Ev.yes (by simp) (Ev.yes (by simp) (Ev.bind (e_laws_loNet_same _ _ (by simp)) (Ev.pure _)))
end Go.Proofs.Ytheoebelhgbejaa.E
