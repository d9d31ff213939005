/- Nets drawn and spoiled, knots and pairs drawn. -/
import Derived.Test.YtheoebelhgbejabEN
namespace Go.Proofs.Ytheoebelhgbejab.E
open Go.RowKit Go.Proofs.YtheoebelhgbejabW.PrintWords Go.Proofs.YtheoebelhgbejabW.PrintMore Go.Proofs.Ytheoebelhgbejab.P Osier
set_option linter.unusedVariables false

theorem e_spec_l1Copy (K : Int) (E : List STie) (hE : E.length < 1099511627776) : spec_l1Copy.f K E = some (K, E) := by
  unfold spec_l1Copy.f
  simp only [Option.bind_some, List.nil_append]
  rw [if_pos (by simp; omega)]
/-- A net of few ties and few knots, whatever else it is. -/
structure Small (K : Int) (E : List STie) : Prop where
  k0 : -1 ≤ K
  k9 : K ≤ 9
  len : E.length ≤ 65
theorem Small.of {K : Int} {E : List STie} (h : Ok K E) : Small K E := ⟨by have := h.k0; omega, by have := h.k8; omega, by have := h.len; omega⟩
theorem e_spec_l71Spoil {xs : List Int} (hs : Src xs) {p : Int} (hp : 0 ≤ p) (hp' : p ≤ 100000) {K : Int} {E : List STie} (hE : Ok K E) : ∃ K' E' q, Ev (fun k => spec_l71Spoil.f k xs p K E) (K', E', q) ∧ Small K' E' ∧ p ≤ q ∧ q ≤ p + 5 := by
  have hl := hE.len
  have h0 := hE.k0
  have h8 := hE.k8
  obtain ⟨v, hv, hv0, hv1, _⟩ := e_spec_l6Rd_pick hs (p := p) hp (by omega) 6 (by omega)
  simp only [spec_l71Spoil.f]
  by_cases c0 : v = 0
  · obtain ⟨u, hu, hu0, hu1, _⟩ := e_spec_l6Rd_pick hs (p := p + 1) (by omega) (by omega) 5 (by omega)
    have hu1 := hu1 (by omega)
    have hm : rd [(-1), 0, 1, 8, 9] u ∈ ([(-1), 0, 1, 8, 9] : List Int) := by
      obtain ⟨n, hn'⟩ : ∃ n : Nat, u = (n : Int) := ⟨u.toNat, by omega⟩
      have hn : n < ([(-1), 0, 1, 8, 9] : List Int).length := by simp; omega
      rw [hn', rdI hn]; exact List.getElem_mem hn
    refine ⟨rd [(-1), 0, 1, 8, 9] u, E, p + 1 + 1, Ev.bind (Ev.const (e_spec_l1Copy K E (by omega))) (Ev.bind hv (Ev.yes c0 (Ev.bind (Ev.pure _) (Ev.bind hu (Ev.yes hu0 (Ev.yes (by simp; omega) (Ev.pure _))))))), ?_, by omega, by omega⟩
    simp only [List.mem_cons, List.not_mem_nil, or_false] at hm
    exact ⟨by omega, by omega, by omega⟩
  · by_cases c1 : v = 1
    · obtain ⟨u, hu, hu0, hu1, _⟩ := e_spec_l6Rd_pick hs (p := p + 1) (by omega) (by omega) 3 (by omega)
      obtain ⟨s, hs', hs0, hs1, _⟩ := e_spec_l6Rd_pick hs (p := p + 1 + 1) (by omega) (by omega) 3 (by omega)
      exact ⟨K, E ++ [⟨u, s⟩], p + 1 + 1 + 1, Ev.bind (Ev.const (e_spec_l1Copy K E (by omega))) (Ev.bind hv (Ev.no c0 (Ev.yes c1 (Ev.bind hu (Ev.bind hs' (Ev.yes (by dsimp only; omega) (Ev.pure _))))))), ⟨by omega, by omega, by simp; omega⟩, by omega, by omega⟩
    · by_cases c2 : v = 2
      · exact ⟨K, E ++ [⟨wrap64 (K - 1), K⟩], p + 1, Ev.bind (Ev.const (e_spec_l1Copy K E (by omega))) (Ev.bind hv (Ev.no c0 (Ev.no c1 (Ev.yes c2 (Ev.yes (by dsimp only; omega) (Ev.pure _)))))), ⟨by omega, by omega, by simp; omega⟩, by omega, by omega⟩
      · by_cases c3 : v = 3
        · by_cases hE0 : (E.length : Int) > 0
          · obtain ⟨u, hu, hu0, hu1, _⟩ := e_spec_l6Rd_pick hs (p := p + 1) (by omega) (by omega) (E.length : Int) (by omega)
            have hu1 := hu1 (by omega)
            exact ⟨K, _, p + 1 + 1, Ev.bind (Ev.const (e_spec_l1Copy K E (by omega))) (Ev.bind hv (Ev.no c0 (Ev.no c1 (Ev.no c2 (Ev.yes c3 (Ev.yes hE0 (Ev.bind hu (Ev.yes hu0 (Ev.yes hu1 (Ev.pure _)))))))))), ⟨by omega, by omega, by simp; omega⟩, by omega, by omega⟩
          · exact ⟨K, E, p + 1, Ev.bind (Ev.const (e_spec_l1Copy K E (by omega))) (Ev.bind hv (Ev.no c0 (Ev.no c1 (Ev.no c2 (Ev.yes c3 (Ev.no hE0 (Ev.pure _))))))), ⟨by omega, by omega, by omega⟩, by omega, by omega⟩
        · by_cases c4 : v = 4
          · by_cases hE0 : (E.length : Int) > 1
            · exact ⟨K, E ++ [⟨(rd_TTie E 0).f0, (rd_TTie E 0).f1⟩], p + 1, Ev.bind (Ev.const (e_spec_l1Copy K E (by omega))) (Ev.bind hv (Ev.no c0 (Ev.no c1 (Ev.no c2 (Ev.no c3 (Ev.yes c4 (Ev.yes hE0 (Ev.yes (by dsimp only; omega) (Ev.yes (by dsimp only; omega) (Ev.pure _)))))))))), ⟨by omega, by omega, by simp; omega⟩, by omega, by omega⟩
            · exact ⟨K, E, p + 1, Ev.bind (Ev.const (e_spec_l1Copy K E (by omega))) (Ev.bind hv (Ev.no c0 (Ev.no c1 (Ev.no c2 (Ev.no c3 (Ev.yes c4 (Ev.no hE0 (Ev.pure _)))))))), ⟨by omega, by omega, by omega⟩, by omega, by omega⟩
          · exact ⟨K, [⟨-1, 0⟩] ++ E, p + 1, Ev.bind (Ev.const (e_spec_l1Copy K E (by omega))) (Ev.bind hv (Ev.no c0 (Ev.no c1 (Ev.no c2 (Ev.no c3 (Ev.no c4 (Ev.bind (Ev.pure _) (Ev.yes (by simp; omega) (Ev.pure _))))))))), ⟨by omega, by omega, by simp; omega⟩, by omega, by omega⟩
theorem e_spec_l71Any {xs : List Int} (hs : Src xs) {p : Int} (hp : 0 ≤ p) (hp' : p ≤ 30000) : ∃ K E q, Ev (fun k => spec_l71Any.f k xs p) (K, E, q) ∧ Small K E ∧ p ≤ q ∧ q ≤ p + 60 := by
  obtain ⟨K, E, q, hq, ho, h1, h2⟩ := e_spec_l71Net hs hp (by omega)
  obtain ⟨v, hv, hv0, hv1, _⟩ := e_spec_l6Rd_pick hs (p := q) (by omega) (by omega) 12 (by omega)
  simp only [spec_l71Any.f]
  by_cases c : v = 0
  · obtain ⟨K', E', q', hq', ho', h1', h2'⟩ := e_spec_l71Spoil hs (p := q + 1) (by omega) (by omega) ho
    exact ⟨K', E', q', Ev.bind hq (Ev.bind hv (Ev.yes c (Ev.bind hq' (Ev.pure _)))), ho', by omega, by omega⟩
  · exact ⟨K, E, q + 1, Ev.bind hq (Ev.bind hv (Ev.no c (Ev.pure _))), Small.of ho, by omega, by omega⟩
/-! ### What the laws draw -/
end Go.Proofs.Ytheoebelhgbejab.E
