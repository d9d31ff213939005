/- Walks drawn. -/
import Derived.Test.YtheoebelhgbejaaEY
import Derived.Test.YtheoebelhgbejaaE6
import Derived.Test.YtheoebelhgbejaaE5
namespace Go.Proofs.Ytheoebelhgbejaa.E
open Go.RowKit Go.Proofs.YtheoebelhgbejaaW.PrintWords Go.Proofs.YtheoebelhgbejaaW.PrintMore Go.Proofs.Ytheoebelhgbejaa.P Osier
set_option linter.unusedVariables false
theorem nexts_len {K : Int} {E : List STie} (hE : Ok K E) (a : Int) : (nexts E (knots K) a).length ≤ 8 := by
  have h := List.length_filter_le (fun b => dec (mkT a b ∈ E)) (knots K)
  have hk := knots_len hE.k0
  have h8 := hE.k8
  have h2 : (nexts E (knots K) a).length ≤ (knots K).length := by unfold nexts; exact List.length_filter_le _ _
  omega
theorem e_spec_l71Walk_j2 {xs : List Int} (hs : Src xs) {p : Int} (hp : 0 ≤ p) (hp' : p ≤ 100000) {w : List Int} (hw : 0 < w.length) (hw' : w.length ≤ 50) : ∃ w' q, Ev (fun k => spec_l71Walk.j2 k w xs p) (w', q) ∧ w'.length ≤ 50 ∧ p ≤ q ∧ q ≤ p + 3 := by
  obtain ⟨v, hv, hv0, hv1, _⟩ := e_spec_l6Rd_pick hs (p := p) hp (by omega) 16 (by omega)
  by_cases c0 : v = 0
  · obtain ⟨u, hu, hu0, hu1, _⟩ := e_spec_l6Rd_pick hs (p := p + 1) (by omega) (by omega) (w.length : Int) (by omega)
    obtain ⟨s, hs', hs0, hs1, _⟩ := e_spec_l6Rd_pick hs (p := p + 1 + 1) (by omega) (by omega) 9 (by omega)
    have hu1 := hu1 (by omega)
    refine ⟨w.set u.toNat s, p + 1 + 1 + 1, Ev.succ ?_, by simpa using hw', by omega, by omega⟩
    simp only [spec_l71Walk.j2]
    exact Ev.bind hv (Ev.yes c0 (Ev.bind hu (Ev.bind hs' (Ev.yes hu0 (Ev.yes hu1 (Ev.pure _))))))
  · by_cases c1 : v = 1
    · refine ⟨[], p + 1, Ev.succ ?_, by simp, by omega, by omega⟩
      simp only [spec_l71Walk.j2]
      exact Ev.bind hv (Ev.no c0 (Ev.yes c1 (Ev.pure _)))
    · refine ⟨w, p + 1, Ev.succ ?_, hw', by omega, by omega⟩
      simp only [spec_l71Walk.j2]
      exact Ev.bind hv (Ev.no c0 (Ev.no c1 (Ev.pure _)))
theorem e_spec_l71Walk_l0 {xs : List Int} (hs : Src xs) {K : Int} {E : List STie} (hE : Small K E) (d : Nat) : ∀ (w : List Int) (x p : Int), x ≤ d → d ≤ 20 → 0 < w.length → w.length + d ≤ 50 → 0 ≤ p → p + 2 * d ≤ 50000 → ∃ w' q, Ev (fun k => spec_l71Walk.l0 k w x xs p K E) (w', q) ∧ w'.length ≤ 50 ∧ p ≤ q ∧ q ≤ p + 2 * d + 3 := by
  induction d with
  | zero =>
    intro w x p hx hd hw hw' hp hp'
    obtain ⟨w', q, hq, h1, h2, h3⟩ := e_spec_l71Walk_j2 hs (p := p) (by omega) (by omega) hw (by omega)
    refine ⟨w', q, Ev.succ ?_, h1, by omega, by omega⟩
    simp only [spec_l71Walk.l0]
    exact Ev.no (by omega) hq
  | succ d ih =>
    intro w x p hx hd hw hw' hp hp'
    by_cases hx0 : x > 0
    · have wx : wrap64 (x - 1) = x - 1 := w64 (by omega) (by omega)
      have hlast : (w.length : Int) - 1 = ((w.length - 1 : Nat) : Int) := by omega
      -- what follows the neighbours
      have step : ∀ L : List Int, L.length ≤ 8 → ∃ w' q, Ev (fun k => spec_l71Walk.j1 k w x L xs p K E) (w', q) ∧ w'.length ≤ 50 ∧ p ≤ q ∧ q ≤ p + 2 * ((d + 1 : Nat) : Int) + 3 := by
        intro L hL
        by_cases c : (L.length : Int) = 0
        · obtain ⟨w', q, hq, h1, h2, h3⟩ := e_spec_l71Walk_j2 hs (p := p) (by omega) (by omega) hw (by omega)
          refine ⟨w', q, Ev.succ ?_, h1, by omega, by omega⟩
          simp only [spec_l71Walk.j1]
          exact Ev.yes c hq
        · obtain ⟨u, hu, hu0, hu1, _⟩ := e_spec_l6Rd_pick hs (p := p) (by omega) (by omega) (L.length : Int) (by omega)
          have hu1 := hu1 (by omega)
          by_cases g : rd L u ∈ w
          · obtain ⟨v, hv, hv0, hv1, _⟩ := e_spec_l6Rd_pick hs (p := p + 1) (by omega) (by omega) 6 (by omega)
            by_cases c2 : v > 0
            · obtain ⟨w', q, hq, h1, h2, h3⟩ := ih w (x - 1) (p + 1 + 1) (by omega) (by omega) hw (by omega) (by omega) (by omega)
              refine ⟨w', q, Ev.succ ?_, h1, by omega, by omega⟩
              simp only [spec_l71Walk.j1]
              rw [wx]
              exact Ev.no c (Ev.bind hu (Ev.yes hu0 (Ev.yes hu1 (Ev.bind (e_spec_l2Has w _ (by omega)) (Ev.yes (dec_true g) (Ev.bind hv (Ev.yes c2 hq)))))))
            · obtain ⟨w', q, hq, h1, h2, h3⟩ := ih (w ++ [rd L u]) (x - 1) (p + 1 + 1) (by omega) (by omega) (by simp) (by simp; omega) (by omega) (by omega)
              refine ⟨w', q, Ev.succ ?_, h1, by omega, by omega⟩
              simp only [spec_l71Walk.j1]
              rw [wx]
              exact Ev.no c (Ev.bind hu (Ev.yes hu0 (Ev.yes hu1 (Ev.bind (e_spec_l2Has w _ (by omega)) (Ev.yes (dec_true g) (Ev.bind hv (Ev.no c2 (Ev.yes (by omega) hq))))))))
          · obtain ⟨w', q, hq, h1, h2, h3⟩ := ih (w ++ [rd L u]) (x - 1) (p + 1) (by omega) (by omega) (by simp) (by simp; omega) (by omega) (by omega)
            refine ⟨w', q, Ev.succ ?_, h1, by omega, by omega⟩
            simp only [spec_l71Walk.j1]
            rw [wx]
            exact Ev.no c (Ev.bind hu (Ev.yes hu0 (Ev.yes hu1 (Ev.bind (e_spec_l2Has w _ (by omega)) (Ev.no (by rw [dec_false g]; simp) (Ev.yes (by omega) hq))))))
      have wl : wrap64 ((w.length : Int) - 1) = ((w.length - 1 : Nat) : Int) := by rw [w64 (by omega) (by omega)]; omega
      by_cases hk : Ok K E ∧ 0 ≤ rd w ((w.length - 1 : Nat) : Int) ∧ rd w ((w.length - 1 : Nat) : Int) < K
      · obtain ⟨w', q, hq, h1, h2, h3⟩ := step _ (nexts_len hk.1 (rd w ((w.length - 1 : Nat) : Int)))
        refine ⟨w', q, Ev.succ ?_, h1, by omega, by omega⟩
        simp only [spec_l71Walk.l0]
        rw [wl]
        exact Ev.yes hx0 (Ev.yes (by omega) (Ev.yes (by omega) (Ev.bind (e_spec_l1Knot K E _) (Ev.yes (dec_true hk) (Ev.bind (e_spec_l2Next hk.1 _) hq)))))
      · obtain ⟨w', q, hq, h1, h2, h3⟩ := step [] (by simp)
        refine ⟨w', q, Ev.succ ?_, h1, by omega, by omega⟩
        simp only [spec_l71Walk.l0]
        rw [wl]
        exact Ev.yes hx0 (Ev.yes (by omega) (Ev.yes (by omega) (Ev.bind (e_spec_l1Knot K E _) (Ev.no (by rw [dec_false hk]; simp) hq))))
    · obtain ⟨w', q, hq, h1, h2, h3⟩ := e_spec_l71Walk_j2 hs (p := p) (by omega) (by omega) hw (by omega)
      refine ⟨w', q, Ev.succ ?_, h1, by omega, by omega⟩
      simp only [spec_l71Walk.l0]
      exact Ev.no hx0 hq
theorem e_spec_l71Walk {xs : List Int} (hs : Src xs) {p : Int} (hp : 0 ≤ p) (hp' : p ≤ 20000) {K : Int} {E : List STie} (hE : Small K E) : ∃ w q, Ev (fun k => spec_l71Walk.f k xs p K E) (w, q) ∧ w.length ≤ 50 ∧ p ≤ q ∧ q ≤ p + 30 := by
  obtain ⟨a, q2, ha, h3, h4⟩ := e_spec_l71Knot hs hp (by omega) hE
  obtain ⟨v, hv, hv0, hv1, _⟩ := e_spec_l6Rd_pick hs (p := q2) (by omega) (by omega) 7 (by omega)
  obtain ⟨w', q, hq, h1, h2, h5⟩ := e_spec_l71Walk_l0 hs hE 7 [a] v (q2 + 1) (by omega) (by omega) (by simp) (by simp) (by omega) (by omega)
  simp only [spec_l71Walk.f]
  exact ⟨w', q, Ev.bind ha (Ev.bind hv hq), h1, by omega, by omega⟩
theorem e_spec_DrawWayOk {l : List Int} (hl : ∀ x ∈ l, (Lit.int .u8 x).wf = true) : ∃ K E w, Ev (fun k => spec_DrawWayOk.f k l) (K, E, w) ∧ Small K E ∧ w.length ≤ 50 := by
  obtain ⟨xs, hx, hs⟩ := e_spec_l6Open hl
  obtain ⟨K, E, q, hq, ho, _, _⟩ := e_spec_l71Any hs (p := 0) (by omega) (by omega)
  obtain ⟨w, q2, hw, h3, _, _⟩ := e_spec_l71Walk hs (p := q) (by omega) (by omega) ho
  simp only [spec_DrawWayOk.f]
  exact ⟨K, E, w, Ev.bind (Ev.const hx) (Ev.bind hq (Ev.bind hw (Ev.pure _))), ho, h3⟩
end Go.Proofs.Ytheoebelhgbejaa.E
