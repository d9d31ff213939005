/- Nets drawn and spoiled, knots and pairs drawn. -/
import Derived.Test.YtheoebelhgbejaaEN
namespace Go.Proofs.Ytheoebelhgbejaa.E
open Go.RowKit Go.Proofs.YtheoebelhgbejaaW.PrintWords Go.Proofs.YtheoebelhgbejaaW.PrintMore Go.Proofs.Ytheoebelhgbejaa.P Osier
set_option linter.unusedVariables false

theorem e_spec_l1Copy (K : Int) (E : List STie) (hE : E.length < 1099511627776) : spec_l1Copy.f K E = some (K, E) := by
  unfold spec_l1Copy.f
  simp only [Option.bind_some, List.nil_append]
  rw [if_pos (by simp; omega)]
/-- A net of few ties and few knots, whatever else it is. -/
structure Small (K : Int) (E : List STie) : Prop where
  k0 : -1 ≤ K
  k9 : K ≤ 9
  len : E.length ≤ 65
theorem Small.of {K : Int} {E : List STie} (h : Ok K E) : Small K E := ⟨by have := h.k0; omega, by have := h.k8; omega, by have := h.len; omega⟩
theorem e_spec_l71Spoil {xs : List Int} (hs : Src xs) {p : Int} (hp : 0 ≤ p) (hp' : p ≤ 100000) {K : Int} {E : List STie} (hE : Ok K E) : ∃ K' E' q, Ev (fun k => spec_l71Spoil.f k xs p K E) (K', E', q) ∧ Small K' E' ∧ p ≤ q ∧ q ≤ p + 5 := by
  have hl := hE.len
  have h0 := hE.k0
  have h8 := hE.k8
  obtain ⟨v, hv, hv0, hv1, _⟩ := e_spec_l6Rd_pick hs (p := p) hp (by omega) 6 (by omega)
  simp only [spec_l71Spoil.f]
  by_cases c0 : v = 0
  · obtain ⟨u, hu, hu0, hu1, _⟩ := e_spec_l6Rd_pick hs (p := p + 1) (by omega) (by omega) 5 (by omega)
    have hu1 := hu1 (by omega)
    have hm : rd [(-1), 0, 1, 8, 9] u ∈ ([(-1), 0, 1, 8, 9] : List Int) := by
      obtain ⟨n, hn'⟩ : ∃ n : Nat, u = (n : Int) := ⟨u.toNat, by omega⟩
      have hn : n < ([(-1), 0, 1, 8, 9] : List Int).length := by simp; omega
      rw [hn', rdI hn]; exact List.getElem_mem hn
    refine ⟨rd [(-1), 0, 1, 8, 9] u, E, p + 1 + 1, Ev.bind (Ev.const (e_spec_l1Copy K E (by omega))) (Ev.bind hv (Ev.yes c0 (Ev.bind (Ev.pure _) (Ev.bind hu (Ev.yes hu0 (Ev.yes (by simp; omega) (Ev.pure _))))))), ?_, by omega, by omega⟩
    simp only [List.mem_cons, List.not_mem_nil, or_false] at hm
    exact ⟨by omega, by omega, by omega⟩
  · by_cases c1 : v = 1
    · obtain ⟨u, hu, hu0, hu1, _⟩ := e_spec_l6Rd_pick hs (p := p + 1) (by omega) (by omega) 3 (by omega)
      obtain ⟨s, hs', hs0, hs1, _⟩ := e_spec_l6Rd_pick hs (p := p + 1 + 1) (by omega) (by omega) 3 (by omega)
      exact ⟨K, E ++ [⟨u, s⟩], p + 1 + 1 + 1, Ev.bind (Ev.const (e_spec_l1Copy K E (by omega))) (Ev.bind hv (Ev.no c0 (Ev.yes c1 (Ev.bind hu (Ev.bind hs' (Ev.yes (by dsimp only; omega) (Ev.pure _))))))), ⟨by omega, by omega, by simp; omega⟩, by omega, by omega⟩
    · by_cases c2 : v = 2
      · exact ⟨K, E ++ [⟨wrap64 (K - 1), K⟩], p + 1, Ev.bind (Ev.const (e_spec_l1Copy K E (by omega))) (Ev.bind hv (Ev.no c0 (Ev.no c1 (Ev.yes c2 (Ev.yes (by dsimp only; omega) (Ev.pure _)))))), ⟨by omega, by omega, by simp; omega⟩, by omega, by omega⟩
      · by_cases c3 : v = 3
        · by_cases hE0 : (E.length : Int) > 0
          · obtain ⟨u, hu, hu0, hu1, _⟩ := e_spec_l6Rd_pick hs (p := p + 1) (by omega) (by omega) (E.length : Int) (by omega)
            have hu1 := hu1 (by omega)
            exact ⟨K, _, p + 1 + 1, Ev.bind (Ev.const (e_spec_l1Copy K E (by omega))) (Ev.bind hv (Ev.no c0 (Ev.no c1 (Ev.no c2 (Ev.yes c3 (Ev.yes hE0 (Ev.bind hu (Ev.yes hu0 (Ev.yes hu1 (Ev.pure _)))))))))), ⟨by omega, by omega, by simp; omega⟩, by omega, by omega⟩
          · exact ⟨K, E, p + 1, Ev.bind (Ev.const (e_spec_l1Copy K E (by omega))) (Ev.bind hv (Ev.no c0 (Ev.no c1 (Ev.no c2 (Ev.yes c3 (Ev.no hE0 (Ev.pure _))))))), ⟨by omega, by omega, by omega⟩, by omega, by omega⟩
        · by_cases c4 : v = 4
          · by_cases hE0 : (E.length : Int) > 1
            · exact ⟨K, E ++ [⟨(rd_TTie E 0).f0, (rd_TTie E 0).f1⟩], p + 1, Ev.bind (Ev.const (e_spec_l1Copy K E (by omega))) (Ev.bind hv (Ev.no c0 (Ev.no c1 (Ev.no c2 (Ev.no c3 (Ev.yes c4 (Ev.yes hE0 (Ev.yes (by dsimp only; omega) (Ev.yes (by dsimp only; omega) (Ev.pure _)))))))))), ⟨by omega, by omega, by simp; omega⟩, by omega, by omega⟩
            · exact ⟨K, E, p + 1, Ev.bind (Ev.const (e_spec_l1Copy K E (by omega))) (Ev.bind hv (Ev.no c0 (Ev.no c1 (Ev.no c2 (Ev.no c3 (Ev.yes c4 (Ev.no hE0 (Ev.pure _)))))))), ⟨by omega, by omega, by omega⟩, by omega, by omega⟩
          · exact ⟨K, [⟨-1, 0⟩] ++ E, p + 1, Ev.bind (Ev.const (e_spec_l1Copy K E (by omega))) (Ev.bind hv (Ev.no c0 (Ev.no c1 (Ev.no c2 (Ev.no c3 (Ev.no c4 (Ev.bind (Ev.pure _) (Ev.yes (by simp; omega) (Ev.pure _))))))))), ⟨by omega, by omega, by simp; omega⟩, by omega, by omega⟩
theorem e_spec_l71Any {xs : List Int} (hs : Src xs) {p : Int} (hp : 0 ≤ p) (hp' : p ≤ 30000) : ∃ K E q, Ev (fun k => spec_l71Any.f k xs p) (K, E, q) ∧ Small K E ∧ p ≤ q ∧ q ≤ p + 60 := by
  obtain ⟨K, E, q, hq, ho, h1, h2⟩ := e_spec_l71Net hs hp (by omega)
  obtain ⟨v, hv, hv0, hv1, _⟩ := e_spec_l6Rd_pick hs (p := q) (by omega) (by omega) 12 (by omega)
  simp only [spec_l71Any.f]
  by_cases c : v = 0
  · obtain ⟨K', E', q', hq', ho', h1', h2'⟩ := e_spec_l71Spoil hs (p := q + 1) (by omega) (by omega) ho
    exact ⟨K', E', q', Ev.bind hq (Ev.bind hv (Ev.yes c (Ev.bind hq' (Ev.pure _)))), ho', by omega, by omega⟩
  · exact ⟨K, E, q + 1, Ev.bind hq (Ev.bind hv (Ev.no c (Ev.pure _))), Small.of ho, by omega, by omega⟩
theorem e_spec_l71Knot_j0 {xs : List Int} (hs : Src xs) {p : Int} (hp : 0 ≤ p) (hp' : p ≤ 100000) {K : Int} {E : List STie} (hE : Small K E) (b : Bool) : ∃ v q, Ev (fun k => spec_l71Knot.j0 k b xs p K E) (v, q) ∧ p ≤ q ∧ q ≤ p + 1 := by
  have h9 := hE.k9
  cases b with
  | true =>
    obtain ⟨u, hu, hu0, hu1, _⟩ := e_spec_l6Rd_pick hs (p := p) (by omega) (by omega) 3 (by omega)
    have hu1 := hu1 (by omega)
    refine ⟨rd [(-1), K, 3] u, p + 1, Ev.succ ?_, by omega, by omega⟩
    · simp only [spec_l71Knot.j0]
      exact Ev.yes (by trivial) (Ev.bind (Ev.pure _) (Ev.bind hu (Ev.yes hu0 (Ev.yes (by simp; omega) (Ev.pure _)))))
  | false =>
    obtain ⟨u, hu, hu0, hu1, _⟩ := e_spec_l6Rd_pick hs (p := p) (by omega) (by omega) K (by omega)
    refine ⟨u, p + 1, Ev.succ ?_, by omega, by omega⟩
    simp only [spec_l71Knot.j0]
    exact Ev.no (by simp) (Ev.bind hu (Ev.pure _))
theorem e_spec_l71Knot {xs : List Int} (hs : Src xs) {p : Int} (hp : 0 ≤ p) (hp' : p ≤ 90000) {K : Int} {E : List STie} (hE : Small K E) : ∃ v q, Ev (fun k => spec_l71Knot.f k xs p K E) (v, q) ∧ p ≤ q ∧ q ≤ p + 2 := by
  simp only [spec_l71Knot.f]
  by_cases h : K < 1
  · obtain ⟨v, q, hq, h1, h2⟩ := e_spec_l71Knot_j0 hs (p := p) hp (by omega) hE true
    exact ⟨v, q, Ev.yes h hq, by omega, by omega⟩
  · obtain ⟨u, hu, hu0, hu1, _⟩ := e_spec_l6Rd_pick hs (p := p) (by omega) (by omega) 24 (by omega)
    obtain ⟨v, q, hq, h1, h2⟩ := e_spec_l71Knot_j0 hs (p := p + 1) (by omega) (by omega) hE (u == 0)
    exact ⟨v, q, Ev.no h (Ev.bind hu hq), by omega, by omega⟩
theorem e_spec_l71Pair {xs : List Int} (hs : Src xs) {p : Int} (hp : 0 ≤ p) (hp' : p ≤ 20000) : ∃ K E a b q, Ev (fun k => spec_l71Pair.f k xs p) (K, E, a, b, q) ∧ Small K E ∧ p ≤ q ∧ q ≤ p + 70 := by
  obtain ⟨K, E, q, hq, ho, h1, h2⟩ := e_spec_l71Any hs hp (by omega)
  obtain ⟨a, q2, ha, h3, h4⟩ := e_spec_l71Knot hs (p := q) (by omega) (by omega) ho
  obtain ⟨b, q3, hb, h5, h6⟩ := e_spec_l71Knot hs (p := q2) (by omega) (by omega) ho
  simp only [spec_l71Pair.f]
  by_cases c0 : a = b
  · by_cases c1 : K > 1
    · obtain ⟨u, hu, hu0, hu1, _⟩ := e_spec_l6Rd_pick hs (p := q3) (by omega) (by omega) 8 (by omega)
      by_cases c2 : u > 0
      · exact ⟨K, E, a, _, q3 + 1, Ev.bind hq (Ev.bind ha (Ev.bind hb (Ev.yes c0 (Ev.yes c1 (Ev.bind hu (Ev.yes c2 (Ev.no (by dsimp only; omega) (Ev.pure _)))))))), ho, by omega, by omega⟩
      · exact ⟨K, E, a, b, q3 + 1, Ev.bind hq (Ev.bind ha (Ev.bind hb (Ev.yes c0 (Ev.yes c1 (Ev.bind hu (Ev.no c2 (Ev.pure _))))))), ho, by omega, by omega⟩
    · exact ⟨K, E, a, b, q3, Ev.bind hq (Ev.bind ha (Ev.bind hb (Ev.yes c0 (Ev.no c1 (Ev.pure _))))), ho, by omega, by omega⟩
  · exact ⟨K, E, a, b, q3, Ev.bind hq (Ev.bind ha (Ev.bind hb (Ev.no c0 (Ev.pure _)))), ho, by omega, by omega⟩
theorem e_spec_l71Tied_j0 {xs : List Int} (hs : Src xs) {p : Int} (hp : 0 ≤ p) (hp' : p ≤ 100000) {K : Int} {E : List STie} (hE : Small K E) (a b : Int) (c : Bool) (hc : c = true → 0 < E.length) : ∃ a' b' q, Ev (fun k => spec_l71Tied.j0 k a b c xs p K E) (K, E, a', b', q) ∧ p ≤ q ∧ q ≤ p + 2 := by
  cases c with
  | false =>
    refine ⟨a, b, p, Ev.succ ?_, by omega, by omega⟩
    simp only [spec_l71Tied.j0]
    exact Ev.no (by simp) (Ev.pure _)
  | true =>
    have hc := hc rfl
    have hl := hE.len
    obtain ⟨u, hu, hu0, hu1, _⟩ := e_spec_l6Rd_pick hs (p := p) (by omega) (by omega) (E.length : Int) (by omega)
    obtain ⟨v, hv, hv0, hv1, _⟩ := e_spec_l6Rd_pick hs (p := p + 1) (by omega) (by omega) 2 (by omega)
    have hu1 := hu1 (by omega)
    by_cases h : v = 0
    · refine ⟨(rd_TTie E u).f1, (rd_TTie E u).f0, p + 1 + 1, Ev.succ ?_, by omega, by omega⟩
      · simp only [spec_l71Tied.j0]
        exact Ev.yes (by trivial) (Ev.bind hu (Ev.yes hu0 (Ev.yes hu1 (Ev.bind hv (Ev.yes h (Ev.pure _))))))
    · refine ⟨(rd_TTie E u).f0, (rd_TTie E u).f1, p + 1 + 1, Ev.succ ?_, by omega, by omega⟩
      · simp only [spec_l71Tied.j0]
        exact Ev.yes (by trivial) (Ev.bind hu (Ev.yes hu0 (Ev.yes hu1 (Ev.bind hv (Ev.no h (Ev.pure _))))))
theorem e_spec_l71Tied {xs : List Int} (hs : Src xs) {p : Int} (hp : 0 ≤ p) (hp' : p ≤ 10000) : ∃ K E a b q, Ev (fun k => spec_l71Tied.f k xs p) (K, E, a, b, q) ∧ Small K E ∧ p ≤ q ∧ q ≤ p + 80 := by
  obtain ⟨K, E, a, b, q, hq, ho, h1, h2⟩ := e_spec_l71Pair hs hp (by omega)
  simp only [spec_l71Tied.f]
  by_cases c : (E.length : Int) > 0
  · obtain ⟨u, hu, hu0, hu1, _⟩ := e_spec_l6Rd_pick hs (p := q) (by omega) (by omega) 4 (by omega)
    obtain ⟨a', b', q', hq', h3, h4⟩ := e_spec_l71Tied_j0 hs (p := q + 1) (by omega) (by omega) ho a b (decide (u > 0)) (fun _ => by omega)
    exact ⟨K, E, a', b', q', Ev.bind hq (Ev.yes c (Ev.bind hu hq')), ho, by omega, by omega⟩
  · obtain ⟨a', b', q', hq', h3, h4⟩ := e_spec_l71Tied_j0 hs (p := q) (by omega) (by omega) ho a b false (by simp)
    exact ⟨K, E, a', b', q', Ev.bind hq (Ev.no c hq'), ho, by omega, by omega⟩

/-! ### What the laws draw -/
theorem e_spec_DrawNetCut {l : List Int} (hl : ∀ x ∈ l, (Lit.int .u8 x).wf = true) : ∃ K E a b, Ev (fun k => spec_DrawNetCut.f k l) (K, E, a, b) ∧ Small K E := by
  obtain ⟨xs, hx, hs⟩ := e_spec_l6Open hl
  obtain ⟨K, E, a, b, q, hq, ho, _, _⟩ := e_spec_l71Tied hs (p := 0) (by omega) (by omega)
  simp only [spec_DrawNetCut.f]
  exact ⟨K, E, a, b, Ev.bind (Ev.const hx) (Ev.bind hq (Ev.pure _)), ho⟩
theorem e_spec_DrawNetWithout {l : List Int} (hl : ∀ x ∈ l, (Lit.int .u8 x).wf = true) : ∃ K E a, Ev (fun k => spec_DrawNetWithout.f k l) (K, E, a) ∧ Small K E := by
  obtain ⟨xs, hx, hs⟩ := e_spec_l6Open hl
  obtain ⟨K, E, q, hq, ho, _, _⟩ := e_spec_l71Any hs (p := 0) (by omega) (by omega)
  obtain ⟨a, q2, ha, h3, h4⟩ := e_spec_l71Knot hs (p := q) (by omega) (by omega) ho
  simp only [spec_DrawNetWithout.f]
  exact ⟨K, E, a, Ev.bind (Ev.const hx) (Ev.bind hq (Ev.bind ha (Ev.pure _))), ho⟩
theorem e_spec_DrawWayReach {l : List Int} (hl : ∀ x ∈ l, (Lit.int .u8 x).wf = true) : ∃ K E a, Ev (fun k => spec_DrawWayReach.f k l) (K, E, a) ∧ Small K E := by
  obtain ⟨K, E, a, h, ho⟩ := e_spec_DrawNetWithout hl
  simp only [spec_DrawWayReach.f]
  exact ⟨K, E, a, Ev.bind h (Ev.pure _), ho⟩
theorem e_spec_DrawWayParts {l : List Int} (hl : ∀ x ∈ l, (Lit.int .u8 x).wf = true) : ∃ K E, Ev (fun k => spec_DrawWayParts.f k l) (K, E) ∧ Small K E := by
  obtain ⟨xs, hx, hs⟩ := e_spec_l6Open hl
  obtain ⟨K, E, q, hq, ho, _, _⟩ := e_spec_l71Any hs (p := 0) (by omega) (by omega)
  simp only [spec_DrawWayParts.f]
  exact ⟨K, E, Ev.bind (Ev.const hx) (Ev.bind hq (Ev.pure _)), ho⟩
theorem e_spec_DrawWayCount {l : List Int} (hl : ∀ x ∈ l, (Lit.int .u8 x).wf = true) : ∃ K E, Ev (fun k => spec_DrawWayCount.f k l) (K, E) ∧ Small K E := by
  obtain ⟨xs, hx, hs⟩ := e_spec_l6Open hl
  obtain ⟨K, E, q, hq, ho, _, _⟩ := e_spec_l71Any hs (p := 0) (by omega) (by omega)
  simp only [spec_DrawWayCount.f]
  exact ⟨K, E, Ev.bind (Ev.const hx) (Ev.bind hq (Ev.pure _)), ho⟩
end Go.Proofs.Ytheoebelhgbejaa.E
