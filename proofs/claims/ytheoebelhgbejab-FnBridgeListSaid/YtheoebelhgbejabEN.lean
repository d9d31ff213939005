/- Nets drawn. -/
import Derived.Test.YtheoebelhgbejabED
import Derived.Test.YtheoebelhgbejabEA
namespace Go.Proofs.Ytheoebelhgbejab.E
open Go.RowKit Go.Proofs.YtheoebelhgbejabW.PrintWords Go.Proofs.YtheoebelhgbejabW.PrintMore Go.Proofs.Ytheoebelhgbejab.P Osier
set_option linter.unusedVariables false

theorem src_take {l : List Int} (hl : ∀ x ∈ l, (Lit.int .u8 x).wf = true) {n : Nat} (hn : n ≤ 2000) : Src (l.take n) := by
  refine ⟨fun x hx => ?_, by simp only [List.length_take]; omega⟩
  have h := hl x (List.mem_of_mem_take hx)
  have h1 : IntKind.u8.min = 0 := rfl
  have h2 : IntKind.u8.max = 255 := rfl
  simp only [Lit.wf, Bool.and_eq_true, decide_eq_true_eq] at h
  omega
theorem e_spec_l6Open {l : List Int} (hl : ∀ x ∈ l, (Lit.int .u8 x).wf = true) : ∃ xs, spec_l6Open.f l = some (xs, 0) ∧ Src xs := by
  unfold spec_l6Open.f
  by_cases h : (l.length : Int) > 2000
  · rw [if_pos h, if_pos (by omega)]
    exact ⟨_, rfl, src_take hl (Nat.le_refl _)⟩
  · rw [if_neg h]
    refine ⟨_, rfl, ?_⟩
    have := src_take hl (n := l.length) (by omega)
    rwa [List.take_length] at this
theorem e_spec_l71Net_l2 {xs : List Int} (hs : Src xs) (d : Nat) : ∀ (x p K : Int) (E : List STie), x ≤ d → d ≤ 100 → Ok K E → 0 ≤ p → p + 2 * d ≤ 1000000 → ∃ K' E' q, Ev (fun k => spec_l71Net.l2 k x xs p K E) (K', E', q) ∧ Ok K' E' ∧ p ≤ q ∧ q ≤ p + 2 * d := by
  have stop : ∀ (x p K : Int) (E : List STie), Ev (fun k => spec_l71Net.j4 k x false xs p K E) (K, E, p) := by
    intro x p K E
    refine Ev.succ ?_
    simp only [spec_l71Net.j4]
    exact Ev.no (by simp) (Ev.pure _)
  induction d with
  | zero =>
    intro x p K E hx hd hE hp hp'
    refine ⟨K, E, p, Ev.succ ?_, hE, by omega, by omega⟩
    simp only [spec_l71Net.l2]
    exact Ev.no (by omega) (stop _ _ _ _)
  | succ d ih =>
    intro x p K E hx hd hE hp hp'
    by_cases h : x > 0 ∧ K > 1
    · have h8 := hE.k8
      obtain ⟨v, hv, hv0, hv1, _⟩ := e_spec_l6Rd_pick hs (p := p) hp (by omega) K (by omega)
      obtain ⟨u, hu, hu0, hu1, _⟩ := e_spec_l6Rd_pick hs (p := p + 1) (by omega) (by omega) K (by omega)
      have hlen := hE.len
      have wx : wrap64 (x - 1) = x - 1 := w64 (by omega) (by omega)
      by_cases ha : (addV K E v u).2.2 = true
      · obtain ⟨K', E', q, hq, ho, h1, h2⟩ := ih (x - 1) (p + 1 + 1) _ _ (by omega) (by omega) (addV_ok K E v u) (by omega) (by omega)
        refine ⟨K', E', q, Ev.succ ?_, ho, by omega, by omega⟩
        simp only [spec_l71Net.l2]
        refine Ev.yes h.1 (Ev.succ ?_)
        simp only [spec_l71Net.j4]
        rw [wx]
        exact Ev.yes (by simpa using h.2) (Ev.bind hv (Ev.bind hu (Ev.bind (e_spec_NetAdd K E v u (by omega)) (Ev.yes ha hq))))
      · obtain ⟨K', E', q, hq, ho, h1, h2⟩ := ih (x - 1) (p + 1 + 1) K E (by omega) (by omega) hE (by omega) (by omega)
        refine ⟨K', E', q, Ev.succ ?_, ho, by omega, by omega⟩
        simp only [spec_l71Net.l2]
        refine Ev.yes h.1 (Ev.succ ?_)
        simp only [spec_l71Net.j4]
        rw [wx]
        exact Ev.yes (by simpa using h.2) (Ev.bind hv (Ev.bind hu (Ev.bind (e_spec_NetAdd K E v u (by omega)) (Ev.no ha hq))))
    · refine ⟨K, E, p, Ev.succ ?_, hE, by omega, by omega⟩
      simp only [spec_l71Net.l2]
      by_cases h1 : x > 0
      · refine Ev.yes h1 ?_
        have h2 : decide (K > 1) = false := decide_eq_false (fun h2 => h ⟨h1, h2⟩)
        rw [h2]
        exact stop _ _ _ _
      · exact Ev.no h1 (stop _ _ _ _)
theorem e_spec_l71Net_j2 {xs : List Int} (hs : Src xs) {p K : Int} {E : List STie} (hE : Ok K E) (hp : 0 ≤ p) (hp' : p ≤ 100000) : ∃ K' E' q, Ev (fun k => spec_l71Net.j2 k xs p K E) (K', E', q) ∧ Ok K' E' ∧ p ≤ q ∧ q ≤ p + 30 := by
  obtain ⟨v, hv, hv0, hv1, _⟩ := e_spec_l6Rd_pick hs (p := p) hp (by omega) 13 (by omega)
  obtain ⟨K', E', q, hq, ho, h1, h2⟩ := e_spec_l71Net_l2 hs 13 v (p + 1) K E (by omega) (by omega) hE (by omega) (by omega)
  refine ⟨K', E', q, Ev.succ ?_, ho, by omega, by omega⟩
  simp only [spec_l71Net.j2]
  exact Ev.bind hv hq
theorem e_spec_l71Net_l0 {xs : List Int} (hs : Src xs) (d : Nat) : ∀ (x p K : Int) (E : List STie), 0 ≤ x → 8 ≤ x + d → d ≤ 100 → Ok K E → 0 ≤ p → p + d ≤ 50000 → ∃ K' E' q, Ev (fun k => spec_l71Net.l0 k x xs p K E) (K', E', q) ∧ Ok K' E' ∧ p ≤ q ∧ q ≤ p + 30 + d := by
  induction d with
  | zero =>
    intro x p K E hx0 hx hd hE hp hp'
    have h8 := hE.k8
    obtain ⟨K', E', q, hq, ho, h1, h2⟩ := e_spec_l71Net_j2 hs (p := p) hE (by omega) (by omega)
    refine ⟨K', E', q, Ev.succ ?_, ho, by omega, by omega⟩
    simp only [spec_l71Net.l0]
    exact Ev.no (by omega) hq
  | succ d ih =>
    intro x p K E hx0 hx hd hE hp hp'
    have h8 := hE.k8
    have hlen := hE.len
    by_cases h : x < K
    · obtain ⟨v, hv, hv0, hv1, _⟩ := e_spec_l6Rd_pick hs (p := p) hp (by omega) x (by omega)
      obtain ⟨K', E', q, hq, ho, h1, h2⟩ := ih (x + 1) (p + 1) _ _ (by omega) (by omega) (by omega) (addV_ok K E x v) (by omega) (by omega)
      refine ⟨K', E', q, Ev.succ ?_, ho, by omega, by omega⟩
      simp only [spec_l71Net.l0]
      rw [w64 (x := x + 1) (by omega) (by omega)]
      exact Ev.yes h (Ev.bind hv (Ev.bind (e_spec_NetAdd K E x v (by omega)) hq))
    · obtain ⟨K', E', q, hq, ho, h1, h2⟩ := e_spec_l71Net_j2 hs (p := p) hE (by omega) (by omega)
      refine ⟨K', E', q, Ev.succ ?_, ho, by omega, by omega⟩
      simp only [spec_l71Net.l0]
      exact Ev.no h hq
theorem e_spec_l71Net_l1 {xs : List Int} (hs : Src xs) (d : Nat) : ∀ (x p K : Int) (E : List STie), 0 ≤ x → 8 ≤ x + d → d ≤ 100 → Ok K E → 0 ≤ p → p ≤ 50000 → ∃ K' E' q, Ev (fun k => spec_l71Net.l1 k x xs p K E) (K', E', q) ∧ Ok K' E' ∧ p ≤ q ∧ q ≤ p + 30 := by
  induction d with
  | zero =>
    intro x p K E hx0 hx hd hE hp hp'
    have h8 := hE.k8
    obtain ⟨K', E', q, hq, ho, h1, h2⟩ := e_spec_l71Net_j2 hs (p := p) hE (by omega) (by omega)
    refine ⟨K', E', q, Ev.succ ?_, ho, by omega, by omega⟩
    simp only [spec_l71Net.l1]
    exact Ev.no (by omega) hq
  | succ d ih =>
    intro x p K E hx0 hx hd hE hp hp'
    have h8 := hE.k8
    have hlen := hE.len
    by_cases h : x < K
    · by_cases h2 : K > 2
      · obtain ⟨K', E', q, hq, ho, h1, h2'⟩ := ih (x + 1) p _ _ (by omega) (by omega) (by omega) (addV_ok K E x (Int.tmod (wrap64 (x + 1)) K)) (by omega) (by omega)
        refine ⟨K', E', q, Ev.succ ?_, ho, by omega, by omega⟩
        simp only [spec_l71Net.l1]
        refine Ev.yes h (Ev.yes h2 (Ev.no (by omega) (Ev.bind (e_spec_NetAdd K E x _ (by omega)) ?_)))
        have e1 : wrap64 (x + 1) = x + 1 := w64 (by omega) (by omega)
        rw [e1] at hq ⊢
        exact hq
      · obtain ⟨K', E', q, hq, ho, h1, h2'⟩ := e_spec_l71Net_j2 hs (p := p) hE (by omega) (by omega)
        refine ⟨K', E', q, Ev.succ ?_, ho, by omega, by omega⟩
        simp only [spec_l71Net.l1]
        exact Ev.yes h (Ev.no h2 hq)
    · obtain ⟨K', E', q, hq, ho, h1, h2⟩ := e_spec_l71Net_j2 hs (p := p) hE (by omega) (by omega)
      refine ⟨K', E', q, Ev.succ ?_, ho, by omega, by omega⟩
      simp only [spec_l71Net.l1]
      exact Ev.no h hq
theorem e_spec_l71Net {xs : List Int} (hs : Src xs) {p : Int} (hp : 0 ≤ p) (hp' : p ≤ 40000) : ∃ K E q, Ev (fun k => spec_l71Net.f k xs p) (K, E, q) ∧ Ok K E ∧ p ≤ q ∧ q ≤ p + 50 := by
  obtain ⟨v, hv, hv0, hv1, _⟩ := e_spec_l6Rd_pick hs (p := p) hp (by omega) 8 (by omega)
  obtain ⟨u, hu, hu0, hu1, _⟩ := e_spec_l6Rd_pick hs (p := p + 1) (by omega) (by omega) 6 (by omega)
  have hv1 := hv1 (by omega)
  have w : wrap64 (1 + v) = 1 + v := w64 (by omega) (by omega)
  have h0 : Ok (1 + v) ([] : List STie) := ⟨by omega, by omega, fun t h => by simp at h, List.Pairwise.nil⟩
  simp only [spec_l71Net.f]
  by_cases c0 : u = 0
  · obtain ⟨K', E', q, hq, ho, h1, h2⟩ := e_spec_l71Net_l0 hs 8 1 (p + 1 + 1) (1 + v) [] (by omega) (by omega) (by omega) h0 (by omega) (by omega)
    refine ⟨K', E', q, Ev.bind hv (Ev.bind hu ?_), ho, by omega, by omega⟩
    dsimp only
    rw [w]
    exact Ev.yes c0 hq
  · by_cases c1 : u = 1
    · obtain ⟨K', E', q, hq, ho, h1, h2⟩ := e_spec_l71Net_l1 hs 8 0 (p + 1 + 1) (1 + v) [] (by omega) (by omega) (by omega) h0 (by omega) (by omega)
      refine ⟨K', E', q, Ev.bind hv (Ev.bind hu ?_), ho, by omega, by omega⟩
      dsimp only
      rw [w]
      exact Ev.no c0 (Ev.yes c1 hq)
    · obtain ⟨K', E', q, hq, ho, h1, h2⟩ := e_spec_l71Net_j2 hs (p := p + 1 + 1) h0 (by omega) (by omega)
      refine ⟨K', E', q, Ev.bind hv (Ev.bind hu ?_), ho, by omega, by omega⟩
      dsimp only
      rw [w]
      exact Ev.no c0 (Ev.no c1 hq)
end Go.Proofs.Ytheoebelhgbejab.E
