/- NetWithout (P8): the pure statement. -/
import Derived.Test.YthaihdfkjhammaaEY
import Derived.Test.YthaihdfkjhammaaEL
namespace Go.Proofs.Ythaihdfkjhammaa.E
open Go.RowKit Go.Proofs.Ythaihdfkjhammaa.P Osier
set_option linter.unusedVariables false
theorem far_iff {a : Int} {t : STie} : far a t = true ↔ t.f0 ≠ a ∧ t.f1 ≠ a := by simp [far]
theorem e_laws_FnNetWithout_l0 {K : Int} {E : List STie} {a : Int} (hE : Ok K E) (d : Nat) : ∀ i, i + d = E.length → Ev (fun k => laws_FnNetWithout.l0 k a (i : Int) K E K (E.filter (far a))) true := by
  have hl := hE.len
  have hf := List.length_filter_le (far a) E
  induction d with
  | zero =>
    intro i hi
    refine Ev.succ ?_
    simp only [laws_FnNetWithout.l0]
    refine Ev.no (by omega) (Ev.bind (e_impl_NetOk K _ (by omega)) (Ev.yes (dec_true (hE.filter _)) (Ev.yes (by trivial) ((Ev.pure _).value ?_))))
    exact decide_eq_true (by omega)
  | succ d ih =>
    intro i hi
    have hlt : i < E.length := by omega
    refine Ev.succ ?_
    simp only [laws_FnNetWithout.l0]
    rw [rdT hlt, w64s (by omega)]
    have hm : E[i] ∈ E := List.getElem_mem hlt
    have ht := hE.tie _ hm
    refine Ev.yes (by omega) (Ev.yes (by omega) ?_)
    by_cases h0 : E[i].f0 = a
    · refine Ev.yes h0 (Ev.bind (e_laws_loHas _ E[i] (by omega)) (Ev.no ?_ (ih (i + 1) (by omega))))
      rw [dec_false (fun k => (far_iff.1 (List.mem_filter.1 k).2).1 h0)]
      simp
    · refine Ev.no h0 (Ev.bind (e_laws_loHas _ E[i] (by omega)) (Ev.no ?_ (ih (i + 1) (by omega))))
      by_cases h1 : E[i].f1 = a
      · rw [dec_false (fun k => (far_iff.1 (List.mem_filter.1 k).2).2 h1)]
        simp [h1]
      · rw [dec_true (List.mem_filter.2 ⟨hm, far_iff.2 ⟨h0, h1⟩⟩)]
        simp [h1]
theorem FnNetWithout (l : List Int) (hl : l.length ≤ maxLen) (hw : ∀ x ∈ l, (Lit.int .u8 x).wf = true) : ∃ k, laws_FnNetWithout.f k l = some true := by
  refine Ev.get ?_
  simp only [laws_FnNetWithout.f]
  by_cases h : (l.length : Int) > 1048576
  · exact Ev.yes h (Ev.pure _)
  · obtain ⟨K, E, a, hd, hs⟩ := e_spec_DrawNetWithout hw
    have hlen := hs.len
    have hwl := woV_len K E a
    refine Ev.no h (Ev.bind hd (Ev.bind (e_impl_NetWithout K E a (by omega)) (Ev.bind (e_spec_NetWithout K E a (by omega)) (Ev.bind (e_laws_loNet_same _ _ (by omega)) (Ev.yes rfl (Ev.succ ?_))))))
    simp only [laws_FnNetWithout.j0]
    by_cases c : (woV K E a).1 = 0
    · exact Ev.yes (by simp [c]) (Ev.bind (e_spec_NetWithout K E a (by omega)) (Ev.bind (e_laws_loNet_same _ _ (by omega)) (Ev.pure _)))
    · refine Ev.no (by simpa using c) ?_
      unfold woV at c ⊢
      by_cases g : Ok K E ∧ 0 ≤ a ∧ a < K
      · rw [if_pos (dec_true g)]
        exact e_laws_FnNetWithout_l0 g.1 E.length 0 (by omega)
      · rw [if_neg (by rw [dec_false g]; simp)] at c
        exact absurd rfl c
end Go.Proofs.Ythaihdfkjhammaa.E
