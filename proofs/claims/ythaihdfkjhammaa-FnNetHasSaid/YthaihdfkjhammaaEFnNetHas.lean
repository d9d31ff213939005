/- NetHas (P3): the pure statement. -/
import Derived.Test.YthaihdfkjhammaaEY
namespace Go.Proofs.Ythaihdfkjhammaa.E
open Go.RowKit Go.Proofs.Ythaihdfkjhammaa.P Osier
set_option linter.unusedVariables false
theorem mkT_comm (a b : Int) : mkT a b = mkT b a := by
  unfold mkT
  by_cases h : a < b
  · rw [if_pos h, if_neg (by omega)]
  · by_cases h' : b < a
    · rw [if_neg h, if_pos h']
    · have : a = b := by omega
      subst this; rfl
theorem mkT_loop {K : Int} {E : List STie} (h : Ok K E) (a : Int) : mkT a a ∉ E := by
  intro hm
  have := h.tie _ hm
  unfold mkT at this
  rw [if_neg (by omega)] at this
  simp only at this
  omega
theorem FnNetHas (l : List Int) (hl : l.length ≤ maxLen) (hw : ∀ x ∈ l, (Lit.int .u8 x).wf = true) : ∃ k, laws_FnNetHas.f k l = some true := by
  refine Ev.get ?_
  simp only [laws_FnNetHas.f]
  by_cases h : (l.length : Int) > 1048576
  · exact Ev.yes h (Ev.pure _)
  · obtain ⟨K, E, a, b, hd, hs⟩ := e_spec_DrawNetHas hw
    have := hs.len
    refine Ev.no h (Ev.bind hd (Ev.bind (e_impl_NetHas K E a b (by omega)) (Ev.bind (e_spec_NetHas K E a b (by omega)) (Ev.yes (by simp) (Ev.bind (e_impl_NetHas K E b a (by omega)) ?_)))))
    refine Ev.yes (by rw [mkT_comm b a]; simp) (Ev.bind (e_impl_NetHas K E a a (by omega)) ((Ev.pure _).value ?_))
    rw [dec_false (fun k => mkT_loop k.1 a k.2)]
    rfl
end Go.Proofs.Ythaihdfkjhammaa.E
