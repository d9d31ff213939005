/- A tie: two numbers. -/
namespace Osier
/-- A tie as the program has it: two numbers. -/
structure Tie where
  f0 : Int
  f1 : Int

theorem Tie.ext' {s t : Tie} (h0 : s.f0 = t.f0) (h1 : s.f1 = t.f1) : s = t := by
  cases s; cases t; simp_all

instance : DecidableEq Tie := fun s t =>
  if h : s.f0 = t.f0 ∧ s.f1 = t.f1 then isTrue (Tie.ext' h.1 h.2)
  else isFalse (fun e => h (by rw [e]; exact ⟨rfl, rfl⟩))
def tlt (s t : Tie) : Prop := s.f0 < t.f0 ∨ s.f0 = t.f0 ∧ s.f1 < t.f1
instance (s t : Tie) : Decidable (tlt s t) := by unfold tlt; exact inferInstance
theorem tlt_irrefl (s : Tie) : ¬ tlt s s := by unfold tlt; omega
theorem tlt_trans {s t u : Tie} (h : tlt s t) (k : tlt t u) : tlt s u := by unfold tlt at *; omega
theorem tlt_asymm {s t : Tie} (h : tlt s t) : ¬ tlt t s := by unfold tlt at *; omega
theorem tlt_total (s t : Tie) : tlt s t ∨ s = t ∨ tlt t s := by
  by_cases h : s = t
  · exact .inr (.inl h)
  · have : ¬ (s.f0 = t.f0 ∧ s.f1 = t.f1) := fun k => h (Tie.ext' k.1 k.2)
    unfold tlt; omega

end Osier
