/- A tie: two numbers. -/
namespace Osier
/-- A tie as the program has it: two numbers. -/
structure Tie where
  f0 : Int
  f1 : Int

theorem Tie.ext' {s t : Tie} (h0 : s.f0 = t.f0) (h1 : s.f1 = t.f1) : s = t := by
  cases s; cases t; simp_all

instance : DecidableEq Tie := fun s t =>
  if h : s.f0 = t.f0 ∧ s.f1 = t.f1 then isTrue (Tie.ext' h.1 h.2)
  else isFalse (fun e => h (by rw [e]; exact ⟨rfl, rfl⟩))
end Osier
