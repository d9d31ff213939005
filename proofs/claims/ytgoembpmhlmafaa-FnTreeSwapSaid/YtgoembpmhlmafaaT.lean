/- A tie: two numbers. -/
namespace Osier
/-- A tie as the program has it: two numbers. -/
structure Tie where
  f0 : Int
  f1 : Int

theorem Tie.ext' {s t : Tie} (h0 : s.f0 = t.f0) (h1 : s.f1 = t.f1) : s = t := by
  cases s; cases t; simp_all

instance : DecidableEq Tie := fun s t =>
  if h : s.f0 = t.f0 ∧ s.f1 = t.f1 then isTrue (Tie.ext' h.1 h.2)
  else isFalse (fun e => h (by rw [e]; exact ⟨rfl, rfl⟩))
def tlt (s t : Tie) : Prop := s.f0 < t.f0 ∨ s.f0 = t.f0 ∧ s.f1 < t.f1
instance (s t : Tie) : Decidable (tlt s t) := by unfold tlt; exact inferInstance
theorem tlt_irrefl (s : Tie) : ¬ tlt s s := by unfold tlt; omega
theorem tlt_trans {s t u : Tie} (h : tlt s t) (k : tlt t u) : tlt s u := by unfold tlt at *; omega
theorem tlt_asymm {s t : Tie} (h : tlt s t) : ¬ tlt t s := by unfold tlt at *; omega
theorem tlt_total (s t : Tie) : tlt s t ∨ s = t ∨ tlt t s := by
  by_cases h : s = t
  · exact .inr (.inl h)
  · have : ¬ (s.f0 = t.f0 ∧ s.f1 = t.f1) := fun k => h (Tie.ext' k.1 k.2)
    unfold tlt; omega

/-- The order of rows of numbers: the first place at which they part; a row that begins another one stands ahead of it. -/
def lcmp : List Int → List Int → Int
  | [], [] => 0
  | [], _ :: _ => -1
  | _ :: _, [] => 1
  | a :: x, b :: y => if a < b then -1 else if a > b then 1 else lcmp x y
/-- The order of ways: shorter ones first. -/
def wcmp (x y : List Int) : Int := if x.length < y.length then -1 else if x.length > y.length then 1 else lcmp x y
theorem lcmp_self (x : List Int) : lcmp x x = 0 := by
  induction x with
  | nil => rfl
  | cons a x ih => simp [lcmp, ih]
theorem lcmp_neg (x : List Int) : ∀ y, lcmp y x = - lcmp x y := by
  induction x with
  | nil => intro y; cases y <;> simp [lcmp]
  | cons a x ih =>
    intro y
    cases y with
    | nil => simp [lcmp]
    | cons b y =>
      simp only [lcmp]
      by_cases h : a < b
      · have h' : ¬ b < a := by omega
        simp [h, h']
      · by_cases h' : b < a
        · simp [h, h']
        · simp [h, h', ih y]
theorem lcmp_zero (x : List Int) : ∀ y, lcmp x y = 0 → x = y := by
  induction x with
  | nil => intro y h; cases y <;> simp [lcmp] at h ⊢
  | cons a x ih =>
    intro y h
    cases y with
    | nil => simp [lcmp] at h
    | cons b y =>
      simp only [lcmp] at h
      by_cases h1 : a < b
      · rw [if_pos h1] at h; omega
      · by_cases h2 : a > b
        · rw [if_neg h1, if_pos h2] at h; omega
        · rw [if_neg h1, if_neg h2] at h
          rw [ih y h, show a = b by omega]
theorem lcmp_le (x : List Int) : ∀ y z, lcmp x y ≤ 0 → lcmp y z ≤ 0 → lcmp x z ≤ 0 := by
  induction x with
  | nil => intro y z _ _; cases z <;> simp [lcmp]
  | cons a x ih =>
    intro y z h k
    cases y with
    | nil => simp [lcmp] at h
    | cons b y =>
      cases z with
      | nil => simp [lcmp] at k
      | cons c z =>
        simp only [lcmp] at *
        by_cases h1 : a < b
        · by_cases k1 : b > c
          · rw [if_neg (by omega), if_pos k1] at k; omega
          · rw [if_pos (by omega)]; omega
        · rw [if_neg h1] at h
          by_cases h2 : a > b
          · rw [if_pos h2] at h; omega
          · rw [if_neg h2] at h
            by_cases k1 : b < c
            · rw [if_pos (by omega)]; omega
            · rw [if_neg k1] at k
              by_cases k2 : b > c
              · rw [if_pos k2] at k; omega
              · rw [if_neg k2] at k
                rw [if_neg (by omega), if_neg (by omega)]
                exact ih y z h k
theorem wcmp_neg (x y : List Int) : wcmp y x = - wcmp x y := by
  unfold wcmp
  by_cases h : x.length < y.length
  · have h' : ¬ y.length < x.length := by omega
    simp [h, h']
  · by_cases h' : y.length < x.length
    · simp [h, h']
    · simp [h, h', lcmp_neg x y]
theorem wcmp_zero (x y : List Int) (h : wcmp x y = 0) : x = y := by
  unfold wcmp at h
  split at h
  · omega
  · split at h
    · omega
    · exact lcmp_zero x y h
theorem wcmp_le (x y z : List Int) (h : wcmp x y ≤ 0) (k : wcmp y z ≤ 0) : wcmp x z ≤ 0 := by
  unfold wcmp at *
  by_cases h1 : x.length < y.length
  · by_cases k1 : y.length > z.length
    · rw [if_neg (by omega), if_pos k1] at k; omega
    · rw [if_pos (by omega)]; omega
  · rw [if_neg h1] at h
    by_cases h2 : x.length > y.length
    · rw [if_pos h2] at h; omega
    · rw [if_neg h2] at h
      by_cases k1 : y.length < z.length
      · rw [if_pos (by omega)]; omega
      · rw [if_neg k1] at k
        by_cases k2 : y.length > z.length
        · rw [if_pos k2] at k; omega
        · rw [if_neg k2] at k
          rw [if_neg (by omega), if_neg (by omega)]
          exact lcmp_le x y z h k
theorem wcmp_self (x : List Int) : wcmp x x = 0 := by
  unfold wcmp
  rw [if_neg (Nat.lt_irrefl _), if_neg (Nat.lt_irrefl _), lcmp_self]
end Osier
