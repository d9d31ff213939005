/- Rows of truths: comparison and marks. -/
import Derived.Test.YthaihdfkjhammaaE2
namespace Go.Proofs.Ythaihdfkjhammaa.E
open Go.RowKit Go.Proofs.YthaihdfkjhammaaW.PrintWords Go.Proofs.YthaihdfkjhammaaW.PrintMore Go.Proofs.Ythaihdfkjhammaa.P Osier
set_option linter.unusedVariables false
theorem e_laws_eqBoolS_l0 (a b : List Bool) (hl : a.length = b.length) (ha : a.length < 4611686018427387904) (d : Nat) : ∀ i, i + d = a.length → Ev (fun k => laws_eqBoolS.l0 k a b (i : Int)) (dec (∀ j (h : j < a.length), i ≤ j → a[j] = b[j])) := by
  induction d with
  | zero =>
    intro i hi
    refine Ev.succ ?_
    simp only [laws_eqBoolS.l0]
    refine Ev.no (by omega) ?_
    rw [dec_true (fun j h hij => by omega)]
    exact Ev.pure _
  | succ d ih =>
    intro i hi
    have hlt : i < a.length := by omega
    refine Ev.succ ?_
    simp only [laws_eqBoolS.l0]
    refine Ev.yes (by omega) (Ev.yes (by omega) (Ev.yes (by omega) ?_))
    rw [rdB hlt, rdB (show i < b.length by omega), w64s (by omega)]
    by_cases h : a[i] = b[i]
    · refine Ev.no (by rw [h]; simp) ((ih (i + 1) (by omega)).value (dec_congr ⟨fun h' j hj hij => ?_, fun h' j hj hij => h' j hj (by omega)⟩))
      rcases Nat.eq_or_lt_of_le hij with rfl | h5
      · exact h
      · exact h' j hj h5
    · refine Ev.yes (by simpa using h) ?_
      rw [dec_false (fun h' => h (h' i hlt (Nat.le_refl _)))]
      exact Ev.pure _
theorem e_laws_eqBoolS (a b : List Bool) (ha : a.length < 4611686018427387904) : Ev (fun k => laws_eqBoolS.f k a b) (dec (a = b)) := by
  simp only [laws_eqBoolS.f]
  by_cases hl : a.length = b.length
  · refine Ev.yes (by omega) ((e_laws_eqBoolS_l0 a b hl ha a.length 0 (by omega)).value (dec_congr ?_))
    rw [list_eq_iff hl]
    exact ⟨fun h j hj => h j hj (Nat.zero_le _), fun h j hj _ => h j hj⟩
  · refine Ev.no (by omega) ?_
    rw [dec_false (fun e => hl (by rw [e]))]
    exact Ev.pure _
def mB (j : Nat) : Bool := Int.tmod (1 + (j : Int)) 3 == 0
def marksB (n : Nat) : List Bool := (List.range n).map mB
theorem marksB_len (n : Nat) : (marksB n).length = n := by simp [marksB]
theorem marksB_succ (n : Nat) : marksB (n + 1) = marksB n ++ [Int.tmod (1 + (n : Int)) 3 == 0] := by simp [marksB, mB, List.range_succ]
theorem marksB_get {n j : Nat} (h : j < (marksB n).length) : (marksB n)[j] = (Int.tmod (1 + (j : Int)) 3 == 0) := by simp [marksB, mB]
theorem e_laws_markBoolS_l0 (n : Nat) (hn : n < 1099511627776) (d : Nat) : ∀ (i : Nat) (xs : List Bool), i + d = n → xs.length = n → xs.take i = marksB i → Ev (fun k => laws_markBoolS.l0 k xs (1 + (i : Int)) (i : Int)) (1 + (n : Int), marksB n) := by
  induction d with
  | zero =>
    intro i xs hi hx ht
    refine Ev.succ ?_
    simp only [laws_markBoolS.l0]
    refine Ev.no (by omega) ?_
    obtain rfl : i = n := by omega
    have : xs = marksB i := by rw [← ht, List.take_of_length_le (by omega)]
    rw [this]
    exact Ev.pure _
  | succ d ih =>
    intro i xs hi hx ht
    have hlt : i < xs.length := by omega
    refine Ev.succ ?_
    simp only [laws_markBoolS.l0]
    rw [w64 (x := 1 + (i : Int) + 1) (by omega) (by omega), w64s (by omega), Int.toNat_natCast]
    have e1 : (1 + (i : Int) + 1) = 1 + ((i + 1 : Nat) : Int) := by omega
    rw [e1]
    refine Ev.yes (by omega) (Ev.yes (by omega) (ih (i + 1) _ (by omega) (by simpa using hx) ?_))
    rw [set_take _ hlt, ht, marksB_succ]
theorem e_laws_markBoolS (xs : List Bool) (hx : xs.length < 1099511627776) : Ev (fun k => laws_markBoolS.f k xs 1) (1 + (xs.length : Int), marksB xs.length) := by
  simp only [laws_markBoolS.f]
  exact e_laws_markBoolS_l0 xs.length hx xs.length 0 xs (by omega) rfl (by simp [marksB])
theorem e_laws_heldBoolS_l0 (n : Nat) (hn : n < 1099511627776) (d : Nat) : ∀ (i : Nat), i + d = n → Ev (fun k => laws_heldBoolS.l0 k (marksB n) (1 + (i : Int)) (i : Int)) (1 + (n : Int)) := by
  induction d with
  | zero =>
    intro i hi
    refine Ev.succ ?_
    simp only [laws_heldBoolS.l0]
    rw [marksB_len]
    refine Ev.no (by omega) ?_
    obtain rfl : i = n := by omega
    exact Ev.pure _
  | succ d ih =>
    intro i hi
    have hlt : i < (marksB n).length := by rw [marksB_len]; omega
    refine Ev.succ ?_
    simp only [laws_heldBoolS.l0]
    rw [rdB hlt, marksB_get hlt, w64 (x := 1 + (i : Int) + 1) (by omega) (by omega), w64s (by omega)]
    have e1 : (1 + (i : Int) + 1) = 1 + ((i + 1 : Nat) : Int) := by omega
    rw [e1]
    exact Ev.yes (by rw [marksB_len]; omega) (Ev.yes (by omega) (Ev.no (by simp) (ih (i + 1) (by omega))))
theorem e_laws_heldBoolS (n : Nat) (hn : n < 1099511627776) : Ev (fun k => laws_heldBoolS.f k (marksB n) 1) (1 + (n : Int)) := by
  simp only [laws_heldBoolS.f]
  exact e_laws_heldBoolS_l0 n hn n 0 (by omega)
end Go.Proofs.Ythaihdfkjhammaa.E
