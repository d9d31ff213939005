/- Marks on numbers. -/
import Derived.Test.YtheoebelhgbejabE5
namespace Go.Proofs.Ytheoebelhgbejab.E
open Go.RowKit Go.Proofs.YtheoebelhgbejabW.PrintWords Go.Proofs.YtheoebelhgbejabW.PrintMore Go.Proofs.Ytheoebelhgbejab.P Osier
set_option linter.unusedVariables false
def mI (j : Nat) : Int := 1 + (j : Int)
def marksI (n : Nat) : List Int := (List.range n).map mI
theorem marksI_len (n : Nat) : (marksI n).length = n := by simp [marksI]
theorem marksI_succ (n : Nat) : marksI (n + 1) = marksI n ++ [1 + (n : Int)] := by simp [marksI, mI, List.range_succ]
theorem marksI_get {n j : Nat} (h : j < (marksI n).length) : (marksI n)[j] = 1 + (j : Int) := by simp [marksI, mI]
theorem e_laws_markIntS_l0 (n : Nat) (hn : n < 1099511627776) (d : Nat) : ∀ (i : Nat) (xs : List Int), i + d = n → xs.length = n → xs.take i = marksI i → Ev (fun k => laws_markIntS.l0 k xs (1 + (i : Int)) (i : Int)) (1 + (n : Int), marksI n) := by
  induction d with
  | zero =>
    intro i xs hi hx ht
    refine Ev.succ ?_
    simp only [laws_markIntS.l0]
    refine Ev.no (by omega) ?_
    obtain rfl : i = n := by omega
    have : xs = marksI i := by rw [← ht, List.take_of_length_le (by omega)]
    rw [this]
    exact Ev.pure _
  | succ d ih =>
    intro i xs hi hx ht
    have hlt : i < xs.length := by omega
    refine Ev.succ ?_
    simp only [laws_markIntS.l0]
    rw [w64 (x := 1 + (i : Int) + 1) (by omega) (by omega), w64s (by omega), Int.toNat_natCast]
    have e1 : (1 + (i : Int) + 1) = 1 + ((i + 1 : Nat) : Int) := by omega
    rw [e1]
    refine Ev.yes (by omega) (Ev.yes (by omega) (ih (i + 1) _ (by omega) (by simpa using hx) ?_))
    rw [set_take _ hlt, ht, marksI_succ]
theorem e_laws_markIntS (xs : List Int) (hx : xs.length < 1099511627776) : Ev (fun k => laws_markIntS.f k xs 1) (1 + (xs.length : Int), marksI xs.length) := by
  simp only [laws_markIntS.f]
  exact e_laws_markIntS_l0 xs.length hx xs.length 0 xs (by omega) rfl (by simp [marksI])
theorem e_laws_heldIntS_l0 (n : Nat) (hn : n < 1099511627776) (d : Nat) : ∀ (i : Nat), i + d = n → Ev (fun k => laws_heldIntS.l0 k (marksI n) (1 + (i : Int)) (i : Int)) (1 + (n : Int)) := by
  induction d with
  | zero =>
    intro i hi
    refine Ev.succ ?_
    simp only [laws_heldIntS.l0]
    rw [marksI_len]
    refine Ev.no (by omega) ?_
    obtain rfl : i = n := by omega
    exact Ev.pure _
  | succ d ih =>
    intro i hi
    have hlt : i < (marksI n).length := by rw [marksI_len]; omega
    refine Ev.succ ?_
    simp only [laws_heldIntS.l0]
    rw [rdI hlt, marksI_get hlt, w64 (x := 1 + (i : Int) + 1) (by omega) (by omega), w64s (by omega)]
    have e1 : (1 + (i : Int) + 1) = 1 + ((i + 1 : Nat) : Int) := by omega
    rw [e1]
    exact Ev.yes (by rw [marksI_len]; omega) (Ev.yes (by omega) (Ev.yes rfl (ih (i + 1) (by omega))))
theorem e_laws_heldIntS (n : Nat) (hn : n < 1099511627776) : Ev (fun k => laws_heldIntS.f k (marksI n) 1) (1 + (n : Int)) := by
  simp only [laws_heldIntS.f]
  exact e_laws_heldIntS_l0 n hn n 0 (by omega)
end Go.Proofs.Ytheoebelhgbejab.E
