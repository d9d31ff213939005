/- What is drawn: that there is something, and within which bounds. -/
import Derived.Test.YtheoebelhgbejabE4
namespace Go.Proofs.Ytheoebelhgbejab.E
open Go.RowKit Go.Proofs.YtheoebelhgbejabW.PrintWords Go.Proofs.YtheoebelhgbejabW.PrintMore Go.Proofs.Ytheoebelhgbejab.P Osier
set_option linter.unusedVariables false

theorem xor_i64 (a b : Nat) (ha : a < 2 ^ 62) (hb : b < 2 ^ 62) : Go.bits .xor .i64 (a : Int) (b : Int) = ((a ^^^ b : Nat) : Int) := by
  have hx : a ^^^ b < 2 ^ 62 := Nat.xor_lt_two_pow ha hb
  have h1 : (BitVec.ofInt 64 (a : Int)).toNat = a := by
    rw [BitVec.ofInt_natCast, BitVec.toNat_ofNat]; exact Nat.mod_eq_of_lt (by omega)
  have h2 : (BitVec.ofInt 64 (b : Int)).toNat = b := by
    rw [BitVec.ofInt_natCast, BitVec.toNat_ofNat]; exact Nat.mod_eq_of_lt (by omega)
  show IntKind.i64.wrap ((BitVec.ofInt 64 (a : Int) ^^^ BitVec.ofInt 64 (b : Int)).toNat : Int) = _
  rw [BitVec.toNat_xor, h1, h2]
  simp only [IntKind.wrap, IntKind.bits, IntKind.signed]
  simp
  omega
theorem xor_nonneg {a b : Int} (ha : 0 ≤ a) (ha' : a < 2 ^ 62) (hb : 0 ≤ b) (hb' : b < 2 ^ 62) : 0 ≤ Go.bits .xor .i64 a b := by
  obtain ⟨m, rfl⟩ := Int.eq_ofNat_of_zero_le ha
  obtain ⟨n, rfl⟩ := Int.eq_ofNat_of_zero_le hb
  rw [xor_i64 m n (by omega) (by omega)]
  omega
theorem tmod_in {a n : Int} (ha : 0 ≤ a) (hn : 0 < n) : 0 ≤ Int.tmod a n ∧ Int.tmod a n < n := ⟨Int.tmod_nonneg n ha, Int.tmod_lt_of_pos a hn⟩
theorem rd_byte {xs : List Int} (hb : ∀ x ∈ xs, 0 ≤ x ∧ x < 256) {p : Int} (h0 : 0 ≤ p) (h : p < xs.length) : 0 ≤ rd xs p ∧ rd xs p < 256 := by
  obtain ⟨n, rfl⟩ := Int.eq_ofNat_of_zero_le h0
  have hn : n < xs.length := by omega
  have e : rd xs (n : Int) = xs[n] := rdI hn
  show 0 ≤ rd xs (n : Int) ∧ rd xs (n : Int) < 256
  rw [e]
  exact hb _ (List.getElem_mem hn)
/-- The bytes to draw from. -/
structure Src (xs : List Int) : Prop where
  byte : ∀ x ∈ xs, 0 ≤ x ∧ x < 256
  len : xs.length ≤ 2000
/-- A place in them: how often was drawn. -/
def Pl (p : Int) : Prop := 0 ≤ p ∧ p < 1099511627776
theorem e_spec_l6Rd_pick {xs : List Int} (hs : Src xs) {p : Int} (hp : 0 ≤ p) (hp' : p < 1099511627776) (n : Int) (hn' : n < 1099511627776) : ∃ v, Ev (fun k => spec_l6Rd_pick.f k xs p n) (v, p + 1) ∧ 0 ≤ v ∧ (1 ≤ n → v < n) ∧ (n < 1 → v = 0) := by
  have hl := hs.len
  have w1 : wrap64 (p + 1) = p + 1 := w64 (by omega) (by omega)
  have w2 : wrap64 (p + 1 - 1) = p := by rw [w64 (by omega) (by omega)]; omega
  by_cases hn : n < 1
  · refine ⟨0, ?_, by omega, by omega, fun _ => rfl⟩
    simp only [spec_l6Rd_pick.f]
    refine Ev.yes hn (Ev.succ ?_)
    simp only [spec_l6Rd_pick.j0]
    rw [w1]
    exact Ev.yes (by trivial) (Ev.pure _)
  · by_cases h0 : xs.length = 0
    · refine ⟨0, ?_, by omega, fun _ => by omega, by omega⟩
      simp only [spec_l6Rd_pick.f]
      refine Ev.no hn (Ev.succ ?_)
      simp only [spec_l6Rd_pick.j0]
      rw [w1]
      exact Ev.yes (by simp [h0]) (Ev.pure _)
    · by_cases h1 : p < xs.length
      · have hr := rd_byte hs.byte hp h1
        refine ⟨Int.tmod (rd xs p) n, ?_, (tmod_in hr.1 (by omega)).1, fun _ => (tmod_in hr.1 (by omega)).2, by omega⟩
        simp only [spec_l6Rd_pick.f]
        refine Ev.no hn (Ev.succ ?_)
        simp only [spec_l6Rd_pick.j0]
        rw [w1, w2, w64 (x := rd xs p) (by omega) (by omega)]
        exact Ev.no (by simp; exact fun h => h0 (by rw [h]; rfl)) (Ev.yes h1 (Ev.yes hp (Ev.no (by omega) (Ev.pure _))))
      · have hlp : (0 : Int) < xs.length := by omega
        have m1 := tmod_in hp hlp
        have e7 : wrap64 (p * 7) = p * 7 := w64 (by omega) (by omega)
        have e8 : wrap64 (p * 7 + 3) = p * 7 + 3 := w64 (by omega) (by omega)
        have m2 := tmod_in (show (0 : Int) ≤ p * 7 + 3 by omega) hlp
        have r1 := rd_byte hs.byte m1.1 m1.2
        have r2 := rd_byte hs.byte m2.1 m2.2
        have hq0 : 0 ≤ Int.tdiv p xs.length := Int.tdiv_nonneg hp (by omega)
        have hq1 : Int.tdiv p xs.length ≤ p := by rw [Int.tdiv_eq_ediv_of_nonneg hp]; exact Int.ediv_le_self _ hp
        generalize hA : rd xs (Int.tmod p xs.length) = A at *
        generalize hB : rd xs (Int.tmod (p * 7 + 3) xs.length) = B at *
        generalize hQ : Int.tdiv p xs.length = Q at *
        have f1 : wrap64 A = A := w64 (by omega) (by omega)
        have f2 : wrap64 B = B := w64 (by omega) (by omega)
        have f3 : wrap64 (A * 131) = A * 131 := w64 (by omega) (by omega)
        have f4 : wrap64 (B * 1117) = B * 1117 := w64 (by omega) (by omega)
        have f5 : wrap64 (A * 131 + B * 1117) = A * 131 + B * 1117 := w64 (by omega) (by omega)
        have f6 : wrap64 (p * 29) = p * 29 := w64 (by omega) (by omega)
        have f7 : wrap64 (A * 131 + B * 1117 + p * 29) = A * 131 + B * 1117 + p * 29 := w64 (by omega) (by omega)
        have f8 : wrap64 Q = Q := w64 (by omega) (by omega)
        have f9 : wrap64 (Q * 53) = Q * 53 := w64 (by omega) (by omega)
        have f10 : wrap64 (A * 131 + B * 1117 + p * 29 + Q * 53) = A * 131 + B * 1117 + p * 29 + Q * 53 := w64 (by omega) (by omega)
        have hS0 : 0 ≤ A * 131 + B * 1117 + p * 29 + Q * 53 := by omega
        have hS1 : A * 131 + B * 1117 + p * 29 + Q * 53 < 2 ^ 60 := by omega
        generalize hS : A * 131 + B * 1117 + p * 29 + Q * 53 = S at *
        have g0 : 0 ≤ Int.tdiv S 64 := Int.tdiv_nonneg hS0 (by omega)
        have g1 : Int.tdiv S 64 ≤ S := by rw [Int.tdiv_eq_ediv_of_nonneg hS0]; exact Int.ediv_le_self _ hS0
        have f11 : wrap64 (Int.tdiv S 64) = Int.tdiv S 64 := w64 (by omega) (by omega)
        have hx := xor_nonneg (a := S) (b := Int.tdiv S 64) hS0 (by omega) g0 (by omega)
        refine ⟨Int.tmod (Go.bits .xor .i64 S (Int.tdiv S 64)) n, ?_, (tmod_in hx (by omega)).1, fun _ => (tmod_in hx (by omega)).2, by omega⟩
        simp only [spec_l6Rd_pick.f]
        refine Ev.no hn (Ev.succ ?_)
        simp only [spec_l6Rd_pick.j0]
        rw [w1, w2, e7, e8, hA, hB, hQ, f1, f2, f3, f4, f5, f6, f7, f8, f9, hS, f10, f11]
        exact Ev.no (by simp; exact fun h => h0 (by rw [h]; rfl)) (Ev.no h1 (Ev.no (by omega) (Ev.yes m1.1 (Ev.yes m1.2 (Ev.yes m2.1 (Ev.yes m2.2 (Ev.no (by omega) (Ev.pure _))))))))
end Go.Proofs.Ytheoebelhgbejab.E
