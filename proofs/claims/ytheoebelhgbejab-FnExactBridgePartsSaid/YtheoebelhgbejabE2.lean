/- The exact laws' own helpers: copies, comparisons, marks. -/
import Derived.Test.YtheoebelhgbejabE1
namespace Go.Proofs.Ytheoebelhgbejab.E
open Go.RowKit Go.Proofs.YtheoebelhgbejabW.PrintWords Go.Proofs.YtheoebelhgbejabW.PrintMore Go.Proofs.Ytheoebelhgbejab.P Osier
set_option linter.unusedVariables false

theorem rdL {xs : List SLTie} {n : Nat} (h : n < xs.length) : rd_TLTie xs (n : Int) = xs[n] := by
  unfold rd_TLTie
  rw [Int.toNat_natCast, List.getD_eq_getElem?_getD, List.getElem?_eq_getElem h]; rfl
theorem set_take {α : Type} (xs : List α) {i : Nat} (h : i < xs.length) (v : α) : (xs.set i v).take (i + 1) = xs.take i ++ [v] := by
  rw [take_snoc _ (by simpa using h), List.take_set_of_le (Nat.le_refl _), List.getElem_set_self]
theorem take_all {α : Type} {xs ys : List α} (hl : xs.length = ys.length) (h : xs.take ys.length = ys.take ys.length) : xs = ys := by
  rw [List.take_of_length_le (by omega), List.take_of_length_le (Nat.le_refl _)] at h
  exact h

theorem e_laws_szNet (K : Int) (l : List SLTie) (h : l.length ≤ maxLen) : laws_szNet.f K l 1048576 = some (if l.length ≤ 1048576 then 1048576 - (l.length : Int) else -1) := by
  rw [maxLen_val] at h
  have hw : wrap64 (1048576 - (l.length : Int)) = 1048576 - (l.length : Int) := w64 (by omega) (by omega)
  unfold laws_szNet.f laws_szTieS.f
  rw [hw]
  by_cases hl : l.length ≤ 1048576
  · rw [if_neg (by omega), if_pos hl, Option.bind_some, if_neg (by omega)]
  · rw [if_pos (by omega), if_neg hl, Option.bind_some, if_pos (by omega)]
theorem e_laws_toTieS_l0 (l : List SLTie) (hl : l.length < 4611686018427387904) (d : Nat) : ∀ (i : Nat) (xs : List STie), i + d = l.length → xs.length = l.length → xs.take i = l.take i → Ev (fun k => laws_toTieS.l0 k l xs (i : Int)) l := by
  induction d with
  | zero =>
    intro i xs hi hx ht
    refine Ev.succ ?_
    simp only [laws_toTieS.l0]
    refine Ev.no (by omega) ?_
    obtain rfl : i = l.length := by omega
    rw [take_all hx ht]
    exact Ev.pure _
  | succ d ih =>
    intro i xs hi hx ht
    refine Ev.succ ?_
    simp only [laws_toTieS.l0, laws_toTie.f]
    refine Ev.yes (by omega) (Ev.yes (by omega) (Ev.bind (Ev.pure _) (Ev.yes (by omega) ?_)))
    rw [rdL (show i < l.length by omega), w64s (by omega), Int.toNat_natCast]
    refine ih (i + 1) _ (by omega) (by simpa using hx) ?_
    rw [set_take _ (by omega), take_snoc l (by omega), ht]
theorem e_laws_toTieS (l : List SLTie) (hl : l.length ≤ 1048576) : Ev (fun k => laws_toTieS.f k l) l := by
  simp only [laws_toTieS.f]
  refine Ev.yes (by omega) (Ev.yes (by simp; omega) ?_)
  exact e_laws_toTieS_l0 l (by omega) l.length 0 _ (by omega) (by simp) (by simp)
theorem e_laws_toNet (K : Int) (l : List SLTie) (hl : l.length ≤ 1048576) : Ev (fun k => laws_toNet.f k K l) (K, l) := by
  simp only [laws_toNet.f]
  exact Ev.bind (e_laws_toTieS l hl) (Ev.pure _)
theorem e_laws_eqTie (s t : STie) : laws_eqTie.f s.f0 s.f1 t.f0 t.f1 = some (dec (s = t)) := by
  unfold laws_eqTie.f
  by_cases h0 : s.f0 = t.f0
  · rw [if_pos h0]
    by_cases h1 : s.f1 = t.f1
    · rw [if_pos h1, dec_true (Tie.ext' h0 h1)]
    · rw [if_neg h1, dec_false (fun e => h1 (by rw [e]))]
  · rw [if_neg h0, dec_false (fun e => h0 (by rw [e]))]
theorem list_eq_iff {α : Type} {a b : List α} (hl : a.length = b.length) : a = b ↔ ∀ j (h : j < a.length), a[j] = b[j]'(hl ▸ h) := by
  constructor
  · rintro rfl j h; rfl
  · intro h
    exact List.ext_getElem hl (fun j h1 h2 => h j h1)
theorem e_laws_eqTieS_l0 (a b : List STie) (hl : a.length = b.length) (ha : a.length < 4611686018427387904) (d : Nat) : ∀ i, i + d = a.length → Ev (fun k => laws_eqTieS.l0 k a b (i : Int)) (dec (∀ j (h : j < a.length), i ≤ j → a[j] = b[j])) := by
  induction d with
  | zero =>
    intro i hi
    refine Ev.succ ?_
    simp only [laws_eqTieS.l0]
    refine Ev.no (by omega) ?_
    rw [dec_true (fun j h hij => by omega)]
    exact Ev.pure _
  | succ d ih =>
    intro i hi
    have hlt : i < a.length := by omega
    refine Ev.succ ?_
    simp only [laws_eqTieS.l0]
    refine Ev.yes (by omega) (Ev.yes (by omega) (Ev.yes (by omega) ?_))
    rw [rdT hlt, rdT (show i < b.length by omega), w64s (by omega)]
    refine Ev.bind (Ev.const (e_laws_eqTie _ _)) ?_
    by_cases h : a[i] = b[i]
    · refine Ev.yes (dec_true h) ((ih (i + 1) (by omega)).value (dec_congr ⟨fun h' j hj hij => ?_, fun h' j hj hij => h' j hj (by omega)⟩))
      rcases Nat.eq_or_lt_of_le hij with rfl | h5
      · exact h
      · exact h' j hj h5
    · refine Ev.no (by rw [dec_false h]; simp) ?_
      rw [dec_false (fun h' => h (h' i hlt (Nat.le_refl _)))]
      exact Ev.pure _
theorem e_laws_eqTieS (a b : List STie) (ha : a.length < 4611686018427387904) : Ev (fun k => laws_eqTieS.f k a b) (dec (a = b)) := by
  simp only [laws_eqTieS.f]
  by_cases hl : a.length = b.length
  · refine Ev.yes (by omega) ((e_laws_eqTieS_l0 a b hl ha a.length 0 (by omega)).value (dec_congr ?_))
    rw [list_eq_iff hl]
    exact ⟨fun h j hj => h j hj (Nat.zero_le _), fun h j hj _ => h j hj⟩
  · refine Ev.no (by omega) ?_
    rw [dec_false (fun e => hl (by rw [e]))]
    exact Ev.pure _
theorem e_laws_eqNet (K L : Int) (a b : List STie) (ha : a.length < 4611686018427387904) : Ev (fun k => laws_eqNet.f k K a L b) (dec (K = L ∧ a = b)) := by
  simp only [laws_eqNet.f]
  by_cases hK : K = L
  · refine Ev.yes hK (Ev.bind (e_laws_eqTieS a b ha) ?_)
    by_cases h : a = b
    · refine Ev.yes (dec_true h) ?_
      rw [dec_true ⟨hK, h⟩]; exact Ev.pure _
    · refine Ev.no (by rw [dec_false h]; simp) ?_
      rw [dec_false (fun e => h e.2)]; exact Ev.pure _
  · refine Ev.no hK ?_
    rw [dec_false (fun e => hK e.1)]; exact Ev.pure _
end Go.Proofs.Ytheoebelhgbejab.E
