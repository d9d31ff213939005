/- How the printed functions are reckoned: with rounds enough the answer is this. -/
import Derived.Test.YtgoembpmhlmafaaF
namespace Go.Proofs.Ytgoembpmhlmafaa.E
open Go.RowKit Go.Proofs.YtgoembpmhlmafaaW.PrintWords Go.Proofs.YtgoembpmhlmafaaW.PrintMore Go.Proofs.Ytgoembpmhlmafaa.P Osier
set_option linter.unusedVariables false

/-- With rounds enough, g answers v. -/
def Ev {α : Type} (g : Nat → Option α) (v : α) : Prop := ∃ N, ∀ k, N ≤ k → g k = some v
theorem Ev.pure {α : Type} (v : α) : Ev (fun _ => some v) v := ⟨0, fun _ _ => rfl⟩
theorem Ev.const {α : Type} {o : Option α} {v : α} (h : o = some v) : Ev (fun _ => o) v := ⟨0, fun _ _ => h⟩
theorem Ev.bind {α β : Type} {g : Nat → Option α} {a : α} {h : α → Nat → Option β} {v : β} (hg : Ev g a) (hh : Ev (h a) v) : Ev (fun k => (g k).bind (fun x => h x k)) v := by
  obtain ⟨N, hN⟩ := hg
  obtain ⟨M, hM⟩ := hh
  exact ⟨max N M, fun k hk => by show (g k).bind _ = _; rw [hN k (by omega)]; exact hM k (by omega)⟩
theorem Ev.succ {α : Type} {G : Nat → Option α} {v : α} (h : Ev (fun k => G (k + 1)) v) : Ev G v := by
  obtain ⟨N, hN⟩ := h
  refine ⟨N + 1, fun k hk => ?_⟩
  obtain ⟨m, rfl⟩ : ∃ m, k = m + 1 := ⟨k - 1, by omega⟩
  exact hN m (by omega)
theorem Ev.yes {α : Type} {c : Prop} [Decidable c] {g h : Nat → Option α} {v : α} (hc : c) (hg : Ev g v) : Ev (fun k => if c then g k else h k) v := by
  simpa only [if_pos hc] using hg
theorem Ev.no {α : Type} {c : Prop} [Decidable c] {g h : Nat → Option α} {v : α} (hc : ¬ c) (hg : Ev h v) : Ev (fun k => if c then g k else h k) v := by
  simpa only [if_neg hc] using hg
theorem Ev.get {α : Type} {g : Nat → Option α} {v : α} (h : Ev g v) : ∃ k, g k = some v := by
  obtain ⟨N, hN⟩ := h
  exact ⟨N, hN N (Nat.le_refl _)⟩
theorem Ev.value {α : Type} {g : Nat → Option α} {v w : α} (h : Ev g v) (e : v = w) : Ev g w := e ▸ h

/-- A proposition's truth, as a Bool. -/
noncomputable def dec (p : Prop) : Bool := @decide p (Classical.propDecidable p)
theorem dec_true {p : Prop} (h : p) : dec p = true := by unfold dec; simpa using h
theorem dec_false {p : Prop} (h : ¬ p) : dec p = false := by unfold dec; simpa using h
theorem dec_iff {p : Prop} : dec p = true ↔ p := by unfold dec; simp
theorem dec_not_iff {p : Prop} : dec p = false ↔ ¬ p := by unfold dec; simp
theorem dec_congr {p q : Prop} (h : p ↔ q) : dec p = dec q := by rw [propext h]
theorem dec_decide {p : Prop} [Decidable p] : decide p = dec p := by unfold dec; congr
theorem dec_bool {b : Bool} : dec (b = true) = b := by cases b <;> simp [dec]

/-! ### Numbers -/
theorem w64 {x : Int} (h0 : -9223372036854775808 ≤ x) (h1 : x < 9223372036854775808) : wrap64 x = x := by unfold wrap64; omega
theorem w64s {n : Nat} (h : n < 4611686018427387904) : wrap64 ((n : Int) + 1) = ((n + 1 : Nat) : Int) := by rw [w64 (by omega) (by omega)]; omega
theorem w64p {n : Nat} (h0 : 0 < n) (h : n < 4611686018427387904) : wrap64 ((n : Int) - 1) = ((n - 1 : Nat) : Int) := by rw [w64 (by omega) (by omega)]; omega
theorem maxLen_val : maxLen = 9223372036854775807 := rfl

/-! ### Lists -/
theorem rdT {xs : List STie} {n : Nat} (h : n < xs.length) : rd_TTie xs (n : Int) = xs[n] := by
  unfold rd_TTie
  rw [Int.toNat_natCast, List.getD_eq_getElem?_getD, List.getElem?_eq_getElem h]; rfl
theorem rdI {xs : List Int} {n : Nat} (h : n < xs.length) : rd xs (n : Int) = xs[n] := by
  unfold rd
  rw [Int.toNat_natCast, List.getD_eq_getElem?_getD, List.getElem?_eq_getElem h]; rfl
theorem rdB {xs : List Bool} {n : Nat} (h : n < xs.length) : rdOf false xs (n : Int) = xs[n] := by
  unfold rdOf
  rw [Int.toNat_natCast, List.getD_eq_getElem?_getD, List.getElem?_eq_getElem h]; rfl
theorem take_snoc {α : Type} (l : List α) {n : Nat} (h : n < l.length) : l.take (n + 1) = l.take n ++ [l[n]] := by
  rw [List.take_succ_eq_append_getElem h]
theorem drop_cons {α : Type} (l : List α) {n : Nat} (h : n < l.length) : l.drop n = l[n] :: l.drop (n + 1) := List.drop_eq_getElem_cons h
theorem tie_eta (t : STie) : (⟨t.f0, t.f1⟩ : STie) = t := rfl
theorem e_cmp_Compare (a b : Int) : cmp_Compare_int.f a b = some (if a < b then -1 else if a > b then 1 else 0) := by
  unfold cmp_Compare_int.f cmp_isNaN_int.f
  simp only [bne_self_eq_false, Option.bind_some, Bool.false_eq_true, if_false]
  split
  · rfl
  · split <;> rfl
theorem e_cmp_Or (a b : Int) : Ev (fun k => cmp_Or_int.f k [a, b]) (if a = 0 then b else a) := by
  simp only [cmp_Or_int.f]
  refine Ev.succ ?_
  simp only [cmp_Or_int.l0]
  refine Ev.yes (by simp) (Ev.yes (by omega) (Ev.yes (by simp) ?_))
  have e0 : rd [a, b] 0 = a := rfl
  have e1 : rd [a, b] 1 = b := rfl
  rw [e0]
  by_cases ha : a = 0
  · refine Ev.yes ha ?_
    rw [w64 (by omega) (by omega)]
    refine Ev.succ ?_
    simp only [cmp_Or_int.l0]
    refine Ev.yes (by simp) (Ev.yes (by omega) (Ev.yes (by simp) ?_))
    have h01 : (0 : Int) + 1 = 1 := rfl
    rw [h01, e1, if_pos ha]
    by_cases hb : b = 0
    · refine Ev.yes hb ?_
      refine Ev.succ ?_
      simp only [cmp_Or_int.l0]
      refine Ev.no (by rw [w64 (by omega) (by omega)]; simp) ?_
      rw [hb]; exact Ev.pure _
    · exact Ev.no hb (Ev.pure _)
  · refine Ev.no ha ?_
    rw [if_neg ha]; exact Ev.pure _
/-- The order of ties, as a number: negative, nought or positive. -/
def ord (s t : STie) : Int := if s.f0 < t.f0 then -1 else if s.f0 > t.f0 then 1 else if s.f1 < t.f1 then -1 else if s.f1 > t.f1 then 1 else 0
theorem ord_neg (s t : STie) : ord s t < 0 ↔ tlt s t := by
  unfold ord tlt
  split
  · simp; omega
  · split
    · simp; omega
    · split
      · simp; omega
      · split <;> simp <;> omega
theorem e_impl_tieOrder (s t : STie) : Ev (fun k => impl_tieOrder.f k s.f0 s.f1 t.f0 t.f1) (ord s t) := by
  simp only [impl_tieOrder.f]
  refine Ev.bind (Ev.const (e_cmp_Compare _ _)) (Ev.bind (Ev.const (e_cmp_Compare _ _)) (Ev.bind (e_cmp_Or _ _) ((Ev.pure _).value ?_)))
  unfold ord
  by_cases h1 : s.f0 < t.f0
  · simp [h1]
  · by_cases h2 : s.f0 > t.f0
    · simp [h1, h2]
    · simp [h1, h2]
end Go.Proofs.Ytgoembpmhlmafaa.E
