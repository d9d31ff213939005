/- FnExactNetWrite: the pure statement, and what it leans on: graphs, and how the printed functions are reckoned. -/
import Derived.Test.YtloonheabfdgbaaDoorF
section
namespace Go.Proofs.YtloonheabfdgbaaDoor.E
open Go.RowKit Go.Proofs.YtloonheabfdgbaaDoorW.PrintWords Go.Proofs.YtloonheabfdgbaaDoorW.PrintMore Go.Proofs.YtloonheabfdgbaaDoor.P Osier
set_option linter.unusedVariables false
def Ev {α : Type} (g : Nat → Option α) (v : α) : Prop := ∃ N, ∀ k, N ≤ k → g k = some v
theorem Ev.pure {α : Type} (v : α) : Ev (fun _ => some v) v := ⟨0, fun _ _ => rfl⟩
theorem Ev.const {α : Type} {o : Option α} {v : α} (h : o = some v) : Ev (fun _ => o) v := ⟨0, fun _ _ => h⟩
theorem Ev.bind {α β : Type} {g : Nat → Option α} {a : α} {h : α → Nat → Option β} {v : β} (hg : Ev g a) (hh : Ev (h a) v) : Ev (fun k => (g k).bind (fun x => h x k)) v := by
  obtain ⟨N, hN⟩ := hg
  obtain ⟨M, hM⟩ := hh
  exact ⟨max N M, fun k hk => by show (g k).bind _ = _; rw [hN k (by omega)]; exact hM k (by omega)⟩
theorem Ev.succ {α : Type} {G : Nat → Option α} {v : α} (h : Ev (fun k => G (k + 1)) v) : Ev G v := by
  obtain ⟨N, hN⟩ := h
  refine ⟨N + 1, fun k hk => ?_⟩
  obtain ⟨m, rfl⟩ : ∃ m, k = m + 1 := ⟨k - 1, by omega⟩
  exact hN m (by omega)
theorem Ev.yes {α : Type} {c : Prop} [Decidable c] {g h : Nat → Option α} {v : α} (hc : c) (hg : Ev g v) : Ev (fun k => if c then g k else h k) v := by
  simpa only [if_pos hc] using hg
theorem Ev.no {α : Type} {c : Prop} [Decidable c] {g h : Nat → Option α} {v : α} (hc : ¬ c) (hg : Ev h v) : Ev (fun k => if c then g k else h k) v := by
  simpa only [if_neg hc] using hg
theorem Ev.get {α : Type} {g : Nat → Option α} {v : α} (h : Ev g v) : ∃ k, g k = some v := by
  obtain ⟨N, hN⟩ := h
  exact ⟨N, hN N (Nat.le_refl _)⟩
theorem Ev.value {α : Type} {g : Nat → Option α} {v w : α} (h : Ev g v) (e : v = w) : Ev g w := e ▸ h
noncomputable def dec (p : Prop) : Bool := @decide p (Classical.propDecidable p)
theorem dec_true {p : Prop} (h : p) : dec p = true := by unfold dec; simpa using h
theorem dec_false {p : Prop} (h : ¬ p) : dec p = false := by unfold dec; simpa using h
theorem dec_congr {p q : Prop} (h : p ↔ q) : dec p = dec q := by rw [propext h]
theorem dec_decide {p : Prop} [Decidable p] : decide p = dec p := by unfold dec; congr
theorem w64 {x : Int} (h0 : -9223372036854775808 ≤ x) (h1 : x < 9223372036854775808) : wrap64 x = x := by unfold wrap64; omega
theorem w64s {n : Nat} (h : n < 4611686018427387904) : wrap64 ((n : Int) + 1) = ((n + 1 : Nat) : Int) := by rw [w64 (by omega) (by omega)]; omega
theorem w64p {n : Nat} (h0 : 0 < n) (h : n < 4611686018427387904) : wrap64 ((n : Int) - 1) = ((n - 1 : Nat) : Int) := by rw [w64 (by omega) (by omega)]; omega
theorem maxLen_val : maxLen = 9223372036854775807 := rfl
theorem rdT {xs : List STie} {n : Nat} (h : n < xs.length) : rd_TTie xs (n : Int) = xs[n] := by
  unfold rd_TTie
  rw [Int.toNat_natCast, List.getD_eq_getElem?_getD, List.getElem?_eq_getElem h]; rfl
theorem take_snoc {α : Type} (l : List α) {n : Nat} (h : n < l.length) : l.take (n + 1) = l.take n ++ [l[n]] := by
  rw [List.take_succ_eq_append_getElem h]
theorem drop_cons {α : Type} (l : List α) {n : Nat} (h : n < l.length) : l.drop n = l[n] :: l.drop (n + 1) := List.drop_eq_getElem_cons h
theorem e_cmp_Compare (a b : Int) : cmp_Compare_int.f a b = some (if a < b then -1 else if a > b then 1 else 0) := by
  unfold cmp_Compare_int.f cmp_isNaN_int.f
  simp only [bne_self_eq_false, Option.bind_some, Bool.false_eq_true, if_false]
  split
  · rfl
  · split <;> rfl
theorem e_cmp_Or (a b : Int) : Ev (fun k => cmp_Or_int.f k [a, b]) (if a = 0 then b else a) := by
  simp only [cmp_Or_int.f]
  refine Ev.succ ?_
  simp only [cmp_Or_int.l0]
  refine Ev.yes (by simp) (Ev.yes (by omega) (Ev.yes (by simp) ?_))
  have e0 : rd [a, b] 0 = a := rfl
  have e1 : rd [a, b] 1 = b := rfl
  rw [e0]
  by_cases ha : a = 0
  · refine Ev.yes ha ?_
    rw [w64 (by omega) (by omega)]
    refine Ev.succ ?_
    simp only [cmp_Or_int.l0]
    refine Ev.yes (by simp) (Ev.yes (by omega) (Ev.yes (by simp) ?_))
    have h01 : (0 : Int) + 1 = 1 := rfl
    rw [h01, e1, if_pos ha]
    by_cases hb : b = 0
    · refine Ev.yes hb ?_
      refine Ev.succ ?_
      simp only [cmp_Or_int.l0]
      refine Ev.no (by rw [w64 (by omega) (by omega)]; simp) ?_
      rw [hb]; exact Ev.pure _
    · exact Ev.no hb (Ev.pure _)
  · refine Ev.no ha ?_
    rw [if_neg ha]; exact Ev.pure _
def ord (s t : STie) : Int := if s.f0 < t.f0 then -1 else if s.f0 > t.f0 then 1 else if s.f1 < t.f1 then -1 else if s.f1 > t.f1 then 1 else 0
theorem ord_neg (s t : STie) : ord s t < 0 ↔ tlt s t := by
  unfold ord tlt
  split
  · simp; omega
  · split
    · simp; omega
    · split
      · simp; omega
      · split <;> simp <;> omega
theorem e_impl_tieOrder (s t : STie) : Ev (fun k => impl_tieOrder.f k s.f0 s.f1 t.f0 t.f1) (ord s t) := by
  simp only [impl_tieOrder.f]
  refine Ev.bind (Ev.const (e_cmp_Compare _ _)) (Ev.bind (Ev.const (e_cmp_Compare _ _)) (Ev.bind (e_cmp_Or _ _) ((Ev.pure _).value ?_)))
  unfold ord
  by_cases h1 : s.f0 < t.f0
  · simp [h1]
  · by_cases h2 : s.f0 > t.f0
    · simp [h1, h2]
    · simp [h1, h2]
end Go.Proofs.YtloonheabfdgbaaDoor.E
end
section
namespace Osier
set_option linter.unusedVariables false
def Asc (E : List Tie) : Prop := E.Pairwise tlt
structure Ok (K : Int) (E : List Tie) : Prop where
  k0 : 0 ≤ K
  k8 : K ≤ 8
  tie : ∀ t ∈ E, 0 ≤ t.f0 ∧ t.f0 < t.f1 ∧ t.f1 < K
  asc : Asc E
theorem asc_len (l : List Int) (hl : l.Pairwise (· < ·)) : ∀ (lo hi : Int), lo ≤ hi → (∀ x ∈ l, lo ≤ x ∧ x < hi) → (l.length : Int) ≤ hi - lo := by
  induction l with
  | nil => intro lo hi h _; simp; omega
  | cons x l ih =>
    intro lo hi h hm
    have hp := List.pairwise_cons.1 hl
    have hx := hm x (by simp)
    have := ih hp.2 (x + 1) hi (by omega) (fun y hy => ⟨by have := hp.1 y hy; omega, (hm y (by simp [hy])).2⟩)
    simp only [List.length_cons]
    omega
theorem Ok.len {K : Int} {E : List Tie} (h : Ok K E) : E.length ≤ 64 := by
  have h1 : (E.map fun t => t.f0 * 8 + t.f1).Pairwise (· < ·) := by
    rw [List.pairwise_map]
    refine List.Pairwise.imp_of_mem ?_ h.asc
    intro a b ha hb hab
    have := h.tie a ha
    have := h.tie b hb
    have := h.k8
    unfold tlt at hab
    omega
  have := asc_len _ h1 0 64 (by omega) (by
    intro x hx
    obtain ⟨t, ht, rfl⟩ := List.mem_map.1 hx
    have := h.tie t ht
    have := h.k8
    omega)
  simp at this
  omega
end Osier
/- Plain facts on spanning forests and bridges. No program in sight. -/
namespace Osier
set_option linter.unusedVariables false
end Osier
/- Plain facts on ways: order, enumeration, shortest ways, distances. No program in sight. -/
namespace Osier
set_option linter.unusedVariables false
end Osier
/- Plain facts on the list of all ways. No program in sight. -/
namespace Osier
set_option linter.unusedVariables false
end Osier
end
section
namespace Go.Proofs.YtloonheabfdgbaaDoor.E
open Go.RowKit Go.Proofs.YtloonheabfdgbaaDoorW.PrintWords Go.Proofs.YtloonheabfdgbaaDoorW.PrintMore Go.Proofs.YtloonheabfdgbaaDoor.P Osier
set_option linter.unusedVariables false
theorem e_spec_l6In (a b c : Int) : spec_l6In.f a b c = some (dec (b ≤ a ∧ a ≤ c)) := by
  unfold spec_l6In.f
  by_cases h : a ≥ b
  · rw [if_pos h, dec_decide]
    exact congrArg some (dec_congr ⟨fun h' => ⟨h, h'⟩, fun h' => h'.2⟩)
  · rw [if_neg h, dec_false (by omega)]
theorem e_spec_l1Less (s t : STie) : spec_l1Less.f s.f0 s.f1 t.f0 t.f1 = some (dec (tlt s t)) := by
  unfold spec_l1Less.f
  by_cases h : s.f0 < t.f0
  · rw [if_pos h, dec_true (.inl h)]
  · rw [if_neg h]
    by_cases h' : s.f0 = t.f0
    · rw [if_pos h', dec_decide]
      exact congrArg some (dec_congr ⟨fun k => .inr ⟨h', k⟩, fun k => k.elim (fun k => absurd k h) (fun k => k.2)⟩)
    · rw [if_neg h', dec_false (fun k => k.elim h (fun k => h' k.1))]
def At (K : Int) (E : List STie) (j : Nat) (h : j < E.length) : Prop := (0 ≤ E[j].f0 ∧ E[j].f0 < E[j].f1 ∧ E[j].f1 < K) ∧ (∀ h0 : 0 < j, tlt E[j - 1] E[j])
theorem asc_iff (E : List STie) : Asc E ↔ ∀ j (h : j < E.length), 0 < j → tlt E[j - 1] E[j] := by
  constructor
  · intro h j hj h0
    exact List.pairwise_iff_getElem.1 h (j - 1) j (by omega) hj (by omega)
  · intro h
    refine List.pairwise_iff_getElem.2 ?_
    intro i j hi hj hij
    obtain ⟨d, rfl⟩ : ∃ d, j = i + d + 1 := ⟨j - i - 1, by omega⟩
    induction d with
    | zero => have := h (i + 1) hj (by omega); simpa using this
    | succ d ih =>
      have h1 := ih (by omega) (by omega)
      have h2 := h (i + (d + 1) + 1) hj (by omega)
      exact tlt_trans h1 h2
theorem ok_iff (K : Int) (E : List STie) : Ok K E ↔ (0 ≤ K ∧ K ≤ 8) ∧ ∀ j (h : j < E.length), At K E j h := by
  constructor
  · intro h
    refine ⟨⟨h.k0, h.k8⟩, fun j hj => ⟨h.tie _ (List.getElem_mem hj), fun h0 => (asc_iff E).1 h.asc j hj h0⟩⟩
  · rintro ⟨⟨h0, h1⟩, h⟩
    refine ⟨h0, h1, fun t ht => ?_, (asc_iff E).2 (fun j hj h0 => (h j hj).2 h0)⟩
    obtain ⟨j, hj, rfl⟩ := List.getElem_of_mem ht
    exact (h j hj).1
theorem e_spec_NetOk_l0 (K : Int) (E : List STie) (hK : 0 ≤ K ∧ K ≤ 8) (hE : E.length ≤ 64) (d : Nat) : ∀ i, i + d = E.length → Ev (fun k => spec_NetOk.l0 k (i : Int) K E) (dec (∀ j (h : j < E.length), i ≤ j → At K E j h)) := by
  induction d with
  | zero =>
    intro i hi
    refine Ev.succ ?_
    simp only [spec_NetOk.l0]
    refine Ev.no (by omega) ?_
    rw [dec_true (fun j h hij => by omega)]
    exact Ev.pure _
  | succ d ih =>
    intro i hi
    have hlt : i < E.length := by omega
    have hih := ih (i + 1) (by omega)
    refine Ev.succ ?_
    simp only [spec_NetOk.l0]
    refine Ev.yes (by omega) (Ev.yes (by omega) ?_)
    rw [rdT hlt, w64s (by omega)]
    refine Ev.bind (Ev.const (e_spec_l6In _ _ _)) ?_
    by_cases h1 : 0 ≤ E[i].f0 ∧ E[i].f0 ≤ wrap64 (K - 1)
    · have hw : wrap64 (K - 1) = K - 1 := w64 (by omega) (by omega)
      refine Ev.yes (dec_true h1) ?_
      rw [hw] at h1 ⊢
      rw [w64 (x := E[i].f0 + 1) (by omega) (by omega)]
      refine Ev.bind (Ev.const (e_spec_l6In _ _ _)) ?_
      by_cases h2 : E[i].f0 + 1 ≤ E[i].f1 ∧ E[i].f1 ≤ K - 1
      · refine Ev.yes (dec_true h2) ?_
        have hb : 0 ≤ E[i].f0 ∧ E[i].f0 < E[i].f1 ∧ E[i].f1 < K := by omega
        by_cases h3 : 0 < i
        · refine Ev.yes (by omega) ?_
          rw [w64p h3 (by omega)]
          refine Ev.yes (by omega) (Ev.yes (by omega) ?_)
          rw [rdT (show i - 1 < E.length by omega)]
          refine Ev.bind (Ev.const (e_spec_l1Less _ _)) ?_
          by_cases h4 : tlt E[i - 1] E[i]
          · refine Ev.yes (dec_true h4) (hih.value (dec_congr ⟨fun h j hj hij => ?_, fun h j hj hij => h j hj (by omega)⟩))
            rcases Nat.eq_or_lt_of_le hij with rfl | h5
            · exact ⟨hb, fun _ => h4⟩
            · exact h j hj h5
          · refine Ev.no (by rw [dec_false h4]; simp) ?_
            rw [dec_false (fun h => h4 ((h i hlt (Nat.le_refl _)).2 h3))]
            exact Ev.pure _
        · refine Ev.no (by omega) (hih.value (dec_congr ⟨fun h j hj hij => ?_, fun h j hj hij => h j hj (by omega)⟩))
          rcases Nat.eq_or_lt_of_le hij with rfl | h5
          · exact ⟨hb, fun h0 => absurd h0 h3⟩
          · exact h j hj h5
      · refine Ev.no (by rw [dec_false h2]; simp) ?_
        rw [dec_false (fun h => h2 (by have := (h i hlt (Nat.le_refl _)).1; omega))]
        exact Ev.pure _
    · refine Ev.no (by rw [dec_false h1]; simp) ?_
      have hw : wrap64 (K - 1) = K - 1 := w64 (by omega) (by omega)
      rw [hw] at h1
      rw [dec_false (fun h => h1 (by have := (h i hlt (Nat.le_refl _)).1; omega))]
      exact Ev.pure _
theorem e_spec_NetOk (K : Int) (E : List STie) : Ev (fun k => spec_NetOk.f k K E) (dec (Ok K E)) := by
  simp only [spec_NetOk.f]
  refine Ev.bind (Ev.const (e_spec_l6In _ _ _)) ?_
  by_cases hK : 0 ≤ K ∧ K ≤ 8
  · refine Ev.yes (dec_true hK) ?_
    refine Ev.succ ?_
    simp only [spec_NetOk.j0]
    by_cases hl : E.length ≤ 64
    · refine Ev.no (by simp; omega) ((e_spec_NetOk_l0 K E hK hl E.length 0 (by omega)).value (dec_congr ?_))
      rw [ok_iff]
      exact ⟨fun h => ⟨hK, fun j hj => h j hj (Nat.zero_le _)⟩, fun h j hj _ => h.2 j hj⟩
    · refine Ev.yes (by simp; omega) ?_
      rw [dec_false (fun h => hl h.len)]
      exact Ev.pure _
  · refine Ev.no (by rw [dec_false hK]; simp) ?_
    refine Ev.succ ?_
    simp only [spec_NetOk.j0]
    refine Ev.yes (by simp) ?_
    rw [dec_false (fun h => hK ⟨h.k0, h.k8⟩)]
    exact Ev.pure _
theorem e_impl_ascending_l0 (E : List STie) (hE : E.length < 4611686018427387904) (d : Nat) : ∀ i, i + d = E.length → 0 < i → Ev (fun k => impl_ascending.l0 k E (i : Int)) (dec (∀ j (h : j < E.length), i ≤ j → tlt E[j - 1] E[j])) := by
  induction d with
  | zero =>
    intro i hi h0
    refine Ev.succ ?_
    simp only [impl_ascending.l0]
    refine Ev.no (by omega) ?_
    rw [dec_true (fun j h hij => by omega)]
    exact Ev.pure _
  | succ d ih =>
    intro i hi h0
    have hlt : i < E.length := by omega
    have hih := ih (i + 1) (by omega) (by omega)
    refine Ev.succ ?_
    simp only [impl_ascending.l0]
    rw [w64p h0 (by omega), w64s (by omega)]
    refine Ev.yes (by omega) (Ev.yes (by omega) (Ev.yes (by omega) (Ev.yes (by omega) ?_)))
    rw [rdT hlt, rdT (show i - 1 < E.length by omega)]
    refine Ev.bind (e_impl_tieOrder _ _) ?_
    by_cases h4 : tlt E[i - 1] E[i]
    · have := (ord_neg E[i - 1] E[i]).2 h4
      refine Ev.no (by omega) (hih.value (dec_congr ⟨fun h j hj hij => ?_, fun h j hj hij => h j hj (by omega)⟩))
      rcases Nat.eq_or_lt_of_le hij with rfl | h5
      · exact h4
      · exact h j hj h5
    · have : ¬ ord E[i - 1] E[i] < 0 := fun h => h4 ((ord_neg E[i - 1] E[i]).1 h)
      refine Ev.yes (by omega) ?_
      rw [dec_false (fun h => h4 (h i hlt (Nat.le_refl _)))]
      exact Ev.pure _
theorem e_impl_ascending (E : List STie) (hE : E.length < 4611686018427387904) : Ev (fun k => impl_ascending.f k E) (dec (Asc E)) := by
  simp only [impl_ascending.f]
  by_cases h : E.length = 0
  · refine Ev.succ ?_
    simp only [impl_ascending.l0]
    refine Ev.no (by omega) ?_
    rw [dec_true ((asc_iff E).2 (fun j hj _ => by omega))]
    exact Ev.pure _
  · refine (e_impl_ascending_l0 E hE (E.length - 1) 1 (by omega) (by omega)).value (dec_congr ?_)
    rw [asc_iff]
    exact Iff.rfl
theorem e_impl_NetOk_l0 (K : Int) (E : List STie) (hK : 0 ≤ K ∧ K ≤ 8) (hE : E.length < 4611686018427387904) (d : Nat) : ∀ i, i + d = E.length → Ev (fun k => impl_NetOk.l0 k E (E.length : Int) (i : Int) K E) (dec ((∀ j (h : j < E.length), i ≤ j → 0 ≤ E[j].f0 ∧ E[j].f0 < E[j].f1 ∧ E[j].f1 < K) ∧ Asc E)) := by
  induction d with
  | zero =>
    intro i hi
    refine Ev.succ ?_
    simp only [impl_NetOk.l0]
    refine Ev.no (by omega) (Ev.bind (e_impl_ascending E hE) ((Ev.pure _).value (dec_congr ⟨fun h => ⟨fun j hj hij => by omega, h⟩, fun h => h.2⟩)))
  | succ d ih =>
    intro i hi
    have hlt : i < E.length := by omega
    have hih := ih (i + 1) (by omega)
    refine Ev.succ ?_
    simp only [impl_NetOk.l0]
    refine Ev.yes (by omega) (Ev.yes (by omega) (Ev.yes (by omega) ?_))
    rw [rdT hlt, w64s (by omega)]
    by_cases h1 : E[i].f0 < 0
    · refine Ev.yes h1 ?_
      rw [dec_false (fun h => by have := h.1 i hlt (Nat.le_refl _); omega)]
      exact Ev.pure _
    · refine Ev.no h1 ?_
      by_cases h2 : E[i].f0 ≥ E[i].f1
      · refine Ev.yes h2 ?_
        rw [dec_false (fun h => by have := h.1 i hlt (Nat.le_refl _); omega)]
        exact Ev.pure _
      · refine Ev.no h2 ?_
        by_cases h3 : E[i].f1 ≥ K
        · refine Ev.yes h3 ?_
          rw [dec_false (fun h => by have := h.1 i hlt (Nat.le_refl _); omega)]
          exact Ev.pure _
        · refine Ev.no h3 (hih.value (dec_congr ⟨fun h => ⟨fun j hj hij => ?_, h.2⟩, fun h => ⟨fun j hj hij => h.1 j hj (by omega), h.2⟩⟩))
          rcases Nat.eq_or_lt_of_le hij with rfl | h5
          · omega
          · exact h.1 j hj h5
theorem e_impl_NetOk (K : Int) (E : List STie) (hE : E.length < 4611686018427387904) : Ev (fun k => impl_NetOk.f k K E) (dec (Ok K E)) := by
  simp only [impl_NetOk.f]
  by_cases h1 : K < 0
  · refine Ev.yes h1 (Ev.succ ?_)
    simp only [impl_NetOk.j0]
    refine Ev.yes (by simp) ?_
    rw [dec_false (fun h => by have := h.k0; omega)]
    exact Ev.pure _
  · refine Ev.no h1 (Ev.succ ?_)
    simp only [impl_NetOk.j0]
    by_cases h2 : K > 8
    · refine Ev.yes (by simpa using h2) ?_
      rw [dec_false (fun h => by have := h.k8; omega)]
      exact Ev.pure _
    · refine Ev.no (by simpa using h2) ((e_impl_NetOk_l0 K E (by omega) hE E.length 0 (by omega)).value (dec_congr ⟨fun h => ⟨by omega, by omega, fun t ht => ?_, h.2⟩, fun h => ⟨fun j hj _ => h.tie _ (List.getElem_mem hj), h.asc⟩⟩))
      obtain ⟨j, hj, rfl⟩ := List.getElem_of_mem ht
      exact h.1 j hj (Nat.zero_le _)
end Go.Proofs.YtloonheabfdgbaaDoor.E
end
section
namespace Go.Proofs.YtloonheabfdgbaaDoor.E
open Go.RowKit Go.Proofs.YtloonheabfdgbaaDoorW.PrintWords Go.Proofs.YtloonheabfdgbaaDoorW.PrintMore Go.Proofs.YtloonheabfdgbaaDoor.P Osier
set_option linter.unusedVariables false
def fig (a : Int) : ByteArray := strOfNums [48 + a]
theorem fig_size (a : Int) : (fig a).size = 1 := rfl
theorem e_strconv_Itoa {a : Int} (h : 0 ≤ a ∧ a < 10) : strconv_Itoa_31.f a = some (fig a) := by
  unfold strconv_Itoa_31.f
  rw [if_pos h.1, if_pos h.2]; rfl
theorem e_spec_l6Dec {a : Int} (h : 0 ≤ a ∧ a < 10) : Ev (fun k => spec_l6Dec.f k a) (fig a) := by
  refine Ev.succ ?_
  simp only [spec_l6Dec.f]
  refine Ev.no (by omega) (Ev.no (by omega) (Ev.yes h.2 ((Ev.pure _).value ?_)))
  have e : (wrap64 (48 + a)) % 256 = 48 + a := by rw [w64 (by omega) (by omega)]; omega
  rw [e]; rfl
def lineT (t : STie) : ByteArray := (((((⟨#[116, 105, 101, 32]⟩ : ByteArray) ++ fig t.f0) ++ (⟨#[32]⟩ : ByteArray)) ++ fig t.f1) ++ (⟨#[10]⟩ : ByteArray))
def lines (x : ByteArray) : List STie → ByteArray
  | [] => x
  | t :: l => lines (x ++ lineT t) l
def headK (K : Int) : ByteArray := (((⟨#[107, 110, 111, 116, 115, 32]⟩ : ByteArray) ++ fig K) ++ (⟨#[10]⟩ : ByteArray))
noncomputable def textV (K : Int) (E : List STie) : ByteArray := if dec (Ok K E) = true then lines (headK K) E else ⟨#[]⟩
theorem line_size (t : STie) : (lineT t).size = 8 := by
  unfold lineT
  simp only [ByteArray.size_append, fig_size]
  rfl
theorem head_size (K : Int) : (headK K).size = 8 := by
  unfold headK
  simp only [ByteArray.size_append, fig_size]
  rfl
theorem line_add (x : ByteArray) (t : STie) : (((((x ++ (⟨#[116, 105, 101, 32]⟩ : ByteArray)) ++ fig t.f0) ++ (⟨#[32]⟩ : ByteArray)) ++ fig t.f1) ++ (⟨#[10]⟩ : ByteArray)) = x ++ lineT t := by
  unfold lineT
  simp only [ByteArray.append_assoc]
theorem e_spec_NetWrite_l0 {K : Int} {E : List STie} (hE : Ok K E) (d : Nat) : ∀ (i : Nat) (x : ByteArray), i + d = E.length → x.size + 8 * d ≤ 100000 → Ev (fun k => spec_NetWrite.l0 k x (i : Int) K E) (lines x (E.drop i)) := by
  have hl := hE.len
  have h8 := hE.k8
  induction d with
  | zero =>
    intro i x hi hx
    refine Ev.succ ?_
    simp only [spec_NetWrite.l0]
    rw [List.drop_eq_nil_of_le (by omega)]
    exact Ev.no (by omega) (Ev.pure _)
  | succ d ih =>
    intro i x hi hx
    have hlt : i < E.length := by omega
    have hT := hE.tie _ (List.getElem_mem hlt)
    have hz := line_size E[i]
    have h2 := ih (i + 1) (x ++ lineT E[i]) (by omega) (by rw [ByteArray.size_append, hz]; omega)
    rw [← line_add] at h2
    refine Ev.succ ?_
    simp only [spec_NetWrite.l0]
    rw [rdT hlt, w64s (by omega), drop_cons _ hlt]
    simp only [ByteArray.size_append]
    exact Ev.yes (by omega) (Ev.yes (by omega) (Ev.yes (by omega) (Ev.bind (e_spec_l6Dec ⟨by omega, by omega⟩) (Ev.yes (by rw [fig_size]; show x.size + 4 + 1 ≤ _; omega) (Ev.yes (by rw [fig_size]; show x.size + 4 + 1 + 1 ≤ _; omega) (Ev.bind (e_spec_l6Dec ⟨by omega, by omega⟩) (Ev.yes (by simp only [fig_size]; show x.size + 4 + 1 + 1 + 1 ≤ _; omega) (Ev.yes (by simp only [fig_size]; show x.size + 4 + 1 + 1 + 1 + 1 ≤ _; omega) (h2.value (by rw [line_add]; rfl))))))))))
theorem e_impl_NetWrite_l0 {K : Int} {E : List STie} (hE : Ok K E) (d : Nat) : ∀ (i : Nat) (x : ByteArray), i + d = E.length → x.size + 8 * d ≤ 100000 → Ev (fun k => impl_NetWrite.l0 k x E (E.length : Int) (i : Int)) (lines x (E.drop i)) := by
  have hl := hE.len
  have h8 := hE.k8
  induction d with
  | zero =>
    intro i x hi hx
    refine Ev.succ ?_
    simp only [impl_NetWrite.l0]
    rw [List.drop_eq_nil_of_le (by omega)]
    exact Ev.no (by omega) (Ev.pure _)
  | succ d ih =>
    intro i x hi hx
    have hlt : i < E.length := by omega
    have hT := hE.tie _ (List.getElem_mem hlt)
    have hz := line_size E[i]
    have h2 := ih (i + 1) (x ++ lineT E[i]) (by omega) (by rw [ByteArray.size_append, hz]; omega)
    have hz' : x.size + (lineT E[i]).size ≤ 9223372036854775807 := by rw [hz]; omega
    refine Ev.succ ?_
    simp only [impl_NetWrite.l0]
    rw [rdT hlt, w64s (by omega), drop_cons _ hlt]
    exact Ev.yes (by omega) (Ev.yes (by omega) (Ev.yes (by omega) (Ev.bind (Ev.const (e_strconv_Itoa ⟨by omega, by omega⟩)) (Ev.yes (by rw [fig_size]; decide) (Ev.yes (by rw [ByteArray.size_append, fig_size]; decide) (Ev.bind (Ev.const (e_strconv_Itoa ⟨by omega, by omega⟩)) (Ev.yes (by simp only [ByteArray.size_append, fig_size]; decide) (Ev.yes (by simp only [ByteArray.size_append, fig_size]; decide) (Ev.yes hz' h2)))))))))
theorem e_spec_NetWrite (K : Int) (E : List STie) : Ev (fun k => spec_NetWrite.f k K E) (textV K E) := by
  simp only [spec_NetWrite.f]
  refine Ev.bind (e_spec_NetOk K E) ?_
  unfold textV
  by_cases h : Ok K E
  · have hl := h.len
    have h0 := h.k0
    have h8 := h.k8
    rw [if_pos (dec_true h)]
    exact Ev.yes (dec_true h) (Ev.bind (e_spec_l6Dec ⟨by omega, by omega⟩) (Ev.yes (by rw [fig_size]; decide) (Ev.yes (by rw [ByteArray.size_append, fig_size]; decide) (e_spec_NetWrite_l0 h E.length 0 (headK K) (by omega) (by rw [head_size]; omega)))))
  · rw [if_neg (by rw [dec_false h]; simp)]
    exact Ev.no (by rw [dec_false h]; simp) (Ev.pure _)
theorem e_impl_NetWrite (K : Int) (E : List STie) (hE : E.length < 4611686018427387904) : Ev (fun k => impl_NetWrite.f k K E) (textV K E) := by
  simp only [impl_NetWrite.f]
  refine Ev.bind (e_impl_NetOk K E hE) ?_
  unfold textV
  by_cases h : Ok K E
  · have hl := h.len
    have h0 := h.k0
    have h8 := h.k8
    rw [if_pos (dec_true h)]
    exact Ev.yes (dec_true h) (Ev.bind (Ev.const (e_strconv_Itoa ⟨by omega, by omega⟩)) (Ev.yes (by rw [fig_size]; decide) (Ev.yes (by rw [ByteArray.size_append, fig_size]; decide) (e_impl_NetWrite_l0 h E.length 0 (headK K) (by omega) (by rw [head_size]; omega)))))
  · rw [if_neg (by rw [dec_false h]; simp)]
    exact Ev.no (by rw [dec_false h]; simp) (Ev.pure _)
end Go.Proofs.YtloonheabfdgbaaDoor.E
end
section
namespace Go.Proofs.YtloonheabfdgbaaDoor.E
open Go.RowKit Go.Proofs.YtloonheabfdgbaaDoorW.PrintWords Go.Proofs.YtloonheabfdgbaaDoorW.PrintMore Go.Proofs.YtloonheabfdgbaaDoor.P Osier
set_option linter.unusedVariables false
theorem rdL {xs : List SLTie} {n : Nat} (h : n < xs.length) : rd_TLTie xs (n : Int) = xs[n] := by
  unfold rd_TLTie
  rw [Int.toNat_natCast, List.getD_eq_getElem?_getD, List.getElem?_eq_getElem h]; rfl
theorem set_take {α : Type} (xs : List α) {i : Nat} (h : i < xs.length) (v : α) : (xs.set i v).take (i + 1) = xs.take i ++ [v] := by
  rw [take_snoc _ (by simpa using h), List.take_set_of_le (Nat.le_refl _), List.getElem_set_self]
theorem take_all {α : Type} {xs ys : List α} (hl : xs.length = ys.length) (h : xs.take ys.length = ys.take ys.length) : xs = ys := by
  rw [List.take_of_length_le (by omega), List.take_of_length_le (Nat.le_refl _)] at h
  exact h
theorem e_laws_szNet (K : Int) (l : List SLTie) (h : l.length ≤ maxLen) : laws_szNet.f K l 1048576 = some (if l.length ≤ 1048576 then 1048576 - (l.length : Int) else -1) := by
  rw [maxLen_val] at h
  have hw : wrap64 (1048576 - (l.length : Int)) = 1048576 - (l.length : Int) := w64 (by omega) (by omega)
  unfold laws_szNet.f laws_szTieS.f
  rw [hw]
  by_cases hl : l.length ≤ 1048576
  · rw [if_neg (by omega), if_pos hl, Option.bind_some, if_neg (by omega)]
  · rw [if_pos (by omega), if_neg hl, Option.bind_some, if_pos (by omega)]
theorem e_laws_toTieS_l0 (l : List SLTie) (hl : l.length < 4611686018427387904) (d : Nat) : ∀ (i : Nat) (xs : List STie), i + d = l.length → xs.length = l.length → xs.take i = l.take i → Ev (fun k => laws_toTieS.l0 k l xs (i : Int)) l := by
  induction d with
  | zero =>
    intro i xs hi hx ht
    refine Ev.succ ?_
    simp only [laws_toTieS.l0]
    refine Ev.no (by omega) ?_
    obtain rfl : i = l.length := by omega
    rw [take_all hx ht]
    exact Ev.pure _
  | succ d ih =>
    intro i xs hi hx ht
    refine Ev.succ ?_
    simp only [laws_toTieS.l0, laws_toTie.f]
    refine Ev.yes (by omega) (Ev.yes (by omega) (Ev.bind (Ev.pure _) (Ev.yes (by omega) ?_)))
    rw [rdL (show i < l.length by omega), w64s (by omega), Int.toNat_natCast]
    refine ih (i + 1) _ (by omega) (by simpa using hx) ?_
    rw [set_take _ (by omega), take_snoc l (by omega), ht]
theorem e_laws_toTieS (l : List SLTie) (hl : l.length ≤ 1048576) : Ev (fun k => laws_toTieS.f k l) l := by
  simp only [laws_toTieS.f]
  refine Ev.yes (by omega) (Ev.yes (by simp; omega) ?_)
  exact e_laws_toTieS_l0 l (by omega) l.length 0 _ (by omega) (by simp) (by simp)
theorem e_laws_toNet (K : Int) (l : List SLTie) (hl : l.length ≤ 1048576) : Ev (fun k => laws_toNet.f k K l) (K, l) := by
  simp only [laws_toNet.f]
  exact Ev.bind (e_laws_toTieS l hl) (Ev.pure _)
theorem e_laws_eqTie (s t : STie) : laws_eqTie.f s.f0 s.f1 t.f0 t.f1 = some (dec (s = t)) := by
  unfold laws_eqTie.f
  by_cases h0 : s.f0 = t.f0
  · rw [if_pos h0]
    by_cases h1 : s.f1 = t.f1
    · rw [if_pos h1, dec_true (Tie.ext' h0 h1)]
    · rw [if_neg h1, dec_false (fun e => h1 (by rw [e]))]
  · rw [if_neg h0, dec_false (fun e => h0 (by rw [e]))]
theorem list_eq_iff {α : Type} {a b : List α} (hl : a.length = b.length) : a = b ↔ ∀ j (h : j < a.length), a[j] = b[j]'(hl ▸ h) := by
  constructor
  · rintro rfl j h; rfl
  · intro h
    exact List.ext_getElem hl (fun j h1 h2 => h j h1)
theorem e_laws_eqTieS_l0 (a b : List STie) (hl : a.length = b.length) (ha : a.length < 4611686018427387904) (d : Nat) : ∀ i, i + d = a.length → Ev (fun k => laws_eqTieS.l0 k a b (i : Int)) (dec (∀ j (h : j < a.length), i ≤ j → a[j] = b[j])) := by
  induction d with
  | zero =>
    intro i hi
    refine Ev.succ ?_
    simp only [laws_eqTieS.l0]
    refine Ev.no (by omega) ?_
    rw [dec_true (fun j h hij => by omega)]
    exact Ev.pure _
  | succ d ih =>
    intro i hi
    have hlt : i < a.length := by omega
    refine Ev.succ ?_
    simp only [laws_eqTieS.l0]
    refine Ev.yes (by omega) (Ev.yes (by omega) (Ev.yes (by omega) ?_))
    rw [rdT hlt, rdT (show i < b.length by omega), w64s (by omega)]
    refine Ev.bind (Ev.const (e_laws_eqTie _ _)) ?_
    by_cases h : a[i] = b[i]
    · refine Ev.yes (dec_true h) ((ih (i + 1) (by omega)).value (dec_congr ⟨fun h' j hj hij => ?_, fun h' j hj hij => h' j hj (by omega)⟩))
      rcases Nat.eq_or_lt_of_le hij with rfl | h5
      · exact h
      · exact h' j hj h5
    · refine Ev.no (by rw [dec_false h]; simp) ?_
      rw [dec_false (fun h' => h (h' i hlt (Nat.le_refl _)))]
      exact Ev.pure _
theorem e_laws_eqTieS (a b : List STie) (ha : a.length < 4611686018427387904) : Ev (fun k => laws_eqTieS.f k a b) (dec (a = b)) := by
  simp only [laws_eqTieS.f]
  by_cases hl : a.length = b.length
  · refine Ev.yes (by omega) ((e_laws_eqTieS_l0 a b hl ha a.length 0 (by omega)).value (dec_congr ?_))
    rw [list_eq_iff hl]
    exact ⟨fun h j hj => h j hj (Nat.zero_le _), fun h j hj _ => h j hj⟩
  · refine Ev.no (by omega) ?_
    rw [dec_false (fun e => hl (by rw [e]))]
    exact Ev.pure _
theorem e_laws_eqNet (K L : Int) (a b : List STie) (ha : a.length < 4611686018427387904) : Ev (fun k => laws_eqNet.f k K a L b) (dec (K = L ∧ a = b)) := by
  simp only [laws_eqNet.f]
  by_cases hK : K = L
  · refine Ev.yes hK (Ev.bind (e_laws_eqTieS a b ha) ?_)
    by_cases h : a = b
    · refine Ev.yes (dec_true h) ?_
      rw [dec_true ⟨hK, h⟩]; exact Ev.pure _
    · refine Ev.no (by rw [dec_false h]; simp) ?_
      rw [dec_false (fun e => h e.2)]; exact Ev.pure _
  · refine Ev.no hK ?_
    rw [dec_false (fun e => hK e.1)]; exact Ev.pure _
end Go.Proofs.YtloonheabfdgbaaDoor.E
end
section
namespace Go.Proofs.YtloonheabfdgbaaDoor.E
open Go.RowKit Go.Proofs.YtloonheabfdgbaaDoor.P Osier
set_option linter.unusedVariables false
theorem FnExactNetWrite (K : Int) (hK : (Lit.int .i64 K).wf = true) (l : List SLTie) (hl : l.length ≤ maxLen) : ∃ k, laws_FnExactNetWrite.f k K l = some true := by
  refine Ev.get ?_
  simp only [laws_FnExactNetWrite.f]
  refine Ev.bind (Ev.const (e_laws_szNet K l hl)) ?_
  by_cases h : l.length ≤ 1048576
  · rw [if_pos h]
    refine Ev.no (by omega) (Ev.bind (e_laws_toNet K l h) (Ev.bind (e_spec_NetWrite K l) (Ev.bind (e_laws_toNet K l h) (Ev.bind (e_impl_NetWrite K l (by omega)) (Ev.yes rfl (Ev.bind (e_laws_toNet K l h) (Ev.bind (e_laws_eqNet K K l l (by omega)) ?_)))))))
    exact Ev.yes (dec_true ⟨rfl, rfl⟩) (Ev.pure _)
  · rw [if_neg h]
    exact Ev.yes (by omega) (Ev.pure _)
end Go.Proofs.YtloonheabfdgbaaDoor.E
end
