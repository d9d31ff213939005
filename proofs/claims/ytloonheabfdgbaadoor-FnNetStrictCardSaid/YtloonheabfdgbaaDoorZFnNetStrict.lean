/- FnNetStrict: the pure statement, and what it leans on: graphs, and how the printed functions are reckoned. -/
import Derived.Test.YtloonheabfdgbaaDoorF
section
namespace Go.Proofs.YtloonheabfdgbaaDoor.E
open Go.RowKit Go.Proofs.YtloonheabfdgbaaDoorW.PrintWords Go.Proofs.YtloonheabfdgbaaDoorW.PrintMore Go.Proofs.YtloonheabfdgbaaDoor.P Osier
set_option linter.unusedVariables false
def Ev {α : Type} (g : Nat → Option α) (v : α) : Prop := ∃ N, ∀ k, N ≤ k → g k = some v
theorem Ev.pure {α : Type} (v : α) : Ev (fun _ => some v) v := ⟨0, fun _ _ => rfl⟩
theorem Ev.const {α : Type} {o : Option α} {v : α} (h : o = some v) : Ev (fun _ => o) v := ⟨0, fun _ _ => h⟩
theorem Ev.bind {α β : Type} {g : Nat → Option α} {a : α} {h : α → Nat → Option β} {v : β} (hg : Ev g a) (hh : Ev (h a) v) : Ev (fun k => (g k).bind (fun x => h x k)) v := by
  obtain ⟨N, hN⟩ := hg
  obtain ⟨M, hM⟩ := hh
  exact ⟨max N M, fun k hk => by show (g k).bind _ = _; rw [hN k (by omega)]; exact hM k (by omega)⟩
theorem Ev.succ {α : Type} {G : Nat → Option α} {v : α} (h : Ev (fun k => G (k + 1)) v) : Ev G v := by
  obtain ⟨N, hN⟩ := h
  refine ⟨N + 1, fun k hk => ?_⟩
  obtain ⟨m, rfl⟩ : ∃ m, k = m + 1 := ⟨k - 1, by omega⟩
  exact hN m (by omega)
theorem Ev.yes {α : Type} {c : Prop} [Decidable c] {g h : Nat → Option α} {v : α} (hc : c) (hg : Ev g v) : Ev (fun k => if c then g k else h k) v := by
  simpa only [if_pos hc] using hg
theorem Ev.no {α : Type} {c : Prop} [Decidable c] {g h : Nat → Option α} {v : α} (hc : ¬ c) (hg : Ev h v) : Ev (fun k => if c then g k else h k) v := by
  simpa only [if_neg hc] using hg
theorem Ev.get {α : Type} {g : Nat → Option α} {v : α} (h : Ev g v) : ∃ k, g k = some v := by
  obtain ⟨N, hN⟩ := h
  exact ⟨N, hN N (Nat.le_refl _)⟩
theorem Ev.value {α : Type} {g : Nat → Option α} {v w : α} (h : Ev g v) (e : v = w) : Ev g w := e ▸ h
noncomputable def dec (p : Prop) : Bool := @decide p (Classical.propDecidable p)
theorem dec_true {p : Prop} (h : p) : dec p = true := by unfold dec; simpa using h
theorem dec_false {p : Prop} (h : ¬ p) : dec p = false := by unfold dec; simpa using h
theorem dec_iff {p : Prop} : dec p = true ↔ p := by unfold dec; simp
theorem dec_congr {p q : Prop} (h : p ↔ q) : dec p = dec q := by rw [propext h]
theorem dec_decide {p : Prop} [Decidable p] : decide p = dec p := by unfold dec; congr
theorem w64 {x : Int} (h0 : -9223372036854775808 ≤ x) (h1 : x < 9223372036854775808) : wrap64 x = x := by unfold wrap64; omega
theorem w64s {n : Nat} (h : n < 4611686018427387904) : wrap64 ((n : Int) + 1) = ((n + 1 : Nat) : Int) := by rw [w64 (by omega) (by omega)]; omega
theorem w64p {n : Nat} (h0 : 0 < n) (h : n < 4611686018427387904) : wrap64 ((n : Int) - 1) = ((n - 1 : Nat) : Int) := by rw [w64 (by omega) (by omega)]; omega
theorem rdT {xs : List STie} {n : Nat} (h : n < xs.length) : rd_TTie xs (n : Int) = xs[n] := by
  unfold rd_TTie
  rw [Int.toNat_natCast, List.getD_eq_getElem?_getD, List.getElem?_eq_getElem h]; rfl
theorem rdI {xs : List Int} {n : Nat} (h : n < xs.length) : rd xs (n : Int) = xs[n] := by
  unfold rd
  rw [Int.toNat_natCast, List.getD_eq_getElem?_getD, List.getElem?_eq_getElem h]; rfl
theorem drop_cons {α : Type} (l : List α) {n : Nat} (h : n < l.length) : l.drop n = l[n] :: l.drop (n + 1) := List.drop_eq_getElem_cons h
theorem e_cmp_Compare (a b : Int) : cmp_Compare_int.f a b = some (if a < b then -1 else if a > b then 1 else 0) := by
  unfold cmp_Compare_int.f cmp_isNaN_int.f
  simp only [bne_self_eq_false, Option.bind_some, Bool.false_eq_true, if_false]
  split
  · rfl
  · split <;> rfl
theorem e_cmp_Or (a b : Int) : Ev (fun k => cmp_Or_int.f k [a, b]) (if a = 0 then b else a) := by
  simp only [cmp_Or_int.f]
  refine Ev.succ ?_
  simp only [cmp_Or_int.l0]
  refine Ev.yes (by simp) (Ev.yes (by omega) (Ev.yes (by simp) ?_))
  have e0 : rd [a, b] 0 = a := rfl
  have e1 : rd [a, b] 1 = b := rfl
  rw [e0]
  by_cases ha : a = 0
  · refine Ev.yes ha ?_
    rw [w64 (by omega) (by omega)]
    refine Ev.succ ?_
    simp only [cmp_Or_int.l0]
    refine Ev.yes (by simp) (Ev.yes (by omega) (Ev.yes (by simp) ?_))
    have h01 : (0 : Int) + 1 = 1 := rfl
    rw [h01, e1, if_pos ha]
    by_cases hb : b = 0
    · refine Ev.yes hb ?_
      refine Ev.succ ?_
      simp only [cmp_Or_int.l0]
      refine Ev.no (by rw [w64 (by omega) (by omega)]; simp) ?_
      rw [hb]; exact Ev.pure _
    · exact Ev.no hb (Ev.pure _)
  · refine Ev.no ha ?_
    rw [if_neg ha]; exact Ev.pure _
def ord (s t : STie) : Int := if s.f0 < t.f0 then -1 else if s.f0 > t.f0 then 1 else if s.f1 < t.f1 then -1 else if s.f1 > t.f1 then 1 else 0
theorem ord_neg (s t : STie) : ord s t < 0 ↔ tlt s t := by
  unfold ord tlt
  split
  · simp; omega
  · split
    · simp; omega
    · split
      · simp; omega
      · split <;> simp <;> omega
theorem e_impl_tieOrder (s t : STie) : Ev (fun k => impl_tieOrder.f k s.f0 s.f1 t.f0 t.f1) (ord s t) := by
  simp only [impl_tieOrder.f]
  refine Ev.bind (Ev.const (e_cmp_Compare _ _)) (Ev.bind (Ev.const (e_cmp_Compare _ _)) (Ev.bind (e_cmp_Or _ _) ((Ev.pure _).value ?_)))
  unfold ord
  by_cases h1 : s.f0 < t.f0
  · simp [h1]
  · by_cases h2 : s.f0 > t.f0
    · simp [h1, h2]
    · simp [h1, h2]
end Go.Proofs.YtloonheabfdgbaaDoor.E
end
section
namespace Osier
set_option linter.unusedVariables false
def Asc (E : List Tie) : Prop := E.Pairwise tlt
structure Ok (K : Int) (E : List Tie) : Prop where
  k0 : 0 ≤ K
  k8 : K ≤ 8
  tie : ∀ t ∈ E, 0 ≤ t.f0 ∧ t.f0 < t.f1 ∧ t.f1 < K
  asc : Asc E
theorem asc_len (l : List Int) (hl : l.Pairwise (· < ·)) : ∀ (lo hi : Int), lo ≤ hi → (∀ x ∈ l, lo ≤ x ∧ x < hi) → (l.length : Int) ≤ hi - lo := by
  induction l with
  | nil => intro lo hi h _; simp; omega
  | cons x l ih =>
    intro lo hi h hm
    have hp := List.pairwise_cons.1 hl
    have hx := hm x (by simp)
    have := ih hp.2 (x + 1) hi (by omega) (fun y hy => ⟨by have := hp.1 y hy; omega, (hm y (by simp [hy])).2⟩)
    simp only [List.length_cons]
    omega
theorem Ok.len {K : Int} {E : List Tie} (h : Ok K E) : E.length ≤ 64 := by
  have h1 : (E.map fun t => t.f0 * 8 + t.f1).Pairwise (· < ·) := by
    rw [List.pairwise_map]
    refine List.Pairwise.imp_of_mem ?_ h.asc
    intro a b ha hb hab
    have := h.tie a ha
    have := h.tie b hb
    have := h.k8
    unfold tlt at hab
    omega
  have := asc_len _ h1 0 64 (by omega) (by
    intro x hx
    obtain ⟨t, ht, rfl⟩ := List.mem_map.1 hx
    have := h.tie t ht
    have := h.k8
    omega)
  simp at this
  omega
def mkT (a b : Int) : Tie := if a < b then ⟨a, b⟩ else ⟨b, a⟩
end Osier
/- Plain facts on spanning forests and bridges. No program in sight. -/
namespace Osier
set_option linter.unusedVariables false
end Osier
/- Plain facts on ways: order, enumeration, shortest ways, distances. No program in sight. -/
namespace Osier
set_option linter.unusedVariables false
end Osier
/- Plain facts on the list of all ways. No program in sight. -/
namespace Osier
set_option linter.unusedVariables false
end Osier
end
section
namespace Go.Proofs.YtloonheabfdgbaaDoor.E
open Go.RowKit Go.Proofs.YtloonheabfdgbaaDoorW.PrintWords Go.Proofs.YtloonheabfdgbaaDoorW.PrintMore Go.Proofs.YtloonheabfdgbaaDoor.P Osier
set_option linter.unusedVariables false
theorem e_spec_l6In (a b c : Int) : spec_l6In.f a b c = some (dec (b ≤ a ∧ a ≤ c)) := by
  unfold spec_l6In.f
  by_cases h : a ≥ b
  · rw [if_pos h, dec_decide]
    exact congrArg some (dec_congr ⟨fun h' => ⟨h, h'⟩, fun h' => h'.2⟩)
  · rw [if_neg h, dec_false (by omega)]
theorem e_spec_l1Less (s t : STie) : spec_l1Less.f s.f0 s.f1 t.f0 t.f1 = some (dec (tlt s t)) := by
  unfold spec_l1Less.f
  by_cases h : s.f0 < t.f0
  · rw [if_pos h, dec_true (.inl h)]
  · rw [if_neg h]
    by_cases h' : s.f0 = t.f0
    · rw [if_pos h', dec_decide]
      exact congrArg some (dec_congr ⟨fun k => .inr ⟨h', k⟩, fun k => k.elim (fun k => absurd k h) (fun k => k.2)⟩)
    · rw [if_neg h', dec_false (fun k => k.elim h (fun k => h' k.1))]
def At (K : Int) (E : List STie) (j : Nat) (h : j < E.length) : Prop := (0 ≤ E[j].f0 ∧ E[j].f0 < E[j].f1 ∧ E[j].f1 < K) ∧ (∀ h0 : 0 < j, tlt E[j - 1] E[j])
theorem asc_iff (E : List STie) : Asc E ↔ ∀ j (h : j < E.length), 0 < j → tlt E[j - 1] E[j] := by
  constructor
  · intro h j hj h0
    exact List.pairwise_iff_getElem.1 h (j - 1) j (by omega) hj (by omega)
  · intro h
    refine List.pairwise_iff_getElem.2 ?_
    intro i j hi hj hij
    obtain ⟨d, rfl⟩ : ∃ d, j = i + d + 1 := ⟨j - i - 1, by omega⟩
    induction d with
    | zero => have := h (i + 1) hj (by omega); simpa using this
    | succ d ih =>
      have h1 := ih (by omega) (by omega)
      have h2 := h (i + (d + 1) + 1) hj (by omega)
      exact tlt_trans h1 h2
theorem ok_iff (K : Int) (E : List STie) : Ok K E ↔ (0 ≤ K ∧ K ≤ 8) ∧ ∀ j (h : j < E.length), At K E j h := by
  constructor
  · intro h
    refine ⟨⟨h.k0, h.k8⟩, fun j hj => ⟨h.tie _ (List.getElem_mem hj), fun h0 => (asc_iff E).1 h.asc j hj h0⟩⟩
  · rintro ⟨⟨h0, h1⟩, h⟩
    refine ⟨h0, h1, fun t ht => ?_, (asc_iff E).2 (fun j hj h0 => (h j hj).2 h0)⟩
    obtain ⟨j, hj, rfl⟩ := List.getElem_of_mem ht
    exact (h j hj).1
theorem e_spec_NetOk_l0 (K : Int) (E : List STie) (hK : 0 ≤ K ∧ K ≤ 8) (hE : E.length ≤ 64) (d : Nat) : ∀ i, i + d = E.length → Ev (fun k => spec_NetOk.l0 k (i : Int) K E) (dec (∀ j (h : j < E.length), i ≤ j → At K E j h)) := by
  induction d with
  | zero =>
    intro i hi
    refine Ev.succ ?_
    simp only [spec_NetOk.l0]
    refine Ev.no (by omega) ?_
    rw [dec_true (fun j h hij => by omega)]
    exact Ev.pure _
  | succ d ih =>
    intro i hi
    have hlt : i < E.length := by omega
    have hih := ih (i + 1) (by omega)
    refine Ev.succ ?_
    simp only [spec_NetOk.l0]
    refine Ev.yes (by omega) (Ev.yes (by omega) ?_)
    rw [rdT hlt, w64s (by omega)]
    refine Ev.bind (Ev.const (e_spec_l6In _ _ _)) ?_
    by_cases h1 : 0 ≤ E[i].f0 ∧ E[i].f0 ≤ wrap64 (K - 1)
    · have hw : wrap64 (K - 1) = K - 1 := w64 (by omega) (by omega)
      refine Ev.yes (dec_true h1) ?_
      rw [hw] at h1 ⊢
      rw [w64 (x := E[i].f0 + 1) (by omega) (by omega)]
      refine Ev.bind (Ev.const (e_spec_l6In _ _ _)) ?_
      by_cases h2 : E[i].f0 + 1 ≤ E[i].f1 ∧ E[i].f1 ≤ K - 1
      · refine Ev.yes (dec_true h2) ?_
        have hb : 0 ≤ E[i].f0 ∧ E[i].f0 < E[i].f1 ∧ E[i].f1 < K := by omega
        by_cases h3 : 0 < i
        · refine Ev.yes (by omega) ?_
          rw [w64p h3 (by omega)]
          refine Ev.yes (by omega) (Ev.yes (by omega) ?_)
          rw [rdT (show i - 1 < E.length by omega)]
          refine Ev.bind (Ev.const (e_spec_l1Less _ _)) ?_
          by_cases h4 : tlt E[i - 1] E[i]
          · refine Ev.yes (dec_true h4) (hih.value (dec_congr ⟨fun h j hj hij => ?_, fun h j hj hij => h j hj (by omega)⟩))
            rcases Nat.eq_or_lt_of_le hij with rfl | h5
            · exact ⟨hb, fun _ => h4⟩
            · exact h j hj h5
          · refine Ev.no (by rw [dec_false h4]; simp) ?_
            rw [dec_false (fun h => h4 ((h i hlt (Nat.le_refl _)).2 h3))]
            exact Ev.pure _
        · refine Ev.no (by omega) (hih.value (dec_congr ⟨fun h j hj hij => ?_, fun h j hj hij => h j hj (by omega)⟩))
          rcases Nat.eq_or_lt_of_le hij with rfl | h5
          · exact ⟨hb, fun h0 => absurd h0 h3⟩
          · exact h j hj h5
      · refine Ev.no (by rw [dec_false h2]; simp) ?_
        rw [dec_false (fun h => h2 (by have := (h i hlt (Nat.le_refl _)).1; omega))]
        exact Ev.pure _
    · refine Ev.no (by rw [dec_false h1]; simp) ?_
      have hw : wrap64 (K - 1) = K - 1 := w64 (by omega) (by omega)
      rw [hw] at h1
      rw [dec_false (fun h => h1 (by have := (h i hlt (Nat.le_refl _)).1; omega))]
      exact Ev.pure _
theorem e_spec_NetOk (K : Int) (E : List STie) : Ev (fun k => spec_NetOk.f k K E) (dec (Ok K E)) := by
  simp only [spec_NetOk.f]
  refine Ev.bind (Ev.const (e_spec_l6In _ _ _)) ?_
  by_cases hK : 0 ≤ K ∧ K ≤ 8
  · refine Ev.yes (dec_true hK) ?_
    refine Ev.succ ?_
    simp only [spec_NetOk.j0]
    by_cases hl : E.length ≤ 64
    · refine Ev.no (by simp; omega) ((e_spec_NetOk_l0 K E hK hl E.length 0 (by omega)).value (dec_congr ?_))
      rw [ok_iff]
      exact ⟨fun h => ⟨hK, fun j hj => h j hj (Nat.zero_le _)⟩, fun h j hj _ => h.2 j hj⟩
    · refine Ev.yes (by simp; omega) ?_
      rw [dec_false (fun h => hl h.len)]
      exact Ev.pure _
  · refine Ev.no (by rw [dec_false hK]; simp) ?_
    refine Ev.succ ?_
    simp only [spec_NetOk.j0]
    refine Ev.yes (by simp) ?_
    rw [dec_false (fun h => hK ⟨h.k0, h.k8⟩)]
    exact Ev.pure _
theorem e_impl_ascending_l0 (E : List STie) (hE : E.length < 4611686018427387904) (d : Nat) : ∀ i, i + d = E.length → 0 < i → Ev (fun k => impl_ascending.l0 k E (i : Int)) (dec (∀ j (h : j < E.length), i ≤ j → tlt E[j - 1] E[j])) := by
  induction d with
  | zero =>
    intro i hi h0
    refine Ev.succ ?_
    simp only [impl_ascending.l0]
    refine Ev.no (by omega) ?_
    rw [dec_true (fun j h hij => by omega)]
    exact Ev.pure _
  | succ d ih =>
    intro i hi h0
    have hlt : i < E.length := by omega
    have hih := ih (i + 1) (by omega) (by omega)
    refine Ev.succ ?_
    simp only [impl_ascending.l0]
    rw [w64p h0 (by omega), w64s (by omega)]
    refine Ev.yes (by omega) (Ev.yes (by omega) (Ev.yes (by omega) (Ev.yes (by omega) ?_)))
    rw [rdT hlt, rdT (show i - 1 < E.length by omega)]
    refine Ev.bind (e_impl_tieOrder _ _) ?_
    by_cases h4 : tlt E[i - 1] E[i]
    · have := (ord_neg E[i - 1] E[i]).2 h4
      refine Ev.no (by omega) (hih.value (dec_congr ⟨fun h j hj hij => ?_, fun h j hj hij => h j hj (by omega)⟩))
      rcases Nat.eq_or_lt_of_le hij with rfl | h5
      · exact h4
      · exact h j hj h5
    · have : ¬ ord E[i - 1] E[i] < 0 := fun h => h4 ((ord_neg E[i - 1] E[i]).1 h)
      refine Ev.yes (by omega) ?_
      rw [dec_false (fun h => h4 (h i hlt (Nat.le_refl _)))]
      exact Ev.pure _
theorem e_impl_ascending (E : List STie) (hE : E.length < 4611686018427387904) : Ev (fun k => impl_ascending.f k E) (dec (Asc E)) := by
  simp only [impl_ascending.f]
  by_cases h : E.length = 0
  · refine Ev.succ ?_
    simp only [impl_ascending.l0]
    refine Ev.no (by omega) ?_
    rw [dec_true ((asc_iff E).2 (fun j hj _ => by omega))]
    exact Ev.pure _
  · refine (e_impl_ascending_l0 E hE (E.length - 1) 1 (by omega) (by omega)).value (dec_congr ?_)
    rw [asc_iff]
    exact Iff.rfl
theorem e_impl_NetOk_l0 (K : Int) (E : List STie) (hK : 0 ≤ K ∧ K ≤ 8) (hE : E.length < 4611686018427387904) (d : Nat) : ∀ i, i + d = E.length → Ev (fun k => impl_NetOk.l0 k E (E.length : Int) (i : Int) K E) (dec ((∀ j (h : j < E.length), i ≤ j → 0 ≤ E[j].f0 ∧ E[j].f0 < E[j].f1 ∧ E[j].f1 < K) ∧ Asc E)) := by
  induction d with
  | zero =>
    intro i hi
    refine Ev.succ ?_
    simp only [impl_NetOk.l0]
    refine Ev.no (by omega) (Ev.bind (e_impl_ascending E hE) ((Ev.pure _).value (dec_congr ⟨fun h => ⟨fun j hj hij => by omega, h⟩, fun h => h.2⟩)))
  | succ d ih =>
    intro i hi
    have hlt : i < E.length := by omega
    have hih := ih (i + 1) (by omega)
    refine Ev.succ ?_
    simp only [impl_NetOk.l0]
    refine Ev.yes (by omega) (Ev.yes (by omega) (Ev.yes (by omega) ?_))
    rw [rdT hlt, w64s (by omega)]
    by_cases h1 : E[i].f0 < 0
    · refine Ev.yes h1 ?_
      rw [dec_false (fun h => by have := h.1 i hlt (Nat.le_refl _); omega)]
      exact Ev.pure _
    · refine Ev.no h1 ?_
      by_cases h2 : E[i].f0 ≥ E[i].f1
      · refine Ev.yes h2 ?_
        rw [dec_false (fun h => by have := h.1 i hlt (Nat.le_refl _); omega)]
        exact Ev.pure _
      · refine Ev.no h2 ?_
        by_cases h3 : E[i].f1 ≥ K
        · refine Ev.yes h3 ?_
          rw [dec_false (fun h => by have := h.1 i hlt (Nat.le_refl _); omega)]
          exact Ev.pure _
        · refine Ev.no h3 (hih.value (dec_congr ⟨fun h => ⟨fun j hj hij => ?_, h.2⟩, fun h => ⟨fun j hj hij => h.1 j hj (by omega), h.2⟩⟩))
          rcases Nat.eq_or_lt_of_le hij with rfl | h5
          · omega
          · exact h.1 j hj h5
theorem e_impl_NetOk (K : Int) (E : List STie) (hE : E.length < 4611686018427387904) : Ev (fun k => impl_NetOk.f k K E) (dec (Ok K E)) := by
  simp only [impl_NetOk.f]
  by_cases h1 : K < 0
  · refine Ev.yes h1 (Ev.succ ?_)
    simp only [impl_NetOk.j0]
    refine Ev.yes (by simp) ?_
    rw [dec_false (fun h => by have := h.k0; omega)]
    exact Ev.pure _
  · refine Ev.no h1 (Ev.succ ?_)
    simp only [impl_NetOk.j0]
    by_cases h2 : K > 8
    · refine Ev.yes (by simpa using h2) ?_
      rw [dec_false (fun h => by have := h.k8; omega)]
      exact Ev.pure _
    · refine Ev.no (by simpa using h2) ((e_impl_NetOk_l0 K E (by omega) hE E.length 0 (by omega)).value (dec_congr ⟨fun h => ⟨by omega, by omega, fun t ht => ?_, h.2⟩, fun h => ⟨fun j hj _ => h.tie _ (List.getElem_mem hj), h.asc⟩⟩))
      obtain ⟨j, hj, rfl⟩ := List.getElem_of_mem ht
      exact h.1 j hj (Nat.zero_le _)
end Go.Proofs.YtloonheabfdgbaaDoor.E
end
section
namespace Go.Proofs.YtloonheabfdgbaaDoor.E
open Go.RowKit Go.Proofs.YtloonheabfdgbaaDoorW.PrintWords Go.Proofs.YtloonheabfdgbaaDoorW.PrintMore Go.Proofs.YtloonheabfdgbaaDoor.P Osier
set_option linter.unusedVariables false
def fig (a : Int) : ByteArray := strOfNums [48 + a]
theorem fig_size (a : Int) : (fig a).size = 1 := rfl
theorem e_strconv_Itoa {a : Int} (h : 0 ≤ a ∧ a < 10) : strconv_Itoa_31.f a = some (fig a) := by
  unfold strconv_Itoa_31.f
  rw [if_pos h.1, if_pos h.2]; rfl
theorem e_spec_l6Dec {a : Int} (h : 0 ≤ a ∧ a < 10) : Ev (fun k => spec_l6Dec.f k a) (fig a) := by
  refine Ev.succ ?_
  simp only [spec_l6Dec.f]
  refine Ev.no (by omega) (Ev.no (by omega) (Ev.yes h.2 ((Ev.pure _).value ?_)))
  have e : (wrap64 (48 + a)) % 256 = 48 + a := by rw [w64 (by omega) (by omega)]; omega
  rw [e]; rfl
def lineT (t : STie) : ByteArray := (((((⟨#[116, 105, 101, 32]⟩ : ByteArray) ++ fig t.f0) ++ (⟨#[32]⟩ : ByteArray)) ++ fig t.f1) ++ (⟨#[10]⟩ : ByteArray))
def lines (x : ByteArray) : List STie → ByteArray
  | [] => x
  | t :: l => lines (x ++ lineT t) l
def headK (K : Int) : ByteArray := (((⟨#[107, 110, 111, 116, 115, 32]⟩ : ByteArray) ++ fig K) ++ (⟨#[10]⟩ : ByteArray))
noncomputable def textV (K : Int) (E : List STie) : ByteArray := if dec (Ok K E) = true then lines (headK K) E else ⟨#[]⟩
theorem line_size (t : STie) : (lineT t).size = 8 := by
  unfold lineT
  simp only [ByteArray.size_append, fig_size]
  rfl
theorem head_size (K : Int) : (headK K).size = 8 := by
  unfold headK
  simp only [ByteArray.size_append, fig_size]
  rfl
theorem line_add (x : ByteArray) (t : STie) : (((((x ++ (⟨#[116, 105, 101, 32]⟩ : ByteArray)) ++ fig t.f0) ++ (⟨#[32]⟩ : ByteArray)) ++ fig t.f1) ++ (⟨#[10]⟩ : ByteArray)) = x ++ lineT t := by
  unfold lineT
  simp only [ByteArray.append_assoc]
theorem e_spec_NetWrite_l0 {K : Int} {E : List STie} (hE : Ok K E) (d : Nat) : ∀ (i : Nat) (x : ByteArray), i + d = E.length → x.size + 8 * d ≤ 100000 → Ev (fun k => spec_NetWrite.l0 k x (i : Int) K E) (lines x (E.drop i)) := by
  have hl := hE.len
  have h8 := hE.k8
  induction d with
  | zero =>
    intro i x hi hx
    refine Ev.succ ?_
    simp only [spec_NetWrite.l0]
    rw [List.drop_eq_nil_of_le (by omega)]
    exact Ev.no (by omega) (Ev.pure _)
  | succ d ih =>
    intro i x hi hx
    have hlt : i < E.length := by omega
    have hT := hE.tie _ (List.getElem_mem hlt)
    have hz := line_size E[i]
    have h2 := ih (i + 1) (x ++ lineT E[i]) (by omega) (by rw [ByteArray.size_append, hz]; omega)
    rw [← line_add] at h2
    refine Ev.succ ?_
    simp only [spec_NetWrite.l0]
    rw [rdT hlt, w64s (by omega), drop_cons _ hlt]
    simp only [ByteArray.size_append]
    exact Ev.yes (by omega) (Ev.yes (by omega) (Ev.yes (by omega) (Ev.bind (e_spec_l6Dec ⟨by omega, by omega⟩) (Ev.yes (by rw [fig_size]; show x.size + 4 + 1 ≤ _; omega) (Ev.yes (by rw [fig_size]; show x.size + 4 + 1 + 1 ≤ _; omega) (Ev.bind (e_spec_l6Dec ⟨by omega, by omega⟩) (Ev.yes (by simp only [fig_size]; show x.size + 4 + 1 + 1 + 1 ≤ _; omega) (Ev.yes (by simp only [fig_size]; show x.size + 4 + 1 + 1 + 1 + 1 ≤ _; omega) (h2.value (by rw [line_add]; rfl))))))))))
theorem e_impl_NetWrite_l0 {K : Int} {E : List STie} (hE : Ok K E) (d : Nat) : ∀ (i : Nat) (x : ByteArray), i + d = E.length → x.size + 8 * d ≤ 100000 → Ev (fun k => impl_NetWrite.l0 k x E (E.length : Int) (i : Int)) (lines x (E.drop i)) := by
  have hl := hE.len
  have h8 := hE.k8
  induction d with
  | zero =>
    intro i x hi hx
    refine Ev.succ ?_
    simp only [impl_NetWrite.l0]
    rw [List.drop_eq_nil_of_le (by omega)]
    exact Ev.no (by omega) (Ev.pure _)
  | succ d ih =>
    intro i x hi hx
    have hlt : i < E.length := by omega
    have hT := hE.tie _ (List.getElem_mem hlt)
    have hz := line_size E[i]
    have h2 := ih (i + 1) (x ++ lineT E[i]) (by omega) (by rw [ByteArray.size_append, hz]; omega)
    have hz' : x.size + (lineT E[i]).size ≤ 9223372036854775807 := by rw [hz]; omega
    refine Ev.succ ?_
    simp only [impl_NetWrite.l0]
    rw [rdT hlt, w64s (by omega), drop_cons _ hlt]
    exact Ev.yes (by omega) (Ev.yes (by omega) (Ev.yes (by omega) (Ev.bind (Ev.const (e_strconv_Itoa ⟨by omega, by omega⟩)) (Ev.yes (by rw [fig_size]; decide) (Ev.yes (by rw [ByteArray.size_append, fig_size]; decide) (Ev.bind (Ev.const (e_strconv_Itoa ⟨by omega, by omega⟩)) (Ev.yes (by simp only [ByteArray.size_append, fig_size]; decide) (Ev.yes (by simp only [ByteArray.size_append, fig_size]; decide) (Ev.yes hz' h2)))))))))
theorem e_spec_NetWrite (K : Int) (E : List STie) : Ev (fun k => spec_NetWrite.f k K E) (textV K E) := by
  simp only [spec_NetWrite.f]
  refine Ev.bind (e_spec_NetOk K E) ?_
  unfold textV
  by_cases h : Ok K E
  · have hl := h.len
    have h0 := h.k0
    have h8 := h.k8
    rw [if_pos (dec_true h)]
    exact Ev.yes (dec_true h) (Ev.bind (e_spec_l6Dec ⟨by omega, by omega⟩) (Ev.yes (by rw [fig_size]; decide) (Ev.yes (by rw [ByteArray.size_append, fig_size]; decide) (e_spec_NetWrite_l0 h E.length 0 (headK K) (by omega) (by rw [head_size]; omega)))))
  · rw [if_neg (by rw [dec_false h]; simp)]
    exact Ev.no (by rw [dec_false h]; simp) (Ev.pure _)
theorem e_impl_NetWrite (K : Int) (E : List STie) (hE : E.length < 4611686018427387904) : Ev (fun k => impl_NetWrite.f k K E) (textV K E) := by
  simp only [impl_NetWrite.f]
  refine Ev.bind (e_impl_NetOk K E hE) ?_
  unfold textV
  by_cases h : Ok K E
  · have hl := h.len
    have h0 := h.k0
    have h8 := h.k8
    rw [if_pos (dec_true h)]
    exact Ev.yes (dec_true h) (Ev.bind (Ev.const (e_strconv_Itoa ⟨by omega, by omega⟩)) (Ev.yes (by rw [fig_size]; decide) (Ev.yes (by rw [ByteArray.size_append, fig_size]; decide) (e_impl_NetWrite_l0 h E.length 0 (headK K) (by omega) (by rw [head_size]; omega)))))
  · rw [if_neg (by rw [dec_false h]; simp)]
    exact Ev.no (by rw [dec_false h]; simp) (Ev.pure _)
end Go.Proofs.YtloonheabfdgbaaDoor.E
end
section
namespace Go.Proofs.YtloonheabfdgbaaDoor.E
open Go.RowKit Go.Proofs.YtloonheabfdgbaaDoorW.PrintWords Go.Proofs.YtloonheabfdgbaaDoorW.PrintMore Go.Proofs.YtloonheabfdgbaaDoor.P Osier
set_option linter.unusedVariables false
def spl (c : UInt8) : List UInt8 → List (List UInt8)
  | [] => [[]]
  | b :: l => if b = c then [] :: spl c l else match spl c l with
    | [] => [[b]]
    | h :: t => (b :: h) :: t
theorem spl_ne (c : UInt8) (l : List UInt8) : spl c l ≠ [] := by
  cases l with
  | nil => simp [spl]
  | cons b l =>
    unfold spl
    split
    · simp
    · split <;> simp
theorem spl_none {c : UInt8} {l : List UInt8} (h : c ∉ l) : spl c l = [l] := by
  induction l with
  | nil => rfl
  | cons b l ih =>
    simp only [List.mem_cons, not_or] at h
    unfold spl
    rw [if_neg (Ne.symm h.1), ih h.2]
theorem spl_app {c : UInt8} {x : List UInt8} (h : c ∉ x) (r : List UInt8) : spl c (x ++ c :: r) = x :: spl c r := by
  induction x with
  | nil => show spl c (c :: r) = _; rw [spl, if_pos rfl]
  | cons b x ih =>
    simp only [List.mem_cons, not_or] at h
    show spl c (b :: (x ++ c :: r)) = _
    rw [spl, if_neg (Ne.symm h.1), ih h.2]
def mkB (l : List UInt8) : ByteArray := ⟨l.toArray⟩
theorem mkB_data (s : ByteArray) : mkB s.data.toList = s := by cases s; simp [mkB]
theorem data_mkB (l : List UInt8) : (mkB l).data.toList = l := by simp [mkB]
theorem indexByte_not {c : UInt8} {l : List UInt8} (h : c ∉ l) : Go.Lib.indexByte l c = -1 := by
  induction l with
  | nil => rfl
  | cons b l ih =>
    simp only [List.mem_cons, not_or] at h
    rw [Go.Lib.indexByte, if_neg (by simpa using Ne.symm h.1), ih h.2]
    first | done | rfl
theorem indexByte_at {c : UInt8} {x : List UInt8} (h : c ∉ x) (r : List UInt8) : Go.Lib.indexByte (x ++ c :: r) c = (x.length : Int) := by
  induction x with
  | nil => show Go.Lib.indexByte (c :: r) c = _; rw [Go.Lib.indexByte, if_pos (by simp)]; rfl
  | cons b x ih =>
    simp only [List.mem_cons, not_or] at h
    show Go.Lib.indexByte (b :: (x ++ c :: r)) c = _
    rw [Go.Lib.indexByte, if_neg (by simpa using Ne.symm h.1), ih h.2, if_neg (by simp), List.length_cons]; omega
theorem splitK_spl (c : UInt8) (n : Nat) : ∀ l : List UInt8, l.length ≤ n → Go.Lib.splitK [c] 0 (Go.Lib.count l [c]) l = spl c l := by
  induction n with
  | zero =>
    intro l hl
    obtain rfl : l = [] := List.length_eq_zero_iff.1 (by omega)
    rw [Go.Lib.count_miss (by rw [Go.Lib.index_one]; rfl)]
    first | done | rfl
  | succ n ih =>
    intro l hl
    by_cases h : c ∈ l
    · obtain ⟨x, r, rfl, hx⟩ := List.eq_append_cons_of_mem h
      have hi : Go.Lib.index (x ++ c :: r) [c] = (x.length : Int) := by rw [Go.Lib.index_one]; exact indexByte_at hx r
      have hd : (x ++ c :: r).drop (x.length + 1) = r := by rw [List.drop_append, List.drop_eq_nil_of_le (by omega)]; simp
      rw [Go.Lib.count_hit (by simp) hi, List.length_singleton, hd, Nat.add_comm 1, Go.Lib.splitK, if_neg (by rw [hi]; simp), hi, Int.toNat_natCast, List.length_singleton, hd, Nat.add_zero, List.take_left, spl_app hx, ih r (by simp at hl; omega)]
    · rw [Go.Lib.count_miss (by rw [Go.Lib.index_one]; exact indexByte_not h), spl_none h]
      first | done | rfl
theorem split_value (s : ByteArray) (c : UInt8) : Go.Lib.splitB ⟨#[c]⟩ 0 (Go.Lib.countB s ⟨#[c]⟩) s = (spl c s.data.toList).map mkB := by
  have h := Go.Lib.splitB_data ⟨#[c]⟩ 0 (Go.Lib.countB s ⟨#[c]⟩) s
  have h2 : Go.Lib.splitK (⟨#[c]⟩ : ByteArray).data.toList 0 (Go.Lib.countB s ⟨#[c]⟩) s.data.toList = spl c s.data.toList := splitK_spl c _ _ (Nat.le_refl _)
  rw [← h2, ← h, List.map_map]
  conv => lhs; rw [← List.map_id (Go.Lib.splitB ⟨#[c]⟩ 0 (Go.Lib.countB s ⟨#[c]⟩) s)]
  exact List.map_congr_left (fun x _ => (mkB_data x).symm)
theorem e_strings_Split {s : ByteArray} (h : s.size < 4294967281) (c : UInt8) (k : Nat) : strings_Split.f k s ⟨#[c]⟩ = some ((spl c s.data.toList).map mkB) := by
  unfold strings_Split.f
  rw [if_pos ⟨h, Nat.le_refl _⟩, split_value]
theorem spl_len (c : UInt8) (l : List UInt8) : (spl c l).length ≤ l.length + 1 := by
  induction l with
  | nil => simp [spl]
  | cons b l ih =>
    unfold spl
    split
    · simp; omega
    · split
      · simp
      · rename_i h t e; rw [e] at ih; simp at ih ⊢; omega
theorem spl_size (c : UInt8) (l : List UInt8) : ∀ x ∈ spl c l, x.length ≤ l.length := by
  induction l with
  | nil => simp [spl]
  | cons b l ih =>
    intro x hx
    unfold spl at hx
    split at hx
    · rcases List.mem_cons.1 hx with rfl | hx
      · simp
      · have := ih x hx; simp; omega
    · split at hx
      · simp at hx; subst hx; simp
      · rename_i h t e
        rw [e] at ih
        rcases List.mem_cons.1 hx with rfl | hx
        · have := ih h (List.mem_cons_self ..); simp; omega
        · have := ih x (List.mem_cons_of_mem _ hx); simp; omega
def glue (x : List UInt8) : List (List UInt8) → List (List UInt8)
  | [] => [x]
  | h :: t => (x ++ h) :: t
theorem glue_nil {l : List (List UInt8)} (h : l ≠ []) : glue [] l = l := by
  cases l with
  | nil => exact absurd rfl h
  | cons a l => rfl
theorem extract_mk (s : ByteArray) (a b : Nat) : s.extract a b = mkB ((s.data.toList.drop a).take (b - a)) := by
  rw [← Go.Lib.extract_data, mkB_data]
theorem size_list (s : ByteArray) : s.size = s.data.toList.length := Array.length_toList.symm
theorem bt_nat {s : ByteArray} {i : Nat} (h : i < s.data.toList.length) : bt s (i : Int) = ((s.data.toList[i]).toNat : Int) := by
  have h' : i < s.size := by rw [size_list]; exact h
  have := bt_at s (i : Int) (by simpa using h')
  rw [← this]
  simp
  rfl
theorem e_spec_l1Split_l0 {s : ByteArray} (hs : s.size ≤ 1099511627776) {c : UInt8} {n : Int} (hn : n = (c.toNat : Int)) (d : Nat) : ∀ (i f : Nat) (acc : List ByteArray), i + d = s.data.toList.length → f ≤ i → acc.length + d ≤ 1099511627776 →
    Ev (fun k => spec_l1Split.l0 k s n acc (f : Int) (i : Int)) (acc ++ (glue ((s.data.toList.drop f).take (i - f)) (spl c (s.data.toList.drop i))).map mkB) := by
  have hsz := size_list s
  subst hn
  induction d with
  | zero =>
    intro i f acc hi hf ha
    refine Ev.succ ?_
    simp only [spec_l1Split.l0]
    refine Ev.no (by omega) (Ev.yes (by omega) (Ev.yes (by omega) (Ev.yes (by omega) ((Ev.pure _).value ?_))))
    rw [List.drop_eq_nil_of_le (as := s.data.toList) (i := i) (by omega), spl, glue, List.append_nil, extract_mk, Int.toNat_natCast, hsz, show i = s.data.toList.length by omega]
    rfl
  | succ d ih =>
    intro i f acc hi hf ha
    have hlt : i < s.data.toList.length := by omega
    refine Ev.succ ?_
    simp only [spec_l1Split.l0]
    rw [bt_nat hlt, w64s (by omega), drop_cons _ hlt]
    refine Ev.yes (by omega) (Ev.yes (by omega) ?_)
    by_cases e : s.data.toList[i] = c
    · have h1 := ih (i + 1) (i + 1) (acc ++ [mkB ((s.data.toList.drop f).take (i - f))]) (by omega) (Nat.le_refl _) (by simp; omega)
      rw [Nat.sub_self, List.take_zero, glue_nil (spl_ne _ _)] at h1
      rw [spl, if_pos e, glue, List.append_nil, List.map_cons, extract_mk, Int.toNat_natCast, Int.toNat_natCast]
      exact Ev.yes (by rw [e]) (Ev.yes (by omega) (Ev.yes (by omega) (Ev.yes (by omega) (Ev.yes (by omega) (h1.value (by simp))))))
    · have h1 := ih (i + 1) f acc (by omega) (by omega) (by omega)
      have ht : (s.data.toList.drop f).take (i + 1 - f) = (s.data.toList.drop f).take (i - f) ++ [s.data.toList[i]] := by
        rw [show i + 1 - f = (i - f) + 1 by omega, List.take_succ_eq_append_getElem (by rw [List.length_drop]; omega)]
        congr 1
        rw [List.getElem_drop]
        congr 2; omega
      have hg : glue ((s.data.toList.drop f).take (i - f)) (spl c (s.data.toList[i] :: s.data.toList.drop (i + 1))) = glue ((s.data.toList.drop f).take (i + 1 - f)) (spl c (s.data.toList.drop (i + 1))) := by
        rw [spl, if_neg e, ht]
        cases h2 : spl c (s.data.toList.drop (i + 1)) with
        | nil => exact absurd h2 (spl_ne _ _)
        | cons a t => simp [glue]
      rw [hg]
      exact Ev.no (fun h => e (UInt8.toNat_inj.1 (by omega))) h1
theorem e_spec_l1Split {s : ByteArray} (hs : s.size ≤ 1099511627776) {c : UInt8} {n : Int} (hn : n = (c.toNat : Int)) : Ev (fun k => spec_l1Split.f k s n) ((spl c s.data.toList).map mkB) := by
  have h := e_spec_l1Split_l0 hs hn s.data.toList.length 0 0 [] (by omega) (by omega) (by have := size_list s; simp only [List.length_nil]; omega)
  simp only [spec_l1Split.f]
  simpa [glue_nil (spl_ne _ _)] using h
end Go.Proofs.YtloonheabfdgbaaDoor.E
end
section
namespace Go.Proofs.YtloonheabfdgbaaDoor.E
open Go.RowKit Go.Proofs.YtloonheabfdgbaaDoorW.PrintWords Go.Proofs.YtloonheabfdgbaaDoorW.PrintMore Go.Proofs.YtloonheabfdgbaaDoor.P Osier
set_option linter.unusedVariables false
theorem list_eq_iff {α : Type} {a b : List α} (hl : a.length = b.length) : a = b ↔ ∀ j (h : j < a.length), a[j] = b[j]'(hl ▸ h) := by
  constructor
  · rintro rfl j h; rfl
  · intro h
    exact List.ext_getElem hl (fun j h1 h2 => h j h1)
end Go.Proofs.YtloonheabfdgbaaDoor.E
end
section
namespace Go.Proofs.YtloonheabfdgbaaDoor.E
open Go.RowKit Go.Proofs.YtloonheabfdgbaaDoorW.PrintWords Go.Proofs.YtloonheabfdgbaaDoorW.PrintMore Go.Proofs.YtloonheabfdgbaaDoor.P Osier
set_option linter.unusedVariables false
theorem e_spec_l1Tie (a b : Int) : spec_l1Tie.f a b = some ((mkT a b).f0, (mkT a b).f1) := by
  unfold spec_l1Tie.f mkT
  split <;> rfl
theorem beq_tie (s t : STie) : (s.f0 == t.f0 && (s.f1 == t.f1)) = dec (s = t) := by
  by_cases h : s = t
  · subst h; rw [dec_true rfl]; simp
  · rw [dec_false h]
    by_cases h0 : s.f0 = t.f0
    · have h1 : ¬ s.f1 = t.f1 := fun h1 => h (Tie.ext' h0 h1)
      simp [h1]
    · simp [h0]
theorem bne_tie (s t : STie) : (!(s.f0 == t.f0) || (!(s.f1 == t.f1))) = dec (s ≠ t) := by
  by_cases h : s = t
  · subst h; rw [dec_false (fun h => h rfl)]; simp
  · rw [dec_true h]
    by_cases h0 : s.f0 = t.f0
    · have h1 : ¬ s.f1 = t.f1 := fun h1 => h (Tie.ext' h0 h1)
      simp [h1]
    · simp [h0]
theorem mem_drop_step {E : List STie} {i : Nat} (hi : i < E.length) (t : STie) : t ∈ E.drop i ↔ E[i] = t ∨ t ∈ E.drop (i + 1) := by
  rw [drop_cons _ hi, List.mem_cons]
  exact or_congr eq_comm Iff.rfl
theorem e_spec_l1Has_l0 (K : Int) (E : List STie) (a b : Int) (hE : E.length < 4611686018427387904) (d : Nat) : ∀ i, i + d = E.length → Ev (fun k => spec_l1Has.l0 k a b (i : Int) K E) (dec (mkT a b ∈ E.drop i)) := by
  induction d with
  | zero =>
    intro i hi
    refine Ev.succ ?_
    simp only [spec_l1Has.l0]
    refine Ev.no (by omega) ?_
    rw [List.drop_eq_nil_of_le (by omega), dec_false (by simp)]
    exact Ev.pure _
  | succ d ih =>
    intro i hi
    have hlt : i < E.length := by omega
    refine Ev.succ ?_
    simp only [spec_l1Has.l0]
    rw [rdT hlt, w64s (by omega)]
    refine Ev.yes (by omega) (Ev.yes (by omega) (Ev.bind (Ev.const (e_spec_l1Tie a b)) ?_))
    dsimp only
    rw [beq_tie, dec_congr (mem_drop_step hlt _)]
    by_cases h : E[i] = mkT a b
    · refine Ev.yes (dec_true h) ?_
      rw [dec_true (.inl h)]
      exact Ev.pure _
    · refine Ev.no (by rw [dec_false h]; simp) ((ih (i + 1) (by omega)).value (dec_congr ⟨.inr, fun k => k.resolve_left h⟩))
theorem e_spec_l1Has (K : Int) (E : List STie) (a b : Int) (hE : E.length < 4611686018427387904) : Ev (fun k => spec_l1Has.f k K E a b) (dec (mkT a b ∈ E)) := by
  simp only [spec_l1Has.f]
  exact (e_spec_l1Has_l0 K E a b hE E.length 0 (by omega)).value (by simp)
theorem e_spec_NetHas (K : Int) (E : List STie) (a b : Int) (hE : E.length < 4611686018427387904) : Ev (fun k => spec_NetHas.f k K E a b) (dec (Ok K E ∧ mkT a b ∈ E)) := by
  simp only [spec_NetHas.f]
  refine Ev.bind (e_spec_NetOk K E) ?_
  by_cases h : Ok K E
  · refine Ev.yes (dec_true h) (Ev.bind (e_spec_l1Has K E a b hE) ((Ev.pure _).value (dec_congr ⟨fun k => ⟨h, k⟩, fun k => k.2⟩)))
  · refine Ev.no (by rw [dec_false h]; simp) ?_
    rw [dec_false (fun k => h k.1)]; exact Ev.pure _
theorem e_spec_l1Knot (K : Int) (E : List STie) (a : Int) : Ev (fun k => spec_l1Knot.f k K E a) (dec (Ok K E ∧ 0 ≤ a ∧ a < K)) := by
  simp only [spec_l1Knot.f]
  refine Ev.bind (e_spec_NetOk K E) ?_
  by_cases h : Ok K E
  · have := h.k0
    have := h.k8
    refine Ev.yes (dec_true h) ?_
    rw [w64 (x := K - 1) (by omega) (by omega)]
    exact Ev.bind (Ev.const (e_spec_l6In _ _ _)) ((Ev.pure _).value (dec_congr ⟨fun k => ⟨h, k.1, by omega⟩, fun k => ⟨k.2.1, by omega⟩⟩))
  · refine Ev.no (by rw [dec_false h]; simp) ?_
    rw [dec_false (fun k => h k.1)]; exact Ev.pure _
end Go.Proofs.YtloonheabfdgbaaDoor.E
end
section
namespace Go.Proofs.YtloonheabfdgbaaDoor.E
open Go.RowKit Go.Proofs.YtloonheabfdgbaaDoorW.PrintWords Go.Proofs.YtloonheabfdgbaaDoorW.PrintMore Go.Proofs.YtloonheabfdgbaaDoor.P Osier
set_option linter.unusedVariables false
theorem xor_i64 (a b : Nat) (ha : a < 2 ^ 62) (hb : b < 2 ^ 62) : Go.bits .xor .i64 (a : Int) (b : Int) = ((a ^^^ b : Nat) : Int) := by
  have hx : a ^^^ b < 2 ^ 62 := Nat.xor_lt_two_pow ha hb
  have h1 : (BitVec.ofInt 64 (a : Int)).toNat = a := by
    rw [BitVec.ofInt_natCast, BitVec.toNat_ofNat]; exact Nat.mod_eq_of_lt (by omega)
  have h2 : (BitVec.ofInt 64 (b : Int)).toNat = b := by
    rw [BitVec.ofInt_natCast, BitVec.toNat_ofNat]; exact Nat.mod_eq_of_lt (by omega)
  show IntKind.i64.wrap ((BitVec.ofInt 64 (a : Int) ^^^ BitVec.ofInt 64 (b : Int)).toNat : Int) = _
  rw [BitVec.toNat_xor, h1, h2]
  simp only [IntKind.wrap, IntKind.bits, IntKind.signed]
  simp
  omega
theorem xor_nonneg {a b : Int} (ha : 0 ≤ a) (ha' : a < 2 ^ 62) (hb : 0 ≤ b) (hb' : b < 2 ^ 62) : 0 ≤ Go.bits .xor .i64 a b := by
  obtain ⟨m, rfl⟩ := Int.eq_ofNat_of_zero_le ha
  obtain ⟨n, rfl⟩ := Int.eq_ofNat_of_zero_le hb
  rw [xor_i64 m n (by omega) (by omega)]
  omega
theorem tmod_in {a n : Int} (ha : 0 ≤ a) (hn : 0 < n) : 0 ≤ Int.tmod a n ∧ Int.tmod a n < n := ⟨Int.tmod_nonneg n ha, Int.tmod_lt_of_pos a hn⟩
theorem rd_byte {xs : List Int} (hb : ∀ x ∈ xs, 0 ≤ x ∧ x < 256) {p : Int} (h0 : 0 ≤ p) (h : p < xs.length) : 0 ≤ rd xs p ∧ rd xs p < 256 := by
  obtain ⟨n, rfl⟩ := Int.eq_ofNat_of_zero_le h0
  have hn : n < xs.length := by omega
  have e : rd xs (n : Int) = xs[n] := rdI hn
  show 0 ≤ rd xs (n : Int) ∧ rd xs (n : Int) < 256
  rw [e]
  exact hb _ (List.getElem_mem hn)
structure Src (xs : List Int) : Prop where
  byte : ∀ x ∈ xs, 0 ≤ x ∧ x < 256
  len : xs.length ≤ 2000
theorem e_spec_l6Rd_pick {xs : List Int} (hs : Src xs) {p : Int} (hp : 0 ≤ p) (hp' : p < 1099511627776) (n : Int) (hn' : n < 1099511627776) : ∃ v, Ev (fun k => spec_l6Rd_pick.f k xs p n) (v, p + 1) ∧ 0 ≤ v ∧ (1 ≤ n → v < n) ∧ (n < 1 → v = 0) := by
  have hl := hs.len
  have w1 : wrap64 (p + 1) = p + 1 := w64 (by omega) (by omega)
  have w2 : wrap64 (p + 1 - 1) = p := by rw [w64 (by omega) (by omega)]; omega
  by_cases hn : n < 1
  · refine ⟨0, ?_, by omega, by omega, fun _ => rfl⟩
    simp only [spec_l6Rd_pick.f]
    refine Ev.yes hn (Ev.succ ?_)
    simp only [spec_l6Rd_pick.j0]
    rw [w1]
    exact Ev.yes (by trivial) (Ev.pure _)
  · by_cases h0 : xs.length = 0
    · refine ⟨0, ?_, by omega, fun _ => by omega, by omega⟩
      simp only [spec_l6Rd_pick.f]
      refine Ev.no hn (Ev.succ ?_)
      simp only [spec_l6Rd_pick.j0]
      rw [w1]
      exact Ev.yes (by simp [h0]) (Ev.pure _)
    · by_cases h1 : p < xs.length
      · have hr := rd_byte hs.byte hp h1
        refine ⟨Int.tmod (rd xs p) n, ?_, (tmod_in hr.1 (by omega)).1, fun _ => (tmod_in hr.1 (by omega)).2, by omega⟩
        simp only [spec_l6Rd_pick.f]
        refine Ev.no hn (Ev.succ ?_)
        simp only [spec_l6Rd_pick.j0]
        rw [w1, w2, w64 (x := rd xs p) (by omega) (by omega)]
        exact Ev.no (by simp; exact fun h => h0 (by rw [h]; rfl)) (Ev.yes h1 (Ev.yes hp (Ev.no (by omega) (Ev.pure _))))
      · have hlp : (0 : Int) < xs.length := by omega
        have m1 := tmod_in hp hlp
        have e7 : wrap64 (p * 7) = p * 7 := w64 (by omega) (by omega)
        have e8 : wrap64 (p * 7 + 3) = p * 7 + 3 := w64 (by omega) (by omega)
        have m2 := tmod_in (show (0 : Int) ≤ p * 7 + 3 by omega) hlp
        have r1 := rd_byte hs.byte m1.1 m1.2
        have r2 := rd_byte hs.byte m2.1 m2.2
        have hq0 : 0 ≤ Int.tdiv p xs.length := Int.tdiv_nonneg hp (by omega)
        have hq1 : Int.tdiv p xs.length ≤ p := by rw [Int.tdiv_eq_ediv_of_nonneg hp]; exact Int.ediv_le_self _ hp
        generalize hA : rd xs (Int.tmod p xs.length) = A at *
        generalize hB : rd xs (Int.tmod (p * 7 + 3) xs.length) = B at *
        generalize hQ : Int.tdiv p xs.length = Q at *
        have f1 : wrap64 A = A := w64 (by omega) (by omega)
        have f2 : wrap64 B = B := w64 (by omega) (by omega)
        have f3 : wrap64 (A * 131) = A * 131 := w64 (by omega) (by omega)
        have f4 : wrap64 (B * 1117) = B * 1117 := w64 (by omega) (by omega)
        have f5 : wrap64 (A * 131 + B * 1117) = A * 131 + B * 1117 := w64 (by omega) (by omega)
        have f6 : wrap64 (p * 29) = p * 29 := w64 (by omega) (by omega)
        have f7 : wrap64 (A * 131 + B * 1117 + p * 29) = A * 131 + B * 1117 + p * 29 := w64 (by omega) (by omega)
        have f8 : wrap64 Q = Q := w64 (by omega) (by omega)
        have f9 : wrap64 (Q * 53) = Q * 53 := w64 (by omega) (by omega)
        have f10 : wrap64 (A * 131 + B * 1117 + p * 29 + Q * 53) = A * 131 + B * 1117 + p * 29 + Q * 53 := w64 (by omega) (by omega)
        have hS0 : 0 ≤ A * 131 + B * 1117 + p * 29 + Q * 53 := by omega
        have hS1 : A * 131 + B * 1117 + p * 29 + Q * 53 < 2 ^ 60 := by omega
        generalize hS : A * 131 + B * 1117 + p * 29 + Q * 53 = S at *
        have g0 : 0 ≤ Int.tdiv S 64 := Int.tdiv_nonneg hS0 (by omega)
        have g1 : Int.tdiv S 64 ≤ S := by rw [Int.tdiv_eq_ediv_of_nonneg hS0]; exact Int.ediv_le_self _ hS0
        have f11 : wrap64 (Int.tdiv S 64) = Int.tdiv S 64 := w64 (by omega) (by omega)
        have hx := xor_nonneg (a := S) (b := Int.tdiv S 64) hS0 (by omega) g0 (by omega)
        refine ⟨Int.tmod (Go.bits .xor .i64 S (Int.tdiv S 64)) n, ?_, (tmod_in hx (by omega)).1, fun _ => (tmod_in hx (by omega)).2, by omega⟩
        simp only [spec_l6Rd_pick.f]
        refine Ev.no hn (Ev.succ ?_)
        simp only [spec_l6Rd_pick.j0]
        rw [w1, w2, e7, e8, hA, hB, hQ, f1, f2, f3, f4, f5, f6, f7, f8, f9, hS, f10, f11]
        exact Ev.no (by simp; exact fun h => h0 (by rw [h]; rfl)) (Ev.no h1 (Ev.no (by omega) (Ev.yes m1.1 (Ev.yes m1.2 (Ev.yes m2.1 (Ev.yes m2.2 (Ev.no (by omega) (Ev.pure _))))))))
end Go.Proofs.YtloonheabfdgbaaDoor.E
end
section
namespace Go.Proofs.YtloonheabfdgbaaDoor.E
open Go.RowKit Go.Proofs.YtloonheabfdgbaaDoorW.PrintWords Go.Proofs.YtloonheabfdgbaaDoorW.PrintMore Go.Proofs.YtloonheabfdgbaaDoor.P Osier
set_option linter.unusedVariables false
noncomputable def ins (t : STie) : List STie → List STie
  | [] => [t]
  | s :: l => if dec (tlt t s) = true then t :: s :: l else s :: ins t l
theorem mem_ins {t s : STie} {l : List STie} : s ∈ ins t l ↔ s = t ∨ s ∈ l := by
  induction l with
  | nil => simp [ins]
  | cons u l ih =>
    rw [ins]
    split
    · simp
    · simp only [List.mem_cons, ih]
      constructor
      · rintro (h | h | h) <;> simp [h]
      · rintro (h | h | h) <;> simp [h]
theorem asc_ins {t : STie} {l : List STie} (h : Asc l) (ht : t ∉ l) : Asc (ins t l) := by
  induction l with
  | nil => exact List.pairwise_singleton _ _
  | cons u l ih =>
    rw [ins]
    have hu : ∀ s ∈ l, tlt u s := (List.pairwise_cons.1 h).1
    split
    · rename_i hd
      have hd := dec_iff.1 hd
      refine List.pairwise_cons.2 ⟨fun s hs => ?_, h⟩
      rcases List.mem_cons.1 hs with rfl | hs
      · exact hd
      · exact tlt_trans hd (hu s hs)
    · rename_i hd
      have hd : ¬ tlt t u := fun k => hd (dec_true k)
      refine List.pairwise_cons.2 ⟨fun s hs => ?_, ih (List.pairwise_cons.1 h).2 (fun k => ht (List.mem_cons_of_mem _ k))⟩
      rcases mem_ins.1 hs with rfl | hs
      · rcases tlt_total s u with k | k | k
        · exact absurd k hd
        · exact absurd (k ▸ List.mem_cons_self) ht
        · exact k
      · exact hu s hs
theorem ok_ins {K : Int} {E : List STie} {t : STie} (h : Ok K E) (ht : t ∉ E) (h0 : 0 ≤ t.f0) (h1 : t.f0 < t.f1) (h2 : t.f1 < K) : Ok K (ins t E) := by
  refine ⟨h.k0, h.k8, fun s hs => ?_, asc_ins h.asc ht⟩
  rcases mem_ins.1 hs with rfl | hs
  · exact ⟨h0, h1, h2⟩
  · exact h.tie s hs
def Addable (K : Int) (E : List STie) (a b : Int) : Prop := Ok K E ∧ (0 ≤ a ∧ a < K) ∧ (0 ≤ b ∧ b < K) ∧ a ≠ b ∧ mkT a b ∉ E
noncomputable def addV (K : Int) (E : List STie) (a b : Int) : Int × List STie × Bool := if dec (Addable K E a b) = true then (K, ins (mkT a b) E, true) else (0, [], false)
theorem mkT_in {K a b : Int} (ha : 0 ≤ a ∧ a < K) (hb : 0 ≤ b ∧ b < K) (h : a ≠ b) : 0 ≤ (mkT a b).f0 ∧ (mkT a b).f0 < (mkT a b).f1 ∧ (mkT a b).f1 < K := by
  unfold mkT
  split <;> simp only <;> omega
theorem addable_ok {K : Int} {E : List STie} {a b : Int} (h : Addable K E a b) : Ok K (ins (mkT a b) E) := by
  obtain ⟨h1, h2, h3, h4, h5⟩ := h
  have := mkT_in h2 h3 h4
  exact ok_ins h1 h5 this.1 this.2.1 this.2.2
theorem ok_none : Ok 0 ([] : List STie) := ⟨by omega, by omega, fun t h => by simp at h, List.Pairwise.nil⟩
theorem addV_ok (K : Int) (E : List STie) (a b : Int) : Ok (addV K E a b).1 (addV K E a b).2.1 := by
  unfold addV
  by_cases h : Addable K E a b
  · rw [if_pos (dec_true h)]; exact addable_ok h
  · rw [if_neg (by rw [dec_false h]; simp)]; exact ok_none
theorem ins_step {E : List STie} {i : Nat} (hi : i < E.length) (t : STie) : ins t (E.drop i) = if dec (tlt t E[i]) = true then t :: E[i] :: E.drop (i + 1) else E[i] :: ins t (E.drop (i + 1)) := by
  rw [drop_cons _ hi, ins]
theorem e_spec_NetAdd_l0t (K : Int) (E : List STie) (t : STie) (hE : E.length < 1099511627776) (d : Nat) : ∀ (i : Nat) (acc : List STie), i + d = E.length → acc.length ≤ i + 1 → Ev (fun k => spec_NetAdd.l0 k true (i : Int) K E K acc t.f0 t.f1) (K, acc ++ E.drop i, true) := by
  induction d with
  | zero =>
    intro i acc hi ha
    refine Ev.succ ?_
    simp only [spec_NetAdd.l0]
    refine Ev.no (by omega) (Ev.yes (by trivial) ?_)
    rw [List.drop_eq_nil_of_le (by omega), List.append_nil]
    exact Ev.pure _
  | succ d ih =>
    intro i acc hi ha
    have hlt : i < E.length := by omega
    refine Ev.succ ?_
    simp only [spec_NetAdd.l0]
    rw [rdT hlt, w64s (by omega), drop_cons _ hlt]
    refine Ev.yes (by omega) (Ev.yes (by trivial) (Ev.yes (by omega) (Ev.yes (by omega) ((ih (i + 1) _ (by omega) (by simp; omega)).value ?_))))
    simp
    exact (drop_cons _ hlt).symm
theorem e_spec_NetAdd_l0 (K : Int) (E : List STie) (t : STie) (hE : E.length < 1099511627776) (d : Nat) : ∀ (i : Nat) (acc : List STie), i + d = E.length → acc.length ≤ i → Ev (fun k => spec_NetAdd.l0 k false (i : Int) K E K acc t.f0 t.f1) (K, acc ++ ins t (E.drop i), true) := by
  induction d with
  | zero =>
    intro i acc hi ha
    refine Ev.succ ?_
    simp only [spec_NetAdd.l0]
    refine Ev.no (by omega) (Ev.no (by simp) ?_)
    rw [List.drop_eq_nil_of_le (by omega)]
    exact Ev.yes (by omega) (Ev.pure _)
  | succ d ih =>
    intro i acc hi ha
    have hlt : i < E.length := by omega
    refine Ev.succ ?_
    simp only [spec_NetAdd.l0]
    rw [rdT hlt, w64s (by omega), ins_step hlt]
    refine Ev.yes (by omega) (Ev.no (by simp) (Ev.yes (by omega) (Ev.bind (Ev.const (e_spec_l1Less t E[i])) ?_)))
    by_cases h : tlt t E[i]
    · rw [dec_true h]
      refine Ev.yes (by trivial) (Ev.yes (by omega) (Ev.bind (Ev.pure _) (Ev.yes (by simp; omega) ((e_spec_NetAdd_l0t K E t hE d (i + 1) _ (by omega) (by simp; omega)).value ?_))))
      simp
      exact (drop_cons _ hlt).symm
    · rw [dec_false h]
      refine Ev.no (by simp) (Ev.yes (by omega) ((ih (i + 1) _ (by omega) (by simp; omega)).value ?_))
      simp
theorem e_spec_NetAdd (K : Int) (E : List STie) (a b : Int) (hE : E.length < 1099511627776) : Ev (fun k => spec_NetAdd.f k K E a b) (addV K E a b) := by
  simp only [spec_NetAdd.f]
  have no : ¬ Addable K E a b → Ev (fun k => spec_NetAdd.j0 k a b true K E) (addV K E a b) := by
    intro h
    unfold addV
    rw [if_neg (by rw [dec_false h]; simp)]
    refine Ev.succ ?_
    simp only [spec_NetAdd.j0]
    exact Ev.yes (by trivial) (Ev.pure _)
  refine Ev.bind (e_spec_l1Knot K E a) ?_
  by_cases h1 : Ok K E ∧ 0 ≤ a ∧ a < K
  · refine Ev.yes (dec_true h1) (Ev.bind (e_spec_l1Knot K E b) ?_)
    by_cases h2 : Ok K E ∧ 0 ≤ b ∧ b < K
    · refine Ev.yes (dec_true h2) ?_
      by_cases h3 : a = b
      · exact Ev.yes h3 (no (fun h => h.2.2.2.1 h3))
      · refine Ev.no h3 (Ev.bind (e_spec_NetHas K E a b (by omega)) ?_)
        by_cases h4 : mkT a b ∈ E
        · rw [dec_true ⟨h1.1, h4⟩]
          exact no (fun h => h.2.2.2.2 h4)
        · rw [dec_false (fun h => h4 h.2)]
          refine Ev.succ ?_
          simp only [spec_NetAdd.j0]
          refine Ev.no (by simp) (Ev.bind (Ev.const (e_spec_l1Tie a b)) ((e_spec_NetAdd_l0 K E (mkT a b) hE E.length 0 [] (by omega) (by simp)).value ?_))
          unfold addV
          rw [if_pos (dec_true ⟨h1.1, h1.2, h2.2, h3, h4⟩)]
          simp
    · exact Ev.no (by rw [dec_false h2]; simp) (no (fun h => h2 ⟨h.1, h.2.2.1⟩))
  · exact Ev.no (by rw [dec_false h1]; simp) (no (fun h => h1 ⟨h.1, h.2.1⟩))
end Go.Proofs.YtloonheabfdgbaaDoor.E
end
section
namespace Go.Proofs.YtloonheabfdgbaaDoor.E
open Go.RowKit Go.Proofs.YtloonheabfdgbaaDoorW.PrintWords Go.Proofs.YtloonheabfdgbaaDoorW.PrintMore Go.Proofs.YtloonheabfdgbaaDoor.P Osier
set_option linter.unusedVariables false
theorem src_take {l : List Int} (hl : ∀ x ∈ l, (Lit.int .u8 x).wf = true) {n : Nat} (hn : n ≤ 2000) : Src (l.take n) := by
  refine ⟨fun x hx => ?_, by simp only [List.length_take]; omega⟩
  have h := hl x (List.mem_of_mem_take hx)
  have h1 : IntKind.u8.min = 0 := rfl
  have h2 : IntKind.u8.max = 255 := rfl
  simp only [Lit.wf, Bool.and_eq_true, decide_eq_true_eq] at h
  omega
theorem e_spec_l6Open {l : List Int} (hl : ∀ x ∈ l, (Lit.int .u8 x).wf = true) : ∃ xs, spec_l6Open.f l = some (xs, 0) ∧ Src xs := by
  unfold spec_l6Open.f
  by_cases h : (l.length : Int) > 2000
  · rw [if_pos h, if_pos (by omega)]
    exact ⟨_, rfl, src_take hl (Nat.le_refl _)⟩
  · rw [if_neg h]
    refine ⟨_, rfl, ?_⟩
    have := src_take hl (n := l.length) (by omega)
    rwa [List.take_length] at this
theorem e_spec_l71Net_l2 {xs : List Int} (hs : Src xs) (d : Nat) : ∀ (x p K : Int) (E : List STie), x ≤ d → d ≤ 100 → Ok K E → 0 ≤ p → p + 2 * d ≤ 1000000 → ∃ K' E' q, Ev (fun k => spec_l71Net.l2 k x xs p K E) (K', E', q) ∧ Ok K' E' ∧ p ≤ q ∧ q ≤ p + 2 * d := by
  have stop : ∀ (x p K : Int) (E : List STie), Ev (fun k => spec_l71Net.j4 k x false xs p K E) (K, E, p) := by
    intro x p K E
    refine Ev.succ ?_
    simp only [spec_l71Net.j4]
    exact Ev.no (by simp) (Ev.pure _)
  induction d with
  | zero =>
    intro x p K E hx hd hE hp hp'
    refine ⟨K, E, p, Ev.succ ?_, hE, by omega, by omega⟩
    simp only [spec_l71Net.l2]
    exact Ev.no (by omega) (stop _ _ _ _)
  | succ d ih =>
    intro x p K E hx hd hE hp hp'
    by_cases h : x > 0 ∧ K > 1
    · have h8 := hE.k8
      obtain ⟨v, hv, hv0, hv1, _⟩ := e_spec_l6Rd_pick hs (p := p) hp (by omega) K (by omega)
      obtain ⟨u, hu, hu0, hu1, _⟩ := e_spec_l6Rd_pick hs (p := p + 1) (by omega) (by omega) K (by omega)
      have hlen := hE.len
      have wx : wrap64 (x - 1) = x - 1 := w64 (by omega) (by omega)
      by_cases ha : (addV K E v u).2.2 = true
      · obtain ⟨K', E', q, hq, ho, h1, h2⟩ := ih (x - 1) (p + 1 + 1) _ _ (by omega) (by omega) (addV_ok K E v u) (by omega) (by omega)
        refine ⟨K', E', q, Ev.succ ?_, ho, by omega, by omega⟩
        simp only [spec_l71Net.l2]
        refine Ev.yes h.1 (Ev.succ ?_)
        simp only [spec_l71Net.j4]
        rw [wx]
        exact Ev.yes (by simpa using h.2) (Ev.bind hv (Ev.bind hu (Ev.bind (e_spec_NetAdd K E v u (by omega)) (Ev.yes ha hq))))
      · obtain ⟨K', E', q, hq, ho, h1, h2⟩ := ih (x - 1) (p + 1 + 1) K E (by omega) (by omega) hE (by omega) (by omega)
        refine ⟨K', E', q, Ev.succ ?_, ho, by omega, by omega⟩
        simp only [spec_l71Net.l2]
        refine Ev.yes h.1 (Ev.succ ?_)
        simp only [spec_l71Net.j4]
        rw [wx]
        exact Ev.yes (by simpa using h.2) (Ev.bind hv (Ev.bind hu (Ev.bind (e_spec_NetAdd K E v u (by omega)) (Ev.no ha hq))))
    · refine ⟨K, E, p, Ev.succ ?_, hE, by omega, by omega⟩
      simp only [spec_l71Net.l2]
      by_cases h1 : x > 0
      · refine Ev.yes h1 ?_
        have h2 : decide (K > 1) = false := decide_eq_false (fun h2 => h ⟨h1, h2⟩)
        rw [h2]
        exact stop _ _ _ _
      · exact Ev.no h1 (stop _ _ _ _)
theorem e_spec_l71Net_j2 {xs : List Int} (hs : Src xs) {p K : Int} {E : List STie} (hE : Ok K E) (hp : 0 ≤ p) (hp' : p ≤ 100000) : ∃ K' E' q, Ev (fun k => spec_l71Net.j2 k xs p K E) (K', E', q) ∧ Ok K' E' ∧ p ≤ q ∧ q ≤ p + 30 := by
  obtain ⟨v, hv, hv0, hv1, _⟩ := e_spec_l6Rd_pick hs (p := p) hp (by omega) 13 (by omega)
  obtain ⟨K', E', q, hq, ho, h1, h2⟩ := e_spec_l71Net_l2 hs 13 v (p + 1) K E (by omega) (by omega) hE (by omega) (by omega)
  refine ⟨K', E', q, Ev.succ ?_, ho, by omega, by omega⟩
  simp only [spec_l71Net.j2]
  exact Ev.bind hv hq
theorem e_spec_l71Net_l0 {xs : List Int} (hs : Src xs) (d : Nat) : ∀ (x p K : Int) (E : List STie), 0 ≤ x → 8 ≤ x + d → d ≤ 100 → Ok K E → 0 ≤ p → p + d ≤ 50000 → ∃ K' E' q, Ev (fun k => spec_l71Net.l0 k x xs p K E) (K', E', q) ∧ Ok K' E' ∧ p ≤ q ∧ q ≤ p + 30 + d := by
  induction d with
  | zero =>
    intro x p K E hx0 hx hd hE hp hp'
    have h8 := hE.k8
    obtain ⟨K', E', q, hq, ho, h1, h2⟩ := e_spec_l71Net_j2 hs (p := p) hE (by omega) (by omega)
    refine ⟨K', E', q, Ev.succ ?_, ho, by omega, by omega⟩
    simp only [spec_l71Net.l0]
    exact Ev.no (by omega) hq
  | succ d ih =>
    intro x p K E hx0 hx hd hE hp hp'
    have h8 := hE.k8
    have hlen := hE.len
    by_cases h : x < K
    · obtain ⟨v, hv, hv0, hv1, _⟩ := e_spec_l6Rd_pick hs (p := p) hp (by omega) x (by omega)
      obtain ⟨K', E', q, hq, ho, h1, h2⟩ := ih (x + 1) (p + 1) _ _ (by omega) (by omega) (by omega) (addV_ok K E x v) (by omega) (by omega)
      refine ⟨K', E', q, Ev.succ ?_, ho, by omega, by omega⟩
      simp only [spec_l71Net.l0]
      rw [w64 (x := x + 1) (by omega) (by omega)]
      exact Ev.yes h (Ev.bind hv (Ev.bind (e_spec_NetAdd K E x v (by omega)) hq))
    · obtain ⟨K', E', q, hq, ho, h1, h2⟩ := e_spec_l71Net_j2 hs (p := p) hE (by omega) (by omega)
      refine ⟨K', E', q, Ev.succ ?_, ho, by omega, by omega⟩
      simp only [spec_l71Net.l0]
      exact Ev.no h hq
theorem e_spec_l71Net_l1 {xs : List Int} (hs : Src xs) (d : Nat) : ∀ (x p K : Int) (E : List STie), 0 ≤ x → 8 ≤ x + d → d ≤ 100 → Ok K E → 0 ≤ p → p ≤ 50000 → ∃ K' E' q, Ev (fun k => spec_l71Net.l1 k x xs p K E) (K', E', q) ∧ Ok K' E' ∧ p ≤ q ∧ q ≤ p + 30 := by
  induction d with
  | zero =>
    intro x p K E hx0 hx hd hE hp hp'
    have h8 := hE.k8
    obtain ⟨K', E', q, hq, ho, h1, h2⟩ := e_spec_l71Net_j2 hs (p := p) hE (by omega) (by omega)
    refine ⟨K', E', q, Ev.succ ?_, ho, by omega, by omega⟩
    simp only [spec_l71Net.l1]
    exact Ev.no (by omega) hq
  | succ d ih =>
    intro x p K E hx0 hx hd hE hp hp'
    have h8 := hE.k8
    have hlen := hE.len
    by_cases h : x < K
    · by_cases h2 : K > 2
      · obtain ⟨K', E', q, hq, ho, h1, h2'⟩ := ih (x + 1) p _ _ (by omega) (by omega) (by omega) (addV_ok K E x (Int.tmod (wrap64 (x + 1)) K)) (by omega) (by omega)
        refine ⟨K', E', q, Ev.succ ?_, ho, by omega, by omega⟩
        simp only [spec_l71Net.l1]
        refine Ev.yes h (Ev.yes h2 (Ev.no (by omega) (Ev.bind (e_spec_NetAdd K E x _ (by omega)) ?_)))
        have e1 : wrap64 (x + 1) = x + 1 := w64 (by omega) (by omega)
        rw [e1] at hq ⊢
        exact hq
      · obtain ⟨K', E', q, hq, ho, h1, h2'⟩ := e_spec_l71Net_j2 hs (p := p) hE (by omega) (by omega)
        refine ⟨K', E', q, Ev.succ ?_, ho, by omega, by omega⟩
        simp only [spec_l71Net.l1]
        exact Ev.yes h (Ev.no h2 hq)
    · obtain ⟨K', E', q, hq, ho, h1, h2⟩ := e_spec_l71Net_j2 hs (p := p) hE (by omega) (by omega)
      refine ⟨K', E', q, Ev.succ ?_, ho, by omega, by omega⟩
      simp only [spec_l71Net.l1]
      exact Ev.no h hq
theorem e_spec_l71Net {xs : List Int} (hs : Src xs) {p : Int} (hp : 0 ≤ p) (hp' : p ≤ 40000) : ∃ K E q, Ev (fun k => spec_l71Net.f k xs p) (K, E, q) ∧ Ok K E ∧ p ≤ q ∧ q ≤ p + 50 := by
  obtain ⟨v, hv, hv0, hv1, _⟩ := e_spec_l6Rd_pick hs (p := p) hp (by omega) 8 (by omega)
  obtain ⟨u, hu, hu0, hu1, _⟩ := e_spec_l6Rd_pick hs (p := p + 1) (by omega) (by omega) 6 (by omega)
  have hv1 := hv1 (by omega)
  have w : wrap64 (1 + v) = 1 + v := w64 (by omega) (by omega)
  have h0 : Ok (1 + v) ([] : List STie) := ⟨by omega, by omega, fun t h => by simp at h, List.Pairwise.nil⟩
  simp only [spec_l71Net.f]
  by_cases c0 : u = 0
  · obtain ⟨K', E', q, hq, ho, h1, h2⟩ := e_spec_l71Net_l0 hs 8 1 (p + 1 + 1) (1 + v) [] (by omega) (by omega) (by omega) h0 (by omega) (by omega)
    refine ⟨K', E', q, Ev.bind hv (Ev.bind hu ?_), ho, by omega, by omega⟩
    dsimp only
    rw [w]
    exact Ev.yes c0 hq
  · by_cases c1 : u = 1
    · obtain ⟨K', E', q, hq, ho, h1, h2⟩ := e_spec_l71Net_l1 hs 8 0 (p + 1 + 1) (1 + v) [] (by omega) (by omega) (by omega) h0 (by omega) (by omega)
      refine ⟨K', E', q, Ev.bind hv (Ev.bind hu ?_), ho, by omega, by omega⟩
      dsimp only
      rw [w]
      exact Ev.no c0 (Ev.yes c1 hq)
    · obtain ⟨K', E', q, hq, ho, h1, h2⟩ := e_spec_l71Net_j2 hs (p := p + 1 + 1) h0 (by omega) (by omega)
      refine ⟨K', E', q, Ev.bind hv (Ev.bind hu ?_), ho, by omega, by omega⟩
      dsimp only
      rw [w]
      exact Ev.no c0 (Ev.no c1 hq)
end Go.Proofs.YtloonheabfdgbaaDoor.E
end
section
namespace Go.Proofs.YtloonheabfdgbaaDoor.E
open Go.RowKit Go.Proofs.YtloonheabfdgbaaDoorW.PrintWords Go.Proofs.YtloonheabfdgbaaDoorW.PrintMore Go.Proofs.YtloonheabfdgbaaDoor.P Osier
set_option linter.unusedVariables false
theorem e_laws_loTies_l0 (a b : List STie) (hl : a.length = b.length) (ha : a.length < 4611686018427387904) (d : Nat) : ∀ i, i + d = a.length → Ev (fun k => laws_loTies.l0 k a b (i : Int)) (dec (∀ j (h : j < a.length), i ≤ j → a[j] = b[j])) := by
  induction d with
  | zero =>
    intro i hi
    refine Ev.succ ?_
    simp only [laws_loTies.l0]
    refine Ev.no (by omega) ?_
    rw [dec_true (fun j h hij => by omega)]
    exact Ev.pure _
  | succ d ih =>
    intro i hi
    have hlt : i < a.length := by omega
    refine Ev.succ ?_
    simp only [laws_loTies.l0]
    refine Ev.yes (by omega) (Ev.yes (by omega) (Ev.yes (by omega) ?_))
    rw [rdT hlt, rdT (show i < b.length by omega), w64s (by omega), bne_tie]
    by_cases h : a[i] = b[i]
    · refine Ev.no (by rw [dec_false (fun k => k h)]; simp) ((ih (i + 1) (by omega)).value (dec_congr ⟨fun h' j hj hij => ?_, fun h' j hj hij => h' j hj (by omega)⟩))
      rcases Nat.eq_or_lt_of_le hij with rfl | h5
      · exact h
      · exact h' j hj h5
    · refine Ev.yes (dec_true h) ?_
      rw [dec_false (fun h' => h (h' i hlt (Nat.le_refl _)))]
      exact Ev.pure _
theorem e_laws_loTies (a b : List STie) (ha : a.length < 4611686018427387904) : Ev (fun k => laws_loTies.f k a b) (dec (a = b)) := by
  simp only [laws_loTies.f]
  by_cases hl : a.length = b.length
  · refine Ev.yes (by omega) ((e_laws_loTies_l0 a b hl ha a.length 0 (by omega)).value (dec_congr ?_))
    rw [list_eq_iff hl]
    exact ⟨fun h j hj => h j hj (Nat.zero_le _), fun h j hj _ => h j hj⟩
  · refine Ev.no (by omega) ?_
    rw [dec_false (fun e => hl (by rw [e]))]
    exact Ev.pure _
theorem e_laws_loNet (K L : Int) (a b : List STie) (ha : a.length < 4611686018427387904) : Ev (fun k => laws_loNet.f k K a L b) (dec (K = L ∧ a = b)) := by
  simp only [laws_loNet.f]
  by_cases hK : K = L
  · exact Ev.yes hK (Ev.bind (e_laws_loTies a b ha) ((Ev.pure _).value (dec_congr ⟨fun h => ⟨hK, h⟩, fun h => h.2⟩)))
  · refine Ev.no hK ?_
    rw [dec_false (fun e => hK e.1)]; exact Ev.pure _
theorem e_laws_loNet_same (K : Int) (a : List STie) (ha : a.length < 4611686018427387904) : Ev (fun k => laws_loNet.f k K a K a) true := (e_laws_loNet K K a a ha).value (dec_true ⟨rfl, rfl⟩)
end Go.Proofs.YtloonheabfdgbaaDoor.E
end
section
namespace Go.Proofs.YtloonheabfdgbaaDoor.E
open Go.RowKit Go.Proofs.YtloonheabfdgbaaDoor.P Osier
set_option linter.unusedVariables false
theorem ba_app {a b c d : ByteArray} (h : a ++ b = c ++ d) (hs : a.size = c.size) : a = c ∧ b = d := by
  have h1 := congrArg (fun x : ByteArray => x.data.toList) h
  simp only [ByteArray.data_append, Array.toList_append] at h1
  have h2 := List.append_inj h1 hs
  exact ⟨ByteArray.ext (Array.toList_inj.1 h2.1), ByteArray.ext (Array.toList_inj.1 h2.2)⟩
theorem fig_inj {a b : Int} (ha : 0 ≤ a ∧ a < 10) (hb : 0 ≤ b ∧ b < 10) (h : fig a = fig b) : a = b := by
  have h1 : (fig a).data.toList = (fig b).data.toList := by rw [h]
  have e : ∀ x : Int, (fig x).data.toList = [UInt8.ofNat (48 + x).toNat] := fun x => by simp [fig, strOfNums]
  rw [e, e] at h1
  have h2 : UInt8.ofNat (48 + a).toNat = UInt8.ofNat (48 + b).toNat := by injection h1
  have h3 := congrArg UInt8.toNat h2
  simp only [UInt8.toNat_ofNat'] at h3
  omega
theorem line_inj {s t : STie} (hs : 0 ≤ s.f0 ∧ s.f0 < s.f1 ∧ s.f1 < 10) (ht : 0 ≤ t.f0 ∧ t.f0 < t.f1 ∧ t.f1 < 10) (h : lineT s = lineT t) : s = t := by
  unfold lineT at h
  have h1 := (ba_app h (by simp only [ByteArray.size_append, fig_size])).1
  have h2 := ba_app h1 (by simp only [ByteArray.size_append, fig_size])
  have h3 := (ba_app h2.1 (by simp only [ByteArray.size_append, fig_size])).1
  have h4 := (ba_app h3 rfl).2
  have e0 := fig_inj ⟨by omega, by omega⟩ ⟨by omega, by omega⟩ h4
  have e1 := fig_inj ⟨by omega, by omega⟩ ⟨by omega, by omega⟩ h2.2
  cases s; cases t; simp only at e0 e1; subst e0; subst e1; rfl
theorem head_inj {K L : Int} (hK : 0 ≤ K ∧ K < 10) (hL : 0 ≤ L ∧ L < 10) (h : headK K = headK L) : K = L := by
  unfold headK at h
  have h1 := (ba_app h (by simp only [ByteArray.size_append, fig_size])).1
  exact fig_inj hK hL (ba_app h1 rfl).2
theorem lines_size (l : List STie) : ∀ x : ByteArray, (lines x l).size = x.size + 8 * l.length := by
  induction l with
  | nil => intro x; simp [lines]
  | cons t l ih => intro x; rw [lines, ih, ByteArray.size_append, line_size, List.length_cons]; omega
theorem lines_inj (l : List STie) : ∀ (m : List STie) (x y : ByteArray), l.length = m.length → x.size = y.size → (∀ t ∈ l, 0 ≤ t.f0 ∧ t.f0 < t.f1 ∧ t.f1 < 10) → (∀ t ∈ m, 0 ≤ t.f0 ∧ t.f0 < t.f1 ∧ t.f1 < 10) → lines x l = lines y m → x = y ∧ l = m := by
  induction l with
  | nil =>
    intro m x y hl hs _ _ h
    cases m with
    | nil => exact ⟨h, rfl⟩
    | cons _ _ => simp at hl
  | cons t l ih =>
    intro m x y hl hs h1 h2 h
    cases m with
    | nil => simp at hl
    | cons u m =>
      simp only [List.length_cons] at hl
      have h3 := ih m (x ++ lineT t) (y ++ lineT u) (by omega) (by simp only [ByteArray.size_append, line_size]; omega) (fun z hz => h1 z (List.mem_cons_of_mem _ hz)) (fun z hz => h2 z (List.mem_cons_of_mem _ hz)) h
      have h4 := ba_app h3.1 hs
      have h5 := line_inj (h1 t (List.mem_cons_self ..)) (h2 u (List.mem_cons_self ..)) h4.2
      exact ⟨h4.1, by rw [h5, h3.2]⟩
theorem textV_inj {K L : Int} {E F : List STie} (hE : Ok K E) (hF : Ok L F) (h : textV K E = textV L F) : K = L ∧ E = F := by
  unfold textV at h
  rw [if_pos (dec_true hE), if_pos (dec_true hF)] at h
  have hz := congrArg ByteArray.size h
  rw [lines_size, lines_size, head_size, head_size] at hz
  have b : ∀ {K : Int} {E : List STie}, Ok K E → ∀ t ∈ E, 0 ≤ t.f0 ∧ t.f0 < t.f1 ∧ t.f1 < 10 := fun h t ht => by
    have h1 := h.tie t ht
    have h2 := h.k8
    omega
  have h1 := lines_inj E F (headK K) (headK L) (by omega) (by rw [head_size, head_size]) (b hE) (b hF) h
  have k1 := hE.k0; have k2 := hE.k8; have k3 := hF.k0; have k4 := hF.k8
  exact ⟨head_inj ⟨by omega, by omega⟩ ⟨by omega, by omega⟩ h1.1, h1.2⟩
theorem textV_some {K : Int} {E : List STie} (h : (textV K E).toList ≠ []) : Ok K E := by
  by_cases g : Ok K E
  · exact g
  · exfalso; apply h
    unfold textV
    rw [if_neg (by rw [dec_false g]; simp), ByteArray.toList_eq]
end Go.Proofs.YtloonheabfdgbaaDoor.E
end
section
namespace Go.Proofs.YtloonheabfdgbaaDoor.E
open Go.RowKit Go.Proofs.YtloonheabfdgbaaDoorW.PrintWords Go.Proofs.YtloonheabfdgbaaDoorW.PrintMore Go.Proofs.YtloonheabfdgbaaDoor.P Osier
set_option linter.unusedVariables false
def dB (a : Int) : UInt8 := UInt8.ofNat (48 + a).toNat
theorem dB_cases {p : Int → Prop} (h : p 0 ∧ p 1 ∧ p 2 ∧ p 3 ∧ p 4 ∧ p 5 ∧ p 6 ∧ p 7 ∧ p 8 ∧ p 9) {a : Int} (ha : 0 ≤ a ∧ a < 10) : p a := by
  obtain ⟨h0, h1, h2, h3, h4, h5, h6, h7, h8, h9⟩ := h
  have e : a = 0 ∨ a = 1 ∨ a = 2 ∨ a = 3 ∨ a = 4 ∨ a = 5 ∨ a = 6 ∨ a = 7 ∨ a = 8 ∨ a = 9 := by omega
  rcases e with rfl | rfl | rfl | rfl | rfl | rfl | rfl | rfl | rfl | rfl <;> assumption
theorem dB_no {a : Int} (ha : 0 ≤ a ∧ a < 10) : dB a ≠ 10 ∧ dB a ≠ 32 := dB_cases (p := fun a => dB a ≠ 10 ∧ dB a ≠ 32) (by decide) ha
theorem atoi_dB {a : Int} (ha : 0 ≤ a ∧ a < 10) : atoiN [dB a] = a := dB_cases (p := fun a => atoiN [dB a] = a) ⟨rfl, rfl, rfl, rfl, rfl, rfl, rfl, rfl, rfl, rfl⟩ ha
def decV (s : ByteArray) : Int := (spec_l1Dec.f s).getD 0
theorem e_spec_l1Dec (s : ByteArray) : spec_l1Dec.f s = some (decV s) := by
  have h : ∃ v, spec_l1Dec.f s = some v := by
    unfold spec_l1Dec.f
    split
    · rw [if_pos (by omega)]
      split
      · exact ⟨_, rfl⟩
      · split <;> exact ⟨_, rfl⟩
    · exact ⟨_, rfl⟩
  obtain ⟨v, hv⟩ := h
  unfold decV
  rw [hv]; rfl
theorem dec_dB {a : Int} (ha : 0 ≤ a ∧ a < 10) : decV (mkB [dB a]) = a := dB_cases (p := fun a => decV (mkB [dB a]) = a) ⟨rfl, rfl, rfl, rfl, rfl, rfl, rfl, rfl, rfl, rfl⟩ ha
def knotsW : List UInt8 := [107, 110, 111, 116, 115]
def tieW : List UInt8 := [116, 105, 101]
def stepI (l : List UInt8) (p : Int × List STie) : Int × List STie :=
  if (spl 32 l).headD [] = knotsW then (atoiN ((spl 32 l).getD 1 []), p.2)
  else if (spl 32 l).headD [] = tieW then (p.1, p.2 ++ [⟨atoiN ((spl 32 l).getD 1 []), atoiN ((spl 32 l).getD 2 [])⟩]) else p
def stepS (l : List UInt8) (p : Int × List STie) : Int × List STie :=
  match spl 32 l with
  | [w0, w1] => if w0 = knotsW then (decV (mkB w1), p.2) else p
  | [w0, w1, w2] => if w0 = tieW then (p.1, p.2 ++ [⟨decV (mkB w1), decV (mkB w2)⟩]) else p
  | _ => p
def foldI (ls : List (List UInt8)) (p : Int × List STie) : Int × List STie := ls.foldl (fun p l => stepI l p) p
def foldS (ls : List (List UInt8)) (p : Int × List STie) : Int × List STie := ls.foldl (fun p l => stepS l p) p
theorem stepI_len (l : List UInt8) (p : Int × List STie) : (stepI l p).2.length ≤ p.2.length + 1 := by
  unfold stepI
  split
  · simp
  · split <;> simp
theorem stepS_len (l : List UInt8) (p : Int × List STie) : (stepS l p).2.length ≤ p.2.length + 1 := by
  unfold stepS
  split
  · split <;> simp
  · split <;> simp
  · simp
def kB (K : Int) : List UInt8 := knotsW ++ 32 :: [dB K]
def tB (t : STie) : List UInt8 := tieW ++ 32 :: ([dB t.f0] ++ 32 :: [dB t.f1])
def body : List STie → List UInt8
  | [] => []
  | t :: l => tB t ++ 10 :: body l
theorem fig_data (a : Int) : (fig a).data.toList = [dB a] := by simp [fig, strOfNums, dB]
theorem line_data (t : STie) : (lineT t).data.toList = tB t ++ [10] := by
  unfold lineT
  simp [ByteArray.data_append, fig_data, tB, tieW]
theorem head_data (K : Int) : (headK K).data.toList = kB K ++ [10] := by
  unfold headK
  simp [ByteArray.data_append, fig_data, kB, knotsW]
theorem lines_data (l : List STie) : ∀ x : ByteArray, (lines x l).data.toList = x.data.toList ++ body l := by
  induction l with
  | nil => intro x; simp [lines, body]
  | cons t l ih => intro x; rw [lines, ih, ByteArray.data_append, Array.toList_append, line_data, body]; simp
theorem text_data {K : Int} {E : List STie} (h : Ok K E) : (textV K E).data.toList = kB K ++ 10 :: body E := by
  unfold textV
  rw [if_pos (dec_true h), lines_data, head_data]; simp
theorem ten {K : Int} {E : List STie} (h : Ok K E) : (0 ≤ K ∧ K < 10) ∧ ∀ t ∈ E, (0 ≤ t.f0 ∧ t.f0 < 10) ∧ 0 ≤ t.f1 ∧ t.f1 < 10 := by
  have h0 := h.k0
  have h8 := h.k8
  refine ⟨by omega, fun t ht => ?_⟩
  have := h.tie t ht
  omega
theorem kB_no {K : Int} (h : 0 ≤ K ∧ K < 10) : (10 : UInt8) ∉ kB K := by
  have := (dB_no h).1
  simp [kB, knotsW]
  exact fun e => this e.symm
theorem tB_no {t : STie} (h : (0 ≤ t.f0 ∧ t.f0 < 10) ∧ 0 ≤ t.f1 ∧ t.f1 < 10) : (10 : UInt8) ∉ tB t := by
  have h0 := (dB_no h.1).1
  have h1 := (dB_no h.2).1
  simp [tB, tieW]
  exact ⟨fun e => h0 e.symm, fun e => h1 e.symm⟩
theorem spl_body {l : List STie} (h : ∀ t ∈ l, (0 ≤ t.f0 ∧ t.f0 < 10) ∧ 0 ≤ t.f1 ∧ t.f1 < 10) : spl 10 (body l) = l.map tB ++ [[]] := by
  induction l with
  | nil => rfl
  | cons t l ih => rw [body, spl_app (tB_no (h t (List.mem_cons_self ..))), ih (fun u hu => h u (List.mem_cons_of_mem _ hu))]; rfl
theorem spl_text {K : Int} {E : List STie} (h : Ok K E) : spl 10 (textV K E).data.toList = kB K :: (E.map tB ++ [[]]) := by
  rw [text_data h, spl_app (kB_no (ten h).1), spl_body (ten h).2]
theorem spl_kB {K : Int} (h : 0 ≤ K ∧ K < 10) : spl 32 (kB K) = [knotsW, [dB K]] := by
  unfold kB
  rw [spl_app (by decide), spl_none (by simp; exact fun e => (dB_no h).2 e.symm)]
theorem spl_tB {t : STie} (h : (0 ≤ t.f0 ∧ t.f0 < 10) ∧ 0 ≤ t.f1 ∧ t.f1 < 10) : spl 32 (tB t) = [tieW, [dB t.f0], [dB t.f1]] := by
  unfold tB
  rw [spl_app (by decide), spl_app (by simp; exact fun e => (dB_no h.1).2 e.symm), spl_none (by simp; exact fun e => (dB_no h.2).2 e.symm)]
theorem stepI_k {K : Int} (h : 0 ≤ K ∧ K < 10) (p : Int × List STie) : stepI (kB K) p = (K, p.2) := by
  unfold stepI; rw [spl_kB h]
  simp [atoi_dB h]
theorem stepS_k {K : Int} (h : 0 ≤ K ∧ K < 10) (p : Int × List STie) : stepS (kB K) p = (K, p.2) := by
  unfold stepS; rw [spl_kB h]
  simp [dec_dB h]
theorem stepI_t {t : STie} (h : (0 ≤ t.f0 ∧ t.f0 < 10) ∧ 0 ≤ t.f1 ∧ t.f1 < 10) (p : Int × List STie) : stepI (tB t) p = (p.1, p.2 ++ [t]) := by
  unfold stepI; rw [spl_tB h]
  simp [atoi_dB h.1, atoi_dB h.2, tieW, knotsW]
theorem stepS_t {t : STie} (h : (0 ≤ t.f0 ∧ t.f0 < 10) ∧ 0 ≤ t.f1 ∧ t.f1 < 10) (p : Int × List STie) : stepS (tB t) p = (p.1, p.2 ++ [t]) := by
  unfold stepS; rw [spl_tB h]
  simp [dec_dB h.1, dec_dB h.2]
theorem stepI_e (p : Int × List STie) : stepI [] p = p := rfl
theorem stepS_e (p : Int × List STie) : stepS [] p = p := rfl
theorem foldI_t (l : List STie) (h : ∀ t ∈ l, (0 ≤ t.f0 ∧ t.f0 < 10) ∧ 0 ≤ t.f1 ∧ t.f1 < 10) : ∀ p : Int × List STie, foldI (l.map tB ++ [[]]) p = (p.1, p.2 ++ l) := by
  induction l with
  | nil => intro p; simp [foldI, stepI_e]
  | cons t l ih =>
    intro p
    have := ih (fun u hu => h u (List.mem_cons_of_mem _ hu)) (p.1, p.2 ++ [t])
    rw [List.map_cons, List.cons_append]
    show foldI _ (stepI (tB t) p) = _
    rw [stepI_t (h t (List.mem_cons_self ..)), this]; simp
theorem foldS_t (l : List STie) (h : ∀ t ∈ l, (0 ≤ t.f0 ∧ t.f0 < 10) ∧ 0 ≤ t.f1 ∧ t.f1 < 10) : ∀ p : Int × List STie, foldS (l.map tB ++ [[]]) p = (p.1, p.2 ++ l) := by
  induction l with
  | nil => intro p; simp [foldS, stepS_e]
  | cons t l ih =>
    intro p
    have := ih (fun u hu => h u (List.mem_cons_of_mem _ hu)) (p.1, p.2 ++ [t])
    rw [List.map_cons, List.cons_append]
    show foldS _ (stepS (tB t) p) = _
    rw [stepS_t (h t (List.mem_cons_self ..)), this]; simp
theorem foldI_text {K : Int} {E : List STie} (h : Ok K E) (k : Int) : foldI (spl 10 (textV K E).data.toList) (k, []) = (K, E) := by
  rw [spl_text h]
  show foldI _ (stepI (kB K) (k, [])) = _
  rw [stepI_k (ten h).1, foldI_t E (ten h).2]; simp
theorem foldS_text {K : Int} {E : List STie} (h : Ok K E) (k : Int) : foldS (spl 10 (textV K E).data.toList) (k, []) = (K, E) := by
  rw [spl_text h]
  show foldS _ (stepS (kB K) (k, [])) = _
  rw [stepS_k (ten h).1, foldS_t E (ten h).2]; simp
noncomputable def readV (s : ByteArray) : Int × List STie × Bool := open Classical in if h : ∃ p : Int × List STie, Ok p.1 p.2 ∧ textV p.1 p.2 = s then (h.choose.1, h.choose.2, true) else (0, [], false)
theorem readV_yes {K : Int} {E : List STie} (h : Ok K E) : readV (textV K E) = (K, E, true) := by
  have hx : ∃ p : Int × List STie, Ok p.1 p.2 ∧ textV p.1 p.2 = textV K E := ⟨(K, E), h, rfl⟩
  unfold readV
  rw [dif_pos hx]
  have h2 := hx.choose_spec
  have h3 := textV_inj h2.1 h h2.2
  rw [h3.1, h3.2]
theorem readV_no {s : ByteArray} (h : ¬ ∃ p : Int × List STie, Ok p.1 p.2 ∧ textV p.1 p.2 = s) : readV s = (0, [], false) := by
  unfold readV; rw [dif_neg h]
theorem textV_size {K : Int} {E : List STie} (h : Ok K E) : (textV K E).size ≤ 520 ∧ (textV K E).toList ≠ [] := by
  have hl := h.len
  have e : (textV K E).size = 8 + 8 * E.length := by
    unfold textV
    rw [if_pos (dec_true h), lines_size, head_size]
  refine ⟨by omega, fun h2 => ?_⟩
  rw [ByteArray.toList_eq] at h2
  have h3 := size_list (textV K E)
  rw [h2, List.length_nil] at h3
  omega
theorem ba_list {a b : ByteArray} (h : a.toList = b.toList) : a = b := by
  rw [ByteArray.toList_eq, ByteArray.toList_eq] at h
  exact ByteArray.ext (Array.toList_inj.1 h)
noncomputable def finV (s : ByteArray) (p : Int × List STie) : Int × List STie × Bool := open Classical in if s.toList ≠ [] ∧ s.size ≤ 600 ∧ textV p.1 p.2 = s then (p.1, p.2, true) else (0, [], false)
theorem finV_read {s : ByteArray} {p : Int × List STie} (h : ∀ K E, Ok K E → s = textV K E → p = (K, E)) : finV s p = readV s := by
  by_cases g : ∃ p : Int × List STie, Ok p.1 p.2 ∧ textV p.1 p.2 = s
  · obtain ⟨⟨K, E⟩, hE, rfl⟩ := g
    have hz := textV_size hE
    rw [readV_yes hE, h K E hE rfl]
    unfold finV
    rw [if_pos ⟨hz.2, by omega, rfl⟩]
  · rw [readV_no g]
    unfold finV
    rw [if_neg]
    rintro ⟨h1, _, h3⟩
    exact g ⟨p, textV_some (by rw [h3]; exact h1), h3⟩
theorem readI {s : ByteArray} (k : Int) : finV s (foldI (spl 10 s.data.toList) (k, [])) = readV s := finV_read (fun K E hE hs => by subst hs; exact foldI_text hE k)
theorem readS {s : ByteArray} (k : Int) : finV s (foldS (spl 10 s.data.toList) (k, [])) = readV s := finV_read (fun K E hE hs => by subst hs; exact foldS_text hE k)
end Go.Proofs.YtloonheabfdgbaaDoor.E
end
section
namespace Go.Proofs.YtloonheabfdgbaaDoor.E
open Go.RowKit Go.Proofs.YtloonheabfdgbaaDoorW.PrintWords Go.Proofs.YtloonheabfdgbaaDoorW.PrintMore Go.Proofs.YtloonheabfdgbaaDoor.P Osier
set_option linter.unusedVariables false
theorem rdS {xs : List ByteArray} {n : Nat} (h : n < xs.length) : rdOf ByteArray.empty xs (n : Int) = xs[n] := by
  unfold rdOf
  rw [Int.toNat_natCast, List.getD_eq_getElem?_getD, List.getElem?_eq_getElem h]; rfl
theorem mkB_size (l : List UInt8) : (mkB l).size = l.length := by rw [size_list, data_mkB]
theorem mkB_toList (l : List UInt8) : (mkB l).toList = l := by rw [ByteArray.toList_eq, data_mkB]
theorem e_Atoi {s : ByteArray} (h : s.size ≤ 281474976710656) (k : Nat) : strconv_Atoi_25.f k s = some (atoiN s.data.toList) := by
  unfold strconv_Atoi_25.f
  rw [if_pos h]
theorem words_at {ws : List (List UInt8)} (h : ws ≠ []) :
    rdOf ByteArray.empty (ws.map mkB ++ [(⟨#[]⟩ : ByteArray), (⟨#[]⟩ : ByteArray)]) 0 = mkB (ws.headD []) ∧ rdOf ByteArray.empty (ws.map mkB ++ [(⟨#[]⟩ : ByteArray), (⟨#[]⟩ : ByteArray)]) 1 = mkB (ws.getD 1 []) ∧ rdOf ByteArray.empty (ws.map mkB ++ [(⟨#[]⟩ : ByteArray), (⟨#[]⟩ : ByteArray)]) 2 = mkB (ws.getD 2 []) := by
  match ws, h with
  | [a], _ => exact ⟨rfl, rfl, rfl⟩
  | [a, b], _ => exact ⟨rfl, rfl, rfl⟩
  | a :: b :: c :: t, _ => exact ⟨rfl, rfl, rfl⟩
theorem getD_size {c : UInt8} {l : List UInt8} (n : Nat) : ((spl c l).getD n []).length ≤ l.length := by
  rw [List.getD_eq_getElem?_getD]
  cases h : (spl c l)[n]? with
  | none => simp
  | some x => exact spl_size c l x (List.mem_of_getElem? h)
theorem finV_none {s : ByteArray} {p : Int × List STie} (h : ¬ (s.toList ≠ [] ∧ s.size ≤ 600 ∧ textV p.1 p.2 = s)) : finV s p = (0, [], false) := by unfold finV; rw [if_neg h]
theorem finV_some {s : ByteArray} {p : Int × List STie} (h : s.toList ≠ [] ∧ s.size ≤ 600 ∧ textV p.1 p.2 = s) : finV s p = (p.1, p.2, true) := by unfold finV; rw [if_pos h]
theorem e_impl_NetRead_l0 (s : ByteArray) (L : List (List UInt8)) (hL : L.length ≤ 1048577) (hl : ∀ x ∈ L, x.length ≤ 1048576) (d : Nat) : ∀ (i : Nat) (p : Int × List STie), i + d = L.length → p.2.length + d ≤ 1099511627776 →
    Ev (fun k => impl_NetRead.l0 k s (L.map mkB) (L.length : Int) (i : Int) p.1 p.2) (finV s (foldI (L.drop i) p)) := by
  induction d with
  | zero =>
    intro i p hi hp
    refine Ev.succ ?_
    simp only [impl_NetRead.l0]
    rw [List.drop_eq_nil_of_le (by omega)]
    show Ev _ (finV s p)
    refine Ev.no (by omega) ?_
    by_cases h0 : s.toList = []
    · exact Ev.yes h0 ((Ev.pure _).value (finV_none (fun h => h.1 h0)).symm)
    · refine Ev.no h0 ?_
      by_cases h1 : (s.size : Int) > 600
      · exact Ev.yes h1 ((Ev.pure _).value (finV_none (fun h => by have := h.2.1; omega)).symm)
      · refine Ev.no h1 (Ev.bind (e_impl_NetWrite p.1 p.2 (by omega)) ?_)
        by_cases h2 : (textV p.1 p.2).toList = s.toList
        · exact Ev.yes h2 ((Ev.pure _).value (finV_some ⟨h0, by omega, ba_list h2⟩).symm)
        · exact Ev.no h2 ((Ev.pure _).value (finV_none (fun h => h2 (by rw [h.2.2]))).symm)
  | succ d ih =>
    intro i p hi hp
    have hlt : i < L.length := by omega
    have hx := hl _ (List.getElem_mem hlt)
    have hne := spl_ne 32 L[i]
    have hlen := spl_len 32 L[i]
    have hpos : 0 < (spl 32 L[i]).length := List.length_pos_iff.2 hne
    obtain ⟨w0, w1, w2⟩ := words_at hne
    have g1 := getD_size (c := 32) (l := L[i]) 1
    have g2 := getD_size (c := 32) (l := L[i]) 2
    have hsp : ∀ k, strings_Split.f k (mkB L[i]) ⟨#[32]⟩ = some ((spl 32 L[i]).map mkB) := fun k => by rw [e_strings_Split (by rw [mkB_size]; omega), data_mkB]
    refine Ev.succ ?_
    simp only [impl_NetRead.l0]
    rw [rdS (by rw [List.length_map]; exact hlt), List.getElem_map, w64s (by omega), drop_cons _ hlt]
    show Ev _ (finV s (foldI (L.drop (i + 1)) (stepI L[i] p)))
    refine Ev.yes (by omega) (Ev.yes (by omega) (Ev.yes (by rw [List.length_map]; omega) ?_))
    simp only [hsp, Option.bind_some]
    rw [w0, w1, w2, mkB_toList]
    have a1 : ∀ k, strconv_Atoi_25.f k (mkB ((spl 32 L[i]).getD 1 [])) = some (atoiN ((spl 32 L[i]).getD 1 [])) := fun k => by rw [e_Atoi (by rw [mkB_size]; omega), data_mkB]
    have a2 : ∀ k, strconv_Atoi_25.f k (mkB ((spl 32 L[i]).getD 2 [])) = some (atoiN ((spl 32 L[i]).getD 2 [])) := fun k => by rw [e_Atoi (by rw [mkB_size]; omega), data_mkB]
    simp only [a1, a2, Option.bind_some]
    have hs := stepI_len L[i] p
    have hih := ih (i + 1) (stepI L[i] p) (by omega) (by omega)
    refine Ev.yes (by simp only [List.length_map, List.length_cons, List.length_nil]; omega) (Ev.yes (by simp only [List.length_append, List.length_map, List.length_cons, List.length_nil]; omega) (Ev.yes (by simp only [List.length_append, List.length_map, List.length_cons, List.length_nil]; omega) (Ev.yes (by simp only [List.length_append, List.length_map, List.length_cons, List.length_nil]; omega) ?_)))
    by_cases c1 : (spl 32 L[i]).headD [] = knotsW
    · have e : stepI L[i] p = (atoiN ((spl 32 L[i]).getD 1 []), p.2) := by unfold stepI; rw [if_pos c1]
      rw [e] at hih ⊢
      exact Ev.yes c1 hih
    · refine Ev.no c1 ?_
      by_cases c2 : (spl 32 L[i]).headD [] = tieW
      · have e : stepI L[i] p = (p.1, p.2 ++ [⟨atoiN ((spl 32 L[i]).getD 1 []), atoiN ((spl 32 L[i]).getD 2 [])⟩]) := by unfold stepI; rw [if_neg c1, if_pos c2]
        rw [e] at hih ⊢
        exact Ev.yes c2 (Ev.yes (by omega) hih)
      · have e : stepI L[i] p = p := by unfold stepI; rw [if_neg c1, if_neg c2]
        rw [e] at hih ⊢
        exact Ev.no c2 hih
theorem lines_bound {s : ByteArray} (hs : s.size ≤ 1048576) : (spl 10 s.data.toList).length ≤ 1048577 ∧ ∀ x ∈ spl 10 s.data.toList, x.length ≤ 1048576 := by
  have hz := size_list s
  have h1 := spl_len 10 s.data.toList
  exact ⟨by omega, fun x hx => by have := spl_size 10 s.data.toList x hx; omega⟩
theorem e_impl_NetRead {s : ByteArray} (hs : s.size ≤ 1048576) : Ev (fun k => impl_NetRead.f k s) (readV s) := by
  have hb := lines_bound hs
  have h := e_impl_NetRead_l0 s (spl 10 s.data.toList) hb.1 hb.2 (spl 10 s.data.toList).length 0 (0, []) (by omega) (by simp only [List.length_nil]; omega)
  simp only [impl_NetRead.f, e_strings_Split (show s.size < 4294967281 by omega), Option.bind_some, List.length_map]
  exact h.value (readI 0)
theorem beq_two (ws : List (List UInt8)) (n : Nat) : (((ws.map mkB).length : Int) == (n : Int)) = decide (ws.length = n) := by
  rw [List.length_map]
  by_cases h : ws.length = n
  · rw [decide_eq_true h, h]; simp
  · rw [decide_eq_false h]; simp; omega
theorem e_spec_NetRead_j2f {s : ByteArray} {X ws : List ByteArray} {i : Int} {p : Int × List STie} {R : Int × List STie × Bool} (h : Ev (fun k => spec_NetRead.l0 k s X (wrap64 (i + 1)) p.1 p.2) R) : Ev (fun k => spec_NetRead.j2 k s X i ws false p.1 p.2) R := by
  refine Ev.succ ?_
  simp only [spec_NetRead.j2]
  exact Ev.no (by simp) h
theorem e_spec_NetRead_j1f {s : ByteArray} {X : List ByteArray} {ws : List (List UInt8)} {w : List UInt8} (hw : ws.headD [] = w) (hn : ws ≠ []) {i : Int} {p : Int × List STie} {R : Int × List STie × Bool} (h : w = tieW → Ev (fun k => spec_NetRead.j2 k s X i (ws.map mkB) (decide (ws.length = 3)) p.1 p.2) R) (h' : w ≠ tieW → Ev (fun k => spec_NetRead.l0 k s X (wrap64 (i + 1)) p.1 p.2) R) :
    Ev (fun k => spec_NetRead.j1 k s X i (ws.map mkB) false p.1 p.2) R := by
  have e0 : rdOf ByteArray.empty (ws.map mkB) 0 = mkB w := by
    cases ws with
    | nil => exact absurd rfl hn
    | cons a t => rw [← hw]; rfl
  refine Ev.succ ?_
  simp only [spec_NetRead.j1]
  rw [e0, mkB_toList]
  refine Ev.no (by simp) (Ev.yes (by rw [List.length_map]; have := List.length_pos_iff.2 hn; omega) ?_)
  have e3 : (((ws.map mkB).length : Int) == 3) = decide (ws.length = 3) := beq_two ws 3
  rw [e3]
  by_cases c : w = tieW
  · exact Ev.yes c (h c)
  · exact Ev.no c (e_spec_NetRead_j2f (h' c))
theorem e_spec_NetRead_l0 {s : ByteArray} (hz : s.size ≤ 600) (L : List (List UInt8)) (hL : L.length ≤ 1048577) (hl : ∀ x ∈ L, x.length ≤ 1048576) (d : Nat) : ∀ (i : Nat) (p : Int × List STie), i + d = L.length → p.2.length + d ≤ 1099511627776 →
    Ev (fun k => spec_NetRead.l0 k s (L.map mkB) (i : Int) p.1 p.2) (finV s (foldS (L.drop i) p)) := by
  induction d with
  | zero =>
    intro i p hi hp
    refine Ev.succ ?_
    simp only [spec_NetRead.l0]
    rw [List.drop_eq_nil_of_le (by omega)]
    show Ev _ (finV s p)
    refine Ev.no (by rw [List.length_map]; omega) ?_
    by_cases h0 : s.toList = []
    · exact Ev.yes h0 ((Ev.pure _).value (finV_none (fun h => h.1 h0)).symm)
    · refine Ev.no h0 (Ev.bind (e_spec_NetWrite p.1 p.2) ?_)
      by_cases h2 : (textV p.1 p.2).toList = s.toList
      · exact Ev.yes h2 ((Ev.pure _).value (finV_some ⟨h0, hz, ba_list h2⟩).symm)
      · exact Ev.no h2 ((Ev.pure _).value (finV_none (fun h => h2 (by rw [h.2.2]))).symm)
  | succ d ih =>
    intro i p hi hp
    have hlt : i < L.length := by omega
    have hx := hl _ (List.getElem_mem hlt)
    have hne := spl_ne 32 L[i]
    have hsp : Ev (fun k => spec_l1Split.f k (mkB L[i]) 32) ((spl 32 L[i]).map mkB) := by
      have := e_spec_l1Split (s := mkB L[i]) (by rw [mkB_size]; omega) (c := 32) (n := 32) rfl
      rwa [data_mkB] at this
    have hs := stepS_len L[i] p
    have hih := ih (i + 1) (stepS L[i] p) (by omega) (by omega)
    have hw : wrap64 ((i : Int) + 1) = ((i + 1 : Nat) : Int) := w64s (by omega)
    refine Ev.succ ?_
    simp only [spec_NetRead.l0]
    rw [rdS (by rw [List.length_map]; exact hlt), List.getElem_map, drop_cons _ hlt]
    show Ev _ (finV s (foldS (L.drop (i + 1)) (stepS L[i] p)))
    refine Ev.yes (by rw [List.length_map]; omega) (Ev.yes (by omega) (Ev.bind hsp ?_))
    generalize hR : finV s (foldS (L.drop (i + 1)) (stepS L[i] p)) = R at *
    rw [← hw] at hih
    unfold stepS at hih
    have e2 : ((((spl 32 L[i]).map mkB).length : Int) == 2) = decide ((spl 32 L[i]).length = 2) := beq_two _ 2
    rw [e2]
    generalize spl 32 L[i] = ws at *
    match ws, hne with
    | [a], _ =>
      simp only at hih
      have e0 : rdOf ByteArray.empty ([a].map mkB) 0 = mkB a := rfl
      rw [e0, mkB_toList]
      refine Ev.yes (by simp) ?_
      by_cases c : a = knotsW
      · exact Ev.yes c (e_spec_NetRead_j1f (w := a) rfl (by simp) (fun _ => e_spec_NetRead_j2f hih) (fun _ => hih))
      · exact Ev.no c (e_spec_NetRead_j1f (w := a) rfl (by simp) (fun _ => e_spec_NetRead_j2f hih) (fun _ => hih))
    | [a, b], _ =>
      simp only at hih
      have e0 : rdOf ByteArray.empty ([a, b].map mkB) 0 = mkB a := rfl
      rw [e0, mkB_toList]
      refine Ev.yes (by simp) ?_
      by_cases c : a = knotsW
      · rw [if_pos c] at hih
        refine Ev.yes c (Ev.succ ?_)
        simp only [spec_NetRead.j1]
        have e1 : rdOf ByteArray.empty ([a, b].map mkB) 1 = mkB b := rfl
        rw [e1]
        exact Ev.yes (by simp) (Ev.yes (by simp) (Ev.bind (Ev.const (e_spec_l1Dec _)) hih))
      · rw [if_neg c] at hih
        exact Ev.no c (e_spec_NetRead_j1f (w := a) rfl (by simp) (fun _ => e_spec_NetRead_j2f hih) (fun _ => hih))
    | [a, b, c0], _ =>
      simp only at hih
      have e0 : rdOf ByteArray.empty ([a, b, c0].map mkB) 0 = mkB a := rfl
      have e1 : rdOf ByteArray.empty ([a, b, c0].map mkB) 1 = mkB b := rfl
      have e3 : rdOf ByteArray.empty ([a, b, c0].map mkB) 2 = mkB c0 := rfl
      have key : Ev (fun k => spec_NetRead.j1 k s (L.map mkB) (i : Int) ([a, b, c0].map mkB) false p.1 p.2) R := by
        refine e_spec_NetRead_j1f (w := a) rfl (by simp) (fun c => ?_) (fun c => ?_)
        · rw [if_pos c] at hih
          refine Ev.succ ?_
          simp only [spec_NetRead.j2]
          rw [e1, e3]
          exact Ev.yes (by simp) (Ev.yes (by simp) (Ev.bind (Ev.const (e_spec_l1Dec _)) (Ev.yes (by simp) (Ev.bind (Ev.const (e_spec_l1Dec _)) (Ev.yes (by omega) hih)))))
        · rw [if_neg c] at hih; exact hih
      rw [e0, mkB_toList]
      refine Ev.yes (by simp) ?_
      by_cases c : a = knotsW
      · exact Ev.yes c key
      · exact Ev.no c key
    | a :: b :: c0 :: d0 :: t, _ =>
      simp only at hih
      have e0 : rdOf ByteArray.empty ((a :: b :: c0 :: d0 :: t).map mkB) 0 = mkB a := rfl
      have f2 : decide ((a :: b :: c0 :: d0 :: t).length = 2) = false := by simp
      have f3 : decide ((a :: b :: c0 :: d0 :: t).length = 3) = false := by simp
      have key : Ev (fun k => spec_NetRead.j1 k s (L.map mkB) (i : Int) ((a :: b :: c0 :: d0 :: t).map mkB) false p.1 p.2) R :=
        e_spec_NetRead_j1f (w := a) rfl (by simp) (fun _ => by rw [f3]; exact e_spec_NetRead_j2f hih) (fun _ => hih)
      rw [e0, mkB_toList, f2]
      refine Ev.yes (by simp; omega) ?_
      by_cases c : a = knotsW
      · exact Ev.yes c key
      · exact Ev.no c key
theorem e_spec_NetRead (s : ByteArray) : Ev (fun k => spec_NetRead.f k s) (readV s) := by
  simp only [spec_NetRead.f]
  by_cases h : (s.size : Int) > 600
  · refine Ev.yes h ((Ev.pure _).value ?_)
    rw [readV_no]
    rintro ⟨p, hp, hs⟩
    have := (textV_size hp).1
    rw [hs] at this
    omega
  · have hb := lines_bound (s := s) (by omega)
    exact Ev.no h (Ev.bind (e_spec_l1Split (c := 10) (by omega) rfl) ((e_spec_NetRead_l0 (by omega) (spl 10 s.data.toList) hb.1 hb.2 (spl 10 s.data.toList).length 0 (-1, []) (by omega) (by simp only [List.length_nil]; omega)).value (readS (-1))))
end Go.Proofs.YtloonheabfdgbaaDoor.E
end
section
namespace Go.Proofs.YtloonheabfdgbaaDoor.E
open Go.RowKit Go.Proofs.YtloonheabfdgbaaDoorW.PrintWords Go.Proofs.YtloonheabfdgbaaDoorW.PrintMore Go.Proofs.YtloonheabfdgbaaDoor.P Osier
set_option linter.unusedVariables false
theorem e_spec_l6Many_l0 (d : Nat) : ∀ (n : Int) (x y : ByteArray), 0 ≤ n → n < 2 ^ d → n ≤ 1000 → x.size * 2 ^ d ≤ 100000 → y.size ≤ x.size → ∃ s, Ev (fun k => spec_l6Many.l0 k x n y) s ∧ s.size ≤ 100000 := by
  induction d with
  | zero =>
    intro n x y h0 hn hm hx hy
    refine ⟨y, ?_, by omega⟩
    refine Ev.succ ?_
    simp only [spec_l6Many.l0]
    exact Ev.no (by omega) (Ev.pure _)
  | succ d ih =>
    intro n x y h0 hn hm hx hy
    have hle : x.size ≤ x.size * 2 ^ (d + 1) := Nat.le_mul_of_pos_right _ (Nat.pow_pos (by omega))
    by_cases c : n > 0
    · have hd : Int.tdiv n 2 = n / 2 := Int.tdiv_eq_ediv_of_nonneg h0
      have e2 : (x ++ x).size * 2 ^ d ≤ 100000 := by
        rw [ByteArray.size_append, ← Nat.two_mul, Nat.mul_comm 2, Nat.mul_assoc, Nat.mul_comm 2, ← Nat.pow_succ]; exact hx
      have hp : (2 : Int) ^ (d + 1) = 2 ^ d * 2 := Int.pow_succ ..
      have hh : n / 2 < 2 ^ d := by omega
      have hw : wrap64 (Int.tdiv n 2) = n / 2 := by rw [hd]; exact w64 (by omega) (by omega)
      by_cases c1 : Int.tmod n 2 = 1
      · obtain ⟨s, hs, hz⟩ := ih (n / 2) (x ++ x) (y ++ x) (by omega) hh (by omega) e2 (by rw [ByteArray.size_append, ByteArray.size_append]; omega)
        refine ⟨s, ?_, hz⟩
        refine Ev.succ ?_
        simp only [spec_l6Many.l0]
        rw [hw]
        exact Ev.yes c (Ev.yes c1 (Ev.yes (by omega) (Ev.yes (by omega) hs)))
      · obtain ⟨s, hs, hz⟩ := ih (n / 2) (x ++ x) y (by omega) hh (by omega) e2 (by rw [ByteArray.size_append]; omega)
        refine ⟨s, ?_, hz⟩
        refine Ev.succ ?_
        simp only [spec_l6Many.l0]
        rw [hw]
        exact Ev.yes c (Ev.no c1 (Ev.yes (by omega) hs))
    · refine ⟨y, ?_, by omega⟩
      refine Ev.succ ?_
      simp only [spec_l6Many.l0]
      exact Ev.no c (Ev.pure _)
theorem e_spec_l6Rd_of {xs : List Int} (hs : Src xs) {p : Int} (hp : 0 ≤ p) (hp' : p < 1099511627776) (L : List ByteArray) (h0 : 0 < L.length) (hL : L.length ≤ 100) : ∃ x, x ∈ L ∧ Ev (fun k => spec_l6Rd_of.f k xs p L) (x, p + 1) := by
  obtain ⟨v, hv, h1, h2, _⟩ := e_spec_l6Rd_pick hs hp hp' (L.length : Int) (by omega)
  obtain ⟨n, rfl⟩ := Int.eq_ofNat_of_zero_le h1
  have hn : n < L.length := by have := h2 (by omega); omega
  refine ⟨L[n], List.getElem_mem hn, ?_⟩
  simp only [spec_l6Rd_of.f]
  refine Ev.bind hv (Ev.yes (by omega) (Ev.yes (by dsimp only; omega) ((Ev.pure _).value ?_)))
  rw [rdS hn]
theorem e_spec_DrawNetRead {l : List Int} (hl : ∀ x ∈ l, (Lit.int .u8 x).wf = true) : ∃ s, Ev (fun k => spec_DrawNetRead.f k l) s ∧ s.size ≤ 1048576 := by
  obtain ⟨xs, ho, hs⟩ := e_spec_l6Open hl
  obtain ⟨K, E, q, hq, hE, hq0, hq1⟩ := e_spec_l71Net hs (p := 0) (by omega) (by omega)
  have hl64 := hE.len
  have hz : (textV K E).size = 8 + 8 * E.length := by
    unfold textV
    rw [if_pos (dec_true hE), lines_size, head_size]
  obtain ⟨v0, hv0, _, _, _⟩ := e_spec_l6Rd_pick hs (p := q) (by omega) (by omega) 2 (by omega)
  have hW := e_spec_NetWrite K E
  have hz0 : 1 ≤ (textV K E).size ∧ (textV K E).size ≤ 520 := by omega
  clear hz
  generalize textV K E = t at hW hz0
  obtain ⟨N1, h1⟩ := hq
  obtain ⟨N2, h2⟩ := hW
  obtain ⟨N3, h3⟩ := hv0
  dsimp only at h1 h2 h3
  by_cases c0 : v0 = 0
  · exact ⟨t, ⟨N1 + N2 + N3, fun k hk => by show spec_DrawNetRead.f k l = _; unfold spec_DrawNetRead.f; rw [ho, Option.bind_some]; dsimp only [Prod.fst, Prod.snd]; rw [h1 k (by omega), Option.bind_some]; rw [h2 k (by omega), Option.bind_some]; rw [h3 k (by omega), Option.bind_some]; rw [if_pos c0]⟩, by omega⟩
  · obtain ⟨v1, hv1, w1, x1, _⟩ := e_spec_l6Rd_pick hs (p := q + 1) (by omega) (by omega) (t.size : Int) (by omega)
    obtain ⟨v2, hv2, w2, x2, _⟩ := e_spec_l6Rd_pick hs (p := q + 1 + 1) (by omega) (by omega) 6 (by omega)
    have x1' := x1 (by omega)
    obtain ⟨n, rfl⟩ := Int.eq_ofNat_of_zero_le w1
    have hw : wrap64 ((n : Int) + 1) = ((n + 1 : Nat) : Int) := w64s (by omega)
    obtain ⟨N4, h4⟩ := hv1
    obtain ⟨N5, h5⟩ := hv2
    dsimp only at h4 h5
    by_cases d0 : v2 = 0
    · refine ⟨(t.extract 0 n ++ t.extract (n + 1) t.size), ⟨N1 + N2 + N3 + N4 + N5, fun k hk => ?_⟩, ?_⟩
      · show spec_DrawNetRead.f k l = _; unfold spec_DrawNetRead.f; rw [ho, Option.bind_some]; dsimp only [Prod.fst, Prod.snd]; rw [h1 k (by omega), Option.bind_some]; rw [h2 k (by omega), Option.bind_some]; rw [h3 k (by omega), Option.bind_some]; rw [if_neg c0]; rw [h4 k (by omega), Option.bind_some]; rw [h5 k (by omega), Option.bind_some]; rw [if_pos d0]; rw [hw]; rw [Int.toNat_natCast, Int.toNat_natCast]; rw [if_pos w1, if_pos (by omega), if_pos (by omega), if_pos (by omega), if_pos (by simp only [ByteArray.size_extract]; omega)]
      · simp only [ByteArray.size_append, ByteArray.size_extract]; omega
    by_cases d1 : v2 = 1
    · obtain ⟨x, hx, N6, h6⟩ := e_spec_l6Rd_of hs (p := q + 1 + 1 + 1) (by omega) (by omega) [(⟨#[32]⟩ : ByteArray), (⟨#[10]⟩ : ByteArray), (⟨#[48]⟩ : ByteArray), (⟨#[116, 105, 101, 32, 48, 32, 49, 10]⟩ : ByteArray), (⟨#[57]⟩ : ByteArray)] (by simp) (by simp)
      dsimp only at h6
      have hxz : x.size ≤ 100 := by
        simp only [List.mem_cons, List.mem_nil_iff, or_false] at hx
        rcases hx with rfl | rfl | rfl | rfl | rfl <;> decide
      refine ⟨((t.extract 0 n ++ x) ++ t.extract n t.size), ⟨N1 + N2 + N3 + N4 + N5 + N6, fun k hk => ?_⟩, ?_⟩
      · show spec_DrawNetRead.f k l = _; unfold spec_DrawNetRead.f; rw [ho, Option.bind_some]; dsimp only [Prod.fst, Prod.snd]; rw [h1 k (by omega), Option.bind_some]; rw [h2 k (by omega), Option.bind_some]; rw [h3 k (by omega), Option.bind_some]; rw [if_neg c0]; rw [h4 k (by omega), Option.bind_some]; rw [h5 k (by omega), Option.bind_some]; rw [if_neg d0]; rw [if_pos d1]; rw [Int.toNat_natCast]; rw [if_pos w1, if_pos (by omega)]; rw [h6 k (by omega), Option.bind_some]; rw [if_pos (by simp only [ByteArray.size_extract]; omega), if_pos (by simp only [ByteArray.size_append, ByteArray.size_extract]; omega)]
      · simp only [ByteArray.size_append, ByteArray.size_extract]; omega
    by_cases d2 : v2 = 2
    · refine ⟨(t ++ t), ⟨N1 + N2 + N3 + N4 + N5, fun k hk => ?_⟩, ?_⟩
      · show spec_DrawNetRead.f k l = _; unfold spec_DrawNetRead.f; rw [ho, Option.bind_some]; dsimp only [Prod.fst, Prod.snd]; rw [h1 k (by omega), Option.bind_some]; rw [h2 k (by omega), Option.bind_some]; rw [h3 k (by omega), Option.bind_some]; rw [if_neg c0]; rw [h4 k (by omega), Option.bind_some]; rw [h5 k (by omega), Option.bind_some]; rw [if_neg d0]; rw [if_neg d1]; rw [if_pos d2]; rw [if_pos (by omega)]
      · simp only [ByteArray.size_append]; omega
    by_cases d3 : v2 = 3
    · refine ⟨t.extract 0 n, ⟨N1 + N2 + N3 + N4 + N5, fun k hk => ?_⟩, ?_⟩
      · show spec_DrawNetRead.f k l = _; unfold spec_DrawNetRead.f; rw [ho, Option.bind_some]; dsimp only [Prod.fst, Prod.snd]; rw [h1 k (by omega), Option.bind_some]; rw [h2 k (by omega), Option.bind_some]; rw [h3 k (by omega), Option.bind_some]; rw [if_neg c0]; rw [h4 k (by omega), Option.bind_some]; rw [h5 k (by omega), Option.bind_some]; rw [if_neg d0]; rw [if_neg d1]; rw [if_neg d2]; rw [if_pos d3]; rw [Int.toNat_natCast]; rw [if_pos w1, if_pos (by omega)]
      · simp only [ByteArray.size_extract]; omega
    by_cases d4 : v2 = 4
    · obtain ⟨x, hx, N6, h6⟩ := e_spec_l6Rd_of hs (p := q + 1 + 1 + 1) (by omega) (by omega) [(⟨#[116, 105, 101, 32, 48, 32, 48, 10]⟩ : ByteArray), (⟨#[116, 105, 101, 32, 49, 32, 48, 10]⟩ : ByteArray), (⟨#[116, 105, 101, 32, 48, 32, 57, 10]⟩ : ByteArray), (⟨#[116, 105, 101, 32, 54, 32, 55, 10]⟩ : ByteArray), (⟨#[107, 110, 111, 116, 115, 32, 51, 10]⟩ : ByteArray)] (by simp) (by simp)
      dsimp only at h6
      have hxz : x.size ≤ 100 := by
        simp only [List.mem_cons, List.mem_nil_iff, or_false] at hx
        rcases hx with rfl | rfl | rfl | rfl | rfl <;> decide
      refine ⟨(t ++ x), ⟨N1 + N2 + N3 + N4 + N5 + N6, fun k hk => ?_⟩, ?_⟩
      · show spec_DrawNetRead.f k l = _; unfold spec_DrawNetRead.f; rw [ho, Option.bind_some]; dsimp only [Prod.fst, Prod.snd]; rw [h1 k (by omega), Option.bind_some]; rw [h2 k (by omega), Option.bind_some]; rw [h3 k (by omega), Option.bind_some]; rw [if_neg c0]; rw [h4 k (by omega), Option.bind_some]; rw [h5 k (by omega), Option.bind_some]; rw [if_neg d0]; rw [if_neg d1]; rw [if_neg d2]; rw [if_neg d3]; rw [if_pos d4]; rw [h6 k (by omega), Option.bind_some]; rw [if_pos (show t.size + x.size ≤ 9223372036854775807 from by omega)]
      · simp only [ByteArray.size_append]; omega
    · obtain ⟨m, ⟨N7, h7⟩, hmz⟩ := e_spec_l6Many_l0 10 601 (⟨#[32]⟩ : ByteArray) (⟨#[]⟩ : ByteArray) (by omega) (by decide) (by omega) (by decide) (by decide)
      obtain ⟨x, hx, N6, h6⟩ := e_spec_l6Rd_of hs (p := q + 1 + 1 + 1) (by omega) (by omega) [(⟨#[]⟩ : ByteArray), (⟨#[107, 110, 111, 116, 115, 32, 48, 10]⟩ : ByteArray), (⟨#[107, 110, 111, 116, 115, 32, 56, 10]⟩ : ByteArray), (⟨#[107, 110, 111, 116, 115, 32, 57, 10]⟩ : ByteArray), (⟨#[107, 110, 111, 116, 115, 32, 48, 51, 10]⟩ : ByteArray), (⟨#[116, 105, 101, 32, 48, 32, 49, 10]⟩ : ByteArray), (⟨#[107, 110, 111, 116, 115, 32, 50, 10, 116, 105, 101, 32, 48, 32, 49]⟩ : ByteArray), m] (by simp) (by simp)
      dsimp only at h6 h7
      have hxz : x.size ≤ 100000 := by
        simp only [List.mem_cons, List.mem_nil_iff, or_false] at hx
        rcases hx with rfl | rfl | rfl | rfl | rfl | rfl | rfl | rfl
        all_goals first | exact hmz | decide
      have h8 : ∀ k, N7 ≤ k → spec_l6Many.f k (⟨#[32]⟩ : ByteArray) 601 = some m := fun k hk => by unfold spec_l6Many.f; exact h7 k hk
      refine ⟨x, ⟨N1 + N2 + N3 + N4 + N5 + N6 + N7, fun k hk => ?_⟩, ?_⟩
      · show spec_DrawNetRead.f k l = _; unfold spec_DrawNetRead.f; rw [ho, Option.bind_some]; dsimp only [Prod.fst, Prod.snd]; rw [h1 k (by omega), Option.bind_some]; rw [h2 k (by omega), Option.bind_some]; rw [h3 k (by omega), Option.bind_some]; rw [if_neg c0]; rw [h4 k (by omega), Option.bind_some]; rw [h5 k (by omega), Option.bind_some]; rw [if_neg d0]; rw [if_neg d1]; rw [if_neg d2]; rw [if_neg d3]; rw [if_neg d4]; rw [h8 k (by omega), Option.bind_some]; rw [h6 k (by omega), Option.bind_some]
      · omega
theorem FnNetStrict (l : List Int) (hl : l.length ≤ maxLen) (hw : ∀ x ∈ l, (Lit.int .u8 x).wf = true) : ∃ k, laws_FnNetStrict.f k l = some true := by
  refine Ev.get ?_
  simp only [laws_FnNetStrict.f]
  by_cases h : (l.length : Int) > 1048576
  · exact Ev.yes h (Ev.pure _)
  · obtain ⟨s, hd, hz⟩ := e_spec_DrawNetRead hw
    have hr := e_impl_NetRead hz
    have hlen : (readV s).2.1.length ≤ 64 := by
      by_cases g : ∃ p : Int × List STie, Ok p.1 p.2 ∧ textV p.1 p.2 = s
      · obtain ⟨⟨K, E⟩, hE, rfl⟩ := g
        rw [readV_yes hE]; exact hE.len
      · rw [readV_no g]; simp
    refine Ev.no h (Ev.bind hd (Ev.bind (e_spec_NetRead s) (Ev.bind hr (Ev.no (by simp) (Ev.bind (e_laws_loNet_same _ _ (by omega)) (Ev.succ ?_))))))
    simp only [laws_FnNetStrict.j0]
    refine Ev.no (by simp) ?_
    by_cases g : ∃ p : Int × List STie, Ok p.1 p.2 ∧ textV p.1 p.2 = s
    · obtain ⟨⟨K, E⟩, hE, rfl⟩ := g
      have hE' : Ok K E := hE
      have hlE := hE'.len
      rw [readV_yes hE']
      exact Ev.yes (by trivial) (Ev.bind (e_impl_NetOk K E (by omega)) (Ev.yes (dec_true hE') (Ev.bind (e_impl_NetWrite K E (by omega)) ((Ev.pure _).value (by simp)))))
    · rw [readV_no g]
      exact Ev.no (by simp) (Ev.yes (by simp) (Ev.pure _))
end Go.Proofs.YtloonheabfdgbaaDoor.E
end
