/- Rows of numbers, and ways. -/
import Derived.Test.YtheoebelhgbejaaE2
import Derived.Test.YtheoebelhgbejaaE3
namespace Go.Proofs.Ytheoebelhgbejaa.E
open Go.RowKit Go.Proofs.YtheoebelhgbejaaW.PrintWords Go.Proofs.YtheoebelhgbejaaW.PrintMore Go.Proofs.Ytheoebelhgbejaa.P Osier
set_option linter.unusedVariables false

theorem mem_drop_int {l : List Int} {i : Nat} (hi : i < l.length) (t : Int) : t ∈ l.drop i ↔ l[i] = t ∨ t ∈ l.drop (i + 1) := by
  rw [drop_cons _ hi, List.mem_cons]
  exact or_congr eq_comm Iff.rfl
theorem e_spec_l2Has_l0 (l : List Int) (x : Int) (hl : l.length < 4611686018427387904) (d : Nat) : ∀ i, i + d = l.length → Ev (fun k => spec_l2Has.l0 k l x (i : Int)) (dec (x ∈ l.drop i)) := by
  induction d with
  | zero =>
    intro i hi
    refine Ev.succ ?_
    simp only [spec_l2Has.l0]
    refine Ev.no (by omega) ?_
    rw [List.drop_eq_nil_of_le (by omega), dec_false (by simp)]
    exact Ev.pure _
  | succ d ih =>
    intro i hi
    have hlt : i < l.length := by omega
    refine Ev.succ ?_
    simp only [spec_l2Has.l0]
    rw [rdI hlt, w64s (by omega), dec_congr (mem_drop_int hlt _)]
    refine Ev.yes (by omega) (Ev.yes (by omega) ?_)
    by_cases h : l[i] = x
    · refine Ev.yes h ?_
      rw [dec_true (.inl h)]; exact Ev.pure _
    · exact Ev.no h ((ih (i + 1) (by omega)).value (dec_congr ⟨.inr, fun k => k.resolve_left h⟩))
theorem e_spec_l2Has (l : List Int) (x : Int) (hl : l.length < 4611686018427387904) : Ev (fun k => spec_l2Has.f k l x) (dec (x ∈ l)) := by
  simp only [spec_l2Has.f]
  exact (e_spec_l2Has_l0 l x hl l.length 0 (by omega)).value (by simp)
theorem e_slices_Index_int_l0 (l : List Int) (x : Int) (hl : l.length < 4611686018427387904) (d : Nat) : ∀ i, i + d = l.length → ∃ r, Ev (fun k => slices_Index_int.l0 k l x (l.length : Int) (i : Int)) r ∧ (r ≥ 0 ↔ x ∈ l.drop i) := by
  induction d with
  | zero =>
    intro i hi
    refine ⟨-1, Ev.succ ?_, ?_⟩
    · simp only [slices_Index_int.l0]
      exact Ev.no (by omega) (Ev.pure _)
    · rw [List.drop_eq_nil_of_le (by omega)]; simp
  | succ d ih =>
    intro i hi
    have hlt : i < l.length := by omega
    by_cases h : x = l[i]
    · refine ⟨(i : Int), Ev.succ ?_, ?_⟩
      · simp only [slices_Index_int.l0]
        rw [rdI hlt]
        exact Ev.yes (by omega) (Ev.yes (by omega) (Ev.yes (by omega) (Ev.yes h (Ev.pure _))))
      · rw [mem_drop_int hlt]
        exact ⟨fun _ => .inl h.symm, fun _ => by omega⟩
    · obtain ⟨r, hr, hr'⟩ := ih (i + 1) (by omega)
      refine ⟨r, Ev.succ ?_, ?_⟩
      · simp only [slices_Index_int.l0]
        rw [rdI hlt, w64s (by omega)]
        exact Ev.yes (by omega) (Ev.yes (by omega) (Ev.yes (by omega) (Ev.no h hr)))
      · rw [mem_drop_int hlt, hr']
        exact ⟨.inr, fun k => k.resolve_left (fun e => h e.symm)⟩
theorem e_slices_Contains_int (l : List Int) (x : Int) (hl : l.length < 4611686018427387904) : Ev (fun k => slices_Contains_int.f k l x) (dec (x ∈ l)) := by
  simp only [slices_Contains_int.f, slices_Index_int.f]
  obtain ⟨r, hr, hr'⟩ := e_slices_Index_int_l0 l x hl l.length 0 (by omega)
  refine Ev.bind hr ((Ev.pure _).value ?_)
  rw [dec_decide]
  exact dec_congr (by simpa using hr')
theorem e_laws_eqIntS_l0 (a b : List Int) (hl : a.length = b.length) (ha : a.length < 4611686018427387904) (d : Nat) : ∀ i, i + d = a.length → Ev (fun k => laws_eqIntS.l0 k a b (i : Int)) (dec (∀ j (h : j < a.length), i ≤ j → a[j] = b[j])) := by
  induction d with
  | zero =>
    intro i hi
    refine Ev.succ ?_
    simp only [laws_eqIntS.l0]
    refine Ev.no (by omega) ?_
    rw [dec_true (fun j h hij => by omega)]
    exact Ev.pure _
  | succ d ih =>
    intro i hi
    have hlt : i < a.length := by omega
    refine Ev.succ ?_
    simp only [laws_eqIntS.l0]
    refine Ev.yes (by omega) (Ev.yes (by omega) (Ev.yes (by omega) ?_))
    rw [rdI hlt, rdI (show i < b.length by omega), w64s (by omega)]
    by_cases h : a[i] = b[i]
    · refine Ev.yes h ((ih (i + 1) (by omega)).value (dec_congr ⟨fun h' j hj hij => ?_, fun h' j hj hij => h' j hj (by omega)⟩))
      rcases Nat.eq_or_lt_of_le hij with rfl | h5
      · exact h
      · exact h' j hj h5
    · refine Ev.no h ?_
      rw [dec_false (fun h' => h (h' i hlt (Nat.le_refl _)))]
      exact Ev.pure _
theorem e_laws_eqIntS (a b : List Int) (ha : a.length < 4611686018427387904) : Ev (fun k => laws_eqIntS.f k a b) (dec (a = b)) := by
  simp only [laws_eqIntS.f]
  by_cases hl : a.length = b.length
  · refine Ev.yes (by omega) ((e_laws_eqIntS_l0 a b hl ha a.length 0 (by omega)).value (dec_congr ?_))
    rw [list_eq_iff hl]
    exact ⟨fun h j hj => h j hj (Nat.zero_le _), fun h j hj _ => h j hj⟩
  · refine Ev.no (by omega) ?_
    rw [dec_false (fun e => hl (by rw [e]))]
    exact Ev.pure _

/-! ### Ways, place by place -/
theorem walk_iff (E : List STie) (w : List Int) : Walk E w ↔ ∀ j (h : j < w.length), 0 < j → Ed E w[j - 1] w[j] := by
  induction w with
  | nil => exact ⟨fun _ j h => by simp at h, fun _ => trivial⟩
  | cons a w ih =>
    cases w with
    | nil => exact ⟨fun _ j h h0 => by simp at h; omega, fun _ => trivial⟩
    | cons b w =>
      constructor
      · rintro ⟨h1, h2⟩ j hj h0
        obtain ⟨m, rfl⟩ : ∃ m, j = m + 1 := ⟨j - 1, by omega⟩
        cases m with
        | zero => exact h1
        | succ m => exact (ih.1 h2) (m + 1) (by simpa using hj) (by omega)
      · intro h
        refine ⟨h 1 (by simp) (by omega), ih.2 (fun j hj h0 => ?_)⟩
        obtain ⟨m, rfl⟩ : ∃ m, j = m + 1 := ⟨j - 1, by omega⟩
        exact h (m + 2) (by simpa using hj) (by omega)
theorem nodup_iff_take (w : List Int) : w.Nodup ↔ ∀ j (h : j < w.length), w[j] ∉ w.take j := by
  unfold List.Nodup
  rw [List.pairwise_iff_getElem]
  constructor
  · intro h j hj hm
    obtain ⟨i, hi, he⟩ := List.getElem_of_mem hm
    simp only [List.length_take] at hi
    rw [List.getElem_take] at he
    exact h i j (by omega) hj (by omega) he
  · intro h i j hi hj hij he
    refine h j hj ?_
    rw [← he]
    have : i < (w.take j).length := by simp only [List.length_take]; omega
    have h2 := List.getElem_mem this
    rwa [List.getElem_take] at h2
theorem way_iff {K : Int} {E : List STie} (hE : Ok K E) (w : List Int) : Pth K E w ↔ 0 < w.length ∧ ∀ j (h : j < w.length), (0 ≤ w[j] ∧ w[j] < K) ∧ w[j] ∉ w.take j ∧ (0 < j → mkT w[j - 1] w[j] ∈ E) := by
  constructor
  · intro h
    refine ⟨List.length_pos_iff.2 h.ne, fun j hj => ⟨h.in_ _ (List.getElem_mem hj), (nodup_iff_take w).1 h.nodup j hj, fun h0 => hE.ed.1 ((walk_iff E w).1 h.walk j hj h0)⟩⟩
  · rintro ⟨h0, h⟩
    refine ⟨List.length_pos_iff.1 h0, fun v hv => ?_, (walk_iff E w).2 (fun j hj h0 => hE.ed.2 ((h j hj).2.2 h0)), (nodup_iff_take w).2 (fun j hj => (h j hj).2.1)⟩
    obtain ⟨j, hj, rfl⟩ := List.getElem_of_mem hv
    exact (h j hj).1

theorem e_impl_different_l0 (l : List Int) (hl : l.length < 4611686018427387904) (d : Nat) : ∀ i, i + d = l.length → Ev (fun k => impl_different.l0 k l l (l.length : Int) (i : Int)) (dec (∀ j (h : j < l.length), i ≤ j → l[j] ∉ l.take j)) := by
  induction d with
  | zero =>
    intro i hi
    refine Ev.succ ?_
    simp only [impl_different.l0]
    refine Ev.no (by omega) ?_
    rw [dec_true (fun j h hij => by omega)]
    exact Ev.pure _
  | succ d ih =>
    intro i hi
    have hlt : i < l.length := by omega
    refine Ev.succ ?_
    simp only [impl_different.l0]
    rw [rdI hlt, w64s (by omega), Int.toNat_natCast]
    refine Ev.yes (by omega) (Ev.yes (by omega) (Ev.yes (by omega) (Ev.yes (by omega) (Ev.bind (e_slices_Contains_int _ _ (by simp; omega)) ?_))))
    by_cases h : l[i] ∈ l.take i
    · refine Ev.yes (dec_true h) ?_
      rw [dec_false (fun h' => h' i hlt (Nat.le_refl _) h)]
      exact Ev.pure _
    · refine Ev.no (by rw [dec_false h]; simp) ((ih (i + 1) (by omega)).value (dec_congr ⟨fun h' j hj hij => ?_, fun h' j hj hij => h' j hj (by omega)⟩))
      rcases Nat.eq_or_lt_of_le hij with rfl | h5
      · exact h
      · exact h' j hj h5
theorem e_impl_different (l : List Int) (hl : l.length < 4611686018427387904) : Ev (fun k => impl_different.f k l) (dec (l.Nodup)) := by
  simp only [impl_different.f]
  refine (e_impl_different_l0 l hl l.length 0 (by omega)).value (dec_congr ?_)
  rw [nodup_iff_take]
  exact ⟨fun h j hj => h j hj (Nat.zero_le _), fun h j hj _ => h j hj⟩
theorem e_impl_Net_walk_l0 (K : Int) (E : List STie) (l : List Int) (hE : E.length < 4611686018427387904) (hl : l.length < 4611686018427387904) (d : Nat) : ∀ i, i + d = l.length → Ev (fun k => impl_Net_walk.l0 k l l (l.length : Int) (i : Int) K E) (dec (∀ j (h : j < l.length), i ≤ j → (0 ≤ l[j] ∧ l[j] < K) ∧ (0 < j → mkT l[j - 1] l[j] ∈ E))) := by
  induction d with
  | zero =>
    intro i hi
    refine Ev.succ ?_
    simp only [impl_Net_walk.l0]
    refine Ev.no (by omega) ?_
    rw [dec_true (fun j h hij => by omega)]
    exact Ev.pure _
  | succ d ih =>
    intro i hi
    have hlt : i < l.length := by omega
    have hih := ih (i + 1) (by omega)
    refine Ev.succ ?_
    simp only [impl_Net_walk.l0]
    rw [rdI hlt, w64s (by omega)]
    refine Ev.yes (by omega) (Ev.yes (by omega) (Ev.yes (by omega) (Ev.bind (Ev.const (e_impl_Net_knot K E _)) ?_)))
    by_cases hk : 0 ≤ l[i] ∧ l[i] < K
    · refine Ev.yes (dec_true hk) ?_
      by_cases h0 : 0 < i
      · refine Ev.yes (by omega) ?_
        rw [w64p h0 (by omega), rdI (show i - 1 < l.length by omega)]
        refine Ev.yes (by omega) (Ev.yes (by omega) (Ev.bind (e_impl_Net_has K E _ _ hE) ?_))
        by_cases h : mkT l[i - 1] l[i] ∈ E
        · refine Ev.yes (dec_true h) (hih.value (dec_congr ⟨fun h' j hj hij => ?_, fun h' j hj hij => h' j hj (by omega)⟩))
          rcases Nat.eq_or_lt_of_le hij with rfl | h5
          · exact ⟨hk, fun _ => h⟩
          · exact h' j hj h5
        · refine Ev.no (by rw [dec_false h]; simp) ?_
          rw [dec_false (fun h' => h ((h' i hlt (Nat.le_refl _)).2 h0))]
          exact Ev.pure _
      · refine Ev.no (by omega) (hih.value (dec_congr ⟨fun h' j hj hij => ?_, fun h' j hj hij => h' j hj (by omega)⟩))
        rcases Nat.eq_or_lt_of_le hij with rfl | h5
        · exact ⟨hk, fun h => absurd h h0⟩
        · exact h' j hj h5
    · refine Ev.no (by rw [dec_false hk]; simp) ?_
      rw [dec_false (fun h' => hk (h' i hlt (Nat.le_refl _)).1)]
      exact Ev.pure _
theorem e_impl_Net_walk (K : Int) (E : List STie) (l : List Int) (hE : E.length < 4611686018427387904) (hl : l.length < 4611686018427387904) : Ev (fun k => impl_Net_walk.f k K E l) (dec (∀ j (h : j < l.length), (0 ≤ l[j] ∧ l[j] < K) ∧ (0 < j → mkT l[j - 1] l[j] ∈ E))) := by
  simp only [impl_Net_walk.f]
  exact (e_impl_Net_walk_l0 K E l hE hl l.length 0 (by omega)).value (dec_congr ⟨fun h j hj => h j hj (Nat.zero_le _), fun h j hj _ => h j hj⟩)
theorem e_impl_WayOk (K : Int) (E : List STie) (l : List Int) (hE : E.length < 4611686018427387904) (hl : l.length < 4611686018427387904) : Ev (fun k => impl_WayOk.f k K E l) (dec (Ok K E ∧ Pth K E l)) := by
  simp only [impl_WayOk.f]
  refine Ev.bind (e_impl_NetOk K E hE) ?_
  by_cases h : Ok K E
  · refine Ev.yes (dec_true h) ?_
    by_cases h0 : 0 < l.length
    · refine Ev.yes (by omega) (Ev.bind (e_impl_Net_walk K E l hE hl) ?_)
      by_cases hw : ∀ j (h : j < l.length), (0 ≤ l[j] ∧ l[j] < K) ∧ (0 < j → mkT l[j - 1] l[j] ∈ E)
      · refine Ev.yes (dec_true hw) (Ev.bind (e_impl_different l hl) ((Ev.pure _).value (dec_congr ?_)))
        rw [way_iff h, nodup_iff_take]
        exact ⟨fun hn => ⟨h, h0, fun j hj => ⟨(hw j hj).1, hn j hj, (hw j hj).2⟩⟩, fun hn j hj => (hn.2.2 j hj).2.1⟩
      · refine Ev.no (by rw [dec_false hw]; simp) ?_
        rw [dec_false (fun k => hw (fun j hj => by have := ((way_iff h l).1 k.2).2 j hj; exact ⟨this.1, this.2.2⟩))]
        exact Ev.pure _
    · refine Ev.no (by omega) ?_
      rw [dec_false (fun k => h0 ((way_iff h l).1 k.2).1)]
      exact Ev.pure _
  · refine Ev.no (by rw [dec_false h]; simp) ?_
    rw [dec_false (fun k => h k.1)]
    exact Ev.pure _
theorem e_spec_WayOk_l0 (K : Int) (E : List STie) (l : List Int) (hok : Ok K E) (hE : E.length < 4611686018427387904) (hl : l.length < 4611686018427387904) (d : Nat) : ∀ i, i + d = l.length → Ev (fun k => spec_WayOk.l0 k l (i : Int) K E) (dec (∀ j (h : j < l.length), i ≤ j → (0 ≤ l[j] ∧ l[j] < K) ∧ l[j] ∉ l.take j ∧ (0 < j → mkT l[j - 1] l[j] ∈ E))) := by
  induction d with
  | zero =>
    intro i hi
    refine Ev.succ ?_
    simp only [spec_WayOk.l0]
    refine Ev.no (by omega) ?_
    rw [dec_true (fun j h hij => by omega)]
    exact Ev.pure _
  | succ d ih =>
    intro i hi
    have hlt : i < l.length := by omega
    have hih := ih (i + 1) (by omega)
    refine Ev.succ ?_
    simp only [spec_WayOk.l0]
    rw [rdI hlt, w64s (by omega), Int.toNat_natCast]
    refine Ev.yes (by omega) (Ev.yes (by omega) (Ev.bind (e_spec_l1Knot K E _) ?_))
    by_cases hk : 0 ≤ l[i] ∧ l[i] < K
    · refine Ev.yes (dec_true ⟨hok, hk⟩) (Ev.yes (by omega) (Ev.bind (e_spec_l2Has _ _ (by simp; omega)) ?_))
      by_cases hm : l[i] ∈ l.take i
      · refine Ev.yes (dec_true hm) ?_
        rw [dec_false (fun h' => (h' i hlt (Nat.le_refl _)).2.1 hm)]
        exact Ev.pure _
      · refine Ev.no (by rw [dec_false hm]; simp) ?_
        by_cases h0 : 0 < i
        · refine Ev.yes (by omega) ?_
          rw [w64p h0 (by omega), rdI (show i - 1 < l.length by omega)]
          refine Ev.yes (by omega) (Ev.yes (by omega) (Ev.bind (e_spec_NetHas K E _ _ hE) ?_))
          by_cases h : mkT l[i - 1] l[i] ∈ E
          · refine Ev.yes (dec_true ⟨hok, h⟩) (hih.value (dec_congr ⟨fun h' j hj hij => ?_, fun h' j hj hij => h' j hj (by omega)⟩))
            rcases Nat.eq_or_lt_of_le hij with rfl | h5
            · exact ⟨hk, hm, fun _ => h⟩
            · exact h' j hj h5
          · refine Ev.no (by rw [dec_false (fun k => h k.2)]; simp) ?_
            rw [dec_false (fun h' => h ((h' i hlt (Nat.le_refl _)).2.2 h0))]
            exact Ev.pure _
        · refine Ev.no (by omega) (hih.value (dec_congr ⟨fun h' j hj hij => ?_, fun h' j hj hij => h' j hj (by omega)⟩))
          rcases Nat.eq_or_lt_of_le hij with rfl | h5
          · exact ⟨hk, hm, fun h => absurd h h0⟩
          · exact h' j hj h5
    · refine Ev.no (by rw [dec_false (fun k => hk k.2)]; simp) ?_
      rw [dec_false (fun h' => hk (h' i hlt (Nat.le_refl _)).1)]
      exact Ev.pure _
theorem e_spec_WayOk (K : Int) (E : List STie) (l : List Int) (hE : E.length < 4611686018427387904) (hl : l.length < 4611686018427387904) : Ev (fun k => spec_WayOk.f k K E l) (dec (Ok K E ∧ Pth K E l)) := by
  simp only [spec_WayOk.f]
  refine Ev.bind (e_spec_NetOk K E) ?_
  by_cases h : Ok K E
  · refine Ev.yes (dec_true h) (Ev.succ ?_)
    simp only [spec_WayOk.j0]
    by_cases h0 : 0 < l.length
    · refine Ev.no (by simp; omega) ((e_spec_WayOk_l0 K E l h hE hl l.length 0 (by omega)).value (dec_congr ?_))
      rw [way_iff h]
      exact ⟨fun k => ⟨h, h0, fun j hj => k j hj (Nat.zero_le _)⟩, fun k j hj _ => k.2.2 j hj⟩
    · refine Ev.yes (by simp; omega) ?_
      rw [dec_false (fun k => h0 ((way_iff h l).1 k.2).1)]
      exact Ev.pure _
  · refine Ev.no (by rw [dec_false h]; simp) (Ev.succ ?_)
    simp only [spec_WayOk.j0]
    refine Ev.yes (by simp) ?_
    rw [dec_false (fun k => h k.1)]
    exact Ev.pure _
end Go.Proofs.Ytheoebelhgbejaa.E
