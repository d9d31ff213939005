/- Parts, how many, what can be come to, the tree: both answers. -/
import Derived.Test.YtheoebelhgbejabE6
namespace Go.Proofs.Ytheoebelhgbejab.E
open Go.RowKit Go.Proofs.YtheoebelhgbejabW.PrintWords Go.Proofs.YtheoebelhgbejabW.PrintMore Go.Proofs.Ytheoebelhgbejab.P Osier
set_option linter.unusedVariables false

theorem rd_partsL {K : Int} {E : List STie} (hK : 0 ≤ K) {x : Int} (hx : 0 ≤ x ∧ x < K) : rd (partsL K E) x = prt K E x := by
  have hl := partsL_len (E := E) hK
  have h : x.toNat < (partsL K E).length := by omega
  have := rdI h
  rw [Int.toNat_of_nonneg hx.1] at this
  rw [this, partsL_get, Int.toNat_of_nonneg hx.1]
theorem beq_part {K : Int} {E : List STie} {a b : Int} (ha : 0 ≤ a ∧ a < K) (hb : 0 ≤ b ∧ b < K) : (prt K E a == prt K E b) = dec (Conn E a b) := by
  rw [← dec_congr (part_eq_iff (E := E) ha.1 ha.2 hb.1 hb.2)]
  by_cases h : prt K E a = prt K E b
  · rw [dec_true h]; simpa using h
  · rw [dec_false h]; simpa using h

/-! ### WayReach -/
theorem conn_comm {E : List STie} {a b : Int} : Conn E a b ↔ Conn E b a := ⟨Conn.symm, Conn.symm⟩
theorem e_impl_WayReach_l0 {K : Int} {E : List STie} (hE : Ok K E) {a : Int} (ha : 0 ≤ a ∧ a < K) (d : Nat) : ∀ i : Nat, i + d = (partsL K E).length → Ev (fun k => impl_WayReach.l0 k a ((reachL K E a).take i) (partsL K E) ((partsL K E).length : Int) (i : Int)) (reachL K E a) := by
  have hl := partsL_len (E := E) hE.k0
  have hr := reachL_len (E := E) (a := a) hE.k0
  have h8 := hE.k8
  induction d with
  | zero =>
    intro i hi
    refine Ev.succ ?_
    simp only [impl_WayReach.l0]
    refine Ev.no (by omega) ?_
    rw [List.take_of_length_le (by omega)]
    exact Ev.pure _
  | succ d ih =>
    intro i hi
    refine Ev.succ ?_
    simp only [impl_WayReach.l0]
    have hir : i < (reachL K E a).length := by omega
    rw [rd_partsL hE.k0 ha, rd_partsL hE.k0 (x := (i : Int)) (by omega), beq_part (by omega) ha, dec_congr conn_comm, w64s (by omega)]
    have e : (reachL K E a).take i ++ [dec (Conn E a (i : Int))] = (reachL K E a).take (i + 1) := by rw [take_snoc _ hir, reachL_get]
    rw [e]
    refine Ev.yes (by omega) (Ev.yes (by omega) (Ev.yes (by omega) (Ev.yes (by omega) (Ev.yes (by omega) (Ev.yes ?_ (ih (i + 1) (by omega)))))))
    simp only [List.length_take]
    omega
theorem e_impl_WayReach (K : Int) (E : List STie) (a : Int) (hl : E.length < 4611686018427387904) : Ev (fun k => impl_WayReach.f k K E a) (reachV K E a) := by
  simp only [impl_WayReach.f]
  refine Ev.bind (Ev.pure _) (Ev.bind (e_impl_NetOk K E hl) ?_)
  unfold reachV
  by_cases h : Ok K E
  · refine Ev.yes (dec_true h) (Ev.bind (Ev.const (e_impl_Net_knot K E a)) (Ev.succ ?_))
    simp only [impl_WayReach.j0]
    by_cases hk : 0 ≤ a ∧ a < K
    · rw [if_pos (dec_true ⟨h, hk⟩), dec_true hk]
      exact Ev.no (by simp) (Ev.bind (e_impl_Net_parts h) (e_impl_WayReach_l0 h hk (partsL K E).length 0 (by omega)))
    · rw [if_neg (by rw [dec_false (fun k => hk k.2)]; simp), dec_false hk]
      exact Ev.yes (by simp) (Ev.pure _)
  · refine Ev.no (by rw [dec_false h]; simp) (Ev.succ ?_)
    simp only [impl_WayReach.j0]
    rw [if_neg (by rw [dec_false (fun k => h k.1)]; simp)]
    exact Ev.yes (by simp) (Ev.pure _)
theorem reachV_len (K : Int) (E : List STie) (a : Int) : (reachV K E a).length ≤ 8 := by
  unfold reachV
  by_cases h : Ok K E ∧ 0 ≤ a ∧ a < K
  · rw [if_pos (dec_true h)]
    have := reachL_len (E := E) (a := a) h.1.k0
    have := h.1.k8
    omega
  · rw [if_neg (by rw [dec_false h]; simp)]; simp

/-! ### WayParts -/
noncomputable def partsV (K : Int) (E : List STie) : List Int := if dec (Ok K E) = true then partsL K E else []
theorem partsV_len (K : Int) (E : List STie) : (partsV K E).length ≤ 8 := by
  unfold partsV
  by_cases h : Ok K E
  · rw [if_pos (dec_true h)]
    have := partsL_len (E := E) h.k0
    have := h.k8
    omega
  · rw [if_neg (by rw [dec_false h]; simp)]; simp
theorem e_spec_WayParts_l1 {K : Int} {E : List STie} (hE : Ok K E) (acc : List Int) (hacc : acc.length ≤ 100) (v : Int) (hv : 0 ≤ v ∧ v < K) (R : List Int) (IH : Ev (fun k => spec_WayParts.l0 k (acc ++ [prt K E v]) (wrap64 (v + 1)) K E) R) (d : Nat) :
    ∀ i : Nat, (i : Int) + d = prt K E v → Ev (fun k => spec_WayParts.l1 k acc v (reachL K E v) (i : Int) K E) R := by
  have hr := reachL_len (E := E) (a := v) hE.k0
  have h8 := hE.k8
  have hp := part_in (E := E) hv.1 hv.2
  induction d with
  | zero =>
    intro i hi
    have hir : i < (reachL K E v).length := by omega
    refine Ev.succ ?_
    simp only [spec_WayParts.l1]
    rw [rdB hir, reachL_get]
    have e : (i : Int) = prt K E v := by omega
    rw [e]
    exact Ev.yes (by omega) (Ev.yes (by omega) (Ev.yes (dec_true (part_reach hv.1 hv.2)) (Ev.yes (by omega) IH)))
  | succ d ih =>
    intro i hi
    have hir : i < (reachL K E v).length := by omega
    refine Ev.succ ?_
    simp only [spec_WayParts.l1]
    rw [rdB hir, reachL_get, w64s (by omega)]
    refine Ev.yes (by omega) (Ev.yes (by omega) (Ev.no (fun h => ?_) (ih (i + 1) (by omega))))
    have := part_le hv.1 hv.2 (show (0 : Int) ≤ (i : Int) by omega) (by omega) (dec_iff.1 h)
    omega
theorem e_spec_WayParts_l0 {K : Int} {E : List STie} (hE : Ok K E) (d : Nat) : ∀ i : Nat, (i : Int) + d = K → Ev (fun k => spec_WayParts.l0 k ((partsL K E).take i) (i : Int) K E) (partsL K E) := by
  have hl := partsL_len (E := E) hE.k0
  have h8 := hE.k8
  induction d with
  | zero =>
    intro i hi
    refine Ev.succ ?_
    simp only [spec_WayParts.l0]
    refine Ev.no (by omega) ?_
    rw [List.take_of_length_le (by omega)]
    exact Ev.pure _
  | succ d ih =>
    intro i hi
    have hip : i < (partsL K E).length := by omega
    have hv : (0 : Int) ≤ (i : Int) ∧ (i : Int) < K := by omega
    refine Ev.succ ?_
    simp only [spec_WayParts.l0]
    refine Ev.yes (by omega) (Ev.bind (e_spec_WayReach K E (i : Int)) ?_)
    have er : reachV K E (i : Int) = reachL K E (i : Int) := by unfold reachV; rw [if_pos (dec_true ⟨hE, hv⟩)]
    rw [er]
    refine e_spec_WayParts_l1 hE _ (by simp only [List.length_take]; omega) (i : Int) hv _ ?_ (prt K E (i : Int)).toNat 0 (by have := part_in (E := E) hv.1 hv.2; omega)
    have e : (partsL K E).take i ++ [prt K E (i : Int)] = (partsL K E).take (i + 1) := by rw [take_snoc _ hip, partsL_get]
    rw [e, w64s (by omega)]
    exact ih (i + 1) (by omega)
theorem e_spec_WayParts (K : Int) (E : List STie) : Ev (fun k => spec_WayParts.f k K E) (partsV K E) := by
  simp only [spec_WayParts.f]
  refine Ev.bind (Ev.pure _) (Ev.bind (e_spec_NetOk K E) ?_)
  unfold partsV
  by_cases h : Ok K E
  · rw [if_pos (dec_true h)]
    exact Ev.yes (dec_true h) (e_spec_WayParts_l0 h K.toNat 0 (by have := h.k0; omega))
  · rw [if_neg (by rw [dec_false h]; simp)]
    exact Ev.no (by rw [dec_false h]; simp) (Ev.pure _)

/-! ### WayCount -/
/-- How many of the first i knots are the least of their part. -/
noncomputable def rootsTo (K : Int) (E : List STie) (i : Nat) : Nat := ((List.range i).map Int.ofNat).countP (fun k => dec (Root K E k))
theorem rootsTo_succ (K : Int) (E : List STie) (i : Nat) : rootsTo K E (i + 1) = rootsTo K E i + if dec (Root K E (i : Int)) = true then 1 else 0 := by
  unfold rootsTo
  rw [List.range_succ, List.map_append, List.countP_append]
  simp only [List.map_cons, List.map_nil, List.countP_cons, List.countP_nil, Int.ofNat_eq_natCast]
  split <;> simp_all
theorem rootsTo_le (K : Int) (E : List STie) (i : Nat) : rootsTo K E i ≤ i := countP_ints_le i _
theorem rootsTo_all (K : Int) (E : List STie) : rootsTo K E K.toNat = comps K E := by
  unfold rootsTo comps
  congr 1
theorem root_dec {K : Int} {E : List STie} {i : Int} (h : 0 ≤ i ∧ i < K) : (prt K E i = i) ↔ Root K E i := (root_iff h.1 h.2).symm
theorem e_spec_WayCount_l0 {K : Int} {E : List STie} (hE : Ok K E) (d : Nat) : ∀ i : Nat, i + d = (partsL K E).length → Ev (fun k => spec_WayCount.l0 k (partsL K E) (rootsTo K E i : Int) (i : Int)) (comps K E : Int) := by
  have hl := partsL_len (E := E) hE.k0
  have h8 := hE.k8
  induction d with
  | zero =>
    intro i hi
    refine Ev.succ ?_
    simp only [spec_WayCount.l0]
    refine Ev.no (by omega) ?_
    have : i = K.toNat := by omega
    subst this
    rw [rootsTo_all]; exact Ev.pure _
  | succ d ih =>
    intro i hi
    have hle := rootsTo_le K E i
    refine Ev.succ ?_
    simp only [spec_WayCount.l0]
    rw [rd_partsL hE.k0 (x := (i : Int)) (by omega), w64s (n := i) (by omega), w64s (n := rootsTo K E i) (by omega)]
    have hih := ih (i + 1) (by omega)
    rw [rootsTo_succ] at hih
    refine Ev.yes (by omega) (Ev.yes (by omega) ?_)
    by_cases h : Root K E (i : Int)
    · rw [if_pos (dec_true h)] at hih
      exact Ev.yes ((root_dec (by omega)).2 h) hih
    · rw [if_neg (by rw [dec_false h]; simp)] at hih
      exact Ev.no (fun k => h ((root_dec (by omega)).1 k)) hih
noncomputable def countV (K : Int) (E : List STie) : Int := if dec (Ok K E) = true then (comps K E : Int) else -1
theorem e_spec_WayCount (K : Int) (E : List STie) : Ev (fun k => spec_WayCount.f k K E) (countV K E) := by
  simp only [spec_WayCount.f]
  refine Ev.bind (e_spec_NetOk K E) ?_
  unfold countV
  by_cases h : Ok K E
  · rw [if_pos (dec_true h)]
    have ep : partsV K E = partsL K E := by unfold partsV; rw [if_pos (dec_true h)]
    refine Ev.yes (dec_true h) (Ev.bind (e_spec_WayParts K E) ?_)
    rw [ep]
    exact e_spec_WayCount_l0 h (partsL K E).length 0 (by omega)
  · rw [if_neg (by rw [dec_false h]; simp)]
    exact Ev.no (by rw [dec_false h]; simp) (Ev.pure _)
theorem e_impl_Net_count_l0 {K : Int} {E : List STie} (hE : Ok K E) (d : Nat) : ∀ i : Nat, i + d = (partsL K E).length → Ev (fun k => impl_Net_count.l0 k (rootsTo K E i : Int) (partsL K E) ((partsL K E).length : Int) (i : Int)) (comps K E : Int) := by
  have hl := partsL_len (E := E) hE.k0
  have h8 := hE.k8
  induction d with
  | zero =>
    intro i hi
    refine Ev.succ ?_
    simp only [impl_Net_count.l0]
    refine Ev.no (by omega) ?_
    have : i = K.toNat := by omega
    subst this
    rw [rootsTo_all]; exact Ev.pure _
  | succ d ih =>
    intro i hi
    have hle := rootsTo_le K E i
    refine Ev.succ ?_
    simp only [impl_Net_count.l0]
    rw [rd_partsL hE.k0 (x := (i : Int)) (by omega), w64s (n := i) (by omega), w64s (n := rootsTo K E i) (by omega)]
    have hih := ih (i + 1) (by omega)
    rw [rootsTo_succ] at hih
    refine Ev.yes (by omega) (Ev.yes (by omega) (Ev.yes (by omega) ?_))
    by_cases h : Root K E (i : Int)
    · rw [if_pos (dec_true h)] at hih
      exact Ev.yes ((root_dec (by omega)).2 h).symm hih
    · rw [if_neg (by rw [dec_false h]; simp)] at hih
      exact Ev.no (fun k => h ((root_dec (by omega)).1 k.symm)) hih
theorem e_impl_Net_count {K : Int} {E : List STie} (hE : Ok K E) : Ev (fun k => impl_Net_count.f k K E) (comps K E : Int) := by
  simp only [impl_Net_count.f]
  exact Ev.bind (e_impl_Net_parts hE) (e_impl_Net_count_l0 hE (partsL K E).length 0 (by omega))
theorem e_impl_WayCount (K : Int) (E : List STie) (hl : E.length < 4611686018427387904) : Ev (fun k => impl_WayCount.f k K E) (countV K E) := by
  simp only [impl_WayCount.f]
  refine Ev.bind (e_impl_NetOk K E hl) ?_
  unfold countV
  by_cases h : Ok K E
  · rw [if_pos (dec_true h)]
    exact Ev.yes (dec_true h) (Ev.bind (e_impl_Net_count h) (Ev.pure _))
  · rw [if_neg (by rw [dec_false h]; simp)]
    exact Ev.no (by rw [dec_false h]; simp) (Ev.pure _)
end Go.Proofs.Ytheoebelhgbejab.E
