/- Bridges listed, apart, and the parts without them. -/
import Derived.Test.YtheoebelhgbejabEX
import Derived.Test.YtheoebelhgbejabE9
namespace Go.Proofs.Ytheoebelhgbejab.E
open Go.RowKit Go.Proofs.YtheoebelhgbejabW.PrintWords Go.Proofs.YtheoebelhgbejabW.PrintMore Go.Proofs.Ytheoebelhgbejab.P Osier
set_option linter.unusedVariables false
noncomputable def bridgesV (K : Int) (E : List STie) : List STie := if dec (Ok K E) = true then bridgesL E else []
theorem bridgesV_yes {K : Int} {E : List STie} (h : Ok K E) : bridgesV K E = bridgesL E := by unfold bridgesV; rw [if_pos (dec_true h)]
theorem bridgesV_none {K : Int} {E : List STie} (h : ¬ Ok K E) : bridgesV K E = [] := by unfold bridgesV; rw [if_neg (by rw [dec_false h]; simp)]
theorem bridgesV_len (K : Int) (E : List STie) : (bridgesV K E).length ≤ E.length := by
  unfold bridgesV
  split
  · exact bridgesL_len E
  · simp
theorem mkT_own {K : Int} {E : List STie} (hE : Ok K E) {t : STie} (ht : t ∈ E) : mkT t.f0 t.f1 = t := by
  have := hE.tie t ht
  unfold mkT
  rw [if_pos (by omega)]
theorem cutV_own {K : Int} {E : List STie} (hE : Ok K E) {t : STie} (ht : t ∈ E) : cutV K E t.f0 t.f1 = (K, cut E t, true) := by
  have e := mkT_own hE ht
  rw [cutV_yes ⟨hE, by rw [e]; exact ht⟩, e]
theorem e_spec_BridgeList_l0 {K : Int} {E : List STie} (hE : Ok K E) (d : Nat) : ∀ (i : Nat) (acc : List STie), i + d = E.length → acc.length ≤ i → Ev (fun k => spec_BridgeList.l0 k acc (i : Int) K E) (acc ++ (E.drop i).filter (fun t => dec (Bridge E t))) := by
  have hl := hE.len
  induction d with
  | zero =>
    intro i acc hi ha
    refine Ev.succ ?_
    simp only [spec_BridgeList.l0]
    refine Ev.no (by omega) ?_
    rw [List.drop_eq_nil_of_le (by omega)]
    simpa using Ev.pure _
  | succ d ih =>
    intro i acc hi ha
    have hlt : i < E.length := by omega
    have hm : E[i] ∈ E := List.getElem_mem hlt
    refine Ev.succ ?_
    simp only [spec_BridgeList.l0]
    rw [rdT hlt, w64s (by omega), filter_drop_step hlt, ← List.append_assoc]
    refine Ev.yes (by omega) (Ev.yes (by omega) (Ev.bind (e_spec_BridgeIs K E _ _ (by omega)) ?_))
    rw [mkT_own hE hm, dec_congr (show ((Ok K E ∧ E[i] ∈ E) ∧ Bridge E E[i]) ↔ Bridge E E[i] from ⟨fun k => k.2, fun k => ⟨⟨hE, hm⟩, k⟩⟩)]
    by_cases h : Bridge E E[i]
    · refine Ev.yes (dec_true h) (Ev.yes (by omega) ((ih (i + 1) _ (by omega) (by simp; omega)).value ?_))
      rw [if_pos (dec_true h)]
    · refine Ev.no (by rw [dec_false h]; simp) ((ih (i + 1) acc (by omega) (by omega)).value ?_)
      rw [if_neg (by rw [dec_false h]; simp), List.append_nil]
theorem e_spec_BridgeList (K : Int) (E : List STie) : Ev (fun k => spec_BridgeList.f k K E) (bridgesV K E) := by
  simp only [spec_BridgeList.f]
  refine Ev.bind (Ev.pure _) (Ev.bind (e_spec_NetOk K E) ?_)
  by_cases h : Ok K E
  · rw [bridgesV_yes h]
    exact Ev.yes (dec_true h) ((e_spec_BridgeList_l0 h E.length 0 [] (by omega) (by simp)).value (by simp [bridgesL]))
  · rw [bridgesV_none h]
    exact Ev.no (by rw [dec_false h]; simp) (Ev.pure _)
theorem e_impl_BridgeList (K : Int) (E : List STie) (hl : E.length < 4611686018427387904) : Ev (fun k => impl_BridgeList.f k K E) (bridgesV K E) := by
  simp only [impl_BridgeList.f]
  refine Ev.bind (e_impl_NetOk K E hl) ?_
  by_cases h : Ok K E
  · rw [bridgesV_yes h]
    exact Ev.yes (dec_true h) (Ev.bind (e_impl_Net_bridges h) (Ev.pure _))
  · rw [bridgesV_none h]
    exact Ev.no (by rw [dec_false h]; simp) (Ev.pure _)

/-! ### Apart -/
/-- The first of these ties without which b is not come to from a. -/
noncomputable def firstApart (E : List STie) (a b : Int) : List STie → Int × Int × Bool
  | [] => (0, 0, false)
  | t :: l => if dec (Conn (cut E t) a b) = true then firstApart E a b l else (t.f0, t.f1, true)
theorem e_spec_BridgeApart_l0 {K : Int} {E : List STie} (hE : Ok K E) {a b : Int} (ha : 0 ≤ a ∧ a < K) (hb : 0 ≤ b ∧ b < K) (L : List STie) (hL : ∀ t ∈ L, t ∈ E) (hLl : L.length ≤ 64) (d : Nat) : ∀ i, i + d = L.length → Ev (fun k => spec_BridgeApart.l0 k a b L (i : Int) K E) (firstApart E a b (L.drop i)) := by
  have hl := hE.len
  induction d with
  | zero =>
    intro i hi
    refine Ev.succ ?_
    simp only [spec_BridgeApart.l0]
    refine Ev.no (by omega) ?_
    rw [List.drop_eq_nil_of_le (by omega), firstApart]
    exact Ev.pure _
  | succ d ih =>
    intro i hi
    have hlt : i < L.length := by omega
    have hm := hL _ (List.getElem_mem hlt)
    have hr := reachL_len (E := cut E L[i]) (a := a) hE.k0
    refine Ev.succ ?_
    simp only [spec_BridgeApart.l0]
    have hcv := e_spec_NetCut K E L[i].f0 L[i].f1 (by omega)
    rw [cutV_own hE hm] at hcv
    rw [rdT hlt, w64s (by omega), drop_cons _ hlt, firstApart]
    refine Ev.yes (by omega) (Ev.yes (by omega) (Ev.bind hcv (Ev.bind (e_spec_WayReach K _ a) ?_)))
    rw [reachV_ok ⟨hE.cut _, ha⟩, rd_reachL hE.k0 hb]
    refine Ev.yes (by omega) (Ev.yes (by omega) ?_)
    by_cases h : Conn (cut E L[i]) a b
    · rw [if_pos (dec_true h)]
      exact Ev.yes (dec_true h) (ih (i + 1) (by omega))
    · rw [if_neg (by rw [dec_false h]; simp)]
      exact Ev.no (by rw [dec_false h]; simp) (Ev.pure _)
noncomputable def apartV (K : Int) (E : List STie) (a b : Int) : Int × Int × Bool := if dec (Ok K E ∧ (0 ≤ a ∧ a < K) ∧ (0 ≤ b ∧ b < K) ∧ Conn E a b) = true then firstApart E a b (bridgesL E) else (0, 0, false)
theorem e_spec_BridgeApart (K : Int) (E : List STie) (a b : Int) : Ev (fun k => spec_BridgeApart.f k K E a b) (apartV K E a b) := by
  have no : ¬ (Ok K E ∧ (0 ≤ a ∧ a < K) ∧ (0 ≤ b ∧ b < K) ∧ Conn E a b) → Ev (fun k => spec_BridgeApart.j0 k a b true K E) (apartV K E a b) := by
    intro h
    unfold apartV
    rw [if_neg (by rw [dec_false h]; simp)]
    refine Ev.succ ?_
    simp only [spec_BridgeApart.j0]
    exact Ev.yes (by trivial) (Ev.pure _)
  simp only [spec_BridgeApart.f]
  refine Ev.bind (e_spec_l1Knot K E a) ?_
  by_cases h : Ok K E ∧ 0 ≤ a ∧ a < K
  · refine Ev.yes (dec_true h) (Ev.bind (e_spec_l1Knot K E b) ?_)
    by_cases g : Ok K E ∧ 0 ≤ b ∧ b < K
    · have hr := reachL_len (E := E) (a := a) h.1.k0
      have hl := h.1.len
      refine Ev.yes (dec_true g) (Ev.bind (e_spec_WayReach K E a) ?_)
      rw [reachV_ok h, rd_reachL h.1.k0 g.2]
      refine Ev.yes (by omega) (Ev.yes (by omega) ?_)
      by_cases c : Conn E a b
      · rw [dec_true c]
        unfold apartV
        rw [if_pos (dec_true ⟨h.1, h.2, g.2, c⟩)]
        refine Ev.succ ?_
        simp only [spec_BridgeApart.j0]
        refine Ev.no (by simp) (Ev.bind (e_spec_BridgeList K E) ?_)
        rw [bridgesV_yes h.1]
        have := bridgesL_len E
        exact e_spec_BridgeApart_l0 h.1 h.2 g.2 (bridgesL E) (fun t ht => (mem_bridgesL.1 ht).1) (by omega) (bridgesL E).length 0 (by omega)
      · rw [dec_false c]
        exact no (fun k => c k.2.2.2)
    · exact Ev.no (by rw [dec_false g]; simp) (no (fun k => g ⟨k.1, k.2.2.1⟩))
  · exact Ev.no (by rw [dec_false h]; simp) (no (fun k => h ⟨k.1, k.2.1⟩))
theorem e_impl_BridgeApart_l0 {K : Int} {E : List STie} (hE : Ok K E) {a b : Int} (ha : 0 ≤ a ∧ a < K) (hb : 0 ≤ b ∧ b < K) (L : List STie) (hLl : L.length ≤ 64) (d : Nat) : ∀ i, i + d = L.length → Ev (fun k => impl_BridgeApart.l0 k a b L (L.length : Int) (i : Int) K E) (firstApart E a b (L.drop i)) := by
  have hl := hE.len
  induction d with
  | zero =>
    intro i hi
    refine Ev.succ ?_
    simp only [impl_BridgeApart.l0]
    refine Ev.no (by omega) ?_
    rw [List.drop_eq_nil_of_le (by omega), firstApart]
    exact Ev.pure _
  | succ d ih =>
    intro i hi
    have hlt : i < L.length := by omega
    refine Ev.succ ?_
    simp only [impl_BridgeApart.l0]
    have hless := e_impl_Net_less K E [L[i]] (by omega) (by simp)
    rw [less_one] at hless
    rw [rdT hlt, w64s (by omega), drop_cons _ hlt, firstApart]
    refine Ev.yes (by omega) (Ev.yes (by omega) (Ev.yes (by omega) (Ev.bind hless (Ev.bind (e_impl_Net_joined (hE.cut _) ha hb) ?_))))
    by_cases h : Conn (cut E L[i]) a b
    · rw [if_pos (dec_true h)]
      exact Ev.yes (dec_true h) (ih (i + 1) (by omega))
    · rw [if_neg (by rw [dec_false h]; simp)]
      exact Ev.no (by rw [dec_false h]; simp) (Ev.pure _)
theorem e_impl_BridgeApart (K : Int) (E : List STie) (a b : Int) (hE : E.length < 4611686018427387904) : Ev (fun k => impl_BridgeApart.f k K E a b) (apartV K E a b) := by
  have no : ¬ (Ok K E ∧ (0 ≤ a ∧ a < K) ∧ (0 ≤ b ∧ b < K) ∧ Conn E a b) → Ev (fun k => impl_BridgeApart.j0 k a b true K E) (apartV K E a b) := by
    intro h
    unfold apartV
    rw [if_neg (by rw [dec_false h]; simp)]
    refine Ev.succ ?_
    simp only [impl_BridgeApart.j0]
    exact Ev.yes (by trivial) (Ev.pure _)
  simp only [impl_BridgeApart.f]
  refine Ev.bind (e_impl_NetOk K E hE) ?_
  by_cases h : Ok K E
  · refine Ev.yes (dec_true h) (Ev.bind (Ev.const (e_impl_Net_knot K E a)) ?_)
    by_cases ha : 0 ≤ a ∧ a < K
    · refine Ev.yes (dec_true ha) (Ev.bind (Ev.const (e_impl_Net_knot K E b)) ?_)
      by_cases hb : 0 ≤ b ∧ b < K
      · refine Ev.yes (dec_true hb) (Ev.bind (e_impl_Net_joined h ha hb) ?_)
        by_cases c : Conn E a b
        · rw [dec_true c]
          unfold apartV
          rw [if_pos (dec_true ⟨h, ha, hb, c⟩)]
          refine Ev.succ ?_
          simp only [impl_BridgeApart.j0]
          have := bridgesL_len E
          have := h.len
          exact Ev.no (by simp) (Ev.bind (e_impl_Net_bridges h) (e_impl_BridgeApart_l0 h ha hb (bridgesL E) (by omega) (bridgesL E).length 0 (by omega)))
        · rw [dec_false c]
          exact no (fun k => c k.2.2.2)
      · exact Ev.no (by rw [dec_false hb]; simp) (no (fun k => hb k.2.2.1))
    · exact Ev.no (by rw [dec_false ha]; simp) (no (fun k => ha k.2.1))
  · exact Ev.no (by rw [dec_false h]; simp) (no (fun k => h k.1))

/-! ### Parts without bridges -/
/-- The net without the ties of a list. -/
noncomputable def lessL (E G : List STie) : List STie := E.filter (fun s => dec (s ∉ G))
theorem lessL_ok {K : Int} {E : List STie} (h : Ok K E) (G : List STie) : Ok K (lessL E G) := h.filter _
theorem lessL_nil (E : List STie) : lessL E [] = E := by
  unfold lessL
  exact List.filter_eq_self.2 (fun s hs => dec_true (by simp))
theorem lessL_snoc (E G : List STie) (t : STie) : lessL E (G ++ [t]) = cut (lessL E G) t := by
  unfold lessL
  rw [cut_filter, List.filter_filter]
  congr 1
  funext s
  by_cases h1 : s = t
  · rw [dec_false (fun k => k (by simp [h1])), dec_false (fun k => k h1), Bool.false_and]
  · by_cases h2 : s ∈ G
    · rw [dec_false (fun k => k (by simp [h2])), dec_false (p := s ∉ G) (fun k => k h2), Bool.and_false]
    · rw [dec_true (show s ∉ G ++ [t] by simp [h1, h2]), dec_true h1, dec_true h2, Bool.and_self]
noncomputable def blocksV (K : Int) (E : List STie) : List Int := if dec (Ok K E) = true then partsL K (lessL E (bridgesL E)) else []
theorem blocksV_len (K : Int) (E : List STie) : (blocksV K E).length ≤ 8 := by
  unfold blocksV
  by_cases h : Ok K E
  · rw [if_pos (dec_true h)]
    have := partsL_len (E := lessL E (bridgesL E)) h.k0
    have := h.k8
    omega
  · rw [if_neg (by rw [dec_false h]; simp)]; simp
theorem asc_nodup {E : List STie} (h : Asc E) : E.Nodup := List.Pairwise.imp (fun {a b} hab e => by subst e; exact tlt_irrefl _ hab) h
theorem e_spec_BridgeParts_l0 {K : Int} {E : List STie} (hE : Ok K E) (d : Nat) : ∀ i, i + d = (bridgesL E).length → Ev (fun k => spec_BridgeParts.l0 k (bridgesL E) (i : Int) K (lessL E ((bridgesL E).take i))) (partsL K (lessL E (bridgesL E))) := by
  have hl := hE.len
  have hbl := bridgesL_len E
  have hnd : (bridgesL E).Nodup := List.Nodup.sublist List.filter_sublist (asc_nodup hE.asc)
  induction d with
  | zero =>
    intro i hi
    refine Ev.succ ?_
    simp only [spec_BridgeParts.l0]
    rw [List.take_of_length_le (by omega)]
    have ep : partsV K (lessL E (bridgesL E)) = partsL K (lessL E (bridgesL E)) := by unfold partsV; rw [if_pos (dec_true (lessL_ok hE _))]
    refine Ev.no (by omega) (Ev.bind (e_spec_WayParts K _) ?_)
    rw [ep]
    exact Ev.pure _
  | succ d ih =>
    intro i hi
    have hlt : i < (bridgesL E).length := by omega
    have hm : (bridgesL E)[i] ∈ E := (mem_bridgesL.1 (List.getElem_mem hlt)).1
    have hnt : (bridgesL E)[i] ∉ (bridgesL E).take i := by
      intro hk
      obtain ⟨j, hj, e⟩ := List.getElem_of_mem hk
      rw [List.length_take] at hj
      rw [List.getElem_take] at e
      exact absurd ((List.getElem_inj hnd).1 e) (by omega)
    have hcur : (bridgesL E)[i] ∈ lessL E ((bridgesL E).take i) := List.mem_filter.2 ⟨hm, dec_true hnt⟩
    have hok := lessL_ok hE ((bridgesL E).take i)
    have hll : (lessL E ((bridgesL E).take i)).length ≤ E.length := List.length_filter_le _ _
    have hcv := e_spec_NetCut K (lessL E ((bridgesL E).take i)) (bridgesL E)[i].f0 (bridgesL E)[i].f1 (by omega)
    rw [cutV_own hok hcur, ← lessL_snoc, ← take_snoc _ hlt] at hcv
    refine Ev.succ ?_
    simp only [spec_BridgeParts.l0]
    rw [rdT hlt, w64s (by omega)]
    exact Ev.yes (by omega) (Ev.yes (by omega) (Ev.bind hcv (ih (i + 1) (by omega))))
theorem e_spec_BridgeParts (K : Int) (E : List STie) : Ev (fun k => spec_BridgeParts.f k K E) (blocksV K E) := by
  simp only [spec_BridgeParts.f, spec_l1Copy.f]
  refine Ev.bind (e_spec_NetOk K E) ?_
  unfold blocksV
  by_cases h : Ok K E
  · have hl := h.len
    rw [if_pos (dec_true h)]
    refine Ev.yes (dec_true h) (Ev.bind (Ev.bind (Ev.pure _) (Ev.yes (by simp; omega) (Ev.pure _))) (Ev.bind (e_spec_BridgeList K E) ?_))
    rw [bridgesV_yes h, List.nil_append]
    have := e_spec_BridgeParts_l0 h (bridgesL E).length 0 (by omega)
    rw [List.take_zero, lessL_nil] at this
    exact this
  · rw [if_neg (by rw [dec_false h]; simp)]
    exact Ev.no (by rw [dec_false h]; simp) (Ev.pure _)
theorem e_impl_BridgeParts (K : Int) (E : List STie) (hl : E.length < 4611686018427387904) : Ev (fun k => impl_BridgeParts.f k K E) (blocksV K E) := by
  simp only [impl_BridgeParts.f]
  refine Ev.bind (e_impl_NetOk K E hl) ?_
  unfold blocksV
  by_cases h : Ok K E
  · have hl := h.len
    have hbl := bridgesL_len E
    rw [if_pos (dec_true h)]
    exact Ev.yes (dec_true h) (Ev.bind (e_impl_Net_bridges h) (Ev.bind (e_impl_Net_less K E (bridgesL E) (by omega) (by omega)) (Ev.bind (e_impl_Net_parts (lessL_ok h _)) (Ev.pure _))))
  · rw [if_neg (by rw [dec_false h]; simp)]
    exact Ev.no (by rw [dec_false h]; simp) (Ev.pure _)
end Go.Proofs.Ytheoebelhgbejab.E
