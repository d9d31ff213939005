/- Bridges: both answers. -/
import Derived.Test.YtheoebelhgbejabE7
import Derived.Test.YtheoebelhgbejabE4
namespace Go.Proofs.Ytheoebelhgbejab.E
open Go.RowKit Go.Proofs.YtheoebelhgbejabW.PrintWords Go.Proofs.YtheoebelhgbejabW.PrintMore Go.Proofs.Ytheoebelhgbejab.P Osier
set_option linter.unusedVariables false
theorem rd_reachL {K : Int} {E : List STie} {a : Int} (hK : 0 ≤ K) {x : Int} (hx : 0 ≤ x ∧ x < K) : rdOf false (reachL K E a) x = dec (Conn E a x) := by
  have hl := reachL_len (E := E) (a := a) hK
  have hj : x.toNat < (reachL K E a).length := by omega
  have := rdB hj
  rw [Int.toNat_of_nonneg hx.1] at this
  rw [this, reachL_get, Int.toNat_of_nonneg hx.1]
theorem reachV_ok {K : Int} {E : List STie} {a : Int} (h : Ok K E ∧ 0 ≤ a ∧ a < K) : reachV K E a = reachL K E a := by unfold reachV; rw [if_pos (dec_true h)]
theorem reachV_no {K : Int} {E : List STie} {a : Int} (h : ¬ (Ok K E ∧ 0 ≤ a ∧ a < K)) : reachV K E a = [] := by unfold reachV; rw [if_neg (by rw [dec_false h]; simp)]
theorem countV_yes {K : Int} {E : List STie} (h : Ok K E) : countV K E = (comps K E : Int) := by unfold countV; rw [if_pos (dec_true h)]
theorem countV_none {K : Int} {E : List STie} (h : ¬ Ok K E) : countV K E = -1 := by unfold countV; rw [if_neg (by rw [dec_false h]; simp)]
theorem cutV_yes {K : Int} {E : List STie} {a b : Int} (h : Ok K E ∧ mkT a b ∈ E) : cutV K E a b = (K, cut E (mkT a b), true) := by unfold cutV; rw [if_pos (dec_true h)]
theorem cutV_none {K : Int} {E : List STie} {a b : Int} (h : ¬ (Ok K E ∧ mkT a b ∈ E)) : cutV K E a b = (0, [], false) := by unfold cutV; rw [if_neg (by rw [dec_false h]; simp)]
theorem e_spec_BridgeIs (K : Int) (E : List STie) (a b : Int) (hE : E.length < 1099511627776) : Ev (fun k => spec_BridgeIs.f k K E a b) (dec ((Ok K E ∧ mkT a b ∈ E) ∧ Bridge E (mkT a b))) := by
  simp only [spec_BridgeIs.f]
  refine Ev.bind (e_spec_NetCut K E a b hE) ?_
  by_cases h : Ok K E ∧ mkT a b ∈ E
  · rw [cutV_yes h]
    refine Ev.yes rfl (Ev.bind (e_spec_WayCount K _) (Ev.bind (e_spec_WayCount K E) ((Ev.pure _).value ?_)))
    rw [countV_yes h.1, countV_yes (h.1.cut _), dec_decide]
    have hb := bridge_iff_comps h.1 h.2
    exact dec_congr ⟨fun k => ⟨h, hb.2 (by omega)⟩, fun k => by have := hb.1 k.2; omega⟩
  · rw [cutV_none h]
    refine Ev.no (by simp) ?_
    rw [dec_false (fun k => h k.1)]; exact Ev.pure _
noncomputable def bridgesL (E : List STie) : List STie := E.filter (fun t => dec (Bridge E t))
theorem e_impl_Net_bridges_l0 {K : Int} {E : List STie} (hE : Ok K E) (d : Nat) : ∀ (i : Nat) (acc : List STie), i + d = E.length → acc.length ≤ i → Ev (fun k => impl_Net_bridges.l0 k acc E (E.length : Int) (i : Int) K E) (acc ++ (E.drop i).filter (fun t => dec (Bridge E t))) := by
  have hl := hE.len
  induction d with
  | zero =>
    intro i acc hi ha
    refine Ev.succ ?_
    simp only [impl_Net_bridges.l0]
    refine Ev.no (by omega) ?_
    rw [List.drop_eq_nil_of_le (by omega)]
    simpa using Ev.pure _
  | succ d ih =>
    intro i acc hi ha
    have hlt : i < E.length := by omega
    have ht := hE.tie _ (List.getElem_mem hlt)
    refine Ev.succ ?_
    simp only [impl_Net_bridges.l0]
    rw [rdT hlt, w64s (by omega), filter_drop_step hlt, ← List.append_assoc]
    have hless := e_impl_Net_less K E [E[i]] (by omega) (by simp)
    rw [less_one] at hless
    refine Ev.yes (by omega) (Ev.yes (by omega) (Ev.yes (by omega) (Ev.bind hless (Ev.bind (e_impl_Net_joined (hE.cut _) (by omega) (by omega)) ?_))))
    by_cases h : Conn (cut E E[i]) E[i].f0 E[i].f1
    · refine Ev.yes (dec_true h) ((ih (i + 1) acc (by omega) (by omega)).value ?_)
      rw [if_neg (by rw [dec_false (fun k => k h)]; simp), List.append_nil]
    · refine Ev.no (by rw [dec_false h]; simp) (Ev.yes (by omega) ((ih (i + 1) _ (by omega) (by simp; omega)).value ?_))
      rw [if_pos (show dec (Bridge E E[i]) = true from dec_true h)]
theorem e_impl_Net_bridges {K : Int} {E : List STie} (hE : Ok K E) : Ev (fun k => impl_Net_bridges.f k K E) (bridgesL E) := by
  simp only [impl_Net_bridges.f]
  exact (e_impl_Net_bridges_l0 hE E.length 0 [] (by omega) (by simp)).value (by simp [bridgesL])
theorem bridgesL_len (E : List STie) : (bridgesL E).length ≤ E.length := List.length_filter_le _ _
theorem mem_bridgesL {E : List STie} {t : STie} : t ∈ bridgesL E ↔ t ∈ E ∧ Bridge E t := by
  unfold bridgesL
  rw [List.mem_filter, dec_iff]
theorem e_impl_BridgeIs (K : Int) (E : List STie) (a b : Int) (hE : E.length < 1099511627776) : Ev (fun k => impl_BridgeIs.f k K E a b) (dec ((Ok K E ∧ mkT a b ∈ E) ∧ Bridge E (mkT a b))) := by
  simp only [impl_BridgeIs.f]
  refine Ev.bind (e_impl_NetHas K E a b (by omega)) ?_
  by_cases h : Ok K E ∧ mkT a b ∈ E
  · have := h.1.len
    have := bridgesL_len E
    refine Ev.yes (dec_true h) (Ev.bind (e_impl_Net_bridges h.1) (Ev.bind (Ev.const (e_impl_tie a b)) (Ev.bind (e_slices_Contains_Tie _ (mkT a b) (by omega)) ((Ev.pure _).value (dec_congr ?_)))))
    rw [mem_bridgesL]
    exact ⟨fun k => ⟨h, k.2⟩, fun k => ⟨h.2, k.2⟩⟩
  · refine Ev.no (by rw [dec_false h]; simp) ?_
    rw [dec_false (fun k => h k.1)]; exact Ev.pure _
end Go.Proofs.Ytheoebelhgbejab.E
