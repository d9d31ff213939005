/- BridgeList (P32): the pure statement. -/
import Derived.Test.YtheoebelhgbejabEY
import Derived.Test.YtheoebelhgbejabEL
import Derived.Test.YtheoebelhgbejabEZ
namespace Go.Proofs.Ytheoebelhgbejab.E
open Go.RowKit Go.Proofs.Ytheoebelhgbejab.P Osier
set_option linter.unusedVariables false
theorem e_spec_DrawBridgeList {l : List Int} (hl : ∀ x ∈ l, (Lit.int .u8 x).wf = true) : ∃ K E, Ev (fun k => spec_DrawBridgeList.f k l) (K, E) ∧ Small K E := by
  obtain ⟨xs, hx, hs⟩ := e_spec_l6Open hl
  obtain ⟨K, E, q, hq, ho, _, _⟩ := e_spec_l71Any hs (p := 0) (by omega) (by omega)
  simp only [spec_DrawBridgeList.f]
  exact ⟨K, E, Ev.bind (Ev.const hx) (Ev.bind hq (Ev.pure _)), ho⟩
/-- How many of the first i ties are bridges. -/
noncomputable def bridgesTo (E : List STie) (i : Nat) : List STie := (E.take i).filter (fun t => dec (Bridge E t))
theorem bridges_split {E : List STie} (i : Nat) : bridgesL E = bridgesTo E i ++ (E.drop i).filter (fun t => dec (Bridge E t)) := by
  unfold bridgesL bridgesTo
  rw [← List.filter_append, List.take_append_drop]
theorem e_laws_FnBridgeList_l0 {K : Int} {E : List STie} (hE : Ok K E) (d : Nat) : ∀ i, i + d = E.length → Ev (fun k => laws_FnBridgeList.l0 k (bridgesL E) ((bridgesTo E i).length : Int) (i : Int) K E) true := by
  have hl := hE.len
  have hbl := bridgesL_len E
  induction d with
  | zero =>
    intro i hi
    refine Ev.succ ?_
    simp only [laws_FnBridgeList.l0]
    have : bridgesL E = bridgesTo E i := by rw [bridges_split i, List.drop_eq_nil_of_le (by omega)]; simp
    rw [this]
    exact Ev.no (by omega) ((Ev.pure _).value (by simp))
  | succ d ih =>
    intro i hi
    have hlt : i < E.length := by omega
    have hm : E[i] ∈ E := List.getElem_mem hlt
    have hsplit := bridges_split (E := E) i
    have hbt : (bridgesTo E i).length ≤ i := by
      unfold bridgesTo
      refine Nat.le_trans (List.length_filter_le _ _) ?_
      simp only [List.length_take]; omega
    refine Ev.succ ?_
    simp only [laws_FnBridgeList.l0]
    rw [rdT hlt, w64s (by omega), w64s (by omega)]
    refine Ev.yes (by omega) (Ev.yes (by omega) (Ev.bind (e_impl_BridgeIs K E _ _ (by omega)) ?_))
    rw [mkT_own hE hm, dec_congr (show ((Ok K E ∧ E[i] ∈ E) ∧ Bridge E E[i]) ↔ Bridge E E[i] from ⟨fun k => k.2, fun k => ⟨⟨hE, hm⟩, k⟩⟩)]
    have hih := ih (i + 1) (by omega)
    have hnext : bridgesTo E (i + 1) = bridgesTo E i ++ (if dec (Bridge E E[i]) = true then [E[i]] else []) := by
      unfold bridgesTo
      rw [take_snoc _ hlt, List.filter_append, List.filter_cons, List.filter_nil]
    by_cases h : Bridge E E[i]
    · rw [if_pos (dec_true h)] at hnext
      rw [hnext, List.length_append, List.length_singleton] at hih
      rw [filter_drop_step hlt, if_pos (dec_true h)] at hsplit
      have hlt2 : (bridgesTo E i).length < (bridgesL E).length := by rw [hsplit]; simp
      have hget : (bridgesL E)[(bridgesTo E i).length] = E[i] := by
        simp only [hsplit]
        rw [List.getElem_append_right (Nat.le_refl _)]
        simp
      rw [rdT hlt2, hget, bne_tie]
      exact Ev.yes (dec_true h) (Ev.no (by omega) (Ev.yes (by omega) (Ev.yes (by omega) (Ev.no (by rw [dec_false (fun k => k rfl)]; simp) hih))))
    · rw [if_neg (by rw [dec_false h]; simp), List.append_nil] at hnext
      rw [hnext] at hih
      exact Ev.no (by rw [dec_false h]; simp) hih
theorem FnBridgeList (l : List Int) (hl : l.length ≤ maxLen) (hw : ∀ x ∈ l, (Lit.int .u8 x).wf = true) : ∃ k, laws_FnBridgeList.f k l = some true := by
  refine Ev.get ?_
  simp only [laws_FnBridgeList.f]
  by_cases h : (l.length : Int) > 1048576
  · exact Ev.yes h (Ev.pure _)
  · obtain ⟨K, E, hd, hs⟩ := e_spec_DrawBridgeList hw
    have hlen := hs.len
    have ht := bridgesV_len K E
    refine Ev.no h (Ev.bind hd (Ev.bind (e_impl_BridgeList K E (by omega)) (Ev.bind (e_spec_BridgeList K E) (Ev.bind (e_laws_loTies _ _ (by omega)) (Ev.yes (dec_true rfl) (Ev.bind (e_spec_NetOk K E) (Ev.succ ?_)))))))
    simp only [laws_FnBridgeList.j0]
    by_cases g : Ok K E
    · rw [dec_true g, bridgesV_yes g]
      have := e_laws_FnBridgeList_l0 g E.length 0 (by omega)
      exact Ev.no (by simp) this
    · rw [dec_false g]
      exact Ev.yes (by trivial) (Ev.bind (e_spec_BridgeList K E) (Ev.bind (e_laws_loTies _ _ (by omega)) ((Ev.pure _).value (dec_true rfl))))
end Go.Proofs.Ytheoebelhgbejab.E
