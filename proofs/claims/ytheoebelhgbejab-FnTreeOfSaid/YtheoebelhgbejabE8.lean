/- The tree: both answers. -/
import Derived.Test.YtheoebelhgbejabE7
namespace Go.Proofs.Ytheoebelhgbejab.E
open Go.RowKit Go.Proofs.YtheoebelhgbejabW.PrintWords Go.Proofs.YtheoebelhgbejabW.PrintMore Go.Proofs.Ytheoebelhgbejab.P Osier
set_option linter.unusedVariables false

noncomputable def treeV (K : Int) (E : List STie) : List STie := if dec (Ok K E) = true then kr [] E else []
theorem treeV_len (K : Int) (E : List STie) : (treeV K E).length ≤ E.length := by
  unfold treeV
  split
  · exact (kr_sublist E).length_le
  · simp
theorem sub_snoc {E : List STie} {i : Nat} (hi : i < E.length) {acc : List STie} (h : acc.Sublist (E.take i)) : (acc ++ [E[i]]).Sublist (E.take (i + 1)) := by
  rw [take_snoc _ hi]
  exact List.Sublist.append h (List.Sublist.refl _)
theorem e_spec_TreeOf_l0 {K : Int} {E : List STie} (hE : Ok K E) (d : Nat) : ∀ (i : Nat) (acc : List STie), i + d = E.length → acc.Sublist (E.take i) → Ev (fun k => spec_TreeOf.l0 k acc (i : Int) K E) (kr acc (E.drop i)) := by
  have hl := hE.len
  induction d with
  | zero =>
    intro i acc hi hs
    refine Ev.succ ?_
    simp only [spec_TreeOf.l0]
    refine Ev.no (by omega) ?_
    rw [List.drop_eq_nil_of_le (by omega), kr]
    exact Ev.pure _
  | succ d ih =>
    intro i acc hi hs
    have hlt : i < E.length := by omega
    have tie := hE.tie _ (List.getElem_mem hlt)
    have hacc : Ok K acc := hE.sub (hs.trans (List.take_sublist _ _))
    have hal := hs.length_le
    simp only [List.length_take] at hal
    refine Ev.succ ?_
    simp only [spec_TreeOf.l0]
    rw [rdT hlt, w64s (by omega)]
    have er : reachV K acc E[i].f0 = reachL K acc E[i].f0 := by unfold reachV; rw [if_pos (dec_true ⟨hacc, by omega, by omega⟩)]
    have hrl := reachL_len (E := acc) (a := E[i].f0) hE.k0
    have hj : E[i].f1.toNat < (reachL K acc E[i].f0).length := by omega
    have hr := rdB hj
    rw [Int.toNat_of_nonneg (by omega)] at hr
    refine Ev.yes (by omega) (Ev.yes (by omega) (Ev.bind (e_spec_WayReach K acc E[i].f0) ?_))
    rw [er, hr, reachL_get, Int.toNat_of_nonneg (by omega), drop_cons _ hlt]
    refine Ev.yes (by omega) (Ev.yes (by omega) ?_)
    by_cases h : Conn acc E[i].f0 E[i].f1
    · rw [kr_yes h]
      exact Ev.yes (dec_true h) (ih (i + 1) acc (by omega) (hs.trans (by rw [take_snoc _ hlt]; exact List.sublist_append_left _ _)))
    · rw [kr_no h]
      exact Ev.no (by rw [dec_false h]; simp) (Ev.yes (by omega) (ih (i + 1) _ (by omega) (sub_snoc hlt hs)))
theorem e_spec_TreeOf (K : Int) (E : List STie) : Ev (fun k => spec_TreeOf.f k K E) (treeV K E) := by
  simp only [spec_TreeOf.f]
  refine Ev.bind (Ev.pure _) (Ev.bind (e_spec_NetOk K E) ?_)
  unfold treeV
  by_cases h : Ok K E
  · rw [if_pos (dec_true h)]
    exact Ev.yes (dec_true h) ((e_spec_TreeOf_l0 h E.length 0 [] (by omega) (List.nil_sublist _)).value (by simp))
  · rw [if_neg (by rw [dec_false h]; simp)]
    exact Ev.no (by rw [dec_false h]; simp) (Ev.pure _)
theorem e_impl_Net_tree_l0 {K : Int} {E : List STie} (hE : Ok K E) (d : Nat) : ∀ (i : Nat) (acc : List STie), i + d = E.length → acc.Sublist (E.take i) → Ev (fun k => impl_Net_tree.l0 k E (E.length : Int) (i : Int) K acc) (K, kr acc (E.drop i)) := by
  have hl := hE.len
  induction d with
  | zero =>
    intro i acc hi hs
    refine Ev.succ ?_
    simp only [impl_Net_tree.l0]
    refine Ev.no (by omega) ?_
    rw [List.drop_eq_nil_of_le (by omega), kr]
    exact Ev.pure _
  | succ d ih =>
    intro i acc hi hs
    have hlt : i < E.length := by omega
    have tie := hE.tie _ (List.getElem_mem hlt)
    have hacc : Ok K acc := hE.sub (hs.trans (List.take_sublist _ _))
    have hal := hs.length_le
    simp only [List.length_take] at hal
    refine Ev.succ ?_
    simp only [impl_Net_tree.l0]
    rw [rdT hlt, w64s (by omega)]
    refine Ev.yes (by omega) (Ev.yes (by omega) (Ev.yes (by omega) (Ev.bind (e_impl_Net_joined hacc (by omega) (by omega)) ?_)))
    rw [drop_cons _ hlt]
    by_cases h : Conn acc E[i].f0 E[i].f1
    · rw [kr_yes h]
      exact Ev.yes (dec_true h) (ih (i + 1) acc (by omega) (hs.trans (by rw [take_snoc _ hlt]; exact List.sublist_append_left _ _)))
    · rw [kr_no h]
      exact Ev.no (by rw [dec_false h]; simp) (Ev.yes (by omega) (ih (i + 1) _ (by omega) (sub_snoc hlt hs)))
theorem e_impl_Net_tree {K : Int} {E : List STie} (hE : Ok K E) : Ev (fun k => impl_Net_tree.f k K E) (K, kr [] E) := by
  simp only [impl_Net_tree.f]
  exact (e_impl_Net_tree_l0 hE E.length 0 [] (by omega) (List.nil_sublist _)).value (by simp)
theorem e_impl_TreeOf (K : Int) (E : List STie) (hl : E.length < 4611686018427387904) : Ev (fun k => impl_TreeOf.f k K E) (treeV K E) := by
  simp only [impl_TreeOf.f]
  refine Ev.bind (e_impl_NetOk K E hl) ?_
  unfold treeV
  by_cases h : Ok K E
  · rw [if_pos (dec_true h)]
    exact Ev.yes (dec_true h) (Ev.bind (e_impl_Net_tree h) (Ev.pure _))
  · rw [if_neg (by rw [dec_false h]; simp)]
    exact Ev.no (by rw [dec_false h]; simp) (Ev.pure _)
end Go.Proofs.Ytheoebelhgbejab.E
