/- Marks, and a tie cut. -/
import Derived.Test.YtheoebelhgbejabE2
import Derived.Test.YtheoebelhgbejabE3
namespace Go.Proofs.Ytheoebelhgbejab.E
open Go.RowKit Go.Proofs.YtheoebelhgbejabW.PrintWords Go.Proofs.YtheoebelhgbejabW.PrintMore Go.Proofs.Ytheoebelhgbejab.P Osier
set_option linter.unusedVariables false

/-! ### Marks on ties -/
def mk1 (j : Nat) : STie := ⟨1 + 2 * (j : Int), 2 + 2 * (j : Int)⟩
def marks (n : Nat) : List STie := (List.range n).map mk1
theorem marks_len (n : Nat) : (marks n).length = n := by simp [marks]
theorem marks_get {n j : Nat} (h : j < (marks n).length) : (marks n)[j] = mk1 j := by simp [marks]
theorem marks_take {n i : Nat} (h : i ≤ n) : (marks n).take i = marks i := by
  unfold marks
  rw [← List.map_take, List.take_range, Nat.min_eq_left h]
theorem marks_succ (n : Nat) : marks (n + 1) = marks n ++ [mk1 n] := by simp [marks, List.range_succ]
theorem e_laws_markTieS_l0 (n : Nat) (hn : n < 1099511627776) (d : Nat) : ∀ (i : Nat) (xs : List STie), i + d = n → xs.length = n → xs.take i = marks i → Ev (fun k => laws_markTieS.l0 k xs (1 + 2 * (i : Int)) (i : Int)) (1 + 2 * (n : Int), marks n) := by
  induction d with
  | zero =>
    intro i xs hi hx ht
    refine Ev.succ ?_
    simp only [laws_markTieS.l0]
    refine Ev.no (by omega) ?_
    obtain rfl : i = n := by omega
    have : xs = marks i := by rw [← ht, List.take_of_length_le (by omega)]
    rw [this]
    exact Ev.pure _
  | succ d ih =>
    intro i xs hi hx ht
    have hlt : i < xs.length := by omega
    refine Ev.succ ?_
    simp only [laws_markTieS.l0]
    refine Ev.yes (by omega) (Ev.yes (by omega) (Ev.bind (Ev.pure _) ?_))
    rw [rdT (show i < (xs.set ((i : Int).toNat) _).length by simpa using hlt)]
    simp only [Int.toNat_natCast, List.getElem_set_self, List.set_set]
    rw [w64 (x := 1 + 2 * (i : Int) + 1) (by omega) (by omega), w64s (by omega), w64 (by omega) (by omega)]
    have e1 : (1 + 2 * (i : Int) + 1 + 1) = 1 + 2 * ((i + 1 : Nat) : Int) := by omega
    have e2 : (⟨1 + 2 * (i : Int), 1 + 2 * (i : Int) + 1⟩ : STie) = mk1 i := by unfold mk1; exact Tie.ext' rfl (by show (1 + 2 * (i : Int) + 1 : Int) = 2 + 2 * (i : Int); omega)
    rw [e1, e2]
    refine ih (i + 1) _ (by omega) (by simpa using hx) ?_
    rw [set_take _ hlt, ht, marks_succ]
theorem e_laws_markTieS (xs : List STie) (hx : xs.length < 1099511627776) : Ev (fun k => laws_markTieS.f k xs 1) (1 + 2 * (xs.length : Int), marks xs.length) := by
  simp only [laws_markTieS.f]
  exact e_laws_markTieS_l0 xs.length hx xs.length 0 xs (by omega) rfl (by simp [marks])
theorem e_laws_markNet (K : Int) (xs : List STie) (hx : xs.length < 1099511627776) : Ev (fun k => laws_markNet.f k K xs 1) (1 + 2 * (xs.length : Int), marks xs.length) := by
  simp only [laws_markNet.f]
  exact Ev.bind (e_laws_markTieS xs hx) (Ev.pure _)
theorem e_laws_heldTieS_l0 (n : Nat) (hn : n < 1099511627776) (d : Nat) : ∀ (i : Nat), i + d = n → Ev (fun k => laws_heldTieS.l0 k (marks n) (1 + 2 * (i : Int)) (i : Int)) (1 + 2 * (n : Int)) := by
  induction d with
  | zero =>
    intro i hi
    refine Ev.succ ?_
    simp only [laws_heldTieS.l0]
    rw [marks_len]
    refine Ev.no (by omega) ?_
    obtain rfl : i = n := by omega
    exact Ev.pure _
  | succ d ih =>
    intro i hi
    have hlt : i < (marks n).length := by rw [marks_len]; omega
    have hm := hlt
    rw [marks_len] at hm
    refine Ev.succ ?_
    simp only [laws_heldTieS.l0]
    rw [rdT hlt, marks_get hlt, w64 (x := 1 + 2 * (i : Int) + 1) (by omega) (by omega), w64s (by omega), w64 (by omega) (by omega)]
    have e1 : (1 + 2 * (i : Int) + 1 + 1) = 1 + 2 * ((i + 1 : Nat) : Int) := by omega
    rw [e1]
    exact Ev.yes (by rw [marks_len]; omega) (Ev.yes (by omega) (Ev.yes (by unfold mk1; rfl) (Ev.yes (by unfold mk1; show (2 : Int) + _ = _; omega) (ih (i + 1) (by omega)))))
theorem e_laws_heldTieS (n : Nat) (hn : n < 1099511627776) : Ev (fun k => laws_heldTieS.f k (marks n) 1) (1 + 2 * (n : Int)) := by
  simp only [laws_heldTieS.f]
  exact e_laws_heldTieS_l0 n hn n 0 (by omega)
/-! ### A tie cut -/
noncomputable def cutV (K : Int) (E : List STie) (a b : Int) : Int × List STie × Bool := if dec (Ok K E ∧ mkT a b ∈ E) = true then (K, cut E (mkT a b), true) else (0, [], false)
theorem cut_filter (E : List STie) (t : STie) : cut E t = E.filter (fun s => dec (s ≠ t)) := by
  unfold cut
  congr 1
  funext s
  exact dec_decide
theorem e_spec_NetCut_l0 (K : Int) (E : List STie) (a b : Int) (hE : E.length < 1099511627776) (d : Nat) : ∀ (i : Nat) (acc : List STie), i + d = E.length → acc.length ≤ i → Ev (fun k => spec_NetCut.l0 k a b (i : Int) K E K acc) (K, acc ++ cut (E.drop i) (mkT a b), true) := by
  induction d with
  | zero =>
    intro i acc hi ha
    refine Ev.succ ?_
    simp only [spec_NetCut.l0]
    refine Ev.no (by omega) ?_
    rw [List.drop_eq_nil_of_le (by omega)]
    simpa [cut] using Ev.pure _
  | succ d ih =>
    intro i acc hi ha
    have hlt : i < E.length := by omega
    refine Ev.succ ?_
    simp only [spec_NetCut.l0]
    rw [rdT hlt, w64s (by omega)]
    refine Ev.yes (by omega) (Ev.yes (by omega) (Ev.bind (Ev.const (e_spec_l1Tie a b)) ?_))
    dsimp only
    rw [bne_tie, cut_filter, filter_drop_step hlt, ← cut_filter, ← List.append_assoc]
    by_cases h : E[i] ≠ mkT a b
    · refine Ev.yes (dec_true h) (Ev.yes (by omega) ((ih (i + 1) _ (by omega) (by simp; omega)).value ?_))
      rw [if_pos (dec_true h)]
    · refine Ev.no (by rw [dec_false h]; simp) ((ih (i + 1) acc (by omega) (by omega)).value ?_)
      rw [if_neg (by rw [dec_false h]; simp), List.append_nil]
theorem e_spec_NetCut (K : Int) (E : List STie) (a b : Int) (hE : E.length < 1099511627776) : Ev (fun k => spec_NetCut.f k K E a b) (cutV K E a b) := by
  simp only [spec_NetCut.f]
  refine Ev.bind (e_spec_NetHas K E a b (by omega)) ?_
  unfold cutV
  by_cases h : Ok K E ∧ mkT a b ∈ E
  · rw [if_pos (dec_true h)]
    exact Ev.yes (dec_true h) ((e_spec_NetCut_l0 K E a b hE E.length 0 [] (by omega) (by simp)).value (by simp))
  · rw [if_neg (by rw [dec_false h]; simp)]
    exact Ev.no (by rw [dec_false h]; simp) (Ev.pure _)
/-- less: without those of a list. -/
theorem e_impl_Net_less_l0 (K : Int) (E G : List STie) (hE : E.length < 1099511627776) (hG : G.length < 1099511627776) (d : Nat) : ∀ (i : Nat) (acc : List STie), i + d = E.length → acc.length ≤ i → Ev (fun k => impl_Net_less.l0 k G E (E.length : Int) (i : Int) K acc) (K, acc ++ (E.drop i).filter (fun s => dec (s ∉ G))) := by
  induction d with
  | zero =>
    intro i acc hi ha
    refine Ev.succ ?_
    simp only [impl_Net_less.l0]
    refine Ev.no (by omega) ?_
    rw [List.drop_eq_nil_of_le (by omega)]
    simpa using Ev.pure _
  | succ d ih =>
    intro i acc hi ha
    have hlt : i < E.length := by omega
    refine Ev.succ ?_
    simp only [impl_Net_less.l0]
    rw [rdT hlt, w64s (by omega), filter_drop_step hlt, ← List.append_assoc]
    refine Ev.yes (by omega) (Ev.yes (by omega) (Ev.yes (by omega) (Ev.bind (e_slices_Contains_Tie G E[i] (by omega)) ?_)))
    by_cases h : E[i] ∈ G
    · refine Ev.yes (dec_true h) ((ih (i + 1) acc (by omega) (by omega)).value ?_)
      rw [if_neg (by rw [dec_false (fun k => k h)]; simp), List.append_nil]
    · refine Ev.no (by rw [dec_false h]; simp) (Ev.yes (by omega) ((ih (i + 1) _ (by omega) (by simp; omega)).value ?_))
      rw [if_pos (dec_true h)]
theorem e_impl_Net_less (K : Int) (E G : List STie) (hE : E.length < 1099511627776) (hG : G.length < 1099511627776) : Ev (fun k => impl_Net_less.f k K E G) (K, E.filter (fun s => dec (s ∉ G))) := by
  simp only [impl_Net_less.f]
  exact (e_impl_Net_less_l0 K E G hE hG E.length 0 [] (by omega) (by simp)).value (by simp)
theorem less_one (E : List STie) (t : STie) : E.filter (fun s => dec (s ∉ [t])) = cut E t := by
  rw [cut_filter]
  congr 1
  funext s
  exact dec_congr (by simp)
theorem e_impl_NetCut (K : Int) (E : List STie) (a b : Int) (hE : E.length < 1099511627776) : Ev (fun k => impl_NetCut.f k K E a b) (cutV K E a b) := by
  simp only [impl_NetCut.f]
  refine Ev.bind (e_impl_NetHas K E a b (by omega)) ?_
  unfold cutV
  by_cases h : Ok K E ∧ mkT a b ∈ E
  · rw [if_pos (dec_true h)]
    refine Ev.yes (dec_true h) (Ev.bind (Ev.const (e_impl_tie a b)) (Ev.bind (e_impl_Net_less K E [mkT a b] hE (by simp)) ((Ev.pure _).value ?_)))
    rw [less_one]
  · rw [if_neg (by rw [dec_false h]; simp)]
    exact Ev.no (by rw [dec_false h]; simp) (Ev.pure _)
theorem cutV_len (K : Int) (E : List STie) (a b : Int) : (cutV K E a b).2.1.length ≤ E.length := by
  unfold cutV
  split
  · exact List.length_filter_le _ _
  · simp
end Go.Proofs.Ytheoebelhgbejab.E
