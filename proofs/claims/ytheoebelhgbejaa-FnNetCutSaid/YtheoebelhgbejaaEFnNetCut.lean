/- NetCut (P5): the pure statement. -/
import Derived.Test.YtheoebelhgbejaaEY
import Derived.Test.YtheoebelhgbejaaEL
import Derived.Test.YtheoebelhgbejaaEX
namespace Go.Proofs.Ytheoebelhgbejaa.E
open Go.RowKit Go.Proofs.Ytheoebelhgbejaa.P Osier
set_option linter.unusedVariables false
theorem cut_none {E : List STie} {t : STie} (h : t ∉ E) : cut E t = E := by
  unfold cut
  refine List.filter_eq_self.2 (fun s hs => ?_)
  simp only [decide_eq_true_eq]
  exact fun e => h (e ▸ hs)
theorem cut_length {E : List STie} (h : Asc E) {t : STie} (ht : t ∈ E) : (cut E t).length + 1 = E.length := by
  induction E with
  | nil => simp at ht
  | cons u l ih =>
    have h1 := List.pairwise_cons.1 h
    by_cases e : u = t
    · subst e
      have hn : u ∉ l := fun k => tlt_irrefl u (h1.1 u k)
      have : cut (u :: l) u = cut l u := by unfold cut; rw [List.filter_cons, if_neg (by simp)]
      rw [this, cut_none hn, List.length_cons]
    · have hm : t ∈ l := (List.mem_cons.1 ht).resolve_left (fun k => e k.symm)
      have : cut (u :: l) t = u :: cut l t := by unfold cut; rw [List.filter_cons, if_pos (by simpa using e)]
      rw [this, List.length_cons, List.length_cons, ih h1.2 hm]
theorem e_laws_FnNetCut_l0 {K : Int} {E : List STie} {a b : Int} (hE : Ok K E) (hm : mkT a b ∈ E) (d : Nat) : ∀ i, i + d = (cut E (mkT a b)).length → Ev (fun k => laws_FnNetCut.l0 k a b (i : Int) K E K (cut E (mkT a b))) true := by
  have hl := hE.len
  have hcl := cut_length hE.asc hm
  have hno : mkT a b ∉ cut E (mkT a b) := fun k => (mem_cut.1 k).2 rfl
  induction d with
  | zero =>
    intro i hi
    refine Ev.succ ?_
    simp only [laws_FnNetCut.l0]
    refine Ev.no (by omega) (Ev.bind (e_impl_NetCut K _ a b (by omega)) (Ev.bind (e_impl_NetOk K _ (by omega)) (Ev.yes (dec_true (hE.cut _)) ?_)))
    rw [w64 (x := (E.length : Int) - 1) (by omega) (by omega)]
    refine Ev.yes (by omega) (Ev.bind (e_impl_NetHas K _ a b (by omega)) (Ev.no (by rw [dec_false (fun k => hno k.2)]; simp) ((Ev.pure _).value ?_)))
    rw [cutV_none (fun k => hno k.2)]
    rfl
  | succ d ih =>
    intro i hi
    have hlt : i < (cut E (mkT a b)).length := by omega
    have hin : (cut E (mkT a b))[i] ∈ E := (mem_cut.1 (List.getElem_mem hlt)).1
    refine Ev.succ ?_
    simp only [laws_FnNetCut.l0]
    rw [rdT hlt, w64s (by omega)]
    exact Ev.yes (by omega) (Ev.yes (by omega) (Ev.bind (e_laws_loHas E _ (by omega)) (Ev.yes (dec_true hin) (ih (i + 1) (by omega)))))
theorem FnNetCut (l : List Int) (hl : l.length ≤ maxLen) (hw : ∀ x ∈ l, (Lit.int .u8 x).wf = true) : ∃ k, laws_FnNetCut.f k l = some true := by
  refine Ev.get ?_
  simp only [laws_FnNetCut.f]
  by_cases h : (l.length : Int) > 1048576
  · exact Ev.yes h (Ev.pure _)
  · obtain ⟨K, E, a, b, hd, hs⟩ := e_spec_DrawNetCut hw
    have hlen := hs.len
    have hc := cutV_len K E a b
    refine Ev.no h (Ev.bind hd (Ev.bind (e_spec_NetCut K E a b (by omega)) (Ev.bind (e_impl_NetCut K E a b (by omega)) (Ev.no (by simp) (Ev.bind (e_laws_loNet_same _ _ (by omega)) (Ev.yes (by trivial) (Ev.succ ?_)))))))
    simp only [laws_FnNetCut.j0]
    by_cases g : Ok K E ∧ mkT a b ∈ E
    · rw [cutV_yes g]
      exact Ev.no (by simp) (e_laws_FnNetCut_l0 g.1 g.2 (cut E (mkT a b)).length 0 (by omega))
    · rw [cutV_none g]
      exact Ev.yes (by simp) (Ev.yes (by simp) (Ev.bind (e_laws_loNet_same _ _ (by simp)) (Ev.pure _)))
end Go.Proofs.Ytheoebelhgbejaa.E
