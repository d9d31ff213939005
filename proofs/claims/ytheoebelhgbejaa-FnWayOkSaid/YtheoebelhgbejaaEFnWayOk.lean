/- WayOk (P16): the pure statement. -/
import Derived.Test.YtheoebelhgbejaaEV
import Derived.Test.YtheoebelhgbejaaEL
namespace Go.Proofs.Ytheoebelhgbejaa.E
open Go.RowKit Go.Proofs.Ytheoebelhgbejaa.P Osier
set_option linter.unusedVariables false
theorem pth_reverse_iff {K : Int} {E : List STie} {w : List Int} : Pth K E w.reverse ↔ Pth K E w := ⟨fun h => by simpa using h.reverse, fun h => h.reverse⟩
theorem FnWayOk (l : List Int) (hl : l.length ≤ maxLen) (hw : ∀ x ∈ l, (Lit.int .u8 x).wf = true) (m : List Int) (hm : m.length ≤ maxLen) (hwm : ∀ x ∈ m, (Lit.int .u8 x).wf = true) : ∃ k, laws_FnWayOk.f k l m = some true := by
  refine Ev.get ?_
  simp only [laws_FnWayOk.f]
  have yes : Ev (fun k => laws_FnWayOk.j0 k l m true) true := by
    refine Ev.succ ?_
    simp only [laws_FnWayOk.j0]
    exact Ev.yes (by trivial) (Ev.pure _)
  by_cases h : (l.length : Int) > 1048576
  · exact Ev.yes h yes
  · refine Ev.no h ?_
    by_cases h2 : (m.length : Int) > 1048576
    · rw [decide_eq_true h2]
      exact yes
    · rw [decide_eq_false h2]
      obtain ⟨K, E, w, hd, hs, hwl⟩ := e_spec_DrawWayOk hw
      have hlen := hs.len
      refine Ev.succ ?_
      simp only [laws_FnWayOk.j0]
      refine Ev.no (by simp) (Ev.bind hd (Ev.bind (e_impl_WayOk K E w (by omega) (by omega)) (Ev.bind (e_spec_WayOk K E w (by omega) (by omega)) (Ev.no (by simp) (Ev.bind (e_laws_loBack w (by omega)) (Ev.bind (e_impl_WayOk K E w.reverse (by omega) (by simp; omega)) ?_))))))
      have hrev : dec (Ok K E ∧ Pth K E w.reverse) = dec (Ok K E ∧ Pth K E w) := dec_congr (and_congr_right fun _ => pth_reverse_iff)
      rw [hrev]
      refine Ev.no (by simp) (Ev.succ ?_)
      simp only [laws_FnWayOk.j1]
      by_cases g : Ok K E ∧ Pth K E w
      · rw [dec_true g]
        have hne : 0 < w.length := List.length_pos_iff.2 g.2.ne
        have e0 : (m.length : Int) % (w.length : Int) = ((m.length % w.length : Nat) : Int) := by rw [Int.natCast_emod]
        have hlt : m.length % w.length < w.length := Nat.mod_lt _ hne
        rw [e0]
        generalize m.length % w.length = r at hlt
        have e1 : wrap64 ((r : Int) + 1) = ((r + 1 : Nat) : Int) := w64s (by omega)
        simp only [e1, Int.toNat_natCast]
        have p1 : Pth K E (w.drop r) := by
          have : Pth K E (w.take r ++ w.drop r) := by rw [List.take_append_drop]; exact g.2
          exact this.right (by intro hn; have := congrArg List.length hn; simp at this; omega)
        have p2 : Pth K E (w.take (r + 1)) := by
          have : Pth K E (w.take (r + 1) ++ w.drop (r + 1)) := by rw [List.take_append_drop]; exact g.2
          exact this.left (by intro hn; have := congrArg List.length hn; rw [List.length_take, List.length_nil] at this; omega)
        refine Ev.no (by simp) (Ev.no (by omega) (Ev.yes (by omega) (Ev.yes (by omega) (Ev.bind (e_impl_WayOk K E _ (by omega) (by simp; omega)) (Ev.yes (dec_true ⟨g.1, p1⟩) (Ev.yes (by omega) (Ev.yes (by omega) (Ev.bind (e_impl_WayOk K E _ (by omega) (by simp; omega)) ((Ev.pure _).value (dec_true ⟨g.1, p2⟩))))))))))
      · rw [dec_false g] at hrev ⊢
        refine Ev.yes (by trivial) (Ev.bind (e_spec_WayOk K E w (by omega) (by omega)) ?_)
        rw [dec_false g]
        refine Ev.yes rfl (Ev.bind (e_laws_loBack w (by omega)) (Ev.bind (e_impl_WayOk K E w.reverse (by omega) (by simp; omega)) ((Ev.pure _).value ?_)))
        rw [hrev]; rfl
end Go.Proofs.Ytheoebelhgbejaa.E
