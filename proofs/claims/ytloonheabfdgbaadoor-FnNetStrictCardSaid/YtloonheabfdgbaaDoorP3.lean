import Derived.Test.YtloonheabfdgbaaDoorP0
import Derived.Test.YtloonheabfdgbaaDoorP1
namespace Go.Proofs.YtloonheabfdgbaaDoor.P
open Go.RowKit Go.Proofs.YtloonheabfdgbaaDoorW.PrintWords Go.Proofs.YtloonheabfdgbaaDoorW.PrintLast Go.Proofs.YtloonheabfdgbaaDoorW.PrintMore
attribute [local go_sem] max2_int min2_int max_two min_two max_three min_three max_four min_four
set_option linter.unusedVariables false
set_option linter.unusedSimpArgs false
attribute [local go_sem high] eqATie
/-- A state of type 71 at block g of W; what its slices lead to came in by w0. -/
def IsSRd (w0 W : World) (g : Nat) (f0 : List Int) (f1 : Int) : Prop := ∃ A0 c0, W.heap[g]? = some (.cells #[.slice A0 f0.length c0, .int .i64 f1] 71 (0, 0)) ∧ w0.heap.size ≤ g ∧ Kd.C (Kd.int .u8) w0 A0 f0.length f0
theorem IsSRd.grown {w0 W : World} {g : Nat} {f0 : List Int} {f1 : Int} {W1 : World} {row : Option Nat} (h : IsSRd w0 W g f0 f1) (hw : W.grownBy W1 row) (hne : some g ≠ row) : IsSRd w0 W1 g f0 f1 := by
  obtain ⟨A0, c0, hb, hg, hr0⟩ := h
  exact ⟨A0, c0, blk_grown hb hw hne, hg, hr0⟩
theorem IsSRd.own_neN {w0 W : World} {g : Nat} {f0 : List Int} {f1 : Int} {α : Type} {d : Kd α} {e : Nat} {base : Nat} {ok : Nat → Prop} {v : Value} {xs : List α} (h : IsSRd w0 W g f0 f1) (ho : Kd.N d e W base ok v xs) (ht : e ≠ 71) : some g ≠ v.ownBlock := by
  obtain ⟨A0, c0, hb, hg, hr0⟩ := h
  exact Kd.N_ne ho hb ht
theorem IsSRd.fresh {w0 W : World} {g : Nat} {f0 : List Int} {f1 : Int} (h : IsSRd w0 W g f0 f1) : ∀ k, W.heap.size ≤ k → k ≠ g := by
  obtain ⟨A0, c0, hb, hg, hr0⟩ := h
  exact Kd.freshB hb
theorem IsSRd.kept {w0 W : World} {g : Nat} {f0 : List Int} {f1 : Int} {W1 : World} {S : Nat → Prop} (h : IsSRd w0 W g f0 f1) (hk : Kept W W1 S) (hne : ¬ S g) : IsSRd w0 W1 g f0 f1 := by
  obtain ⟨A0, c0, hb, hg, hr0⟩ := h
  exact ⟨A0, c0, blk_kept hb hk hne, hg, hr0⟩
theorem IsSRd.below {w0 W : World} {g : Nat} {f0 : List Int} {f1 : Int} {W1 : World} (h : IsSRd w0 W g f0 f1) (hw : Below W.heap.size W W1) : IsSRd w0 W1 g f0 f1 := h.grown (grown_of_below hw none) (by simp)
theorem IsSRd.alloc {w0 W : World} {g : Nat} {f0 : List Int} {f1 : Int} (h : IsSRd w0 W g f0 f1) (o : Obj) : IsSRd w0 (W.alloc o) g f0 f1 := h.below (below_alloc (Below.refl _ _) o)
theorem IsSRd.drewN {w0 W : World} {g : Nat} {f0 : List Int} {f1 : Int} (h : IsSRd w0 W g f0 f1) (m : Nat) : IsSRd w0 (W.drewN m) g f0 f1 := h
theorem IsSRd.drew {w0 W : World} {g : Nat} {f0 : List Int} {f1 : Int} (h : IsSRd w0 W g f0 f1) : IsSRd w0 W.drew g f0 f1 := h
theorem IsSRd.at_ {w0 W : World} {g : Nat} {f0 : List Int} {f1 : Int} {w' : World} {m : Nat} (hq : W.drewN m = w') (h : IsSRd w0 W g f0 f1) : IsSRd w0 w' g f0 f1 := by subst hq; exact IsSRd.drewN h m
theorem IsSRd.apart {w0 W : World} {g : Nat} {f0 : List Int} {f1 : Int} {α : Type} {d : Kd α} {e : Nat} {base : Nat} {ok : Nat → Prop} {v : Value} {xs : List α} (h : IsSRd w0 W g f0 f1) (ho : d.R e W base ok v xs) (ht : ∀ q, q ∈ e :: d.E → q ≠ 71) : d.R e W base (fun k => ok k ∧ k ≠ g) v xs := by
  obtain ⟨A0, c0, hb, hg, hr0⟩ := h
  exact Kd.R_types ho hb ht
theorem IsSRd.own_ne {w0 W : World} {g : Nat} {f0 : List Int} {f1 : Int} {α : Type} {d : Kd α} {e : Nat} {base : Nat} {ok : Nat → Prop} {v : Value} {xs : List α} (h : IsSRd w0 W g f0 f1) (ho : d.R e W base ok v xs) (ht : e ≠ 71) : some g ≠ v.ownBlock := by
  obtain ⟨A0, c0, hb, hg, hr0⟩ := h
  exact Kd.R_ne ho hb ht
theorem IsSRd.apartQ {w0 W : World} {g : Nat} {f0 : List Int} {f1 : Int} {α : Type} {d : Kd α} {e : Nat} {base : Nat} {ok : Nat → Prop} {v : Value} {xs : List α} (h : IsSRd w0 W g f0 f1) (ho : d.Q e W base ok v xs) (ht : ∀ q, q ∈ e :: d.E → q ≠ 71) : d.Q e W base (fun k => ok k ∧ k ≠ g) v xs := by
  obtain ⟨A0, c0, hb, hg, hr0⟩ := h
  exact Kd.Q_types ho hb ht
theorem IsSRd.own_neQ {w0 W : World} {g : Nat} {f0 : List Int} {f1 : Int} {α : Type} {d : Kd α} {e : Nat} {base : Nat} {ok : Nat → Prop} {v : Value} {xs : List α} (h : IsSRd w0 W g f0 f1) (ho : d.Q e W base ok v xs) (ht : e ≠ 71) : some g ≠ v.ownBlock := by
  obtain ⟨A0, c0, hb, hg, hr0⟩ := h
  exact Kd.Q_ne ho hb ht
theorem IsSRd.apartS {w0 W : World} {g : Nat} {f0 : List Int} {f1 : Int} {α : Type} {d : Kd α} {e : Nat} {base : Nat} {ok : Nat → Prop} {v : Value} {xs : List α} (h : IsSRd w0 W g f0 f1) (ho : d.S e W base ok v xs) (ht : ∀ q, q ∈ e :: d.E → q ≠ 71) : d.S e W base (fun k => ok k ∧ k ≠ g) v xs := by
  obtain ⟨A0, c0, hb, hg, hr0⟩ := h
  exact Kd.S_types ho hb ht
theorem IsSRd.own_neS {w0 W : World} {g : Nat} {f0 : List Int} {f1 : Int} {α : Type} {d : Kd α} {e : Nat} {base : Nat} {ok : Nat → Prop} {v : Value} {xs : List α} (h : IsSRd w0 W g f0 f1) (ho : d.S e W base ok v xs) (ht : e ≠ 71) : some g ≠ v.ownBlock := by
  obtain ⟨A0, c0, hb, hg, hr0⟩ := h
  exact Kd.S_ne ho hb ht
theorem IsSRd.lt {w0 W : World} {g : Nat} {f0 : List Int} {f1 : Int} (h : IsSRd w0 W g f0 f1) : g < W.heap.size := by
  obtain ⟨A0, c0, hb, hg, hr0⟩ := h
  exact blk_lt hb
theorem IsSRd.ge {w0 W : World} {g : Nat} {f0 : List Int} {f1 : Int} (h : IsSRd w0 W g f0 f1) : w0.heap.size ≤ g := by
  obtain ⟨A0, c0, hb, hg, hr0⟩ := h
  exact hg
theorem IsSRd.ne_blk {w0 W : World} {g : Nat} {f0 : List Int} {f1 : Int} {a : Nat} {cs : Array Value} {t : TypeId} {fr : Nat × Nat} (h : IsSRd w0 W g f0 f1) (hb2 : W.heap[a]? = some (.cells cs t fr)) (ht : t ≠ 71) : g ≠ a := by
  obtain ⟨A0, c0, hb, hg, hr0⟩ := h
  rintro rfl
  rw [hb] at hb2
  injection hb2 with hb2
  injection hb2 with _ ht2
  exact ht ht2.symm
theorem IsSRd.far {w0 W : World} {g : Nat} {f0 : List Int} {f1 : Int} {p : Addr} (h : IsSRd w0 W g f0 f1) (hne : g ≠ p.block) (u : Value) : IsSRd w0 (W.setCell p u) g f0 f1 := by
  obtain ⟨A0, c0, hb, hg, hr0⟩ := h
  exact ⟨A0, c0, blk_far hb hne u, hg, hr0⟩
theorem cellS71_0 {W : World} {g : Nat} {A0 : Option Addr} {c0 : Nat} {f0 : List Int} {f1 : Int} (h : W.heap[g]? = some (.cells #[.slice A0 f0.length c0, .int .i64 f1] 71 (0, 0))) : W.cell? ⟨g, 0, none⟩ = some (.slice A0 f0.length c0) := (blk_cell h 0).trans rfl
theorem cellS71_1 {W : World} {g : Nat} {A0 : Option Addr} {c0 : Nat} {f0 : List Int} {f1 : Int} (h : W.heap[g]? = some (.cells #[.slice A0 f0.length c0, .int .i64 f1] 71 (0, 0))) : W.cell? ⟨g, 1, none⟩ = some (.int .i64 f1) := (blk_cell h 1).trans rfl
theorem IsSRd.set_1 {w0 W : World} {g : Nat} {f0 : List Int} {f1 : Int} (h : IsSRd w0 W g f0 f1) (x : Int) : IsSRd w0 (W.setCell ⟨g, 1, none⟩ (.int .i64 x)) g f0 x := by
  obtain ⟨A0, c0, hb, hg, hr0⟩ := h
  exact ⟨A0, c0, by simpa using blk_set hb 1 (.int .i64 x), hg, hr0⟩
theorem IsSRd.new (w0 W : World) (A0 : Option Addr) (c0 : Nat) (f0 : List Int) (f1 : Int) (hB : Below w0.heap.size w0 W) (hr0 : Kd.C (Kd.int .u8) w0 A0 f0.length f0) : IsSRd w0 (W.alloc (.cells #[.slice A0 f0.length c0, .int .i64 f1] 71)) W.heap.size f0 f1 := ⟨A0, c0, by simpa using heap_alloc_new W _, hB.size, hr0⟩
theorem qi {w0 W W' : World} {g : Nat} {f0 : List Int} {f1 f2 : Int} (h : IsSRd w0 W g f0 f1) (f : IsSRd w0 W g f0 f1 → IsSRd w0 W' g f0 f2 := by intro h; repeat (first | (with_reducible first | exact h | apply IsSRd.alloc | apply IsSRd.drewN | apply IsSRd.drew | apply IsSRd.set_1 | refine IsSRd.far ?_ (Aside0.out (by assumption)) _) | exact h)) : IsSRd w0 W' g f0 f2 := f h
theorem qj {w0 w W W' : World} {g : Nat} {f0 : List Int} {f1 : Int} (h : Below w0.heap.size w0 W) (hi : IsSRd w0 w g f0 f1) (f : Below w0.heap.size w0 W → w0.heap.size ≤ g → Below w0.heap.size w0 W' := by intro h hge; repeat (first | (with_reducible first | exact h | apply below_alloc | apply pw_below_drewN | apply below_drew1 | refine below_set ?_ hge | refine below_set ?_ (Aside0.out (by assumption))) | exact h)) : Below w0.heap.size w0 W' := f h hi.ge
set_option maxHeartbeats 8000000 in
set_option maxRecDepth 100000 in
theorem spec_l6Rd_pick.calls (k : Nat) (g : Nat) (s0_0 : List Int) (s0_1 : Int) (a1 : Int) (r1 : Int) (r2 : Int) (w0 w : World) (hI : IsSRd w0 w g s0_0 s0_1) (hB : Below w0.heap.size w0 w) (h : spec_l6Rd_pick.f k s0_0 s0_1 a1 = some (r1, r2)) :
    Calls Tryd.prog 38 #[.pointer (some ⟨g, 0, none⟩), .int .i64 a1] w fun e w' => e = .returned (.int .i64 r1) ∧ IsSRd w0 w' g s0_0 r2 ∧ Below w0.heap.size w0 w' ∧ KeepBut w w' g none := by
 have HI0 := q0 hI
 have HK := q0 (KeepBut.refl w g none)
 have HL := q0 hB.size
 clear hI
 have HW0 := q0 hB.size
 have HB := q0 hB
 clear hB
 have H : (if a1 < 1 then (spec_l6Rd_pick.j0 k a1 true s0_0 (wrap64 (s0_1 + 1))) else (spec_l6Rd_pick.j0 k a1 ((s0_0.length : Int) == 0) s0_0 (wrap64 (s0_1 + 1)))) = some (r1, r2) := h
 clear h
 have HC3 := q0 H
 clear H
 obtain ⟨ASz4_0, cSz4_0, HGz4, hgz4, HSz4_0⟩ := HI0.out
 have hcz4_0 := cellS71_0 HGz4
 have hcz4_1 := cellS71_1 HGz4
 have hfz4_1 := blk_frozen HGz4 1
 clear HGz4 hgz4
 go_enter Tryd.func38, Tryd.ntmps38
 go_upto_region 2 with (fail)
 repeat (go_quiet (fail); go_upto_region 2 with (fail))
 go_cut [24] (fun v24 wc => ∃ (kq : Nat) (x24_2 : Bool), v24 = .bool x24_2 ∧ Aside0 (spec_l6Rd_pick.j0 kq a1 x24_2 s0_0 (wrap64 (s0_1 + 1)) = some (r1, r2)) ∧ Aside0 (kq ≤ k) ∧ Aside0 (IsSRd w0 wc g s0_0 (wrap64 (s0_1 + 1))) ∧ Aside0 (KeepBut w wc g none) ∧ Aside0 (Below w0.heap.size w0 wc))
 case first =>
   have H := HC3.out
   clear HC3
   by_cases c5 : a1 < 1
   · rw [if_pos c5] at H
     have c5b0 := decide_eq_true c5
     clear c5
     (first | rw [c5b0] | (simp only [i64_w, i32_w]; rw [c5b0]) | skip)
     have H' := q0 H
     clear H
     go_wp2
     repeat (go_quiet (fail); try go_wp2)
     go_meet
     case rel => exact ⟨_, (true), qs, H', ⟨by first | omega | exact Nat.le_refl _⟩, ⟨qi HI0.out⟩, ⟨qh HK.out⟩, ⟨qj HB.out HI0.out⟩⟩
   rw [if_neg c5] at H
   have c5b0 := decide_eq_false c5
   clear c5
   (first | rw [c5b0] | (simp only [i64_w, i32_w]; rw [c5b0]) | skip)
   have H' := q0 H
   clear H
   obtain ⟨ASz6_0, cSz6_0, HGz6, hgz6, HSz6_0⟩ := HI0.out
   have hcz6_0 := cellS71_0 HGz6
   have hcz6_1 := cellS71_1 HGz6
   have hfz6_1 := blk_frozen HGz6 1
   clear HGz6 hgz6
   go_wp2
   repeat (go_quiet (fail); try go_wp2)
   go_meet
   case rel => exact ⟨_, (((s0_0.length : Int) == 0)), qs, H', ⟨by first | omega | exact Nat.le_refl _⟩, ⟨qi HI0.out⟩, ⟨qh HK.out⟩, ⟨qj HB.out HI0.out⟩⟩
 clear HC3
 try clear p2
 try clear c3
 try clear c5
 try clear c5b0
 try clear p6
 try clear hcz4_0
 try clear hcz4_1
 try clear hcz6_0
 try clear hcz6_1
 try clear hfz4_1
 try clear hfz6_1
 obtain ⟨kq, x24_2, rfl, HA, HJ2, HI0, HK, HB⟩ := hcut
 rcases kq with _ | kj2
 · exact absurd HA.out (by simp [spec_l6Rd_pick.j0])
 have H := HA.out
 clear HA
 simp only [spec_l6Rd_pick.j0] at H
 by_cases c7 : x24_2 = true
 · subst c7
   rw [if_pos rfl] at H
   simp only [Option.some.injEq, Prod.mk.injEq] at H
   obtain ⟨rfl, rfl⟩ := H
   go_wp2
   repeat (go_quiet (fail); try go_wp2)
   go_ret
   exact ⟨qe, qi HI0.out, qj HB.out HI0.out, by repeat (first | (with_reducible first | exact HK.out | apply KeepBut.set_ | apply keep_drewN | apply keep_drew | apply keep_alloc) | exact HK.out)⟩
 replace c7 := Bool.eq_false_iff.mpr c7
 subst c7
 rw [if_neg nf] at H
 by_cases c8 : (wrap64 ((wrap64 (s0_1 + 1)) - 1)) < (s0_0.length : Int)
 · rw [if_pos c8] at H
   have c8b0 := decide_eq_true c8
   clear c8
   obtain ⟨ji9, hji9⟩ : ∃ j_ : Int, (wrap64 ((wrap64 (s0_1 + 1)) - 1)) = j_ := ⟨_, rfl⟩
   replace H : (if 0 ≤ (ji9) then (if a1 = 0 then (none) else (some (Int.tmod (wrap64 (rd s0_0 (ji9))) a1, (wrap64 (s0_1 + 1))))) else (none)) = some (r1, r2) := by first | (rw [hji9] at H; exact H) | (simp only [hji9] at H ⊢; exact H)
   (try rw [hji9] at c8b0)
   have hji9w : (IntKind.i64.wrap ((wrap64 (s0_1 + 1)) - 1)) = ji9 := (i64_w _).trans hji9
   obtain ⟨c10, H⟩ : (0 ≤ (ji9)) ∧ _ := og H
   have c10b0 := decide_eq_true c10
   clear c10
   by_cases c11 : a1 = 0
   · rw [if_pos c11] at H
     exact absurd H (by simp)
   rw [if_neg c11] at H
   have c11b0 : (a1 == 0) = false := beq_eq_false_iff_ne.mpr c11
   have c11b1 : (a1 != 0) = true := bne_iff_ne.mpr c11
   simp only [Option.some.injEq, Prod.mk.injEq] at H
   obtain ⟨rfl, rfl⟩ := H
   obtain ⟨ASz12_0, cSz12_0, HGz12, hgz12, HSz12_0⟩ := HI0.out
   have hcz12_0 := cellS71_0 HGz12
   have hcz12_1 := cellS71_1 HGz12
   have hfz12_1 := blk_frozen HGz12 1
   clear HGz12 hgz12
   have p102 : 0 ≤ ((ji9) : Int) := of_decide_eq_true qa
   have q102 : (ji9) < (s0_0.length : Int) := of_decide_eq_true qa
   obtain ⟨ad102, e102, hx102_0⟩ := Kd.at_int HSz12_0 (ji9) p102 q102
   cases e102
   replace hx102_0 := pw_cell_below HB.out hx102_0
   replace p102 := eq_true p102
   replace q102 := eq_true q102
   go_wp2
   repeat (go_quiet (fail); try go_wp2)
   go_ret
   exact ⟨by first | rfl | (simp [errW_none, errW_some] <;> rfl) | (simp only [← hji9]; first | rfl | (simp [errW_none, errW_some] <;> rfl)) | (simp [*, errW_none, errW_some] <;> rfl), qi HI0.out, qj HB.out HI0.out, by repeat (first | (with_reducible first | exact HK.out | apply KeepBut.set_ | apply keep_drewN | apply keep_drew | apply keep_alloc) | exact HK.out)⟩
 rw [if_neg c8] at H
 have c8b0 := decide_eq_false c8
 clear c8
 by_cases c13 : (s0_0.length : Int) = 0
 · rw [if_pos c13] at H
   exact absurd H (by simp)
 rw [if_neg c13] at H
 have c13b0 : ((s0_0.length : Int) == 0) = false := beq_eq_false_iff_ne.mpr c13
 have c13b1 : ((s0_0.length : Int) != 0) = true := bne_iff_ne.mpr c13
 have c13b2 : ¬ (s0_0 = []) := fun h_ => c13 (by rw [h_]; rfl)
 obtain ⟨ji14, hji14⟩ : ∃ j_ : Int, (Int.tmod (wrap64 ((wrap64 (s0_1 + 1)) - 1)) (s0_0.length : Int)) = j_ := ⟨_, rfl⟩
 replace H : (if 0 ≤ (ji14) then (if (ji14) < (s0_0.length : Int) then (if 0 ≤ (Int.tmod (wrap64 ((wrap64 ((wrap64 ((wrap64 (s0_1 + 1)) - 1)) * 7)) + 3)) (s0_0.length : Int)) then (if (Int.tmod (wrap64 ((wrap64 ((wrap64 ((wrap64 (s0_1 + 1)) - 1)) * 7)) + 3)) (s0_0.length : Int)) < (s0_0.length : Int) then (if a1 = 0 then (none) else (some (Int.tmod (Go.bits .xor .i64 (wrap64 ((wrap64 ((wrap64 ((wrap64 ((wrap64 (rd s0_0 (ji14))) * 131)) + (wrap64 ((wrap64 (rd s0_0 (Int.tmod (wrap64 ((wrap64 ((wrap64 ((wrap64 (s0_1 + 1)) - 1)) * 7)) + 3)) (s0_0.length : Int)))) * 1117)))) + (wrap64 ((wrap64 ((wrap64 (s0_1 + 1)) - 1)) * 29)))) + (wrap64 ((wrap64 (Int.tdiv (wrap64 ((wrap64 (s0_1 + 1)) - 1)) (s0_0.length : Int))) * 53)))) (wrap64 (Int.tdiv (wrap64 ((wrap64 ((wrap64 ((wrap64 ((wrap64 (rd s0_0 (ji14))) * 131)) + (wrap64 ((wrap64 (rd s0_0 (Int.tmod (wrap64 ((wrap64 ((wrap64 ((wrap64 (s0_1 + 1)) - 1)) * 7)) + 3)) (s0_0.length : Int)))) * 1117)))) + (wrap64 ((wrap64 ((wrap64 (s0_1 + 1)) - 1)) * 29)))) + (wrap64 ((wrap64 (Int.tdiv (wrap64 ((wrap64 (s0_1 + 1)) - 1)) (s0_0.length : Int))) * 53)))) 64))) a1, (wrap64 (s0_1 + 1))))) else (none)) else (none)) else (none)) else (none)) = some (r1, r2) := by first | (rw [hji14] at H; exact H) | (simp only [hji14] at H ⊢; exact H)
 obtain ⟨c15, H⟩ : (0 ≤ (ji14)) ∧ _ := og H
 have c15b0 := decide_eq_true c15
 clear c15
 obtain ⟨c16, H⟩ : ((ji14) < (s0_0.length : Int)) ∧ _ := og H
 have c16b0 := decide_eq_true c16
 clear c16
 obtain ⟨ji17, hji17⟩ : ∃ j_ : Int, (Int.tmod (wrap64 ((wrap64 ((wrap64 ((wrap64 (s0_1 + 1)) - 1)) * 7)) + 3)) (s0_0.length : Int)) = j_ := ⟨_, rfl⟩
 replace H : (if 0 ≤ (ji17) then (if (ji17) < (s0_0.length : Int) then (if a1 = 0 then (none) else (some (Int.tmod (Go.bits .xor .i64 (wrap64 ((wrap64 ((wrap64 ((wrap64 ((wrap64 (rd s0_0 (ji14))) * 131)) + (wrap64 ((wrap64 (rd s0_0 (ji17))) * 1117)))) + (wrap64 ((wrap64 ((wrap64 (s0_1 + 1)) - 1)) * 29)))) + (wrap64 ((wrap64 (Int.tdiv (wrap64 ((wrap64 (s0_1 + 1)) - 1)) (s0_0.length : Int))) * 53)))) (wrap64 (Int.tdiv (wrap64 ((wrap64 ((wrap64 ((wrap64 ((wrap64 (rd s0_0 (ji14))) * 131)) + (wrap64 ((wrap64 (rd s0_0 (ji17))) * 1117)))) + (wrap64 ((wrap64 ((wrap64 (s0_1 + 1)) - 1)) * 29)))) + (wrap64 ((wrap64 (Int.tdiv (wrap64 ((wrap64 (s0_1 + 1)) - 1)) (s0_0.length : Int))) * 53)))) 64))) a1, (wrap64 (s0_1 + 1))))) else (none)) else (none)) = some (r1, r2) := by first | (rw [hji17] at H; exact H) | (simp only [hji17] at H ⊢; exact H)
 obtain ⟨c18, H⟩ : (0 ≤ (ji17)) ∧ _ := og H
 have c18b0 := decide_eq_true c18
 clear c18
 obtain ⟨c19, H⟩ : ((ji17) < (s0_0.length : Int)) ∧ _ := og H
 have c19b0 := decide_eq_true c19
 clear c19
 by_cases c20 : a1 = 0
 · rw [if_pos c20] at H
   exact absurd H (by simp)
 rw [if_neg c20] at H
 have c20b0 : (a1 == 0) = false := beq_eq_false_iff_ne.mpr c20
 have c20b1 : (a1 != 0) = true := bne_iff_ne.mpr c20
 simp only [Option.some.injEq, Prod.mk.injEq] at H
 obtain ⟨rfl, rfl⟩ := H
 obtain ⟨ASz21_0, cSz21_0, HGz21, hgz21, HSz21_0⟩ := HI0.out
 have hcz21_0 := cellS71_0 HGz21
 have hcz21_1 := cellS71_1 HGz21
 have hfz21_1 := blk_frozen HGz21 1
 clear HGz21 hgz21
 have p103 : 0 ≤ ((ji14) : Int) := of_decide_eq_true qa
 have q103 : (ji14) < (s0_0.length : Int) := of_decide_eq_true qa
 obtain ⟨ad103, e103, hx103_0⟩ := Kd.at_int HSz21_0 (ji14) p103 q103
 cases e103
 replace hx103_0 := pw_cell_below HB.out hx103_0
 replace p103 := eq_true p103
 replace q103 := eq_true q103
 have p104 : 0 ≤ ((ji17) : Int) := of_decide_eq_true qa
 have q104 : (ji17) < (s0_0.length : Int) := of_decide_eq_true qa
 obtain ⟨ad104, e104, hx104_0⟩ := Kd.at_int HSz21_0 (ji17) p104 q104
 obtain rfl : ad103 = ad104 := (by injection e104)
 replace hx104_0 := pw_cell_below HB.out hx104_0
 replace p104 := eq_true p104
 replace q104 := eq_true q104
 go_wp2
 repeat (go_quiet (fail); try go_wp2)
 go_ret
 exact ⟨by first | rfl | (simp [errW_none, errW_some] <;> rfl) | (simp only [← hji14, ← hji17]; first | rfl | (simp [errW_none, errW_some] <;> rfl)) | (simp [*, errW_none, errW_some] <;> rfl), qi HI0.out, qj HB.out HI0.out, by repeat (first | (with_reducible first | exact HK.out | apply KeepBut.set_ | apply keep_drewN | apply keep_drew | apply keep_alloc) | exact HK.out)⟩

set_option maxHeartbeats 8000000 in
set_option maxRecDepth 100000 in
theorem spec_l1Knot.calls (k : Nat) (a0_0 : Int) (A0_1 : Option Addr) (c0_1 : Nat) (l0_1 : List (STie)) (a1 : Int) (r : Bool) (w : World) (hr0_1 : Kd.C kTie w A0_1 l0_1.length l0_1) (hc0_1 : l0_1.length ≤ c0_1) (h : spec_l1Knot.f k a0_0 l0_1 a1 = some r) :
    Calls Tryd.prog 64 #[.agg #[.int .i64 a0_0, .slice A0_1 l0_1.length c0_1], .int .i64 a1] w fun e w' => e = .returned (.bool r) ∧ Below w.heap.size w w' := by
 have hu24 := Tryd.underlying24
 have HR0_1 := q0 hr0_1
 have HC0_1 := q0 hc0_1
 clear hr0_1 hc0_1
 have HB := q0 (Below.refl w.heap.size w)
 have H : ((spec_NetOk.f k a0_0 l0_1).bind fun t100 => (if t100 = true then ((spec_l6In.f a1 0 (wrap64 (a0_0 - 1))).bind fun t101 => (some t101)) else (some false))) = some r := h
 clear h
 obtain ⟨t100, A3, H⟩ := ob H
 by_cases c4 : t100 = true
 rotate_left
 · replace c4 := Bool.eq_false_iff.mpr c4
   subst c4
   rw [if_neg nf] at H
   obtain rfl := Option.some.inj H
   go_enter Tryd.func64, Tryd.ntmps64
   go_wp2_with (first | ((with_reducible refine gd 2 ?_); refine be 2 #[.int .i64 a0_0, .slice A0_1 l0_1.length c0_1] 24 ?_; intro gb102 hg w10 hbox hb; have BK102 := q0 (hbox); have GW102 := gw HB hg; have GE102 := gw HB hg; replace HB := bp HB hb; clear hb hbox hg; obtain ⟨hcz11_0, hcz11_1, hfz11_0, hfz11_1⟩ := b2 BK102) | ((with_reducible refine gf 17 ?_); refine gl 6 Tryd.func17 #[.agg #[.int .i64 a0_0, .slice A0_1 l0_1.length c0_1]] ?_; (with_reducible refine (spec_NetOk.calls k a0_0 _ _ l0_1 false _ ?side1 ?side2 A3.out).mono ?_); (case side1 => exact qc (Kd.C_below HR0_1.out HB.out)); (case side2 => exact HC0_1.out); rintro e w12 ⟨rfl, hb⟩; refine ⟨_, rfl, ?_⟩; replace BK102 := kd BK102 hb; replace HB := bp HB hb; (try clear hb); (try clear hb2); (try clear hk); (try clear hi)))
   go_ret
   exact ⟨qe, qb HB.out⟩
 subst c4
 rw [if_pos rfl] at H
 obtain ⟨t101, A5, H⟩ := ob H
 obtain rfl := Option.some.inj H
 go_enter Tryd.func64, Tryd.ntmps64
 go_wp2_with (first | ((with_reducible refine gd 2 ?_); refine be 2 #[.int .i64 a0_0, .slice A0_1 l0_1.length c0_1] 24 ?_; intro gb102 hg w6 hbox hb; have BK102 := q0 (hbox); have GW102 := gw HB hg; have GE102 := gw HB hg; replace HB := bp HB hb; clear hb hbox hg; obtain ⟨hcz7_0, hcz7_1, hfz7_0, hfz7_1⟩ := b2 BK102) | ((with_reducible refine gf 17 ?_); refine gl 6 Tryd.func17 #[.agg #[.int .i64 a0_0, .slice A0_1 l0_1.length c0_1]] ?_; (with_reducible refine (spec_NetOk.calls k a0_0 _ _ l0_1 true _ ?side1 ?side2 A3.out).mono ?_); (case side1 => exact qc (Kd.C_below HR0_1.out HB.out)); (case side2 => exact HC0_1.out); rintro e w8 ⟨rfl, hb⟩; refine ⟨_, rfl, ?_⟩; replace BK102 := kd BK102 hb; replace HB := bp HB hb; (try clear hb); (try clear hb2); (try clear hk); (try clear hi); obtain ⟨hcz9_0, hcz9_1, hfz9_0, hfz9_1⟩ := b2 BK102) | (go_at_call 34; (with_reducible refine (spec_l6In.calls a1 0 (wrap64 (a0_0 - 1)) t101 _ A5.out).mono ?_); rintro e w' ⟨rfl, ⟨nd, rfl⟩⟩))
 go_ret
 exact ⟨qe, qb HB.out⟩

set_option maxHeartbeats 8000000 in
set_option maxRecDepth 100000 in
theorem spec_l1Tie.calls (a0 : Int) (a1 : Int) (r1 : Int) (r2 : Int) (w : World) (h : spec_l1Tie.f a0 a1 = some (r1, r2)) :
    Calls Tryd.prog 66 #[.int .i64 a0, .int .i64 a1] w fun e w' => e = .returned (.agg #[.int .i64 r1, .int .i64 r2]) ∧ Below w.heap.size w w' := by
 have hu47 := Tryd.underlying47
 have HB := q0 (Below.refl w.heap.size w)
 have H : (if a0 < a1 then (some (a0, a1)) else (some (a1, a0))) = some (r1, r2) := h
 clear h
 by_cases c3 : a0 < a1
 · rw [if_pos c3] at H
   have c3b0 := decide_eq_true c3
   clear c3
   simp only [Option.some.injEq, Prod.mk.injEq] at H
   obtain ⟨rfl, rfl⟩ := H
   go_enter Tryd.func66, Tryd.ntmps66
   go_wp2_with (first | ((with_reducible refine gd 4 ?_); refine be 4 #[.int .i64 0, .int .i64 0] 47 ?_; intro gb100 hg w4 hbox hb; have BK100 := q0 (hbox); have GW100 := gw HB hg; have GE100 := gw HB hg; replace HB := bp HB hb; clear hb hbox hg; obtain ⟨hcz5_0, hcz5_1, hfz5_0, hfz5_1⟩ := b2 BK100))
   refine bodyPost_ret (results_cell_row rfl _ _ gb100 47 #[.int .i64 a0, .int .i64 a1] (0, 0) _ rfl (by (with_reducible repeat (first | refine blk_drewN ?_ _ | refine blk_drew ?_ | refine blk_alloc ?_ _)); refine blk_put (cs := #[.int .i64 a0, .int .i64 0]) ?_ 1 _ rfl; (with_reducible repeat (first | refine blk_drewN ?_ _ | refine blk_drew ?_ | refine blk_alloc ?_ _)); refine blk_put (cs := #[.int .i64 0, .int .i64 0]) ?_ 0 _ rfl; (with_reducible repeat (first | refine blk_drewN ?_ _ | refine blk_drew ?_ | refine blk_alloc ?_ _)); exact BK100.out) Tryd.underlying47 rfl (by kernel_rfl)) rfl ?_
   exact ⟨qe, qb HB.out⟩
 rw [if_neg c3] at H
 have c3b0 := decide_eq_false c3
 clear c3
 simp only [Option.some.injEq, Prod.mk.injEq] at H
 obtain ⟨rfl, rfl⟩ := H
 go_enter Tryd.func66, Tryd.ntmps66
 go_wp2_with (first | ((with_reducible refine gd 4 ?_); refine be 4 #[.int .i64 0, .int .i64 0] 47 ?_; intro gb100 hg w6 hbox hb; have BK100 := q0 (hbox); have GW100 := gw HB hg; have GE100 := gw HB hg; replace HB := bp HB hb; clear hb hbox hg; obtain ⟨hcz7_0, hcz7_1, hfz7_0, hfz7_1⟩ := b2 BK100))
 refine bodyPost_ret (results_cell_row rfl _ _ gb100 47 #[.int .i64 a1, .int .i64 a0] (0, 0) _ rfl (by (with_reducible repeat (first | refine blk_drewN ?_ _ | refine blk_drew ?_ | refine blk_alloc ?_ _)); refine blk_put (cs := #[.int .i64 a1, .int .i64 0]) ?_ 1 _ rfl; (with_reducible repeat (first | refine blk_drewN ?_ _ | refine blk_drew ?_ | refine blk_alloc ?_ _)); refine blk_put (cs := #[.int .i64 0, .int .i64 0]) ?_ 0 _ rfl; (with_reducible repeat (first | refine blk_drewN ?_ _ | refine blk_drew ?_ | refine blk_alloc ?_ _)); exact BK100.out) Tryd.underlying47 rfl (by kernel_rfl)) rfl ?_
 exact ⟨qe, qb HB.out⟩

attribute [local go_sem high] eqATie
def spec_l1Has.T4 : Bool × List (List Nat × List Nat) := (true, [([], []), ([0], [0]), ([], []), ([1, 2], [1, 2]), ([3], [3]), ([], []), ([], []), ([5, 6], [5, 6]), ([4, 7], [4, 7])])
def spec_l1Has.B4 : List Nat := [0, 1, 0, 7, 15, 0, 0, 96, 255]
theorem spec_l1Has.tab4 : rtab .any (opsOf Tryd.f79 4) = spec_l1Has.T4 := by kernel_rfl
theorem spec_l1Has.bits4 : waitsOk spec_l1Has.T4.2 spec_l1Has.B4 = true := by kernel_rfl
set_option maxHeartbeats 8000000 in
set_option maxRecDepth 100000 in
theorem spec_l1Has.calls (k : Nat) (a0_0 : Int) (A0_1 : Option Addr) (c0_1 : Nat) (l0_1 : List (STie)) (a1 : Int) (a2 : Int) (r : Bool) (w : World) (hr0_1 : Kd.C kTie w A0_1 l0_1.length l0_1) (hc0_1 : l0_1.length ≤ c0_1) (h : spec_l1Has.f k a0_0 l0_1 a1 a2 = some r) :
    Calls Tryd.prog 79 #[.agg #[.int .i64 a0_0, .slice A0_1 l0_1.length c0_1], .int .i64 a1, .int .i64 a2] w fun e w' => e = .returned (.bool r) ∧ Below w.heap.size w w' := by
 have hu24 := Tryd.underlying24
 have hu47 := Tryd.underlying47
 have HR0_1 := q0 hr0_1
 have HC0_1 := q0 hc0_1
 clear hr0_1 hc0_1
 have HB := q0 (Below.refl w.heap.size w)
 have H : (spec_l1Has.l0 k a1 a2 0 a0_0 l0_1) = some r := h
 clear h
 have H' := q0 H
 clear H
 go_enter Tryd.func79, Tryd.ntmps79
 go_wp2_with (first | ((with_reducible refine gd 3 ?_); refine be 3 #[.int .i64 a0_0, .slice A0_1 l0_1.length c0_1] 24 ?_; intro gb102 hg w4 hbox hb; have BK102 := q0 (hbox); have GW102 := gw HB hg; have GE102 := gw HB hg; replace HB := bp HB hb; clear hb hbox hg))
 go_loopg [7] k (fun kq v7 w' => ∃ (x7_1 : Int), v7 = .int .i64 x7_1 ∧ Aside0 (spec_l1Has.l0 kq a1 a2 x7_1 a0_0 l0_1 = some r) ∧ Aside0 (kq ≤ k) ∧ Aside0 (w'.heap[gb102]? = some (.cells #[.int .i64 a0_0, (.slice A0_1 l0_1.length c0_1)] 24 (0, 0))) ∧ Aside0 (Below w.heap.size w w'))
 case atStart => exact ⟨(0), qs, H', ⟨Nat.le_refl _⟩, ⟨qk BK102.out⟩, ⟨qb HB.out⟩⟩
 clear H'
 try clear p2
 obtain ⟨x7_1, rfl, HA, HK1, BK102, HB⟩ := hrel
 rcases gk with _ | k1
 · exact absurd HA.out (by simp [spec_l1Has.l0])
 have H := HA.out
 clear HA
 simp only [spec_l1Has.l0] at H
 by_cases c5 : x7_1 < (l0_1.length : Int)
 rotate_left
 · rw [if_neg c5] at H
   have c5b0 := decide_eq_false c5
   clear c5
   obtain rfl := Option.some.inj H
   obtain ⟨hcz15_0, hcz15_1, hfz15_0, hfz15_1⟩ := b2 BK102
   go_wp2
   go_ret
   exact ⟨qe, qb HB.out⟩
 rw [if_pos c5] at H
 have c5b0 := decide_eq_true c5
 clear c5
 obtain ⟨c6, H⟩ : (0 ≤ x7_1) ∧ _ := og H
 have c6b0 := decide_eq_true c6
 clear c6
 obtain ⟨⟨t101, t103⟩, A7, H⟩ := ob H
 by_cases c8 : (((rd_TTie l0_1 x7_1).f0) == t101 && (((rd_TTie l0_1 x7_1).f1) == t103)) = true
 · rw [if_pos c8] at H
   have c8b0 : (((rd_TTie l0_1 x7_1).f0) == t101 && (((rd_TTie l0_1 x7_1).f1) == t103)) = true := c8
   (try (have c8b1 : decide (((rd_TTie l0_1 x7_1).f0) = t101 && (((rd_TTie l0_1 x7_1).f1) == t103)) = true := by simpa using c8))
   (try (have c8b2 : (((rd_TTie l0_1 x7_1).f0) == t101 && (((rd_TTie l0_1 x7_1).f1) == t103)) = true := by simpa using c8))
   clear c8
   obtain rfl := Option.some.inj H
   obtain ⟨hcz9_0, hcz9_1, hfz9_0, hfz9_1⟩ := b2 BK102
   try go_wp2
   replace BK102 := q0 (blk_drew BK102.out)
   replace HB := q0 (below_drew1 HB.out)
   have p100 : 0 ≤ (x7_1 : Int) := of_decide_eq_true qa
   have q100 : x7_1 < (l0_1.length : Int) := of_decide_eq_true qa
   obtain ⟨ad100, e100, hx100_0, hx100_1⟩ := at_TTie HR0_1.out x7_1 p100 q100
   have hw100_1 := hx100_1
   have hw100_0 := hx100_0
   cases e100
   replace hx100_0 := hcl HB.out hx100_0
   replace hx100_1 := hcl HB.out hx100_1
   replace p100 := eq_true p100
   replace q100 := eq_true q100
   refine start_ (n := 9) (S := fun w' => w'.cell? ⟨gb102, 0, none⟩ = some (.int .i64 a0_0) ∧ w'.cell? ⟨gb102, 1, none⟩ = some (.slice (some ad100) l0_1.length c0_1) ∧ w'.cell? (ad100.add ((x7_1).toNat * 2)) = some (.int .i64 ((rd_TTie l0_1 x7_1).f0)) ∧ w'.cell? ⟨(ad100.add ((x7_1).toNat * 2)).block, (ad100.add ((x7_1).toNat * 2)).off + 1, none⟩ = some (.int .i64 ((rd_TTie l0_1 x7_1).f1))) (ds := []) (ba 9 0) (by kernel_rfl) rfl (by kernel_rfl) ⟨bca BK102, bcb BK102, ((HB.out.cell (World.block_lt_of_cell? w _ hw100_0)).trans hw100_0), ((HB.out.cell (World.block_lt_of_cell? w _ hw100_1)).trans hw100_1)⟩ (fun hHeld => ?_); refine with_tabW spec_l1Has.tab4 spec_l1Has.bits4 (fun HT_ HW_ => ?_)
   generalize wr.drew = w10 at BK102 HB hx100_0 hx100_1 hHeld ⊢
   refine pU 0 15 9 1 HT_ ?_
   refine pU 2 17 9 5 HT_ ?_
   refine pU 5 20 9 37 HT_ ?_
   refine pU 6 21 9 101 HT_ ?_
   refine tU 1 16 9 103 HT_ HW_ hHeld ?_
   refine pU 3 18 9 111 HT_ ?_
   refine tU 4 19 9 127 HT_ HW_ hHeld ?_
   refine one_ (i := 7) (N := some 22) (ba 9 255) rfl rfl (one_of HT_.out (by kernel_rfl)) (by decide) (fun K hK => ?_)
   refine goes_ Tryd.func66 (by kernel_rfl) rfl #[.int .i64 a1, .int .i64 a2] (by rfl) rfl rfl qm ?_
   with_reducible refine (spec_l1Tie.calls a1 a2 t101 t103 _ A7.out).mono ?_
   rintro e w11 ⟨rfl, hb⟩
   refine ⟨_, rfl, ?_⟩
   replace BK102 := kd BK102 hb
   replace HB := bp HB hb
   (try clear hb)
   (try clear hb2)
   (try clear hk)
   (try clear hi)
   refine hK.out _ _ ⟨bca BK102, bcb BK102, ((HB.out.cell (World.block_lt_of_cell? w _ hw100_0)).trans hw100_0), ((HB.out.cell (World.block_lt_of_cell? w _ hw100_1)).trans hw100_1)⟩ (fun hHeld => ?_)
   clear hK K
   refine nu 22 ?_
   refine pU 8 23 9 511 HT_ ?_
   refine done_ (done_of HT_.out (by kernel_rfl)) ?_
   try go_wp2
   go_ret
   exact ⟨qe, qb HB.out⟩
 rw [if_neg c8] at H
 have c8b0 : (((rd_TTie l0_1 x7_1).f0) == t101 && (((rd_TTie l0_1 x7_1).f1) == t103)) = false := by simpa using c8
 (try (have c8b1 : decide (((rd_TTie l0_1 x7_1).f0) = t101 && (((rd_TTie l0_1 x7_1).f1) == t103)) = false := by simpa using c8))
 (try (have c8b2 : (((rd_TTie l0_1 x7_1).f0) == t101 && (((rd_TTie l0_1 x7_1).f1) == t103)) = false := by simpa using c8))
 (try (have c8b3 : ¬ (((rd_TTie l0_1 x7_1).f0) = t101 && (((rd_TTie l0_1 x7_1).f1) == t103)) := by simpa using c8))
 clear c8
 have H' := q0 H
 clear H
 obtain ⟨hcz12_0, hcz12_1, hfz12_0, hfz12_1⟩ := b2 BK102
 try go_wp2
 replace BK102 := q0 (blk_drew BK102.out)
 replace HB := q0 (below_drew1 HB.out)
 have p100 : 0 ≤ (x7_1 : Int) := of_decide_eq_true qa
 have q100 : x7_1 < (l0_1.length : Int) := of_decide_eq_true qa
 obtain ⟨ad100, e100, hx100_0, hx100_1⟩ := at_TTie HR0_1.out x7_1 p100 q100
 have hw100_1 := hx100_1
 have hw100_0 := hx100_0
 cases e100
 replace hx100_0 := hcl HB.out hx100_0
 replace hx100_1 := hcl HB.out hx100_1
 replace p100 := eq_true p100
 replace q100 := eq_true q100
 refine start_ (n := 9) (S := fun w' => w'.cell? ⟨gb102, 0, none⟩ = some (.int .i64 a0_0) ∧ w'.cell? ⟨gb102, 1, none⟩ = some (.slice (some ad100) l0_1.length c0_1) ∧ w'.cell? (ad100.add ((x7_1).toNat * 2)) = some (.int .i64 ((rd_TTie l0_1 x7_1).f0)) ∧ w'.cell? ⟨(ad100.add ((x7_1).toNat * 2)).block, (ad100.add ((x7_1).toNat * 2)).off + 1, none⟩ = some (.int .i64 ((rd_TTie l0_1 x7_1).f1))) (ds := []) (ba 9 0) (by kernel_rfl) rfl (by kernel_rfl) ⟨bca BK102, bcb BK102, ((HB.out.cell (World.block_lt_of_cell? w _ hw100_0)).trans hw100_0), ((HB.out.cell (World.block_lt_of_cell? w _ hw100_1)).trans hw100_1)⟩ (fun hHeld => ?_); refine with_tabW spec_l1Has.tab4 spec_l1Has.bits4 (fun HT_ HW_ => ?_)
 generalize wr.drew = w13 at BK102 HB hx100_0 hx100_1 hHeld ⊢
 refine pU 0 15 9 1 HT_ ?_
 refine pU 2 17 9 5 HT_ ?_
 refine pU 5 20 9 37 HT_ ?_
 refine pU 6 21 9 101 HT_ ?_
 refine tU 1 16 9 103 HT_ HW_ hHeld ?_
 refine pU 3 18 9 111 HT_ ?_
 refine tU 4 19 9 127 HT_ HW_ hHeld ?_
 refine one_ (i := 7) (N := some 22) (ba 9 255) rfl rfl (one_of HT_.out (by kernel_rfl)) (by decide) (fun K hK => ?_)
 refine goes_ Tryd.func66 (by kernel_rfl) rfl #[.int .i64 a1, .int .i64 a2] (by rfl) rfl rfl qm ?_
 with_reducible refine (spec_l1Tie.calls a1 a2 t101 t103 _ A7.out).mono ?_
 rintro e w14 ⟨rfl, hb⟩
 refine ⟨_, rfl, ?_⟩
 replace BK102 := kd BK102 hb
 replace HB := bp HB hb
 (try clear hb)
 (try clear hb2)
 (try clear hk)
 (try clear hi)
 refine hK.out _ _ ⟨bca BK102, bcb BK102, ((HB.out.cell (World.block_lt_of_cell? w _ hw100_0)).trans hw100_0), ((HB.out.cell (World.block_lt_of_cell? w _ hw100_1)).trans hw100_1)⟩ (fun hHeld => ?_)
 clear hK K
 refine nu 22 ?_
 refine pU 8 23 9 511 HT_ ?_
 refine done_ (done_of HT_.out (by kernel_rfl)) ?_
 try go_wp2
 go_roundg k1
 case measure => have := HK1.out; omega
 case rel => exact ⟨(wrap64 (x7_1 + 1)), qs, H', ⟨by have := HK1.out; omega⟩, ⟨qk BK102.out⟩, ⟨qb HB.out⟩⟩

set_option maxHeartbeats 8000000 in
set_option maxRecDepth 100000 in
theorem spec_NetHas.calls (k : Nat) (a0_0 : Int) (A0_1 : Option Addr) (c0_1 : Nat) (l0_1 : List (STie)) (a1 : Int) (a2 : Int) (r : Bool) (w : World) (hr0_1 : Kd.C kTie w A0_1 l0_1.length l0_1) (hc0_1 : l0_1.length ≤ c0_1) (h : spec_NetHas.f k a0_0 l0_1 a1 a2 = some r) :
    Calls Tryd.prog 65 #[.agg #[.int .i64 a0_0, .slice A0_1 l0_1.length c0_1], .int .i64 a1, .int .i64 a2] w fun e w' => e = .returned (.bool r) ∧ Below w.heap.size w w' := by
 have hu24 := Tryd.underlying24
 have HR0_1 := q0 hr0_1
 have HC0_1 := q0 hc0_1
 clear hr0_1 hc0_1
 have HB := q0 (Below.refl w.heap.size w)
 have H : ((spec_NetOk.f k a0_0 l0_1).bind fun t100 => (if t100 = true then ((spec_l1Has.f k a0_0 l0_1 a1 a2).bind fun t101 => (some t101)) else (some false))) = some r := h
 clear h
 obtain ⟨t100, A4, H⟩ := ob H
 by_cases c5 : t100 = true
 rotate_left
 · replace c5 := Bool.eq_false_iff.mpr c5
   subst c5
   rw [if_neg nf] at H
   obtain rfl := Option.some.inj H
   go_enter Tryd.func65, Tryd.ntmps65
   go_wp2_with (first | ((with_reducible refine gd 3 ?_); refine be 3 #[.int .i64 a0_0, .slice A0_1 l0_1.length c0_1] 24 ?_; intro gb102 hg w12 hbox hb; have BK102 := q0 (hbox); have GW102 := gw HB hg; have GE102 := gw HB hg; replace HB := bp HB hb; clear hb hbox hg; obtain ⟨hcz13_0, hcz13_1, hfz13_0, hfz13_1⟩ := b2 BK102) | ((with_reducible refine gf 17 ?_); refine gl 8 Tryd.func17 #[.agg #[.int .i64 a0_0, .slice A0_1 l0_1.length c0_1]] ?_; (with_reducible refine (spec_NetOk.calls k a0_0 _ _ l0_1 false _ ?side1 ?side2 A4.out).mono ?_); (case side1 => exact qc (Kd.C_below HR0_1.out HB.out)); (case side2 => exact HC0_1.out); rintro e w14 ⟨rfl, hb⟩; refine ⟨_, rfl, ?_⟩; replace BK102 := kd BK102 hb; replace HB := bp HB hb; (try clear hb); (try clear hb2); (try clear hk); (try clear hi)))
   go_ret
   exact ⟨qe, qb HB.out⟩
 subst c5
 rw [if_pos rfl] at H
 obtain ⟨t101, A6, H⟩ := ob H
 obtain rfl := Option.some.inj H
 go_enter Tryd.func65, Tryd.ntmps65
 go_wp2_with (first | ((with_reducible refine gd 3 ?_); refine be 3 #[.int .i64 a0_0, .slice A0_1 l0_1.length c0_1] 24 ?_; intro gb102 hg w7 hbox hb; have BK102 := q0 (hbox); have GW102 := gw HB hg; have GE102 := gw HB hg; replace HB := bp HB hb; clear hb hbox hg; obtain ⟨hcz8_0, hcz8_1, hfz8_0, hfz8_1⟩ := b2 BK102) | ((with_reducible refine gf 17 ?_); refine gl 8 Tryd.func17 #[.agg #[.int .i64 a0_0, .slice A0_1 l0_1.length c0_1]] ?_; (with_reducible refine (spec_NetOk.calls k a0_0 _ _ l0_1 true _ ?side1 ?side2 A4.out).mono ?_); (case side1 => exact qc (Kd.C_below HR0_1.out HB.out)); (case side2 => exact HC0_1.out); rintro e w9 ⟨rfl, hb⟩; refine ⟨_, rfl, ?_⟩; replace BK102 := kd BK102 hb; replace HB := bp HB hb; (try clear hb); (try clear hb2); (try clear hk); (try clear hi); obtain ⟨hcz10_0, hcz10_1, hfz10_0, hfz10_1⟩ := b2 BK102) | (go_at_call 79; (with_reducible refine (spec_l1Has.calls k a0_0 _ _ l0_1 a1 a2 t101 _ ?side1 ?side2 A6.out).mono ?_); (case side1 => exact qc (Kd.C_below HR0_1.out HB.out)); (case side2 => exact HC0_1.out); rintro e w11 ⟨rfl, hb⟩; replace BK102 := kd BK102 hb; replace HB := bp HB hb; (try clear hb); (try clear hb2); (try clear hk); (try clear hi)))
 go_ret
 exact ⟨qe, qb HB.out⟩

def spec_NetAdd.T9 : Bool × List (List Nat × List Nat) := (true, [([], []), ([0], [0]), ([1], [1]), ([2], [2]), ([2], [2]), ([4, 2], [2, 4]), ([2], [2]), ([5, 6, 2], [2, 5, 6]), ([7, 2], [2, 7]), ([3, 8, 2, 2], [2, 3, 8]), ([2, 9], [2, 9])])
def spec_NetAdd.B9 : List Nat := [0, 1, 3, 7, 7, 23, 7, 119, 247, 511, 1023]
theorem spec_NetAdd.tab9 : rtab .any (opsOf Tryd.f50 9) = spec_NetAdd.T9 := by kernel_rfl
theorem spec_NetAdd.bits9 : waitsOk spec_NetAdd.T9.2 spec_NetAdd.B9 = true := by kernel_rfl
def spec_NetAdd.T12 : Bool × List (List Nat × List Nat) := (true, [([], []), ([0], [0]), ([], []), ([2], [2]), ([], []), ([3, 4], [3, 4]), ([5], [5]), ([6], [6]), ([1, 7], [1, 7]), ([0, 1, 2, 3, 4, 5, 6, 7, 8], []), ([9, 8, 8, 0, 1, 2, 3, 4, 5, 6, 7, 8], [8, 9])])
def spec_NetAdd.B12 : List Nat := [0, 1, 0, 4, 0, 28, 60, 124, 255, 511, 1023]
theorem spec_NetAdd.tab12 : rtab .any (opsOf Tryd.f50 12) = spec_NetAdd.T12 := by kernel_rfl
theorem spec_NetAdd.bits12 : waitsOk spec_NetAdd.T12.2 spec_NetAdd.B12 = true := by kernel_rfl
set_option maxHeartbeats 8000000 in
set_option maxRecDepth 100000 in
theorem spec_NetAdd.calls (k : Nat) (a0_0 : Int) (A0_1 : Option Addr) (c0_1 : Nat) (l0_1 : List (STie)) (a1 : Int) (a2 : Int) (r1 : Int) (r2 : List (STie)) (r3 : Bool) (w : World) (hr0_1 : Kd.C kTie w A0_1 l0_1.length l0_1) (hc0_1 : l0_1.length ≤ c0_1) (h : spec_NetAdd.f k a0_0 l0_1 a1 a2 = some (r1, r2, r3)) :
    Calls Tryd.prog 50 #[.agg #[.int .i64 a0_0, .slice A0_1 l0_1.length c0_1], .int .i64 a1, .int .i64 a2] w fun e w' => ∃ v1_ : Value, e = .returned (.tuple #[.agg #[.int .i64 r1, v1_], .bool r3]) ∧ Kd.R kTie 47 w' w.heap.size (fun _ => True) v1_ r2 ∧ Below w.heap.size w w' := by
 have hu24 := Tryd.underlying24
 have hu47 := Tryd.underlying47
 have HR0_1 := q0 hr0_1
 have HC0_1 := q0 hc0_1
 clear hr0_1 hc0_1
 have HB := q0 (Below.refl w.heap.size w)
 have H : ((spec_l1Knot.f k a0_0 l0_1 a1).bind fun t105 => (if t105 = true then ((spec_l1Knot.f k a0_0 l0_1 a2).bind fun t106 => (if t106 = true then (if a1 = a2 then (spec_NetAdd.j0 k a1 a2 true a0_0 l0_1) else ((spec_NetHas.f k a0_0 l0_1 a1 a2).bind fun t107 => (spec_NetAdd.j0 k a1 a2 t107 a0_0 l0_1))) else (spec_NetAdd.j0 k a1 a2 true a0_0 l0_1))) else (spec_NetAdd.j0 k a1 a2 true a0_0 l0_1))) = some (r1, r2, r3) := h
 clear h
 have HC4 := q0 H
 clear H
 go_enter Tryd.func50, Tryd.ntmps50
 go_upto_region 1 with (first | ((with_reducible refine gd 3 ?_); refine be 3 #[.int .i64 a0_0, .slice A0_1 l0_1.length c0_1] 24 ?_; intro gb108 hg w5 hbox hb; have BK108 := q0 (hbox); have GW108 := gw HB hg; have GE108 := gw HB hg; replace HB := bp HB hb; clear hb hbox hg) | ((with_reducible refine gd 6 ?_); refine be 6 #[.int .i64 0, .slice none 0 0] 24 ?_; intro gb100 hg w6 hbox hb; have BK100 := q0 (hbox); have GW100 := gw HB hg; have GE100 := gw HB hg; replace HB := bp HB hb; have NB108_100 := nl BK108 hg; have NB100_108 := ng BK108 hg; replace BK108 := kd BK108 hb; clear hb hbox hg))
 (try simp only [Act.put, List.setIfInBounds_toArray, List.set_cons_zero, List.set_cons_succ])
 go_cut [32] (fun v32 wc => ∃ (kq : Nat) (x32_3 : Bool), v32 = .bool x32_3 ∧ Aside0 (spec_NetAdd.j0 kq a1 a2 x32_3 a0_0 l0_1 = some (r1, r2, r3)) ∧ Aside0 (kq ≤ k) ∧ Aside0 (wc.heap[gb108]? = some (.cells #[.int .i64 a0_0, (.slice A0_1 l0_1.length c0_1)] 24 (0, 0))) ∧ Aside0 (wc.heap[gb100]? = some (.cells #[.int .i64 0, (.slice none 0 0)] 24 (0, 0))) ∧ Aside0 (Below w.heap.size w wc))
 case first =>
   have H := HC4.out
   clear HC4
   obtain ⟨t105, A7, H⟩ := ob H
   by_cases c8 : t105 = true
   rotate_left
   · replace c8 := Bool.eq_false_iff.mpr c8
     subst c8
     rw [if_neg nf] at H
     have H' := q0 H
     clear H
     have hnb30 := NB108_100.out
     have hnc30 := NB100_108.out
     obtain ⟨hcz31_0, hcz31_1, hfz31_0, hfz31_1⟩ := b2 BK108
     go_wp2_with (first | ((with_reducible refine gf 64 ?_); refine gl 14 Tryd.func64 #[.agg #[.int .i64 a0_0, .slice A0_1 l0_1.length c0_1], .int .i64 a1] ?_; (with_reducible refine (spec_l1Knot.calls k a0_0 _ _ l0_1 a1 false _ ?side1 ?side2 A7.out).mono ?_); (case side1 => exact qc (Kd.C_below HR0_1.out HB.out)); (case side2 => exact HC0_1.out); rintro e w32 ⟨rfl, hb⟩; refine ⟨_, rfl, ?_⟩; replace BK108 := kd BK108 hb; replace BK100 := kd BK100 hb; replace HB := bp HB hb; (try clear hb); (try clear hb2); (try clear hk); (try clear hi)))
     go_meet
     case rel => exact ⟨_, (true), qs, H', ⟨by first | omega | exact Nat.le_refl _⟩, ⟨qk BK108.out⟩, ⟨qk BK100.out⟩, ⟨qb HB.out⟩⟩
   subst c8
   rw [if_pos rfl] at H
   obtain ⟨t106, A9, H⟩ := ob H
   by_cases c10 : t106 = true
   rotate_left
   · replace c10 := Bool.eq_false_iff.mpr c10
     subst c10
     rw [if_neg nf] at H
     have H' := q0 H
     clear H
     have hnb25 := NB108_100.out
     have hnc25 := NB100_108.out
     obtain ⟨hcz26_0, hcz26_1, hfz26_0, hfz26_1⟩ := b2 BK108
     go_wp2_with (first | ((with_reducible refine gf 64 ?_); refine gl 14 Tryd.func64 #[.agg #[.int .i64 a0_0, .slice A0_1 l0_1.length c0_1], .int .i64 a1] ?_; (with_reducible refine (spec_l1Knot.calls k a0_0 _ _ l0_1 a1 true _ ?side1 ?side2 A7.out).mono ?_); (case side1 => exact qc (Kd.C_below HR0_1.out HB.out)); (case side2 => exact HC0_1.out); rintro e w27 ⟨rfl, hb⟩; refine ⟨_, rfl, ?_⟩; replace BK108 := kd BK108 hb; replace BK100 := kd BK100 hb; replace HB := bp HB hb; (try clear hb); (try clear hb2); (try clear hk); (try clear hi); obtain ⟨hcz28_0, hcz28_1, hfz28_0, hfz28_1⟩ := b2 BK108) | (go_at_call 64; (with_reducible refine (spec_l1Knot.calls k a0_0 _ _ l0_1 a2 false _ ?side1 ?side2 A9.out).mono ?_); (case side1 => exact qc (Kd.C_below HR0_1.out HB.out)); (case side2 => exact HC0_1.out); rintro e w29 ⟨rfl, hb⟩; replace BK108 := kd BK108 hb; replace BK100 := kd BK100 hb; replace HB := bp HB hb; (try clear hb); (try clear hb2); (try clear hk); (try clear hi)))
     go_meet
     case rel => exact ⟨_, (true), qs, H', ⟨by first | omega | exact Nat.le_refl _⟩, ⟨qk BK108.out⟩, ⟨qk BK100.out⟩, ⟨qb HB.out⟩⟩
   subst c10
   rw [if_pos rfl] at H
   by_cases c11 : a1 = a2
   · rw [if_pos c11] at H
     have c11b0 : (a1 == a2) = true := beq_iff_eq.mpr c11
     have c11b1 : (a1 != a2) = false := bne_eq_false_iff_eq.mpr c11
     clear c11
     (first | rw [c11b0] | (simp only [i64_w, i32_w]; rw [c11b0]) | skip)
     have H' := q0 H
     clear H
     have hnb12 := NB108_100.out
     have hnc12 := NB100_108.out
     obtain ⟨hcz13_0, hcz13_1, hfz13_0, hfz13_1⟩ := b2 BK108
     go_wp2_with (first | ((with_reducible refine gf 64 ?_); refine gl 14 Tryd.func64 #[.agg #[.int .i64 a0_0, .slice A0_1 l0_1.length c0_1], .int .i64 a1] ?_; (with_reducible refine (spec_l1Knot.calls k a0_0 _ _ l0_1 a1 true _ ?side1 ?side2 A7.out).mono ?_); (case side1 => exact qc (Kd.C_below HR0_1.out HB.out)); (case side2 => exact HC0_1.out); rintro e w14 ⟨rfl, hb⟩; refine ⟨_, rfl, ?_⟩; replace BK108 := kd BK108 hb; replace BK100 := kd BK100 hb; replace HB := bp HB hb; (try clear hb); (try clear hb2); (try clear hk); (try clear hi); obtain ⟨hcz15_0, hcz15_1, hfz15_0, hfz15_1⟩ := b2 BK108) | (go_at_call 64; (with_reducible refine (spec_l1Knot.calls k a0_0 _ _ l0_1 a2 true _ ?side1 ?side2 A9.out).mono ?_); (case side1 => exact qc (Kd.C_below HR0_1.out HB.out)); (case side2 => exact HC0_1.out); rintro e w16 ⟨rfl, hb⟩; replace BK108 := kd BK108 hb; replace BK100 := kd BK100 hb; replace HB := bp HB hb; (try clear hb); (try clear hb2); (try clear hk); (try clear hi)))
     go_meet
     case rel => exact ⟨_, (true), qs, H', ⟨by first | omega | exact Nat.le_refl _⟩, ⟨qk BK108.out⟩, ⟨qk BK100.out⟩, ⟨qb HB.out⟩⟩
   rw [if_neg c11] at H
   have c11b0 : (a1 == a2) = false := beq_eq_false_iff_ne.mpr c11
   have c11b1 : (a1 != a2) = true := bne_iff_ne.mpr c11
   (first | rw [c11b0] | (simp only [i64_w, i32_w]; rw [c11b0]) | skip)
   obtain ⟨t107, A17, H⟩ := ob H
   have H' := q0 H
   clear H
   have hnb18 := NB108_100.out
   have hnc18 := NB100_108.out
   obtain ⟨hcz19_0, hcz19_1, hfz19_0, hfz19_1⟩ := b2 BK108
   go_wp2_with (first | ((with_reducible refine gf 64 ?_); refine gl 14 Tryd.func64 #[.agg #[.int .i64 a0_0, .slice A0_1 l0_1.length c0_1], .int .i64 a1] ?_; (with_reducible refine (spec_l1Knot.calls k a0_0 _ _ l0_1 a1 true _ ?side1 ?side2 A7.out).mono ?_); (case side1 => exact qc (Kd.C_below HR0_1.out HB.out)); (case side2 => exact HC0_1.out); rintro e w20 ⟨rfl, hb⟩; refine ⟨_, rfl, ?_⟩; replace BK108 := kd BK108 hb; replace BK100 := kd BK100 hb; replace HB := bp HB hb; (try clear hb); (try clear hb2); (try clear hk); (try clear hi); obtain ⟨hcz21_0, hcz21_1, hfz21_0, hfz21_1⟩ := b2 BK108) | (go_at_call 64; (with_reducible refine (spec_l1Knot.calls k a0_0 _ _ l0_1 a2 true _ ?side1 ?side2 A9.out).mono ?_); (case side1 => exact qc (Kd.C_below HR0_1.out HB.out)); (case side2 => exact HC0_1.out); rintro e w22 ⟨rfl, hb⟩; replace BK108 := kd BK108 hb; replace BK100 := kd BK100 hb; replace HB := bp HB hb; (try clear hb); (try clear hb2); (try clear hk); (try clear hi); obtain ⟨hcz23_0, hcz23_1, hfz23_0, hfz23_1⟩ := b2 BK108) | (go_at_call 65; (with_reducible refine (spec_NetHas.calls k a0_0 _ _ l0_1 a1 a2 t107 _ ?side1 ?side2 A17.out).mono ?_); (case side1 => exact qc (Kd.C_below HR0_1.out HB.out)); (case side2 => exact HC0_1.out); rintro e w24 ⟨rfl, hb⟩; replace BK108 := kd BK108 hb; replace BK100 := kd BK100 hb; replace HB := bp HB hb; (try clear hb); (try clear hb2); (try clear hk); (try clear hi)))
   go_meet
   case rel => exact ⟨_, (t107), qs, H', ⟨by first | omega | exact Nat.le_refl _⟩, ⟨qk BK108.out⟩, ⟨qk BK100.out⟩, ⟨qb HB.out⟩⟩
 clear HC4
 try clear c1
 try clear c2
 try clear p2
 try clear c3
 try clear c5
 try clear c6
 try clear c8
 try clear c10
 try clear c11
 try clear c11b0
 try clear c11b1
 try clear c12
 try clear c18
 try clear c25
 try clear c30
 try clear hcz13_0
 try clear hcz13_1
 try clear hcz15_0
 try clear hcz15_1
 try clear hcz19_0
 try clear hcz19_1
 try clear hcz21_0
 try clear hcz21_1
 try clear hcz23_0
 try clear hcz23_1
 try clear hcz26_0
 try clear hcz26_1
 try clear hcz28_0
 try clear hcz28_1
 try clear hcz31_0
 try clear hcz31_1
 try clear hfz13_0
 try clear hfz13_1
 try clear hfz15_0
 try clear hfz15_1
 try clear hfz19_0
 try clear hfz19_1
 try clear hfz21_0
 try clear hfz21_1
 try clear hfz23_0
 try clear hfz23_1
 try clear hfz26_0
 try clear hfz26_1
 try clear hfz28_0
 try clear hfz28_1
 try clear hfz31_0
 try clear hfz31_1
 obtain ⟨kq, x32_3, rfl, HA, HJ3, BK108, BK100, HB⟩ := hcut
 rcases kq with _ | kj3
 · exact absurd HA.out (by simp [spec_NetAdd.j0])
 have H := HA.out
 clear HA
 simp only [spec_NetAdd.j0] at H
 by_cases c33 : x32_3 = true
 · subst c33
   rw [if_pos rfl] at H
   simp only [Option.some.injEq, Prod.mk.injEq] at H
   obtain ⟨rfl, rfl, rfl⟩ := H
   have hnb34 := NB100_108.out
   have hnc34 := NB108_100.out
   obtain ⟨hcz35_0, hcz35_1, hfz35_0, hfz35_1⟩ := b2 BK100
   go_wp2
   refine bodyPost_ret (results_ct rfl _ _ gb100 24 #[.int .i64 0, .slice none 0 0] (0, 0) _ rfl (by (with_reducible repeat (first | refine blk_drewN ?_ _ | refine blk_drew ?_ | refine blk_alloc ?_ _)); refine blk_put (cs := #[.int .i64 0, .slice none 0 0]) ?_ 1 _ rfl; (with_reducible repeat (first | refine blk_drewN ?_ _ | refine blk_drew ?_ | refine blk_alloc ?_ _)); refine blk_put (cs := #[.int .i64 0, .slice none 0 0]) ?_ 0 _ rfl; (with_reducible repeat (first | refine blk_drewN ?_ _ | refine blk_drew ?_ | refine blk_alloc ?_ _)); exact BK100.out) Tryd.underlying24 rfl (by kernel_rfl)) rfl ?_
   exact ⟨_, qe, by first | exact Kd.R_nil _ _ _ _ _ | exact Kd.N_nil _ _ _ _ _ | exact Kd.V_nil _ _ _ _ _ | exact Kd.Q_nil _ _ _ _ _ | exact Kd.S_nil _ _ _ _ _, qb HB.out⟩
 replace c33 := Bool.eq_false_iff.mpr c33
 subst c33
 rw [if_neg nf] at H
 obtain ⟨⟨t101, t110⟩, A36, H⟩ := ob H
 have H' := q0 H
 clear H
 have hnb37 := NB108_100.out
 have hnc37 := NB100_108.out
 obtain ⟨hcz38_0, hcz38_1, hfz38_0, hfz38_1⟩ := b2 BK108
 go_wp2_with (first | ((with_reducible refine gd 8 ?_); refine be 8 #[.int .i64 0, .slice none 0 0] 24 ?_; intro gb112 hg w39 hbox hb; have BK112 := q0 (hbox); have GW112 := gw HB hg; have GE112 := gw HB hg; replace HB := bp HB hb; have NB108_112 := nl BK108 hg; have NB112_108 := ng BK108 hg; replace BK108 := kd BK108 hb; have NB100_112 := nl BK100 hg; have NB112_100 := ng BK100 hg; replace BK100 := kd BK100 hb; clear hb hbox hg; have hnb40 := NB112_108.out; have hnc40 := NB108_112.out; have hnb41 := NB112_100.out; have hnc41 := NB100_112.out; obtain ⟨hcz42_0, hcz42_1, hfz42_0, hfz42_1⟩ := b2 BK112) | ((with_reducible refine gf 66 ?_); refine gl 39 Tryd.func66 #[.int .i64 a1, .int .i64 a2] ?_; (with_reducible refine (spec_l1Tie.calls a1 a2 t101 t110 _ A36.out).mono ?_); rintro e w43 ⟨rfl, hb⟩; refine ⟨_, rfl, ?_⟩; replace BK108 := q0 (kf BK108.out hb); replace BK100 := q0 (kf BK100.out hb); replace BK112 := q0 (blk_below (g := gb112) (o := .cells #[.int .i64 a0_0, .slice none 0 0] 24 (0, 0)) (by (with_reducible repeat (first | refine blk_drewN ?_ _ | refine blk_drew ?_ | refine blk_alloc ?_ _)); refine blk_put (cs := #[.int .i64 a0_0, .slice none 0 0]) ?_ 1 _ rfl; (with_reducible repeat (first | refine blk_drewN ?_ _ | refine blk_drew ?_ | refine blk_alloc ?_ _)); refine blk_put (cs := #[.int .i64 0, .slice none 0 0]) ?_ 0 _ rfl; (with_reducible repeat (first | refine blk_drewN ?_ _ | refine blk_drew ?_ | refine blk_alloc ?_ _)); exact BK112.out) hb); replace HB := bp HB hb; (try clear hb); (try clear hb2); (try clear hk); (try clear hi)) | ((with_reducible refine gd 9 ?_); refine be 9 #[.int .i64 0, .int .i64 0] 47 ?_; intro gb113 hg w44 hbox hb; have BK113 := q0 (hbox); have GW113 := gw HB hg; have GE113 := gw HB hg; replace HB := bp HB hb; have NB108_113 := nl BK108 hg; have NB113_108 := ng BK108 hg; replace BK108 := kd BK108 hb; have NB100_113 := nl BK100 hg; have NB113_100 := ng BK100 hg; replace BK100 := kd BK100 hb; have NB112_113 := nl BK112 hg; have NB113_112 := ng BK112 hg; replace BK112 := kd BK112 hb; clear hb hbox hg; have hnb45 := NB113_108.out; have hnc45 := NB108_113.out; have hnb46 := NB113_100.out; have hnc46 := NB100_113.out; have hnb47 := NB113_112.out; have hnc47 := NB112_113.out; obtain ⟨hcz48_0, hcz48_1, hfz48_0, hfz48_1⟩ := b2 BK113))
 go_loopg [10, 11] kj3 (fun kq v10 v11 w' => ∃ (x10_2 : Bool) (x11_2 : Int) (x101001_2 : List (STie)) (u101001 : Value), v10 = .bool x10_2 ∧ v11 = .int .i64 x11_2 ∧ Aside0 (spec_NetAdd.l0 kq x10_2 x11_2 a0_0 l0_1 a0_0 x101001_2 t101 t110 = some (r1, r2, r3)) ∧ Aside0 (kq ≤ kj3) ∧ Aside0 (Kd.R kTie 47 w' w.heap.size (fun k_ => k_ ≠ gb113) u101001 x101001_2) ∧ Aside0 (w'.heap[gb108]? = some (.cells #[.int .i64 a0_0, (.slice A0_1 l0_1.length c0_1)] 24 (0, 0))) ∧ Aside0 (w'.heap[gb100]? = some (.cells #[.int .i64 0, (.slice none 0 0)] 24 (0, 0))) ∧ Aside0 (w'.heap[gb112]? = some (.cells #[.int .i64 a0_0, u101001] 24 (0, 0))) ∧ Aside0 (w'.heap[gb113]? = some (.cells #[.int .i64 t101, .int .i64 t110] 47 (0, 0))) ∧ Aside0 (Below w.heap.size w w'))
 case atStart => exact ⟨(false), (0), (([] : List (STie))), (.slice none 0 0), qs, qs, H', ⟨Nat.le_refl _⟩, ⟨by first | exact Kd.R_nil _ _ _ _ _ | exact Kd.N_nil _ _ _ _ _ | exact Kd.V_nil _ _ _ _ _ | exact Kd.Q_nil _ _ _ _ _ | exact Kd.S_nil _ _ _ _ _⟩, ⟨qf BK108.out⟩, ⟨qf BK100.out⟩, ⟨qf BK112.out⟩, ⟨by (with_reducible repeat (first | refine blk_drewN ?_ _ | refine blk_drew ?_ | refine blk_alloc ?_ _)); refine blk_put (cs := #[.int .i64 t101, .int .i64 0]) ?_ 1 _ rfl; (with_reducible repeat (first | refine blk_drewN ?_ _ | refine blk_drew ?_ | refine blk_alloc ?_ _)); refine blk_put (cs := #[.int .i64 0, .int .i64 0]) ?_ 0 _ rfl; (with_reducible repeat (first | refine blk_drewN ?_ _ | refine blk_drew ?_ | refine blk_alloc ?_ _)); exact BK113.out⟩, ⟨qb HB.out⟩⟩
 clear H'
 try clear c1
 try clear c2
 try clear p2
 try clear c3
 try clear c4
 try clear c5
 try clear c6
 try clear c8
 try clear c10
 try clear c11
 try clear c11b0
 try clear c11b1
 try clear c12
 try clear c18
 try clear c25
 try clear c30
 try clear c33
 try clear c34
 try clear c37
 try clear c40
 try clear c41
 try clear c45
 try clear c46
 try clear c47
 try clear hcz13_0
 try clear hcz13_1
 try clear hcz15_0
 try clear hcz15_1
 try clear hcz19_0
 try clear hcz19_1
 try clear hcz21_0
 try clear hcz21_1
 try clear hcz23_0
 try clear hcz23_1
 try clear hcz26_0
 try clear hcz26_1
 try clear hcz28_0
 try clear hcz28_1
 try clear hcz31_0
 try clear hcz31_1
 try clear hcz35_0
 try clear hcz35_1
 try clear hcz38_0
 try clear hcz38_1
 try clear hcz42_0
 try clear hcz42_1
 try clear hcz48_0
 try clear hcz48_1
 try clear hfz13_0
 try clear hfz13_1
 try clear hfz15_0
 try clear hfz15_1
 try clear hfz19_0
 try clear hfz19_1
 try clear hfz21_0
 try clear hfz21_1
 try clear hfz23_0
 try clear hfz23_1
 try clear hfz26_0
 try clear hfz26_1
 try clear hfz28_0
 try clear hfz28_1
 try clear hfz31_0
 try clear hfz31_1
 try clear hfz35_0
 try clear hfz35_1
 try clear hfz38_0
 try clear hfz38_1
 try clear hfz42_0
 try clear hfz42_1
 try clear hfz48_0
 try clear hfz48_1
 try clear p2
 obtain ⟨x10_2, x11_2, x101001_2, u101001, rfl, rfl, HA, HK2, HO_101001, BK108, BK100, BK112, BK113, HB⟩ := hrel
 rcases gk with _ | k2
 · exact absurd HA.out (by simp [spec_NetAdd.l0])
 have H := HA.out
 clear HA
 simp only [spec_NetAdd.l0] at H
 by_cases c49 : x11_2 < (l0_1.length : Int)
 rotate_left
 · rw [if_neg c49] at H
   have c49b0 := decide_eq_false c49
   clear c49
   by_cases c97 : x10_2 = true
   · subst c97
     rw [if_pos rfl] at H
     simp only [Option.some.injEq, Prod.mk.injEq] at H
     obtain ⟨rfl, rfl, rfl⟩ := H
     have hnb98 := NB108_100.out
     have hnc98 := NB100_108.out
     have hnb99 := NB108_112.out
     have hnc99 := NB112_108.out
     have hnb129 := NB108_113.out
     have hnc129 := NB113_108.out
     obtain ⟨hcz130_0, hcz130_1, hfz130_0, hfz130_1⟩ := b2 BK108
     have hnb131 := NB112_100.out
     have hnc131 := NB100_112.out
     have hnb132 := NB112_113.out
     have hnc132 := NB113_112.out
     obtain ⟨hcz133_0, hcz133_1, hfz133_0, hfz133_1⟩ := b2 BK112
     have hnb134 := NB100_113.out
     have hnc134 := NB113_100.out
     obtain ⟨hcz135_0, hcz135_1, hfz135_0, hfz135_1⟩ := b2 BK100
     obtain ⟨Ao136, co136, eo136⟩ := Kd.R_slice HO_101001.out
     subst eo136
     go_wp2
     refine bodyPost_ret (results_ct rfl _ _ gb100 24 #[.int .i64 a0_0, .slice Ao136 x101001_2.length co136] (0, 0) _ rfl (by (with_reducible repeat (first | refine blk_drewN ?_ _ | refine blk_drew ?_ | refine blk_alloc ?_ _)); refine blk_put (cs := #[.int .i64 a0_0, .slice none 0 0]) ?_ 1 _ rfl; (with_reducible repeat (first | refine blk_drewN ?_ _ | refine blk_drew ?_ | refine blk_alloc ?_ _)); refine blk_put (cs := #[.int .i64 0, .slice none 0 0]) ?_ 0 _ rfl; (with_reducible repeat (first | refine blk_drewN ?_ _ | refine blk_drew ?_ | refine blk_alloc ?_ _)); exact BK100.out) Tryd.underlying24 rfl (by kernel_rfl)) rfl ?_
     exact ⟨_, qe, by (with_reducible repeat (first | apply Kd.R_alloc | apply Kd.R_drewN | apply Kd.R_drew)); exact rf2 HO_101001.out BK100.out (fun _ hk => trivial), qb HB.out⟩
   replace c97 := Bool.eq_false_iff.mpr c97
   subst c97
   rw [if_neg nf] at H
   obtain ⟨c137, H⟩ : (x101001_2.length < 8796093022208) ∧ _ := og H
   have LMc137 := q0 c137
   clear c137
   obtain ⟨y138, hy138⟩ : ∃ y_ : List (STie), y_ = (x101001_2 ++ [(⟨t101, t110⟩ : STie)]) := ⟨_, rfl⟩
   replace H : (some (a0_0, y138, true)) = some (r1, r2, r3) := qy H hy138
   have Ny138 := q0 hy138
   clear hy138
   simp only [Option.some.injEq, Prod.mk.injEq] at H
   obtain ⟨rfl, rfl, rfl⟩ := H
   have hnb139 := NB108_100.out
   have hnc139 := NB100_108.out
   have hnb140 := NB108_112.out
   have hnc140 := NB112_108.out
   have hnb141 := NB108_113.out
   have hnc141 := NB113_108.out
   obtain ⟨hcz142_0, hcz142_1, hfz142_0, hfz142_1⟩ := b2 BK108
   have hnb143 := NB112_100.out
   have hnc143 := NB100_112.out
   have hnb144 := NB112_113.out
   have hnc144 := NB113_112.out
   obtain ⟨hcz145_0, hcz145_1, hfz145_0, hfz145_1⟩ := b2 BK112
   have hnb146 := NB113_100.out
   have hnc146 := NB100_113.out
   obtain ⟨hcz147_0, hcz147_1, hfz147_0, hfz147_1⟩ := b2 BK113
   go_wp2_with (first | ((with_reducible refine gate_builtin (b := .append) (xs := #[.tmp 77, .tmp 79]) rfl ?_); at_builtin; refine Kd.R_append kTie (w0 := w) w.heap.size rfl (.tmp 77) (.tmp 79) 22 47 (.agg #[(.int .i64 0), (.int .i64 0)]) 16 rfl Tryd.underlying22 info47 rfl (by decide) (by omega) u101001 x101001_2 (⟨t101, t110⟩ : STie) [.int .i64 t101, .int .i64 t110] (fun k_ => k_ ≠ gb113) (fun _ => False) rfl rfl ?aP (fun _ hk => hk.elim) ?aF ?aO ?aB ?aS ?aL ?_; (case aP => exact kTie_mkM _ _ _ (⟨t101, t110⟩ : STie)); (case aB => exact (qb HB.out)); (case aF => exact (fun k_ hk => Kd.freshB (g := gb113) (o := .cells #[.int .i64 t101, .int .i64 t110] 47 (0, 0)) (qk BK113.out) k_ hk)); (case aO => exact (qr HO_101001.out)); (case aS => exact (below_size (qb HB.out))); (case aL => have := LMc137.out; omega); intro v148 w149 ho hb hg hat; rw [← Ny138.out] at ho; replace BK108 := q0 (blk_grown (g := gb108) (o := .cells #[.int .i64 a0_0, .slice A0_1 l0_1.length c0_1] 24 (0, 0)) (qk BK108.out) hg (Kd.R_ne HO_101001.out BK108.out (by decide))); replace BK100 := q0 (blk_grown (g := gb100) (o := .cells #[.int .i64 0, .slice none 0 0] 24 (0, 0)) (qk BK100.out) hg (Kd.R_ne HO_101001.out BK100.out (by decide))); replace BK112 := q0 (blk_grown (g := gb112) (o := .cells #[.int .i64 a0_0, u101001] 24 (0, 0)) (qk BK112.out) hg (Kd.R_ne HO_101001.out BK112.out (by decide))); replace BK113 := q0 (blk_grown (g := gb113) (o := .cells #[.int .i64 t101, .int .i64 t110] 47 (0, 0)) (qk BK113.out) hg (Kd.R_away HO_101001.out (fun _ hk => hk))); replace HB := q0 (hb); have HO150 := q0 (ho); clear HO_101001; clear ho hb hg hat; obtain ⟨Ao151, co151, eo151⟩ := Kd.R_slice HO150.out; subst eo151; obtain ⟨hcz152_0, hcz152_1, hfz152_0, hfz152_1⟩ := b2 BK112; obtain ⟨hcz153_0, hcz153_1, hfz153_0, hfz153_1⟩ := b2 BK100))
   refine bodyPost_ret (results_ct rfl _ _ gb100 24 #[.int .i64 a0_0, .slice Ao151 y138.length co151] (0, 0) _ rfl (by (with_reducible repeat (first | refine blk_drewN ?_ _ | refine blk_drew ?_ | refine blk_alloc ?_ _)); refine blk_put (cs := #[.int .i64 a0_0, .slice none 0 0]) ?_ 1 _ rfl; (with_reducible repeat (first | refine blk_drewN ?_ _ | refine blk_drew ?_ | refine blk_alloc ?_ _)); refine blk_put (cs := #[.int .i64 0, .slice none 0 0]) ?_ 0 _ rfl; (with_reducible repeat (first | refine blk_drewN ?_ _ | refine blk_drew ?_ | refine blk_alloc ?_ _)); refine blk_far ?_ NB100_112.out _; (with_reducible repeat (first | refine blk_drewN ?_ _ | refine blk_drew ?_ | refine blk_alloc ?_ _)); exact BK100.out) Tryd.underlying24 rfl (by kernel_rfl)) rfl ?_
   exact ⟨_, qe, by (with_reducible repeat (first | apply Kd.R_alloc | apply Kd.R_drewN | apply Kd.R_drew)); exact Kd.R_mono (Kd.R_far (p := ⟨gb100, 1, none⟩) (Kd.R_far (p := ⟨gb100, 0, none⟩) (Kd.R_far (p := ⟨gb112, 1, none⟩) (Kd.R_types (Kd.R_types HO150.out BK112.out (by decide)) BK100.out (by decide)) (fun _ hk => hk.1.2) (.slice Ao151 y138.length co151)) (fun _ hk => hk.2) (.int .i64 a0_0)) (fun _ hk => hk.2) (.slice Ao151 y138.length co151)) (fun _ hk => trivial), qb HB.out⟩
 rw [if_pos c49] at H
 have c49b0 := decide_eq_true c49
 clear c49
 by_cases c50 : x10_2 = true
 · subst c50
   rw [if_pos rfl] at H
   obtain ⟨c51, H⟩ : (0 ≤ x11_2) ∧ _ := og H
   have c51b0 := decide_eq_true c51
   clear c51
   obtain ⟨c52, H⟩ : (x101001_2.length < 8796093022208) ∧ _ := og H
   have LMc52 := q0 c52
   clear c52
   obtain ⟨y114, hy114⟩ : ∃ y_ : List (STie), y_ = (x101001_2 ++ [(⟨(rd_TTie l0_1 x11_2).f0, (rd_TTie l0_1 x11_2).f1⟩ : STie)]) := ⟨_, rfl⟩
   replace H : (spec_NetAdd.l0 k2 true (wrap64 (x11_2 + 1)) a0_0 l0_1 a0_0 y114 t101 t110) = some (r1, r2, r3) := qy H hy114
   have Ny114 := q0 hy114
   clear hy114
   have H' := q0 H
   clear H
   have hnb53 := NB108_100.out
   have hnc53 := NB100_108.out
   have hnb54 := NB108_112.out
   have hnc54 := NB112_108.out
   have hnb55 := NB108_113.out
   have hnc55 := NB113_108.out
   obtain ⟨hcz56_0, hcz56_1, hfz56_0, hfz56_1⟩ := b2 BK108
   try go_wp2
   replace HO_101001 := q0 (Kd.R_drew HO_101001.out)
   replace BK108 := q0 (blk_drew BK108.out)
   replace BK100 := q0 (blk_drew BK100.out)
   replace BK112 := q0 (blk_drew BK112.out)
   replace BK113 := q0 (blk_drew BK113.out)
   replace HB := q0 (below_drew1 HB.out)
   refine start_ (n := 11) (S := fun w' => True) (ds := []) (ba 11 0) (by kernel_rfl) rfl (by kernel_rfl) trivial (fun hHeld => ?_); refine with_tabW spec_NetAdd.tab9 spec_NetAdd.bits9 (fun HT_ HW_ => ?_)
   generalize wr.drew = w57 at HO_101001 BK108 BK100 BK112 BK113 HB hHeld ⊢
   refine pU 0 47 11 1 HT_ ?_
   refine pU 1 48 11 3 HT_ ?_
   refine pU 2 49 11 7 HT_ ?_
   refine pV 3 50 11 15 HT_ ?_
   refine pV 4 51 11 31 HT_ ?_
   refine pV 5 52 11 63 HT_ ?_
   refine pV 6 53 11 127 HT_ ?_
   refine pV 7 54 11 255 HT_ ?_
   refine pV 8 55 11 511 HT_ ?_
   refine pV 9 56 11 1023 HT_ ?_
   refine pU 10 57 11 2047 HT_ ?_
   refine done_ (done_of HT_.out (by kernel_rfl)) ?_
   try go_wp2
   replace HO_101001 := q0 (Kd.R_drew HO_101001.out)
   replace BK108 := q0 (blk_drew BK108.out)
   replace BK100 := q0 (blk_drew BK100.out)
   replace BK112 := q0 (blk_drew BK112.out)
   replace BK113 := q0 (blk_drew BK113.out)
   replace HB := q0 (below_drew1 HB.out)
   have p102 : 0 ≤ (x11_2 : Int) := of_decide_eq_true qa
   have q102 : x11_2 < (l0_1.length : Int) := of_decide_eq_true qa
   obtain ⟨ad102, e102, hx102_0, hx102_1⟩ := at_TTie HR0_1.out x11_2 p102 q102
   have hw102_1 := hx102_1
   have hw102_0 := hx102_0
   cases e102
   replace hx102_0 := hcl HB.out hx102_0
   replace hx102_1 := hcl HB.out hx102_1
   replace p102 := eq_true p102
   replace q102 := eq_true q102
   refine start_ (n := 11) (S := fun w' => w'.cell? ⟨gb112, 0, none⟩ = some (.int .i64 a0_0) ∧ w'.cell? ⟨gb112, 1, none⟩ = some (u101001) ∧ w'.cell? ⟨gb108, 0, none⟩ = some (.int .i64 a0_0) ∧ w'.cell? ⟨gb108, 1, none⟩ = some (.slice (some ad102) l0_1.length c0_1) ∧ w'.cell? (ad102.add ((x11_2).toNat * 2)) = some (.int .i64 ((rd_TTie l0_1 x11_2).f0)) ∧ w'.cell? ⟨(ad102.add ((x11_2).toNat * 2)).block, (ad102.add ((x11_2).toNat * 2)).off + 1, none⟩ = some (.int .i64 ((rd_TTie l0_1 x11_2).f1))) (ds := [10]) (ba 11 0) (by kernel_rfl) rfl (by kernel_rfl) ⟨bca BK112, bcb BK112, bca BK108, bcb BK108, ((HB.out.cell (World.block_lt_of_cell? w _ hw102_0)).trans hw102_0), ((HB.out.cell (World.block_lt_of_cell? w _ hw102_1)).trans hw102_1)⟩ (fun hHeld => ?_); refine with_tabW spec_NetAdd.tab12 spec_NetAdd.bits12 (fun HT_ HW_ => ?_)
   generalize w57.drew = w58 at HO_101001 BK108 BK100 BK112 BK113 HB hx102_0 hx102_1 hHeld ⊢
   refine pU 0 64 11 1 HT_ ?_
   refine pU 2 66 11 5 HT_ ?_
   refine pU 4 68 11 21 HT_ ?_
   refine tU 1 65 11 23 HT_ HW_ hHeld ?_
   refine tU 3 67 11 31 HT_ HW_ hHeld ?_
   refine pU 5 69 11 63 HT_ ?_
   refine tU 6 70 11 127 HT_ HW_ hHeld ?_
   refine one_ (i := 7) (N := some 71) (ba 11 255) rfl rfl (one_of HT_.out (by kernel_rfl)) (by decide) (fun K hK => ?_)
   refine value_ (w1 := ?_) (v := ?_) (by rfl) rfl ?_ ?_
   rotate_left 2
   · go_simp
     constructor
     · rfl
     · rfl
   refine hK.out _ _ ⟨(blk_cell (blk_alloc BK112.out _) 0).trans rfl, (blk_cell (blk_alloc BK112.out _) 1).trans rfl, (blk_cell (blk_alloc BK108.out _) 0).trans rfl, (blk_cell (blk_alloc BK108.out _) 1).trans rfl, (World.cell?_alloc_lt _ _ _ (World.block_lt_of_cell? _ _ (((HB.out.cell (World.block_lt_of_cell? w _ hw102_0)).trans hw102_0)))).trans (((HB.out.cell (World.block_lt_of_cell? w _ hw102_0)).trans hw102_0)), (World.cell?_alloc_lt _ _ _ (World.block_lt_of_cell? _ _ (((HB.out.cell (World.block_lt_of_cell? w _ hw102_1)).trans hw102_1)))).trans (((HB.out.cell (World.block_lt_of_cell? w _ hw102_1)).trans hw102_1))⟩ (fun hHeld => ?_)
   clear hK K
   refine nu 71 ?_
   refine one_ (i := 8) (N := some 72) (ba 11 511) rfl rfl (one_of HT_.out (by kernel_rfl)) (by decide) (fun K hK => ?_)
   refine Kd.R_append_step kTie (w0 := w) w.heap.size (by rfl) (.tmp 65) (.tmp 71) 22 47 (.agg #[(.int .i64 0), (.int .i64 0)]) 16 rfl Tryd.underlying22 info47 rfl (by decide) (by omega) u101001 x101001_2 (⟨(rd_TTie l0_1 x11_2).f0, (rd_TTie l0_1 x11_2).f1⟩ : STie) [.int .i64 ((rd_TTie l0_1 x11_2).f0), .int .i64 ((rd_TTie l0_1 x11_2).f1)] (fun k_ => k_ ≠ gb113) (fun _ => False) rfl rfl ?aP (fun _ hk => hk.elim) ?aF ?aO ?aB ?aS ?aL ?_
   (case aP => exact kTie_mkM _ _ _ (⟨(rd_TTie l0_1 x11_2).f0, (rd_TTie l0_1 x11_2).f1⟩ : STie))
   (case aB => exact (qb HB.out))
   (case aF => exact (fun k_ hk => Kd.freshB (g := gb113) (o := .cells #[.int .i64 t101, .int .i64 t110] 47 (0, 0)) (qk BK113.out) k_ hk))
   (case aO => exact (qr HO_101001.out))
   (case aS => exact (below_size (qb HB.out)))
   (case aL => have := LMc52.out; omega)
   intro v115 w59 ho hb hg hat
   rw [← Ny114.out] at ho
   replace BK108 := q0 (blk_grown (g := gb108) (o := .cells #[.int .i64 a0_0, .slice (some ad102) l0_1.length c0_1] 24 (0, 0)) (qk BK108.out) hg (Kd.R_ne HO_101001.out BK108.out (by decide)))
   replace BK100 := q0 (blk_grown (g := gb100) (o := .cells #[.int .i64 0, .slice none 0 0] 24 (0, 0)) (qk BK100.out) hg (Kd.R_ne HO_101001.out BK100.out (by decide)))
   replace BK112 := q0 (blk_grown (g := gb112) (o := .cells #[.int .i64 a0_0, u101001] 24 (0, 0)) (qk BK112.out) hg (Kd.R_ne HO_101001.out BK112.out (by decide)))
   replace BK113 := q0 (blk_grown (g := gb113) (o := .cells #[.int .i64 t101, .int .i64 t110] 47 (0, 0)) (qk BK113.out) hg (Kd.R_away HO_101001.out (fun _ hk => hk)))
   replace HB := q0 (hb)
   have HO116 := q0 (ho)
   clear HO_101001
   clear ho hb hg hat
   obtain ⟨Ao60, co60, eo60⟩ := Kd.R_slice HO116.out
   (first | subst eo60 | (injection eo60 with f1_ f2_ f3_; have f4_ := f1_.symm; have f5_ := f3_.symm; clear f1_ f2_ f3_; subst f4_; subst f5_))
   refine hK.out _ _ ⟨bca BK112, bcb BK112, bca BK108, bcb BK108, ((HB.out.cell (World.block_lt_of_cell? w _ hw102_0)).trans hw102_0), ((HB.out.cell (World.block_lt_of_cell? w _ hw102_1)).trans hw102_1)⟩ (fun hHeld => ?_)
   clear hK K
   refine nu 72 ?_
   refine pU 9 73 11 1023 HT_ ?_
   refine last_ (i := 10) (N := none) (ba 11 2047) rfl rfl (one_of HT_.out (by kernel_rfl)) (by decide) (fun K hK => ?_)
   have hs61 : w59.cell? ⟨gb112, 1, none⟩ = some (u101001) := (blk_cell BK112.out 1).trans rfl
   have hfs61 := blk_frozen BK112.out 1
   have hns61_0 := NB108_112.out
   have hns61_1 := NB100_112.out
   have hns61_3 := NB113_112.out
   have hms61_0 := NB112_108.out
   have hms61_1 := NB112_100.out
   have hms61_3 := NB112_113.out
   refine skip_ (w1 := ?_) (by rfl) rfl ?_ ?_
   rotate_left
   · go_simp
     rfl
   refine hK.out _ _ ?_
   clear hK K
   refine done_ (done_of HT_.out (by kernel_rfl)) ?_
   try go_wp2
   go_roundg k2
   case measure => have := HJ3.out; have := HK2.out; omega
   case rel => exact ⟨(true), (wrap64 (x11_2 + 1)), (y114), (.slice Ao60 y114.length co60), qs, qs, H', ⟨by have := HJ3.out; have := HK2.out; omega⟩, ⟨by (with_reducible repeat (first | apply Kd.R_alloc | apply Kd.R_drewN | apply Kd.R_drew)); exact Kd.R_mono (Kd.R_far (p := ⟨gb112, 1, none⟩) (Kd.R_types HO116.out BK112.out (by decide)) (fun _ hk => hk.2) (.slice Ao60 y114.length co60)) (fun _ hk => hk.1)⟩, ⟨qf BK108.out⟩, ⟨qf BK100.out⟩, ⟨by (with_reducible repeat (first | refine blk_drewN ?_ _ | refine blk_drew ?_ | refine blk_alloc ?_ _)); refine blk_put (cs := #[.int .i64 a0_0, u101001]) ?_ 1 _ rfl; (with_reducible repeat (first | refine blk_drewN ?_ _ | refine blk_drew ?_ | refine blk_alloc ?_ _)); exact BK112.out⟩, ⟨qf BK113.out⟩, ⟨qb HB.out⟩⟩
 replace c50 := Bool.eq_false_iff.mpr c50
 subst c50
 rw [if_neg nf] at H
 obtain ⟨c62, H⟩ : (0 ≤ x11_2) ∧ _ := og H
 have c62b0 := decide_eq_true c62
 clear c62
 obtain ⟨t103, A63, H⟩ := ob H
 by_cases c64 : t103 = true
 rotate_left
 · replace c64 := Bool.eq_false_iff.mpr c64
   subst c64
   rw [if_neg nf] at H
   obtain ⟨c86, H⟩ : (x101001_2.length < 8796093022208) ∧ _ := og H
   have LMc86 := q0 c86
   clear c86
   obtain ⟨y125, hy125⟩ : ∃ y_ : List (STie), y_ = (x101001_2 ++ [(⟨(rd_TTie l0_1 x11_2).f0, (rd_TTie l0_1 x11_2).f1⟩ : STie)]) := ⟨_, rfl⟩
   replace H : (spec_NetAdd.l0 k2 false (wrap64 (x11_2 + 1)) a0_0 l0_1 a0_0 y125 t101 t110) = some (r1, r2, r3) := qy H hy125
   have Ny125 := q0 hy125
   clear hy125
   have H' := q0 H
   clear H
   have hnb87 := NB108_100.out
   have hnc87 := NB100_108.out
   have hnb88 := NB108_112.out
   have hnc88 := NB112_108.out
   have hnb89 := NB108_113.out
   have hnc89 := NB113_108.out
   obtain ⟨hcz90_0, hcz90_1, hfz90_0, hfz90_1⟩ := b2 BK108
   try go_wp2
   replace HO_101001 := q0 (Kd.R_drew HO_101001.out)
   replace BK108 := q0 (blk_drew BK108.out)
   replace BK100 := q0 (blk_drew BK100.out)
   replace BK112 := q0 (blk_drew BK112.out)
   replace BK113 := q0 (blk_drew BK113.out)
   replace HB := q0 (below_drew1 HB.out)
   have p119 : 0 ≤ (x11_2 : Int) := of_decide_eq_true qa
   have q119 : x11_2 < (l0_1.length : Int) := of_decide_eq_true qa
   obtain ⟨ad119, e119, hx119_0, hx119_1⟩ := at_TTie HR0_1.out x11_2 p119 q119
   have hw119_1 := hx119_1
   have hw119_0 := hx119_0
   cases e119
   replace hx119_0 := hcl HB.out hx119_0
   replace hx119_1 := hcl HB.out hx119_1
   replace p119 := eq_true p119
   replace q119 := eq_true q119
   refine start_ (n := 11) (S := fun w' => w'.cell? ⟨gb113, 0, none⟩ = some (.int .i64 t101) ∧ w'.cell? ⟨gb113, 1, none⟩ = some (.int .i64 t110) ∧ w'.cell? ⟨gb108, 0, none⟩ = some (.int .i64 a0_0) ∧ w'.cell? ⟨gb108, 1, none⟩ = some (.slice (some ad119) l0_1.length c0_1) ∧ w'.cell? (ad119.add ((x11_2).toNat * 2)) = some (.int .i64 ((rd_TTie l0_1 x11_2).f0)) ∧ w'.cell? ⟨(ad119.add ((x11_2).toNat * 2)).block, (ad119.add ((x11_2).toNat * 2)).off + 1, none⟩ = some (.int .i64 ((rd_TTie l0_1 x11_2).f1))) (ds := []) (ba 11 0) (by kernel_rfl) rfl (by kernel_rfl) ⟨bca BK113, bcb BK113, bca BK108, bcb BK108, ((HB.out.cell (World.block_lt_of_cell? w _ hw119_0)).trans hw119_0), ((HB.out.cell (World.block_lt_of_cell? w _ hw119_1)).trans hw119_1)⟩ (fun hHeld => ?_); refine with_tabW spec_NetAdd.tab9 spec_NetAdd.bits9 (fun HT_ HW_ => ?_)
   generalize wr.drew = w91 at HO_101001 BK108 BK100 BK112 BK113 HB hx119_0 hx119_1 hHeld ⊢
   refine pU 0 47 11 1 HT_ ?_
   refine pU 1 48 11 3 HT_ ?_
   refine pU 2 49 11 7 HT_ ?_
   refine pU 4 51 11 23 HT_ ?_
   refine pU 6 53 11 87 HT_ ?_
   refine tU 3 50 11 95 HT_ HW_ hHeld ?_
   refine tU 5 52 11 127 HT_ HW_ hHeld ?_
   refine pU 7 54 11 255 HT_ ?_
   refine tU 8 55 11 511 HT_ HW_ hHeld ?_
   refine one_ (i := 9) (N := some 56) (ba 11 1023) rfl rfl (one_of HT_.out (by kernel_rfl)) (by decide) (fun K hK => ?_)
   refine goes_ Tryd.func35 (by kernel_rfl) rfl #[.agg #[.int .i64 t101, .int .i64 t110], .agg #[.int .i64 ((rd_TTie l0_1 x11_2).f0), .int .i64 ((rd_TTie l0_1 x11_2).f1)]] (by rfl) rfl rfl qm ?_
   with_reducible refine (spec_l1Less.calls t101 t110 ((rd_TTie l0_1 x11_2).f0) ((rd_TTie l0_1 x11_2).f1) false _ A63.out).mono ?_
   rintro e w92 ⟨rfl, hb⟩
   refine ⟨_, rfl, ?_⟩
   replace HO_101001 := q0 (Kd.R_below (qr HO_101001.out) hb)
   replace BK108 := kd BK108 hb
   replace BK100 := kd BK100 hb
   replace BK112 := kd BK112 hb
   replace BK113 := kd BK113 hb
   replace HB := bp HB hb
   (try clear hb)
   (try clear hb2)
   (try clear hk)
   (try clear hi)
   refine hK.out _ _ ⟨bca BK113, bcb BK113, bca BK108, bcb BK108, ((HB.out.cell (World.block_lt_of_cell? w _ hw119_0)).trans hw119_0), ((HB.out.cell (World.block_lt_of_cell? w _ hw119_1)).trans hw119_1)⟩ (fun hHeld => ?_)
   clear hK K
   refine nu 56 ?_
   refine pU 10 57 11 2047 HT_ ?_
   refine done_ (done_of HT_.out (by kernel_rfl)) ?_
   try go_wp2
   replace HO_101001 := q0 (Kd.R_drew HO_101001.out)
   replace BK108 := q0 (blk_drew BK108.out)
   replace BK100 := q0 (blk_drew BK100.out)
   replace BK112 := q0 (blk_drew BK112.out)
   replace BK113 := q0 (blk_drew BK113.out)
   replace HB := q0 (below_drew1 HB.out)
   have p126 : 0 ≤ (x11_2 : Int) := of_decide_eq_true qa
   have q126 : x11_2 < (l0_1.length : Int) := of_decide_eq_true qa
   obtain ⟨ad126, e126, hx126_0, hx126_1⟩ := at_TTie HR0_1.out x11_2 p126 q126
   have hw126_1 := hx126_1
   have hw126_0 := hx126_0
   obtain rfl : ad119 = ad126 := (by injection e126)
   replace hx126_0 := hcl HB.out hx126_0
   replace hx126_1 := hcl HB.out hx126_1
   replace p126 := eq_true p126
   replace q126 := eq_true q126
   refine start_ (n := 11) (S := fun w' => w'.cell? ⟨gb112, 0, none⟩ = some (.int .i64 a0_0) ∧ w'.cell? ⟨gb112, 1, none⟩ = some (u101001) ∧ w'.cell? ⟨gb108, 0, none⟩ = some (.int .i64 a0_0) ∧ w'.cell? ⟨gb108, 1, none⟩ = some (.slice (some ad119) l0_1.length c0_1) ∧ w'.cell? (ad119.add ((x11_2).toNat * 2)) = some (.int .i64 ((rd_TTie l0_1 x11_2).f0)) ∧ w'.cell? ⟨(ad119.add ((x11_2).toNat * 2)).block, (ad119.add ((x11_2).toNat * 2)).off + 1, none⟩ = some (.int .i64 ((rd_TTie l0_1 x11_2).f1))) (ds := [10]) (ba 11 0) (by kernel_rfl) rfl (by kernel_rfl) ⟨bca BK112, bcb BK112, bca BK108, bcb BK108, ((HB.out.cell (World.block_lt_of_cell? w _ hw126_0)).trans hw126_0), ((HB.out.cell (World.block_lt_of_cell? w _ hw126_1)).trans hw126_1)⟩ (fun hHeld => ?_); refine with_tabW spec_NetAdd.tab12 spec_NetAdd.bits12 (fun HT_ HW_ => ?_)
   generalize w92.drew = w93 at HO_101001 BK108 BK100 BK112 BK113 HB hx126_0 hx126_1 hHeld ⊢
   refine pU 0 64 11 1 HT_ ?_
   refine pU 2 66 11 5 HT_ ?_
   refine pU 4 68 11 21 HT_ ?_
   refine tU 1 65 11 23 HT_ HW_ hHeld ?_
   refine tU 3 67 11 31 HT_ HW_ hHeld ?_
   refine pU 5 69 11 63 HT_ ?_
   refine tU 6 70 11 127 HT_ HW_ hHeld ?_
   refine one_ (i := 7) (N := some 71) (ba 11 255) rfl rfl (one_of HT_.out (by kernel_rfl)) (by decide) (fun K hK => ?_)
   refine value_ (w1 := ?_) (v := ?_) (by rfl) rfl ?_ ?_
   rotate_left 2
   · go_simp
     constructor
     · rfl
     · rfl
   refine hK.out _ _ ⟨(blk_cell (blk_alloc BK112.out _) 0).trans rfl, (blk_cell (blk_alloc BK112.out _) 1).trans rfl, (blk_cell (blk_alloc BK108.out _) 0).trans rfl, (blk_cell (blk_alloc BK108.out _) 1).trans rfl, (World.cell?_alloc_lt _ _ _ (World.block_lt_of_cell? _ _ (((HB.out.cell (World.block_lt_of_cell? w _ hw126_0)).trans hw126_0)))).trans (((HB.out.cell (World.block_lt_of_cell? w _ hw126_0)).trans hw126_0)), (World.cell?_alloc_lt _ _ _ (World.block_lt_of_cell? _ _ (((HB.out.cell (World.block_lt_of_cell? w _ hw126_1)).trans hw126_1)))).trans (((HB.out.cell (World.block_lt_of_cell? w _ hw126_1)).trans hw126_1))⟩ (fun hHeld => ?_)
   clear hK K
   refine nu 71 ?_
   refine one_ (i := 8) (N := some 72) (ba 11 511) rfl rfl (one_of HT_.out (by kernel_rfl)) (by decide) (fun K hK => ?_)
   refine Kd.R_append_step kTie (w0 := w) w.heap.size (by rfl) (.tmp 65) (.tmp 71) 22 47 (.agg #[(.int .i64 0), (.int .i64 0)]) 16 rfl Tryd.underlying22 info47 rfl (by decide) (by omega) u101001 x101001_2 (⟨(rd_TTie l0_1 x11_2).f0, (rd_TTie l0_1 x11_2).f1⟩ : STie) [.int .i64 ((rd_TTie l0_1 x11_2).f0), .int .i64 ((rd_TTie l0_1 x11_2).f1)] (fun k_ => k_ ≠ gb113) (fun _ => False) rfl rfl ?aP (fun _ hk => hk.elim) ?aF ?aO ?aB ?aS ?aL ?_
   (case aP => exact kTie_mkM _ _ _ (⟨(rd_TTie l0_1 x11_2).f0, (rd_TTie l0_1 x11_2).f1⟩ : STie))
   (case aB => exact (qb HB.out))
   (case aF => exact (fun k_ hk => Kd.freshB (g := gb113) (o := .cells #[.int .i64 t101, .int .i64 t110] 47 (0, 0)) (qk BK113.out) k_ hk))
   (case aO => exact (qr HO_101001.out))
   (case aS => exact (below_size (qb HB.out)))
   (case aL => have := LMc86.out; omega)
   intro v127 w94 ho hb hg hat
   rw [← Ny125.out] at ho
   replace BK108 := q0 (blk_grown (g := gb108) (o := .cells #[.int .i64 a0_0, .slice (some ad119) l0_1.length c0_1] 24 (0, 0)) (qk BK108.out) hg (Kd.R_ne HO_101001.out BK108.out (by decide)))
   replace BK100 := q0 (blk_grown (g := gb100) (o := .cells #[.int .i64 0, .slice none 0 0] 24 (0, 0)) (qk BK100.out) hg (Kd.R_ne HO_101001.out BK100.out (by decide)))
   replace BK112 := q0 (blk_grown (g := gb112) (o := .cells #[.int .i64 a0_0, u101001] 24 (0, 0)) (qk BK112.out) hg (Kd.R_ne HO_101001.out BK112.out (by decide)))
   replace BK113 := q0 (blk_grown (g := gb113) (o := .cells #[.int .i64 t101, .int .i64 t110] 47 (0, 0)) (qk BK113.out) hg (Kd.R_away HO_101001.out (fun _ hk => hk)))
   replace HB := q0 (hb)
   have HO128 := q0 (ho)
   clear HO_101001
   clear ho hb hg hat
   obtain ⟨Ao95, co95, eo95⟩ := Kd.R_slice HO128.out
   (first | subst eo95 | (injection eo95 with f1_ f2_ f3_; have f4_ := f1_.symm; have f5_ := f3_.symm; clear f1_ f2_ f3_; subst f4_; subst f5_))
   refine hK.out _ _ ⟨bca BK112, bcb BK112, bca BK108, bcb BK108, ((HB.out.cell (World.block_lt_of_cell? w _ hw126_0)).trans hw126_0), ((HB.out.cell (World.block_lt_of_cell? w _ hw126_1)).trans hw126_1)⟩ (fun hHeld => ?_)
   clear hK K
   refine nu 72 ?_
   refine pU 9 73 11 1023 HT_ ?_
   refine last_ (i := 10) (N := none) (ba 11 2047) rfl rfl (one_of HT_.out (by kernel_rfl)) (by decide) (fun K hK => ?_)
   have hs96 : w94.cell? ⟨gb112, 1, none⟩ = some (u101001) := (blk_cell BK112.out 1).trans rfl
   have hfs96 := blk_frozen BK112.out 1
   have hns96_0 := NB108_112.out
   have hns96_1 := NB100_112.out
   have hns96_3 := NB113_112.out
   have hms96_0 := NB112_108.out
   have hms96_1 := NB112_100.out
   have hms96_3 := NB112_113.out
   refine skip_ (w1 := ?_) (by rfl) rfl ?_ ?_
   rotate_left
   · go_simp
     rfl
   refine hK.out _ _ ?_
   clear hK K
   refine done_ (done_of HT_.out (by kernel_rfl)) ?_
   try go_wp2
   go_roundg k2
   case measure => have := HJ3.out; have := HK2.out; omega
   case rel => exact ⟨(false), (wrap64 (x11_2 + 1)), (y125), (.slice Ao95 y125.length co95), qs, qs, H', ⟨by have := HJ3.out; have := HK2.out; omega⟩, ⟨by (with_reducible repeat (first | apply Kd.R_alloc | apply Kd.R_drewN | apply Kd.R_drew)); exact Kd.R_mono (Kd.R_far (p := ⟨gb112, 1, none⟩) (Kd.R_types HO128.out BK112.out (by decide)) (fun _ hk => hk.2) (.slice Ao95 y125.length co95)) (fun _ hk => hk.1)⟩, ⟨qf BK108.out⟩, ⟨qf BK100.out⟩, ⟨by (with_reducible repeat (first | refine blk_drewN ?_ _ | refine blk_drew ?_ | refine blk_alloc ?_ _)); refine blk_put (cs := #[.int .i64 a0_0, u101001]) ?_ 1 _ rfl; (with_reducible repeat (first | refine blk_drewN ?_ _ | refine blk_drew ?_ | refine blk_alloc ?_ _)); exact BK112.out⟩, ⟨qf BK113.out⟩, ⟨qb HB.out⟩⟩
 subst c64
 rw [if_pos rfl] at H
 obtain ⟨c65, H⟩ : (x101001_2.length < 8796093022208) ∧ _ := og H
 have LMc65 := q0 c65
 clear c65
 obtain ⟨y104, hy104⟩ : ∃ y_ : List (STie), y_ = (x101001_2 ++ [(⟨t101, t110⟩ : STie)]) := ⟨_, rfl⟩
 replace H : (if y104.length < 8796093022208 then (spec_NetAdd.l0 k2 true (wrap64 (x11_2 + 1)) a0_0 l0_1 a0_0 (y104 ++ [(⟨(rd_TTie l0_1 x11_2).f0, (rd_TTie l0_1 x11_2).f1⟩ : STie)]) t101 t110) else (none)) = some (r1, r2, r3) := qy H hy104
 have Ny104 := q0 hy104
 clear hy104
 obtain ⟨c66, H⟩ : (y104.length < 8796093022208) ∧ _ := og H
 have LMc66 := q0 c66
 clear c66
 obtain ⟨y118, hy118⟩ : ∃ y_ : List (STie), y_ = (y104 ++ [(⟨(rd_TTie l0_1 x11_2).f0, (rd_TTie l0_1 x11_2).f1⟩ : STie)]) := ⟨_, rfl⟩
 replace H : (spec_NetAdd.l0 k2 true (wrap64 (x11_2 + 1)) a0_0 l0_1 a0_0 y118 t101 t110) = some (r1, r2, r3) := qy H hy118
 have Ny118 := q0 hy118
 clear hy118
 have H' := q0 H
 clear H
 have hnb67 := NB108_100.out
 have hnc67 := NB100_108.out
 have hnb68 := NB108_112.out
 have hnc68 := NB112_108.out
 have hnb69 := NB108_113.out
 have hnc69 := NB113_108.out
 obtain ⟨hcz70_0, hcz70_1, hfz70_0, hfz70_1⟩ := b2 BK108
 try go_wp2
 replace HO_101001 := q0 (Kd.R_drew HO_101001.out)
 replace BK108 := q0 (blk_drew BK108.out)
 replace BK100 := q0 (blk_drew BK100.out)
 replace BK112 := q0 (blk_drew BK112.out)
 replace BK113 := q0 (blk_drew BK113.out)
 replace HB := q0 (below_drew1 HB.out)
 have p119 : 0 ≤ (x11_2 : Int) := of_decide_eq_true qa
 have q119 : x11_2 < (l0_1.length : Int) := of_decide_eq_true qa
 obtain ⟨ad119, e119, hx119_0, hx119_1⟩ := at_TTie HR0_1.out x11_2 p119 q119
 have hw119_1 := hx119_1
 have hw119_0 := hx119_0
 cases e119
 replace hx119_0 := hcl HB.out hx119_0
 replace hx119_1 := hcl HB.out hx119_1
 replace p119 := eq_true p119
 replace q119 := eq_true q119
 refine start_ (n := 11) (S := fun w' => w'.cell? ⟨gb113, 0, none⟩ = some (.int .i64 t101) ∧ w'.cell? ⟨gb113, 1, none⟩ = some (.int .i64 t110) ∧ w'.cell? ⟨gb108, 0, none⟩ = some (.int .i64 a0_0) ∧ w'.cell? ⟨gb108, 1, none⟩ = some (.slice (some ad119) l0_1.length c0_1) ∧ w'.cell? (ad119.add ((x11_2).toNat * 2)) = some (.int .i64 ((rd_TTie l0_1 x11_2).f0)) ∧ w'.cell? ⟨(ad119.add ((x11_2).toNat * 2)).block, (ad119.add ((x11_2).toNat * 2)).off + 1, none⟩ = some (.int .i64 ((rd_TTie l0_1 x11_2).f1))) (ds := []) (ba 11 0) (by kernel_rfl) rfl (by kernel_rfl) ⟨bca BK113, bcb BK113, bca BK108, bcb BK108, ((HB.out.cell (World.block_lt_of_cell? w _ hw119_0)).trans hw119_0), ((HB.out.cell (World.block_lt_of_cell? w _ hw119_1)).trans hw119_1)⟩ (fun hHeld => ?_); refine with_tabW spec_NetAdd.tab9 spec_NetAdd.bits9 (fun HT_ HW_ => ?_)
 generalize wr.drew = w71 at HO_101001 BK108 BK100 BK112 BK113 HB hx119_0 hx119_1 hHeld ⊢
 refine pU 0 47 11 1 HT_ ?_
 refine pU 1 48 11 3 HT_ ?_
 refine pU 2 49 11 7 HT_ ?_
 refine pU 4 51 11 23 HT_ ?_
 refine pU 6 53 11 87 HT_ ?_
 refine tU 3 50 11 95 HT_ HW_ hHeld ?_
 refine tU 5 52 11 127 HT_ HW_ hHeld ?_
 refine pU 7 54 11 255 HT_ ?_
 refine tU 8 55 11 511 HT_ HW_ hHeld ?_
 refine one_ (i := 9) (N := some 56) (ba 11 1023) rfl rfl (one_of HT_.out (by kernel_rfl)) (by decide) (fun K hK => ?_)
 refine goes_ Tryd.func35 (by kernel_rfl) rfl #[.agg #[.int .i64 t101, .int .i64 t110], .agg #[.int .i64 ((rd_TTie l0_1 x11_2).f0), .int .i64 ((rd_TTie l0_1 x11_2).f1)]] (by rfl) rfl rfl qm ?_
 with_reducible refine (spec_l1Less.calls t101 t110 ((rd_TTie l0_1 x11_2).f0) ((rd_TTie l0_1 x11_2).f1) true _ A63.out).mono ?_
 rintro e w72 ⟨rfl, hb⟩
 refine ⟨_, rfl, ?_⟩
 replace HO_101001 := q0 (Kd.R_below (qr HO_101001.out) hb)
 replace BK108 := kd BK108 hb
 replace BK100 := kd BK100 hb
 replace BK112 := kd BK112 hb
 replace BK113 := kd BK113 hb
 replace HB := bp HB hb
 (try clear hb)
 (try clear hb2)
 (try clear hk)
 (try clear hi)
 refine hK.out _ _ ⟨bca BK113, bcb BK113, bca BK108, bcb BK108, ((HB.out.cell (World.block_lt_of_cell? w _ hw119_0)).trans hw119_0), ((HB.out.cell (World.block_lt_of_cell? w _ hw119_1)).trans hw119_1)⟩ (fun hHeld => ?_)
 clear hK K
 refine nu 56 ?_
 refine pU 10 57 11 2047 HT_ ?_
 refine done_ (done_of HT_.out (by kernel_rfl)) ?_
 have hnb73 := NB112_100.out
 have hnc73 := NB100_112.out
 have hnb74 := NB112_113.out
 have hnc74 := NB113_112.out
 obtain ⟨hcz75_0, hcz75_1, hfz75_0, hfz75_1⟩ := b2 BK112
 have hnb76 := NB113_100.out
 have hnc76 := NB100_113.out
 obtain ⟨hcz77_0, hcz77_1, hfz77_0, hfz77_1⟩ := b2 BK113
 try go_wp2_with (first | ((with_reducible refine gate_builtin (b := .append) (xs := #[.tmp 59, .tmp 61]) rfl ?_); at_builtin; refine Kd.R_append kTie (w0 := w) w.heap.size rfl (.tmp 59) (.tmp 61) 22 47 (.agg #[(.int .i64 0), (.int .i64 0)]) 16 rfl Tryd.underlying22 info47 rfl (by decide) (by omega) u101001 x101001_2 (⟨t101, t110⟩ : STie) [.int .i64 t101, .int .i64 t110] (fun k_ => k_ ≠ gb113) (fun _ => False) rfl rfl ?aP (fun _ hk => hk.elim) ?aF ?aO ?aB ?aS ?aL ?_; (case aP => exact kTie_mkM _ _ _ (⟨t101, t110⟩ : STie)); (case aB => exact (qb HB.out)); (case aF => exact (fun k_ hk => Kd.freshB (g := gb113) (o := .cells #[.int .i64 t101, .int .i64 t110] 47 (0, 0)) (qk BK113.out) k_ hk)); (case aO => exact (qr HO_101001.out)); (case aS => exact (below_size (qb HB.out))); (case aL => have := LMc65.out; omega); intro v120 w78 ho hb hg hat; rw [← Ny104.out] at ho; replace BK108 := q0 (blk_grown (g := gb108) (o := .cells #[.int .i64 a0_0, .slice (some ad119) l0_1.length c0_1] 24 (0, 0)) (qk BK108.out) hg (Kd.R_ne HO_101001.out BK108.out (by decide))); replace BK100 := q0 (blk_grown (g := gb100) (o := .cells #[.int .i64 0, .slice none 0 0] 24 (0, 0)) (qk BK100.out) hg (Kd.R_ne HO_101001.out BK100.out (by decide))); replace BK112 := q0 (blk_grown (g := gb112) (o := .cells #[.int .i64 a0_0, u101001] 24 (0, 0)) (qk BK112.out) hg (Kd.R_ne HO_101001.out BK112.out (by decide))); replace BK113 := q0 (blk_grown (g := gb113) (o := .cells #[.int .i64 t101, .int .i64 t110] 47 (0, 0)) (qk BK113.out) hg (Kd.R_away HO_101001.out (fun _ hk => hk))); replace HB := q0 (hb); have HO121 := q0 (ho); clear HO_101001; clear ho hb hg hat; obtain ⟨Ao79, co79, eo79⟩ := Kd.R_slice HO121.out; subst eo79; obtain ⟨hcz80_0, hcz80_1, hfz80_0, hfz80_1⟩ := b2 BK112))
 have n0_ : Aside0 (Kd.R kTie 47 (w78.setCell ⟨gb112, 1, none⟩ (.slice Ao79 y104.length co79)) w.heap.size (fun k_ => k_ ≠ gb113) (.slice Ao79 y104.length co79) y104) := ⟨by (with_reducible repeat (first | apply Kd.R_alloc | apply Kd.R_drewN | apply Kd.R_drew)); exact Kd.R_mono (Kd.R_far (p := ⟨gb112, 1, none⟩) (Kd.R_types HO121.out BK112.out (by decide)) (fun _ hk => hk.2) (.slice Ao79 y104.length co79)) (fun _ hk => hk.1)⟩
 have n1_ : Aside0 ((w78.setCell ⟨gb112, 1, none⟩ (.slice Ao79 y104.length co79)).heap[gb108]? = some (.cells #[.int .i64 a0_0, .slice (some ad119) l0_1.length c0_1] 24 (0, 0))) := ⟨qf BK108.out⟩
 have n2_ : Aside0 ((w78.setCell ⟨gb112, 1, none⟩ (.slice Ao79 y104.length co79)).heap[gb100]? = some (.cells #[.int .i64 0, .slice none 0 0] 24 (0, 0))) := ⟨qf BK100.out⟩
 have n3_ : Aside0 ((w78.setCell ⟨gb112, 1, none⟩ (.slice Ao79 y104.length co79)).heap[gb112]? = some (.cells #[.int .i64 a0_0, .slice Ao79 y104.length co79] 24 (0, 0))) := ⟨by (with_reducible repeat (first | refine blk_drewN ?_ _ | refine blk_drew ?_ | refine blk_alloc ?_ _)); refine blk_put (cs := #[.int .i64 a0_0, u101001]) ?_ 1 _ rfl; (with_reducible repeat (first | refine blk_drewN ?_ _ | refine blk_drew ?_ | refine blk_alloc ?_ _)); exact BK112.out⟩
 have n4_ : Aside0 ((w78.setCell ⟨gb112, 1, none⟩ (.slice Ao79 y104.length co79)).heap[gb113]? = some (.cells #[.int .i64 t101, .int .i64 t110] 47 (0, 0))) := ⟨qf BK113.out⟩
 have n5_ : Aside0 (Below w.heap.size w (w78.setCell ⟨gb112, 1, none⟩ (.slice Ao79 y104.length co79))) := ⟨qb HB.out⟩
 (try clear HO121)
 (try clear BK108)
 (try clear BK100)
 (try clear BK112)
 (try clear BK113)
 (try clear HB)
 generalize (w78.setCell ⟨gb112, 1, none⟩ (.slice Ao79 y104.length co79)) = w81 at n0_ n1_ n2_ n3_ n4_ n5_ ⊢
 have HO121 := n0_
 have BK108 := n1_
 have BK100 := n2_
 have BK112 := n3_
 have BK113 := n4_
 have HB := n5_
 clear n0_ n1_ n2_ n3_ n4_ n5_
 replace HO121 := q0 (Kd.R_drew HO121.out)
 replace BK108 := q0 (blk_drew BK108.out)
 replace BK100 := q0 (blk_drew BK100.out)
 replace BK112 := q0 (blk_drew BK112.out)
 replace BK113 := q0 (blk_drew BK113.out)
 replace HB := q0 (below_drew1 HB.out)
 have p122 : 0 ≤ (x11_2 : Int) := of_decide_eq_true qa
 have q122 : x11_2 < (l0_1.length : Int) := of_decide_eq_true qa
 obtain ⟨ad122, e122, hx122_0, hx122_1⟩ := at_TTie HR0_1.out x11_2 p122 q122
 have hw122_1 := hx122_1
 have hw122_0 := hx122_0
 obtain rfl : ad119 = ad122 := (by injection e122)
 replace hx122_0 := hcl HB.out hx122_0
 replace hx122_1 := hcl HB.out hx122_1
 replace p122 := eq_true p122
 replace q122 := eq_true q122
 refine start_ (n := 11) (S := fun w' => w'.cell? ⟨gb112, 0, none⟩ = some (.int .i64 a0_0) ∧ w'.cell? ⟨gb112, 1, none⟩ = some (.slice Ao79 y104.length co79) ∧ w'.cell? ⟨gb108, 0, none⟩ = some (.int .i64 a0_0) ∧ w'.cell? ⟨gb108, 1, none⟩ = some (.slice (some ad119) l0_1.length c0_1) ∧ w'.cell? (ad119.add ((x11_2).toNat * 2)) = some (.int .i64 ((rd_TTie l0_1 x11_2).f0)) ∧ w'.cell? ⟨(ad119.add ((x11_2).toNat * 2)).block, (ad119.add ((x11_2).toNat * 2)).off + 1, none⟩ = some (.int .i64 ((rd_TTie l0_1 x11_2).f1))) (ds := [10]) (ba 11 0) (by kernel_rfl) rfl (by kernel_rfl) ⟨bca BK112, bcb BK112, bca BK108, bcb BK108, ((HB.out.cell (World.block_lt_of_cell? w _ hw122_0)).trans hw122_0), ((HB.out.cell (World.block_lt_of_cell? w _ hw122_1)).trans hw122_1)⟩ (fun hHeld => ?_); refine with_tabW spec_NetAdd.tab12 spec_NetAdd.bits12 (fun HT_ HW_ => ?_)
 generalize w81.drew = w82 at HO121 BK108 BK100 BK112 BK113 HB hx122_0 hx122_1 hHeld ⊢
 refine pU 0 64 11 1 HT_ ?_
 refine pU 2 66 11 5 HT_ ?_
 refine pU 4 68 11 21 HT_ ?_
 refine tU 1 65 11 23 HT_ HW_ hHeld ?_
 refine tU 3 67 11 31 HT_ HW_ hHeld ?_
 refine pU 5 69 11 63 HT_ ?_
 refine tU 6 70 11 127 HT_ HW_ hHeld ?_
 refine one_ (i := 7) (N := some 71) (ba 11 255) rfl rfl (one_of HT_.out (by kernel_rfl)) (by decide) (fun K hK => ?_)
 refine value_ (w1 := ?_) (v := ?_) (by rfl) rfl ?_ ?_
 rotate_left 2
 · go_simp
   constructor
   · rfl
   · rfl
 refine hK.out _ _ ⟨(blk_cell (blk_alloc BK112.out _) 0).trans rfl, (blk_cell (blk_alloc BK112.out _) 1).trans rfl, (blk_cell (blk_alloc BK108.out _) 0).trans rfl, (blk_cell (blk_alloc BK108.out _) 1).trans rfl, (World.cell?_alloc_lt _ _ _ (World.block_lt_of_cell? _ _ (((HB.out.cell (World.block_lt_of_cell? w _ hw122_0)).trans hw122_0)))).trans (((HB.out.cell (World.block_lt_of_cell? w _ hw122_0)).trans hw122_0)), (World.cell?_alloc_lt _ _ _ (World.block_lt_of_cell? _ _ (((HB.out.cell (World.block_lt_of_cell? w _ hw122_1)).trans hw122_1)))).trans (((HB.out.cell (World.block_lt_of_cell? w _ hw122_1)).trans hw122_1))⟩ (fun hHeld => ?_)
 clear hK K
 refine nu 71 ?_
 refine one_ (i := 8) (N := some 72) (ba 11 511) rfl rfl (one_of HT_.out (by kernel_rfl)) (by decide) (fun K hK => ?_)
 refine Kd.R_append_step kTie (w0 := w) w.heap.size (by rfl) (.tmp 65) (.tmp 71) 22 47 (.agg #[(.int .i64 0), (.int .i64 0)]) 16 rfl Tryd.underlying22 info47 rfl (by decide) (by omega) (.slice Ao79 y104.length co79) y104 (⟨(rd_TTie l0_1 x11_2).f0, (rd_TTie l0_1 x11_2).f1⟩ : STie) [.int .i64 ((rd_TTie l0_1 x11_2).f0), .int .i64 ((rd_TTie l0_1 x11_2).f1)] (fun k_ => k_ ≠ gb113) (fun _ => False) rfl rfl ?aP (fun _ hk => hk.elim) ?aF ?aO ?aB ?aS ?aL ?_
 (case aP => exact kTie_mkM _ _ _ (⟨(rd_TTie l0_1 x11_2).f0, (rd_TTie l0_1 x11_2).f1⟩ : STie))
 (case aB => exact (qb HB.out))
 (case aF => exact (fun k_ hk => Kd.freshB (g := gb113) (o := .cells #[.int .i64 t101, .int .i64 t110] 47 (0, 0)) (qk BK113.out) k_ hk))
 (case aO => exact (qr HO121.out))
 (case aS => exact (below_size (qb HB.out)))
 (case aL => have := LMc66.out; omega)
 intro v123 w83 ho hb hg hat
 rw [← Ny118.out] at ho
 replace BK108 := q0 (blk_grown (g := gb108) (o := .cells #[.int .i64 a0_0, .slice (some ad119) l0_1.length c0_1] 24 (0, 0)) (qk BK108.out) hg (Kd.R_ne HO121.out BK108.out (by decide)))
 replace BK100 := q0 (blk_grown (g := gb100) (o := .cells #[.int .i64 0, .slice none 0 0] 24 (0, 0)) (qk BK100.out) hg (Kd.R_ne HO121.out BK100.out (by decide)))
 replace BK112 := q0 (blk_grown (g := gb112) (o := .cells #[.int .i64 a0_0, .slice Ao79 y104.length co79] 24 (0, 0)) (qk BK112.out) hg (Kd.R_ne HO121.out BK112.out (by decide)))
 replace BK113 := q0 (blk_grown (g := gb113) (o := .cells #[.int .i64 t101, .int .i64 t110] 47 (0, 0)) (qk BK113.out) hg (Kd.R_away HO121.out (fun _ hk => hk)))
 replace HB := q0 (hb)
 have HO124 := q0 (ho)
 clear HO121
 clear ho hb hg hat
 obtain ⟨Ao84, co84, eo84⟩ := Kd.R_slice HO124.out
 (first | subst eo84 | (injection eo84 with f1_ f2_ f3_; have f4_ := f1_.symm; have f5_ := f3_.symm; clear f1_ f2_ f3_; subst f4_; subst f5_))
 refine hK.out _ _ ⟨bca BK112, bcb BK112, bca BK108, bcb BK108, ((HB.out.cell (World.block_lt_of_cell? w _ hw122_0)).trans hw122_0), ((HB.out.cell (World.block_lt_of_cell? w _ hw122_1)).trans hw122_1)⟩ (fun hHeld => ?_)
 clear hK K
 refine nu 72 ?_
 refine pU 9 73 11 1023 HT_ ?_
 refine last_ (i := 10) (N := none) (ba 11 2047) rfl rfl (one_of HT_.out (by kernel_rfl)) (by decide) (fun K hK => ?_)
 have hs85 : w83.cell? ⟨gb112, 1, none⟩ = some (.slice Ao79 y104.length co79) := (blk_cell BK112.out 1).trans rfl
 have hfs85 := blk_frozen BK112.out 1
 have hns85_0 := NB108_112.out
 have hns85_1 := NB100_112.out
 have hns85_3 := NB113_112.out
 have hms85_0 := NB112_108.out
 have hms85_1 := NB112_100.out
 have hms85_3 := NB112_113.out
 refine skip_ (w1 := ?_) (by rfl) rfl ?_ ?_
 rotate_left
 · go_simp
   rfl
 refine hK.out _ _ ?_
 clear hK K
 refine done_ (done_of HT_.out (by kernel_rfl)) ?_
 try go_wp2
 go_roundg k2
 case measure => have := HJ3.out; have := HK2.out; omega
 case rel => exact ⟨(true), (wrap64 (x11_2 + 1)), (y118), (.slice Ao84 y118.length co84), qs, qs, H', ⟨by have := HJ3.out; have := HK2.out; omega⟩, ⟨by (with_reducible repeat (first | apply Kd.R_alloc | apply Kd.R_drewN | apply Kd.R_drew)); exact Kd.R_mono (Kd.R_far (p := ⟨gb112, 1, none⟩) (Kd.R_types HO124.out BK112.out (by decide)) (fun _ hk => hk.2) (.slice Ao84 y118.length co84)) (fun _ hk => hk.1)⟩, ⟨qf BK108.out⟩, ⟨qf BK100.out⟩, ⟨by (with_reducible repeat (first | refine blk_drewN ?_ _ | refine blk_drew ?_ | refine blk_alloc ?_ _)); refine blk_put (cs := #[.int .i64 a0_0, .slice Ao79 y104.length co79]) ?_ 1 _ rfl; (with_reducible repeat (first | refine blk_drewN ?_ _ | refine blk_drew ?_ | refine blk_alloc ?_ _)); exact BK112.out⟩, ⟨qf BK113.out⟩, ⟨qb HB.out⟩⟩

def spec_l71Net.T7 : Bool × List (List Nat × List Nat) := (true, [([], []), ([], []), ([], []), ([], []), ([2, 3], [2, 3]), ([0, 1, 4, 4], [0, 1, 4]), ([5], [5]), ([6], [6]), ([6], [6]), ([7, 5, 0, 1, 2, 3, 4, 5, 6, 7], [7])])
def spec_l71Net.B7 : List Nat := [0, 0, 0, 0, 12, 31, 63, 127, 127, 255]
theorem spec_l71Net.tab7 : rtab .any (opsOf Tryd.f37 7) = spec_l71Net.T7 := by kernel_rfl
theorem spec_l71Net.bits7 : waitsOk spec_l71Net.T7.2 spec_l71Net.B7 = true := by kernel_rfl
def spec_l71Net.T12 : Bool × List (List Nat × List Nat) := (true, [([], []), ([], []), ([], []), ([2], [2]), ([], []), ([4], [4]), ([3, 5], [3, 5]), ([0, 1, 6], [0, 1, 6]), ([7], [7]), ([8], [8]), ([8], [8]), ([9, 7, 0, 1, 2, 3, 4, 5, 6, 7, 8, 9], [9])])
def spec_l71Net.B12 : List Nat := [0, 0, 0, 4, 0, 16, 60, 127, 255, 511, 511, 1023]
theorem spec_l71Net.tab12 : rtab .any (opsOf Tryd.f37 12) = spec_l71Net.T12 := by kernel_rfl
theorem spec_l71Net.bits12 : waitsOk spec_l71Net.T12.2 spec_l71Net.B12 = true := by kernel_rfl
def spec_l71Net.T16 : Bool × List (List Nat × List Nat) := (true, [([], []), ([], []), ([], []), ([2], [2]), ([1, 3], [1, 3]), ([], []), ([], []), ([6], [6]), ([5, 7, 4], [5, 7]), ([0, 4, 8, 8], [0, 4, 8]), ([9], [9]), ([10], [10]), ([10], [10]), ([], []), ([13, 11, 9, 0, 1, 2, 3, 4, 5, 6, 7, 8, 9, 10, 11, 13], [11, 13]), ([12, 14, 0, 1, 2, 3, 4, 5, 6, 7, 8, 9, 10, 11, 12, 13, 14], [12])])
def spec_l71Net.B16 : List Nat := [0, 0, 0, 4, 14, 0, 0, 64, 254, 511, 1023, 2047, 2047, 0, 12287, 32767]
theorem spec_l71Net.tab16 : rtab .any (opsOf Tryd.f37 16) = spec_l71Net.T16 := by kernel_rfl
theorem spec_l71Net.bits16 : waitsOk spec_l71Net.T16.2 spec_l71Net.B16 = true := by kernel_rfl
set_option maxHeartbeats 8000000 in
set_option maxRecDepth 100000 in
theorem spec_l71Net.calls (k : Nat) (g : Nat) (s0_0 : List Int) (s0_1 : Int) (r1 : Int) (r2 : List (STie)) (r3 : Int) (w0 w : World) (hI : IsSRd w0 w g s0_0 s0_1) (hB : Below w0.heap.size w0 w) (h : spec_l71Net.f k s0_0 s0_1 = some (r1, r2, r3)) :
    Calls Tryd.prog 37 #[.pointer (some ⟨g, 0, none⟩)] w fun e w' => ∃ v1_ : Value, e = .returned (.agg #[.int .i64 r1, v1_]) ∧ Kd.R kTie 47 w' w.heap.size (fun _ => True) v1_ r2 ∧ IsSRd w0 w' g s0_0 r3 ∧ Below w0.heap.size w0 w' ∧ KeepBut w w' g none := by
 have hu24 := Tryd.underlying24
 have HI0 := q0 hI
 have HK := q0 (KeepBut.refl w g none)
 have HL := q0 hB.size
 clear hI
 have HW0 := q0 hB.size
 have HB := q0 hB
 clear hB
 have H : ((spec_l6Rd_pick.f k s0_0 s0_1 8).bind fun bt110 => ((spec_l6Rd_pick.f k s0_0 bt110.2 6).bind fun bt102 => (if bt102.1 = 0 then (spec_l71Net.l0 k 1 s0_0 bt102.2 (wrap64 (1 + bt110.1)) ([] : List (STie))) else (if bt102.1 = 1 then (spec_l71Net.l1 k 0 s0_0 bt102.2 (wrap64 (1 + bt110.1)) ([] : List (STie))) else (spec_l71Net.j2 k s0_0 bt102.2 (wrap64 (1 + bt110.1)) ([] : List (STie))))))) = some (r1, r2, r3) := h
 clear h
 obtain ⟨⟨t110, t111⟩, A2, H⟩ := ob H
 obtain ⟨⟨t102, t112⟩, A3, H⟩ := ob H
 have HC4 := q0 H
 clear H
 go_enter Tryd.func37, Tryd.ntmps37
 go_upto_block 0 with (first | ((with_reducible refine gd 2 ?_); refine be 2 #[.int .i64 0, .slice none 0 0] 24 ?_; intro gb113 hg w5 hbox hb; replace HB := q0 (below_step (qj HB.out HI0.out) hb); have BK113 := q0 (hbox); have GW113 := q0 ((by rw [hg]; exact (keep_size (w := w) (g := g) (row := none) (qh HK.out)) : w.heap.size ≤ gb113)); have GE113 := q0 ((Nat.le_trans HW0.out (by rw [hg]; exact (keep_size (w := w) (g := g) (row := none) (qh HK.out)) : w.heap.size ≤ gb113) : w0.heap.size ≤ gb113)); replace HK := q0 (KeepBut.trans (qh HK.out) (KeepBut.of_below hb g none) (.inl rfl)); have NB0_113 := q0 ((by rw [hg]; exact Nat.ne_of_lt (IsSRd.lt (show IsSRd w0 _ g s0_0 s0_1 from qi HI0.out)) : g ≠ gb113)); have NB113_0 := q0 ((by rw [hg]; exact Nat.ne_of_gt (IsSRd.lt (show IsSRd w0 _ g s0_0 s0_1 from qi HI0.out)) : gb113 ≠ g)); replace HI0 := q0 (IsSRd.below (qi HI0.out) hb); clear hb hbox hg) | ((with_reducible refine gf 38 ?_); refine gl 10 Tryd.func38 #[.pointer (some ⟨g, 0, none⟩), .int .i64 8] ?_; (with_reducible refine (spec_l6Rd_pick.calls k g s0_0 s0_1 8 t110 t111 w0 _ ?side1 ?side2 A2.out).mono ?_); (case side1 => exact qi HI0.out); (case side2 => exact qj HB.out HI0.out); rintro e w6 ⟨rfl, hi, hb, hk⟩; refine ⟨_, rfl, ?_⟩; replace BK113 := q0 (kc hk BK113.out NB113_0.out); replace HK := q0 (KeepBut.trans (qh HK.out) hk (.inl rfl)); replace HB := q0 (hb); replace HI0 := q0 (hi); (try clear hb); (try clear hb2); (try clear hk); (try clear hi)) | ((with_reducible refine gd 3 ?_); refine be 3 #[.int .i64 0, .slice none 0 0] 24 ?_; intro gb114 hg w7 hbox hb; replace HB := q0 (below_step (qj HB.out HI0.out) hb); have BK114 := q0 (hbox); have GW114 := q0 ((by rw [hg]; exact (keep_size (w := w) (g := g) (row := none) (qh HK.out)) : w.heap.size ≤ gb114)); have GE114 := q0 ((Nat.le_trans HW0.out (by rw [hg]; exact (keep_size (w := w) (g := g) (row := none) (qh HK.out)) : w.heap.size ≤ gb114) : w0.heap.size ≤ gb114)); replace HK := q0 (KeepBut.trans (qh HK.out) (KeepBut.of_below hb g none) (.inl rfl)); have NB113_114 := nl BK113 hg; have NB114_113 := ng BK113 hg; replace BK113 := kd BK113 hb; have NB0_114 := q0 ((by rw [hg]; exact Nat.ne_of_lt (IsSRd.lt (show IsSRd w0 _ g s0_0 t111 from qi HI0.out)) : g ≠ gb114)); have NB114_0 := q0 ((by rw [hg]; exact Nat.ne_of_gt (IsSRd.lt (show IsSRd w0 _ g s0_0 t111 from qi HI0.out)) : gb114 ≠ g)); replace HI0 := q0 (IsSRd.below (qi HI0.out) hb); clear hb hbox hg; have hnb8 := NB114_113.out; have hnc8 := NB113_114.out; have hnb9 := NB114_0.out; have hnc9 := NB0_114.out; obtain ⟨hcz10_0, hcz10_1, hfz10_0, hfz10_1⟩ := b2 BK114) | ((with_reducible refine gf 38 ?_); refine gl 14 Tryd.func38 #[.pointer (some ⟨g, 0, none⟩), .int .i64 6] ?_; (with_reducible refine (spec_l6Rd_pick.calls k g s0_0 t111 6 t102 t112 w0 _ ?side1 ?side2 A3.out).mono ?_); (case side1 => exact qi HI0.out); (case side2 => exact qj HB.out HI0.out); rintro e w11 ⟨rfl, hi, hb, hk⟩; refine ⟨_, rfl, ?_⟩; replace BK113 := q0 (kc hk BK113.out NB113_0.out); replace BK114 := q0 (KeepBut.blk hk (g' := gb114) (o := .cells #[.int .i64 (wrap64 (1 + t110)), .slice none 0 0] 24 (0, 0)) (by (with_reducible repeat (first | refine blk_drewN ?_ _ | refine blk_drew ?_ | refine blk_alloc ?_ _)); refine blk_put (cs := #[.int .i64 (wrap64 (1 + t110)), .slice none 0 0]) ?_ 1 _ rfl; (with_reducible repeat (first | refine blk_drewN ?_ _ | refine blk_drew ?_ | refine blk_alloc ?_ _)); refine blk_put (cs := #[.int .i64 0, .slice none 0 0]) ?_ 0 _ rfl; (with_reducible repeat (first | refine blk_drewN ?_ _ | refine blk_drew ?_ | refine blk_alloc ?_ _)); exact BK114.out) NB114_0.out (by simp)); replace HK := q0 (KeepBut.trans (qh HK.out) hk (.inl rfl)); replace HB := q0 (hb); replace HI0 := q0 (hi); (try clear hb); (try clear hb2); (try clear hk); (try clear hi)))
 (try simp only [Act.put, List.setIfInBounds_toArray, List.set_cons_zero, List.set_cons_succ])
 go_cut [] (fun wc => ∃ (kq : Nat) (x101_3 : Int) (x102000_3 : Int) (x102001_3 : List (STie)) (u102001 : Value), Aside0 (spec_l71Net.j2 kq s0_0 x101_3 x102000_3 x102001_3 = some (r1, r2, r3)) ∧ Aside0 (kq ≤ k) ∧ Aside0 (Kd.R kTie 47 wc w.heap.size (fun _ => True) u102001 x102001_3) ∧ Aside0 (wc.heap[gb113]? = some (.cells #[.int .i64 0, (.slice none 0 0)] 24 (0, 0))) ∧ Aside0 (wc.heap[gb114]? = some (.cells #[.int .i64 x102000_3, u102001] 24 (0, 0))) ∧ Aside0 (IsSRd w0 wc g s0_0 x101_3) ∧ Aside0 (KeepBut w wc g none) ∧ Aside0 (Below w0.heap.size w0 wc))
 case first =>
   have H := HC4.out
   clear HC4
   by_cases c12 : t102 = 0
   · rw [if_pos c12] at H
     have c12b0 : (t102 == 0) = true := beq_iff_eq.mpr c12
     have c12b1 : (t102 != 0) = false := bne_eq_false_iff_eq.mpr c12
     clear c12
     (first | rw [c12b0] | (simp only [i64_w, i32_w]; rw [c12b0]) | skip)
     have H' := q0 H
     clear H
     go_wp2
     go_loopg [4] k (fun kq v4 w' => ∃ (x4_1 : Int) (x101_1 : Int) (x102000_1 : Int) (x102001_1 : List (STie)) (u102001 : Value), v4 = .int .i64 x4_1 ∧ Aside0 (spec_l71Net.l0 kq x4_1 s0_0 x101_1 x102000_1 x102001_1 = some (r1, r2, r3)) ∧ Aside0 (kq ≤ k) ∧ Aside0 (Kd.R kTie 47 w' w.heap.size (fun _ => True) u102001 x102001_1) ∧ Aside0 (w'.heap[gb113]? = some (.cells #[.int .i64 0, (.slice none 0 0)] 24 (0, 0))) ∧ Aside0 (w'.heap[gb114]? = some (.cells #[.int .i64 x102000_1, u102001] 24 (0, 0))) ∧ Aside0 (IsSRd w0 w' g s0_0 x101_1) ∧ Aside0 (KeepBut w w' g none) ∧ Aside0 (Below w0.heap.size w0 w'))
     case atStart => exact ⟨(1), (t112), (wrap64 (1 + t110)), (([] : List (STie))), (.slice none 0 0), qs, H', ⟨Nat.le_refl _⟩, ⟨by first | exact Kd.R_nil _ _ _ _ _ | exact Kd.N_nil _ _ _ _ _ | exact Kd.V_nil _ _ _ _ _ | exact Kd.Q_nil _ _ _ _ _ | exact Kd.S_nil _ _ _ _ _⟩, ⟨qk BK113.out⟩, ⟨qk BK114.out⟩, ⟨qi HI0.out⟩, ⟨qh HK.out⟩, ⟨qj HB.out HI0.out⟩⟩
     clear H'
     try clear c1
     try clear p2
     try clear c3
     try clear p6
     try clear c8
     try clear c9
     try clear c12
     try clear c12b0
     try clear c12b1
     try clear hcz10_0
     try clear hcz10_1
     try clear hfz10_0
     try clear hfz10_1
     obtain ⟨x4_1, x101_1, x102000_1, x102001_1, u102001, rfl, HA, HK1, HO_102001, BK113, BK114, HI0, HK, HB⟩ := hrel
     rcases gk with _ | k1
     · exact absurd HA.out (by simp [spec_l71Net.l0])
     have H := HA.out
     clear HA
     simp only [spec_l71Net.l0] at H
     by_cases c13 : x4_1 < x102000_1
     rotate_left
     · rw [if_neg c13] at H
       have c13b0 := decide_eq_false c13
       clear c13
       have H' := q0 H
       clear H
       have hnb26 := NB114_113.out
       have hnc26 := NB113_114.out
       have hnb27 := NB114_0.out
       have hnc27 := NB0_114.out
       obtain ⟨hcz28_0, hcz28_1, hfz28_0, hfz28_1⟩ := b2 BK114
       go_wp2
       go_meet
       case rel => exact ⟨_, (x101_1), (x102000_1), (x102001_1), (u102001), H', ⟨by have := HK1.out; first | omega | exact Nat.le_refl _⟩, ⟨qr HO_102001.out⟩, ⟨qk BK113.out⟩, ⟨qk BK114.out⟩, ⟨qi HI0.out⟩, ⟨qh HK.out⟩, ⟨qj HB.out HI0.out⟩⟩
     rw [if_pos c13] at H
     have c13b0 := decide_eq_true c13
     clear c13
     obtain ⟨⟨t107, t115⟩, A14, H⟩ := ob H
     obtain ⟨⟨t108, t117, t118⟩, A15, H⟩ := ob H
     have H' := q0 H
     clear H
     have hnb16 := NB114_113.out
     have hnc16 := NB113_114.out
     have hnb17 := NB114_0.out
     have hnc17 := NB0_114.out
     obtain ⟨hcz18_0, hcz18_1, hfz18_0, hfz18_1⟩ := b2 BK114
     try go_wp2
     replace HO_102001 := q0 (Kd.R_drew HO_102001.out)
     replace BK113 := q0 (blk_drew BK113.out)
     replace BK114 := q0 (blk_drew BK114.out)
     replace HI0 := q0 (IsSRd.drew HI0.out)
     replace HK := q0 (keep_drew HK.out)
     replace HB := q0 (below_drew1 HB.out)
     refine start_ (n := 10) (S := fun w' => w'.cell? ⟨gb114, 0, none⟩ = some (.int .i64 x102000_1) ∧ w'.cell? ⟨gb114, 1, none⟩ = some (u102001)) (ds := [9]) (ba 10 0) (by kernel_rfl) rfl (by kernel_rfl) ⟨bca BK114, bcb BK114⟩ (fun hHeld => ?_); refine with_tabW spec_l71Net.tab7 spec_l71Net.bits7 (fun HT_ HW_ => ?_)
     generalize wr.drew = w19 at HO_102001 BK113 BK114 HI0 HK HB hHeld ⊢
     refine pU 1 25 10 2 HT_ ?_
     refine pU 2 26 10 6 HT_ ?_
     refine pU 3 27 10 14 HT_ ?_
     refine tU 0 24 10 15 HT_ HW_ hHeld ?_
     refine one_ (i := 4) (N := some 28) (ba 10 31) rfl rfl (one_of HT_.out (by kernel_rfl)) (by decide) (fun K hK => ?_)
     refine goes_ Tryd.func38 (by kernel_rfl) rfl #[.pointer (some ⟨g, 0, none⟩), .int .i64 x4_1] (by rfl) rfl rfl qm ?_
     with_reducible refine (spec_l6Rd_pick.calls k1 g s0_0 x101_1 x4_1 t107 t115 w0 _ ?side1 ?side2 A14.out).mono ?_
     (case side1 => exact qi HI0.out)
     (case side2 => exact qj HB.out HI0.out)
     rintro e w20 ⟨rfl, hi, hb, hk⟩
     refine ⟨_, rfl, ?_⟩
     replace HO_102001 := q0 (Kd.R_mono (Kd.R_keep (IsSRd.apart (show IsSRd w0 _ g s0_0 x101_1 from qi HI0.out) (qr HO_102001.out) (by decide)) hk (fun _ h => h.2)) (fun _ h => h.1))
     replace BK113 := q0 (kc hk BK113.out NB113_0.out)
     replace BK114 := q0 (kc hk BK114.out NB114_0.out)
     replace HK := q0 (KeepBut.trans (qh HK.out) hk (.inl rfl))
     replace HB := q0 (hb)
     replace HI0 := q0 (hi)
     (try clear hb)
     (try clear hb2)
     (try clear hk)
     (try clear hi)
     obtain ⟨Ao21, co21, eo21⟩ := Kd.R_slice HO_102001.out
     (first | subst eo21 | (injection eo21 with f1_ f2_ f3_; have f4_ := f1_.symm; have f5_ := f3_.symm; clear f1_ f2_ f3_; subst f4_; subst f5_))
     refine hK.out _ _ ⟨bca BK114, bcb BK114⟩ (fun hHeld => ?_)
     clear hK K
     refine nu 28 ?_
     refine one_ (i := 5) (N := some 29) (ba 10 63) rfl rfl (one_of HT_.out (by kernel_rfl)) (by decide) (fun K hK => ?_)
     refine goes_ Tryd.func50 (by kernel_rfl) rfl #[.agg #[.int .i64 x102000_1, .slice Ao21 x102001_1.length co21], .int .i64 x4_1, .int .i64 t107] (by rfl) rfl rfl qm ?_
     with_reducible refine (spec_NetAdd.calls k1 x102000_1 _ _ x102001_1 x4_1 t107 t108 t117 t118 _ ?side1 ?side2 A15.out).mono ?_
     (case side1 => exact qc (Kd.R_reads' HO_102001.out).2.2)
     (case side2 => exact (Kd.R_reads' HO_102001.out).2.1)
     rintro e w22 ⟨v120, rfl, ho0, hb⟩
     refine ⟨_, rfl, ?_⟩
     have HO121 := q0 (Kd.R_lower (Kd.R_new' ho0 (Kd.R_lt (qr HO_102001.out))) (keep_size (w := w) (g := g) (row := none) (qh HK.out)))
     replace HO_102001 := q0 (Kd.R_elder' (qr HO_102001.out) (Kd.R_base ho0) hb)
     replace BK113 := kd BK113 hb
     replace BK114 := kd BK114 hb
     replace HK := q0 (KeepBut.trans (qh HK.out) (KeepBut.of_below hb g none) (.inl rfl))
     replace HB := q0 (below_step (qj HB.out HI0.out) hb)
     replace HI0 := q0 (IsSRd.below (qi HI0.out) hb)
     (try clear hb)
     (try clear hb2)
     (try clear hk)
     (try clear hi)
     (try clear ho0)
     obtain ⟨Ao24, co24, eo24⟩ := Kd.R_slice HO121.out
     (first | subst eo24 | (injection eo24 with f1_ f2_ f3_; have f4_ := f1_.symm; have f5_ := f3_.symm; clear f1_ f2_ f3_; subst f4_; subst f5_))
     refine hK.out _ _ ⟨bca BK114, bcb BK114⟩ (fun hHeld => ?_)
     clear hK K
     refine nu 29 ?_
     refine pU 6 23 10 127 HT_ ?_
     refine pU 7 30 10 255 HT_ ?_
     refine pU 8 31 10 511 HT_ ?_
     refine last_ (i := 9) (N := none) (ba 10 1023) rfl rfl (one_of HT_.out (by kernel_rfl)) (by decide) (fun K hK => ?_)
     have hs23 : w22.cell? ⟨gb114, 0, none⟩ = some (.int .i64 x102000_1) := (blk_cell BK114.out 0).trans rfl
     have hfs23 := blk_frozen BK114.out 0
     have hns23_0 := NB113_114.out
     have hms23_0 := NB114_113.out
     have hs25 : w22.cell? ⟨gb114, 1, none⟩ = some (.slice Ao21 x102001_1.length co21) := (blk_cell BK114.out 1).trans rfl
     have hfs25 := blk_frozen BK114.out 1
     have hns25_0 := NB113_114.out
     have hms25_0 := NB114_113.out
     refine skip_ (w1 := ?_) (by rfl) rfl ?_ ?_
     rotate_left
     · go_simp
       rfl
     refine hK.out _ _ ?_
     clear hK K
     refine done_ (done_of HT_.out (by kernel_rfl)) ?_
     try go_wp2
     go_roundg k1
     case measure => have := HK1.out; omega
     case rel => exact ⟨(wrap64 (x4_1 + 1)), (t115), (t108), (t117), (.slice Ao24 t117.length co24), qs, H', ⟨by have := HK1.out; omega⟩, ⟨by (with_reducible repeat (first | apply Kd.R_alloc | apply Kd.R_drewN | apply Kd.R_drew)); exact rf2 HO121.out BK114.out (fun _ hk => trivial)⟩, ⟨qf BK113.out⟩, ⟨by (with_reducible repeat (first | refine blk_drewN ?_ _ | refine blk_drew ?_ | refine blk_alloc ?_ _)); refine blk_put (cs := #[.int .i64 t108, .slice Ao21 x102001_1.length co21]) ?_ 1 _ rfl; (with_reducible repeat (first | refine blk_drewN ?_ _ | refine blk_drew ?_ | refine blk_alloc ?_ _)); refine blk_put (cs := #[.int .i64 x102000_1, .slice Ao21 x102001_1.length co21]) ?_ 0 _ rfl; (with_reducible repeat (first | refine blk_drewN ?_ _ | refine blk_drew ?_ | refine blk_alloc ?_ _)); exact BK114.out⟩, ⟨qi HI0.out⟩, ⟨qh HK.out⟩, ⟨qj HB.out HI0.out⟩⟩
   rw [if_neg c12] at H
   have c12b0 : (t102 == 0) = false := beq_eq_false_iff_ne.mpr c12
   have c12b1 : (t102 != 0) = true := bne_iff_ne.mpr c12
   (first | rw [c12b0] | (simp only [i64_w, i32_w]; rw [c12b0]) | skip)
   by_cases c29 : t102 = 1
   rotate_left
   · rw [if_neg c29] at H
     have c29b0 : (t102 == 1) = false := beq_eq_false_iff_ne.mpr c29
     have c29b1 : (t102 != 1) = true := bne_iff_ne.mpr c29
     have H' := q0 H
     clear H
     go_wp2
     go_meet
     case rel => exact ⟨_, (t112), (wrap64 (1 + t110)), (([] : List (STie))), (.slice none 0 0), H', ⟨by first | omega | exact Nat.le_refl _⟩, ⟨by first | exact Kd.R_nil _ _ _ _ _ | exact Kd.N_nil _ _ _ _ _ | exact Kd.V_nil _ _ _ _ _ | exact Kd.Q_nil _ _ _ _ _ | exact Kd.S_nil _ _ _ _ _⟩, ⟨qk BK113.out⟩, ⟨qk BK114.out⟩, ⟨qi HI0.out⟩, ⟨qh HK.out⟩, ⟨qj HB.out HI0.out⟩⟩
   rw [if_pos c29] at H
   have c29b0 : (t102 == 1) = true := beq_iff_eq.mpr c29
   have c29b1 : (t102 != 1) = false := bne_eq_false_iff_eq.mpr c29
   clear c29
   have H' := q0 H
   clear H
   go_wp2
   go_loopg [5] k (fun kq v5 w' => ∃ (x5_1 : Int) (x102000_1 : Int) (x102001_1 : List (STie)) (u102001 : Value), v5 = .int .i64 x5_1 ∧ Aside0 (spec_l71Net.l1 kq x5_1 s0_0 t112 x102000_1 x102001_1 = some (r1, r2, r3)) ∧ Aside0 (kq ≤ k) ∧ Aside0 (Kd.R kTie 47 w' w.heap.size (fun _ => True) u102001 x102001_1) ∧ Aside0 (w'.heap[gb113]? = some (.cells #[.int .i64 0, (.slice none 0 0)] 24 (0, 0))) ∧ Aside0 (w'.heap[gb114]? = some (.cells #[.int .i64 x102000_1, u102001] 24 (0, 0))) ∧ Aside0 (IsSRd w0 w' g s0_0 t112) ∧ Aside0 (KeepBut w w' g none) ∧ Aside0 (Below w0.heap.size w0 w'))
   case atStart => exact ⟨(0), (wrap64 (1 + t110)), (([] : List (STie))), (.slice none 0 0), qs, H', ⟨Nat.le_refl _⟩, ⟨by first | exact Kd.R_nil _ _ _ _ _ | exact Kd.N_nil _ _ _ _ _ | exact Kd.V_nil _ _ _ _ _ | exact Kd.Q_nil _ _ _ _ _ | exact Kd.S_nil _ _ _ _ _⟩, ⟨qk BK113.out⟩, ⟨qk BK114.out⟩, ⟨qi HI0.out⟩, ⟨qh HK.out⟩, ⟨qj HB.out HI0.out⟩⟩
   clear H'
   try clear c1
   try clear c2
   try clear p2
   try clear c3
   try clear c5
   try clear p6
   try clear c8
   try clear c9
   try clear c12
   try clear c12b0
   try clear c12b1
   try clear c13
   try clear c13b0
   try clear c16
   try clear c17
   try clear c26
   try clear c27
   try clear c29
   try clear c29b0
   try clear c29b1
   try clear hcz10_0
   try clear hcz10_1
   try clear hcz18_0
   try clear hcz18_1
   try clear hcz28_0
   try clear hcz28_1
   try clear hfz10_0
   try clear hfz10_1
   try clear hfz18_0
   try clear hfz18_1
   try clear hfz28_0
   try clear hfz28_1
   try clear p2
   try clear p6
   obtain ⟨x5_1, x102000_1, x102001_1, u102001, rfl, HA, HK1, HO_102001, BK113, BK114, HI0, HK, HB⟩ := hrel
   rcases gk with _ | k1
   · exact absurd HA.out (by simp [spec_l71Net.l1])
   have H := HA.out
   clear HA
   simp only [spec_l71Net.l1] at H
   by_cases c30 : x5_1 < x102000_1
   rotate_left
   · rw [if_neg c30] at H
     have c30b0 := decide_eq_false c30
     clear c30
     have H' := q0 H
     clear H
     have hnb46 := NB114_113.out
     have hnc46 := NB113_114.out
     have hnb47 := NB114_0.out
     have hnc47 := NB0_114.out
     obtain ⟨hcz48_0, hcz48_1, hfz48_0, hfz48_1⟩ := b2 BK114
     go_wp2
     go_meet
     case rel => exact ⟨_, (t112), (x102000_1), (x102001_1), (u102001), H', ⟨by have := HK1.out; first | omega | exact Nat.le_refl _⟩, ⟨qr HO_102001.out⟩, ⟨qk BK113.out⟩, ⟨qk BK114.out⟩, ⟨qi HI0.out⟩, ⟨qh HK.out⟩, ⟨qj HB.out HI0.out⟩⟩
   rw [if_pos c30] at H
   have c30b0 := decide_eq_true c30
   clear c30
   by_cases c31 : x102000_1 > 2
   rotate_left
   · rw [if_neg c31] at H
     have c31b0 := decide_eq_false c31
     clear c31
     have H' := q0 H
     clear H
     have hnb43 := NB114_113.out
     have hnc43 := NB113_114.out
     have hnb44 := NB114_0.out
     have hnc44 := NB0_114.out
     obtain ⟨hcz45_0, hcz45_1, hfz45_0, hfz45_1⟩ := b2 BK114
     go_wp2
     go_meet
     case rel => exact ⟨_, (t112), (x102000_1), (x102001_1), (u102001), H', ⟨by have := HK1.out; first | omega | exact Nat.le_refl _⟩, ⟨qr HO_102001.out⟩, ⟨qk BK113.out⟩, ⟨qk BK114.out⟩, ⟨qi HI0.out⟩, ⟨qh HK.out⟩, ⟨qj HB.out HI0.out⟩⟩
   rw [if_pos c31] at H
   have c31b0 := decide_eq_true c31
   clear c31
   by_cases c32 : x102000_1 = 0
   · rw [if_pos c32] at H
     exact absurd H (by simp)
   rw [if_neg c32] at H
   have c32b0 : (x102000_1 == 0) = false := beq_eq_false_iff_ne.mpr c32
   have c32b1 : (x102000_1 != 0) = true := bne_iff_ne.mpr c32
   obtain ⟨⟨t109, t122, t123⟩, A33, H⟩ := ob H
   have H' := q0 H
   clear H
   have hnb34 := NB114_113.out
   have hnc34 := NB113_114.out
   have hnb35 := NB114_0.out
   have hnc35 := NB0_114.out
   obtain ⟨hcz36_0, hcz36_1, hfz36_0, hfz36_1⟩ := b2 BK114
   try go_wp2
   replace HO_102001 := q0 (Kd.R_drew HO_102001.out)
   replace BK113 := q0 (blk_drew BK113.out)
   replace BK114 := q0 (blk_drew BK114.out)
   replace HI0 := q0 (IsSRd.drew HI0.out)
   replace HK := q0 (keep_drew HK.out)
   replace HB := q0 (below_drew1 HB.out)
   obtain ⟨Ao38, co38, eo38⟩ := Kd.R_slice HO_102001.out
   (first | subst eo38 | (injection eo38 with f1_ f2_ f3_; have f4_ := f1_.symm; have f5_ := f3_.symm; clear f1_ f2_ f3_; subst f4_; subst f5_))
   refine start_ (n := 12) (S := fun w' => w'.cell? ⟨gb114, 0, none⟩ = some (.int .i64 x102000_1) ∧ w'.cell? ⟨gb114, 1, none⟩ = some (.slice Ao38 x102001_1.length co38)) (ds := [11]) (ba 12 0) (by kernel_rfl) rfl (by kernel_rfl) ⟨bca BK114, bcb BK114⟩ (fun hHeld => ?_); refine with_tabW spec_l71Net.tab12 spec_l71Net.bits12 (fun HT_ HW_ => ?_)
   generalize wr.drew = w37 at HO_102001 BK113 BK114 HI0 HK HB hHeld ⊢
   refine pU 1 47 12 2 HT_ ?_
   refine pU 2 48 12 6 HT_ ?_
   refine pU 3 49 12 14 HT_ ?_
   refine pU 4 50 12 30 HT_ ?_
   refine tU 0 46 12 31 HT_ HW_ hHeld ?_
   refine tU 5 51 12 63 HT_ HW_ hHeld ?_
   refine pU 6 52 12 127 HT_ ?_
   refine one_ (i := 7) (N := some 53) (ba 12 255) rfl rfl (one_of HT_.out (by kernel_rfl)) (by decide) (fun K hK => ?_)
   refine goes_ Tryd.func50 (by kernel_rfl) rfl #[.agg #[.int .i64 x102000_1, .slice Ao38 x102001_1.length co38], .int .i64 x5_1, .int .i64 (Int.tmod (wrap64 (x5_1 + 1)) x102000_1)] (by rfl) rfl rfl qm ?_
   with_reducible refine (spec_NetAdd.calls k1 x102000_1 _ _ x102001_1 x5_1 (Int.tmod (wrap64 (x5_1 + 1)) x102000_1) t109 t122 t123 _ ?side1 ?side2 A33.out).mono ?_
   (case side1 => exact qc (Kd.R_reads' HO_102001.out).2.2)
   (case side2 => exact (Kd.R_reads' HO_102001.out).2.1)
   rintro e w39 ⟨v125, rfl, ho0, hb⟩
   refine ⟨_, rfl, ?_⟩
   have HO126 := q0 (Kd.R_lower (Kd.R_new' ho0 (Kd.R_lt (qr HO_102001.out))) (keep_size (w := w) (g := g) (row := none) (qh HK.out)))
   replace HO_102001 := q0 (Kd.R_elder' (qr HO_102001.out) (Kd.R_base ho0) hb)
   replace BK113 := kd BK113 hb
   replace BK114 := kd BK114 hb
   replace HK := q0 (KeepBut.trans (qh HK.out) (KeepBut.of_below hb g none) (.inl rfl))
   replace HB := q0 (below_step (qj HB.out HI0.out) hb)
   replace HI0 := q0 (IsSRd.below (qi HI0.out) hb)
   (try clear hb)
   (try clear hb2)
   (try clear hk)
   (try clear hi)
   (try clear ho0)
   obtain ⟨Ao41, co41, eo41⟩ := Kd.R_slice HO126.out
   (first | subst eo41 | (injection eo41 with f1_ f2_ f3_; have f4_ := f1_.symm; have f5_ := f3_.symm; clear f1_ f2_ f3_; subst f4_; subst f5_))
   refine hK.out _ _ ⟨bca BK114, bcb BK114⟩ (fun hHeld => ?_)
   clear hK K
   refine nu 53 ?_
   refine pU 8 45 12 511 HT_ ?_
   refine pU 9 54 12 1023 HT_ ?_
   refine pU 10 55 12 2047 HT_ ?_
   refine last_ (i := 11) (N := none) (ba 12 4095) rfl rfl (one_of HT_.out (by kernel_rfl)) (by decide) (fun K hK => ?_)
   have hs40 : w39.cell? ⟨gb114, 0, none⟩ = some (.int .i64 x102000_1) := (blk_cell BK114.out 0).trans rfl
   have hfs40 := blk_frozen BK114.out 0
   have hns40_0 := NB113_114.out
   have hms40_0 := NB114_113.out
   have hs42 : w39.cell? ⟨gb114, 1, none⟩ = some (.slice Ao38 x102001_1.length co38) := (blk_cell BK114.out 1).trans rfl
   have hfs42 := blk_frozen BK114.out 1
   have hns42_0 := NB113_114.out
   have hms42_0 := NB114_113.out
   refine skip_ (w1 := ?_) (by rfl) rfl ?_ ?_
   rotate_left
   · go_simp
     rfl
   refine hK.out _ _ ?_
   clear hK K
   refine done_ (done_of HT_.out (by kernel_rfl)) ?_
   try go_wp2
   go_roundg k1
   case measure => have := HK1.out; omega
   case rel => exact ⟨(wrap64 (x5_1 + 1)), (t109), (t122), (.slice Ao41 t122.length co41), qs, H', ⟨by have := HK1.out; omega⟩, ⟨by (with_reducible repeat (first | apply Kd.R_alloc | apply Kd.R_drewN | apply Kd.R_drew)); exact rf2 HO126.out BK114.out (fun _ hk => trivial)⟩, ⟨qf BK113.out⟩, ⟨by (with_reducible repeat (first | refine blk_drewN ?_ _ | refine blk_drew ?_ | refine blk_alloc ?_ _)); refine blk_put (cs := #[.int .i64 t109, .slice Ao38 x102001_1.length co38]) ?_ 1 _ rfl; (with_reducible repeat (first | refine blk_drewN ?_ _ | refine blk_drew ?_ | refine blk_alloc ?_ _)); refine blk_put (cs := #[.int .i64 x102000_1, .slice Ao38 x102001_1.length co38]) ?_ 0 _ rfl; (with_reducible repeat (first | refine blk_drewN ?_ _ | refine blk_drew ?_ | refine blk_alloc ?_ _)); exact BK114.out⟩, ⟨qi HI0.out⟩, ⟨qh HK.out⟩, ⟨qj HB.out HI0.out⟩⟩
 clear HC4
 try clear c1
 try clear c2
 try clear p2
 try clear c3
 try clear c4
 try clear c5
 try clear p6
 try clear c8
 try clear c9
 try clear c12
 try clear c12b0
 try clear c12b1
 try clear c13
 try clear c13b0
 try clear c16
 try clear c17
 try clear c26
 try clear c27
 try clear c29
 try clear c29b0
 try clear c29b1
 try clear c30
 try clear c30b0
 try clear c31
 try clear c31b0
 try clear c32
 try clear c32b0
 try clear c32b1
 try clear c34
 try clear c35
 try clear c37
 try clear c38
 try clear c43
 try clear c44
 try clear c46
 try clear c47
 try clear hcz10_0
 try clear hcz10_1
 try clear hcz18_0
 try clear hcz18_1
 try clear hcz28_0
 try clear hcz28_1
 try clear hcz36_0
 try clear hcz36_1
 try clear hcz45_0
 try clear hcz45_1
 try clear hcz48_0
 try clear hcz48_1
 try clear hfz10_0
 try clear hfz10_1
 try clear hfz18_0
 try clear hfz18_1
 try clear hfz28_0
 try clear hfz28_1
 try clear hfz36_0
 try clear hfz36_1
 try clear hfz45_0
 try clear hfz45_1
 try clear hfz48_0
 try clear hfz48_1
 try clear p2
 try clear p6
 obtain ⟨kq, x101_3, x102000_3, x102001_3, u102001, HA, HJ3, HO_102001, BK113, BK114, HI0, HK, HB⟩ := hcut
 rcases kq with _ | kj3
 · exact absurd HA.out (by simp [spec_l71Net.j2])
 have H := HA.out
 clear HA
 simp only [spec_l71Net.j2] at H
 obtain ⟨⟨t103, t127⟩, A49, H⟩ := ob H
 have H' := q0 H
 clear H
 go_wp2_with (first | ((with_reducible refine gf 38 ?_); refine gl 57 Tryd.func38 #[.pointer (some ⟨g, 0, none⟩), .int .i64 13] ?_; (with_reducible refine (spec_l6Rd_pick.calls kj3 g s0_0 x101_3 13 t103 t127 w0 _ ?side1 ?side2 A49.out).mono ?_); (case side1 => exact qi HI0.out); (case side2 => exact qj HB.out HI0.out); rintro e w50 ⟨rfl, hi, hb, hk⟩; refine ⟨_, rfl, ?_⟩; replace HO_102001 := q0 (Kd.R_mono (Kd.R_keep (IsSRd.apart (show IsSRd w0 _ g s0_0 x101_3 from qi HI0.out) (qr HO_102001.out) (by decide)) hk (fun _ h => h.2)) (fun _ h => h.1)); replace BK113 := q0 (kc hk BK113.out NB113_0.out); replace BK114 := q0 (kc hk BK114.out NB114_0.out); replace HK := q0 (KeepBut.trans (qh HK.out) hk (.inl rfl)); replace HB := q0 (hb); replace HI0 := q0 (hi); (try clear hb); (try clear hb2); (try clear hk); (try clear hi)))
 go_loopg [6] kj3 (fun kq v6 w' => ∃ (x6_2 : Int) (x101_2 : Int) (x102000_2 : Int) (x102001_2 : List (STie)) (u102001 : Value), v6 = .int .i64 x6_2 ∧ Aside0 (spec_l71Net.l2 kq x6_2 s0_0 x101_2 x102000_2 x102001_2 = some (r1, r2, r3)) ∧ Aside0 (kq ≤ kj3) ∧ Aside0 (Kd.R kTie 47 w' w.heap.size (fun _ => True) u102001 x102001_2) ∧ Aside0 (w'.heap[gb113]? = some (.cells #[.int .i64 0, (.slice none 0 0)] 24 (0, 0))) ∧ Aside0 (w'.heap[gb114]? = some (.cells #[.int .i64 x102000_2, u102001] 24 (0, 0))) ∧ Aside0 (IsSRd w0 w' g s0_0 x101_2) ∧ Aside0 (KeepBut w w' g none) ∧ Aside0 (Below w0.heap.size w0 w'))
 case atStart => exact ⟨(t103), (t127), (x102000_3), (x102001_3), (u102001), qs, H', ⟨Nat.le_refl _⟩, ⟨qr HO_102001.out⟩, ⟨qk BK113.out⟩, ⟨qk BK114.out⟩, ⟨qi HI0.out⟩, ⟨qh HK.out⟩, ⟨qj HB.out HI0.out⟩⟩
 clear H'
 try clear c1
 try clear c2
 try clear p2
 try clear c3
 try clear c4
 try clear c5
 try clear p6
 try clear c8
 try clear c9
 try clear c12
 try clear c12b0
 try clear c12b1
 try clear c13
 try clear c13b0
 try clear c16
 try clear c17
 try clear c26
 try clear c27
 try clear c29
 try clear c29b0
 try clear c29b1
 try clear c30
 try clear c30b0
 try clear c31
 try clear c31b0
 try clear c32
 try clear c32b0
 try clear c32b1
 try clear c34
 try clear c35
 try clear c37
 try clear c38
 try clear c43
 try clear c44
 try clear c46
 try clear c47
 try clear c50
 try clear hcz10_0
 try clear hcz10_1
 try clear hcz18_0
 try clear hcz18_1
 try clear hcz28_0
 try clear hcz28_1
 try clear hcz36_0
 try clear hcz36_1
 try clear hcz45_0
 try clear hcz45_1
 try clear hcz48_0
 try clear hcz48_1
 try clear hfz10_0
 try clear hfz10_1
 try clear hfz18_0
 try clear hfz18_1
 try clear hfz28_0
 try clear hfz28_1
 try clear hfz36_0
 try clear hfz36_1
 try clear hfz45_0
 try clear hfz45_1
 try clear hfz48_0
 try clear hfz48_1
 try clear p2
 try clear p6
 obtain ⟨x6_2, x101_2, x102000_2, x102001_2, u102001, rfl, HA, HK2, HO_102001, BK113, BK114, HI0, HK, HB⟩ := hrel
 rcases gk with _ | k2
 · exact absurd HA.out (by simp [spec_l71Net.l2])
 have H := HA.out
 clear HA
 simp only [spec_l71Net.l2] at H
 have HC51 := q0 H
 clear H
 go_upto_region 14 with (fail)
 go_cut [64] (fun v64 wc => ∃ (kq : Nat) (x64_50 : Bool), v64 = .bool x64_50 ∧ Aside0 (spec_l71Net.j4 kq x6_2 x64_50 s0_0 x101_2 x102000_2 x102001_2 = some (r1, r2, r3)) ∧ Aside0 (kq ≤ k2) ∧ Aside0 (Kd.R kTie 47 wc w.heap.size (fun _ => True) u102001 x102001_2) ∧ Aside0 (wc.heap[gb113]? = some (.cells #[.int .i64 0, (.slice none 0 0)] 24 (0, 0))) ∧ Aside0 (wc.heap[gb114]? = some (.cells #[.int .i64 x102000_2, u102001] 24 (0, 0))) ∧ Aside0 (IsSRd w0 wc g s0_0 x101_2) ∧ Aside0 (KeepBut w wc g none) ∧ Aside0 (Below w0.heap.size w0 wc))
 case first =>
   have H := HC51.out
   clear HC51
   by_cases c52 : x6_2 > 0
   rotate_left
   · rw [if_neg c52] at H
     have c52b0 := decide_eq_false c52
     clear c52
     (first | rw [c52b0] | (simp only [i64_w, i32_w]; rw [c52b0]) | skip)
     have H' := q0 H
     clear H
     go_wp2
     go_meet
     case rel => exact ⟨_, (false), qs, H', ⟨by have := HJ3.out; have := HK2.out; first | omega | exact Nat.le_refl _⟩, ⟨qr HO_102001.out⟩, ⟨qk BK113.out⟩, ⟨qk BK114.out⟩, ⟨qi HI0.out⟩, ⟨qh HK.out⟩, ⟨qj HB.out HI0.out⟩⟩
   rw [if_pos c52] at H
   have c52b0 := decide_eq_true c52
   clear c52
   (first | rw [c52b0] | (simp only [i64_w, i32_w]; rw [c52b0]) | skip)
   have H' := q0 H
   clear H
   have hnb53 := NB114_113.out
   have hnc53 := NB113_114.out
   have hnb54 := NB114_0.out
   have hnc54 := NB0_114.out
   obtain ⟨hcz55_0, hcz55_1, hfz55_0, hfz55_1⟩ := b2 BK114
   go_wp2
   go_meet
   case rel => exact ⟨_, (decide (x102000_2 > 1)), qs, H', ⟨by have := HJ3.out; have := HK2.out; first | omega | exact Nat.le_refl _⟩, ⟨qr HO_102001.out⟩, ⟨qk BK113.out⟩, ⟨qk BK114.out⟩, ⟨qi HI0.out⟩, ⟨qh HK.out⟩, ⟨qj HB.out HI0.out⟩⟩
 clear HC51
 try clear c1
 try clear c2
 try clear p2
 try clear c3
 try clear c4
 try clear c5
 try clear p6
 try clear c8
 try clear c9
 try clear c12
 try clear c12b0
 try clear c12b1
 try clear c13
 try clear c13b0
 try clear c16
 try clear c17
 try clear c26
 try clear c27
 try clear c29
 try clear c29b0
 try clear c29b1
 try clear c30
 try clear c30b0
 try clear c31
 try clear c31b0
 try clear c32
 try clear c32b0
 try clear c32b1
 try clear c34
 try clear c35
 try clear c37
 try clear c38
 try clear c43
 try clear c44
 try clear c46
 try clear c47
 try clear c50
 try clear c52
 try clear c52b0
 try clear c53
 try clear c54
 try clear hcz10_0
 try clear hcz10_1
 try clear hcz18_0
 try clear hcz18_1
 try clear hcz28_0
 try clear hcz28_1
 try clear hcz36_0
 try clear hcz36_1
 try clear hcz45_0
 try clear hcz45_1
 try clear hcz48_0
 try clear hcz48_1
 try clear hcz55_0
 try clear hcz55_1
 try clear hfz10_0
 try clear hfz10_1
 try clear hfz18_0
 try clear hfz18_1
 try clear hfz28_0
 try clear hfz28_1
 try clear hfz36_0
 try clear hfz36_1
 try clear hfz45_0
 try clear hfz45_1
 try clear hfz48_0
 try clear hfz48_1
 try clear hfz55_0
 try clear hfz55_1
 try clear p2
 try clear p6
 obtain ⟨kq, x64_50, rfl, HA, HJ50, HO_102001, BK113, BK114, HI0, HK, HB⟩ := hcut
 rcases kq with _ | kj50
 · exact absurd HA.out (by simp [spec_l71Net.j4])
 have H := HA.out
 clear HA
 simp only [spec_l71Net.j4] at H
 by_cases c56 : x64_50 = true
 rotate_left
 · replace c56 := Bool.eq_false_iff.mpr c56
   subst c56
   rw [if_neg nf] at H
   simp only [Option.some.injEq, Prod.mk.injEq] at H
   obtain ⟨rfl, rfl, rfl⟩ := H
   have hnb88 := NB114_113.out
   have hnc88 := NB113_114.out
   have hnb89 := NB114_0.out
   have hnc89 := NB0_114.out
   obtain ⟨hcz90_0, hcz90_1, hfz90_0, hfz90_1⟩ := b2 BK114
   have hnb91 := NB113_0.out
   have hnc91 := NB0_113.out
   obtain ⟨hcz92_0, hcz92_1, hfz92_0, hfz92_1⟩ := b2 BK113
   obtain ⟨Ao93, co93, eo93⟩ := Kd.R_slice HO_102001.out
   subst eo93
   go_wp2
   refine bodyPost_ret (results_cell_row rfl _ _ gb113 24 #[.int .i64 x102000_2, .slice Ao93 x102001_2.length co93] (0, 0) _ rfl (by (with_reducible repeat (first | refine blk_drewN ?_ _ | refine blk_drew ?_ | refine blk_alloc ?_ _)); refine blk_put (cs := #[.int .i64 x102000_2, .slice none 0 0]) ?_ 1 _ rfl; (with_reducible repeat (first | refine blk_drewN ?_ _ | refine blk_drew ?_ | refine blk_alloc ?_ _)); refine blk_put (cs := #[.int .i64 0, .slice none 0 0]) ?_ 0 _ rfl; (with_reducible repeat (first | refine blk_drewN ?_ _ | refine blk_drew ?_ | refine blk_alloc ?_ _)); exact BK113.out) Tryd.underlying24 rfl (by kernel_rfl)) rfl ?_
   exact ⟨_, qe, by (with_reducible repeat (first | apply Kd.R_alloc | apply Kd.R_drewN | apply Kd.R_drew)); exact rf2 HO_102001.out BK113.out (fun _ hk => trivial), qi HI0.out, qj HB.out HI0.out, by repeat (first | (with_reducible first | exact HK.out | apply KeepBut.set_ | apply keep_drewN | apply keep_drew | apply keep_alloc | refine keep_far ?_ GW113.out _ | refine keep_far ?_ GW114.out _) | exact HK.out)⟩
 subst c56
 rw [if_pos rfl] at H
 obtain ⟨⟨t104, t129⟩, A57, H⟩ := ob H
 obtain ⟨⟨t105, t131⟩, A58, H⟩ := ob H
 obtain ⟨⟨t106, t133, t134⟩, A59, H⟩ := ob H
 by_cases c60 : t134 = true
 rotate_left
 · replace c60 := Bool.eq_false_iff.mpr c60
   subst c60
   rw [if_neg nf] at H
   have H' := q0 H
   clear H
   obtain ⟨Ao78, co78, eo78⟩ := Kd.R_slice HO_102001.out
   subst eo78
   try go_wp2
   replace HO_102001 := q0 (Kd.R_drew HO_102001.out)
   replace BK113 := q0 (blk_drew BK113.out)
   replace BK114 := q0 (blk_drew BK114.out)
   replace HI0 := q0 (IsSRd.drew HI0.out)
   replace HK := q0 (keep_drew HK.out)
   replace HB := q0 (below_drew1 HB.out)
   refine start_ (n := 16) (S := fun w' => w'.cell? ⟨gb114, 0, none⟩ = some (.int .i64 x102000_2) ∧ w'.cell? ⟨gb114, 1, none⟩ = some (.slice Ao78 x102001_2.length co78)) (ds := []) (ba 16 0) (by kernel_rfl) rfl (by kernel_rfl) ⟨bca BK114, bcb BK114⟩ (fun hHeld => ?_); refine with_tabW spec_l71Net.tab16 spec_l71Net.bits16 (fun HT_ HW_ => ?_)
   generalize wc.drew = w79 at HO_102001 BK113 BK114 HI0 HK HB hHeld ⊢
   refine pU 1 69 16 2 HT_ ?_
   refine pU 2 70 16 6 HT_ ?_
   refine pU 5 73 16 38 HT_ ?_
   refine pU 6 74 16 102 HT_ ?_
   refine tU 0 68 16 103 HT_ HW_ hHeld ?_
   refine tU 3 71 16 111 HT_ HW_ hHeld ?_
   refine tU 7 75 16 239 HT_ HW_ hHeld ?_
   refine join_ (σ := Value × Nat) 2 (ba 16 16383) (fun s_ => [(72, .int .i64 t104), (76, .int .i64 t105), (77, .tuple #[.agg #[.int .i64 t106, s_.1], .bool false]), (7, .pointer (some ⟨s_.2, 0, none⟩)), (67, .tuple #[.agg #[.int .i64 t106, s_.1], .bool false]), (78, .agg #[.int .i64 t106, s_.1]), (79, .bool false)]) (fun s_ w' => (w'.cell? ⟨gb114, 0, none⟩ = some (.int .i64 x102000_2) ∧ w'.cell? ⟨gb114, 1, none⟩ = some (.slice Ao78 x102001_2.length co78)) ∧ (Kd.R kTie 47 w' w.heap.size (fun k_ => some k_ ≠ (.slice Ao78 x102001_2.length co78 : Value).ownBlock) s_.1 t133) ∧ (Kd.R kTie 47 w' w.heap.size (fun k_ => some k_ ≠ (s_.1 : Value).ownBlock) (.slice Ao78 x102001_2.length co78) x102001_2) ∧ (w'.heap[gb113]? = some (.cells #[.int .i64 0, .slice none 0 0] 24 (0, 0))) ∧ (w'.heap[gb114]? = some (.cells #[.int .i64 x102000_2, .slice Ao78 x102001_2.length co78] 24 (0, 0))) ∧ (w'.heap[s_.2]? = some (.cells #[.int .i64 0, .slice none 0 0] 24 (0, 0))) ∧ (w.heap.size ≤ s_.2) ∧ (w0.heap.size ≤ s_.2) ∧ (g ≠ s_.2) ∧ (s_.2 ≠ g) ∧ (gb113 ≠ s_.2) ∧ (s_.2 ≠ gb113) ∧ (gb114 ≠ s_.2) ∧ (s_.2 ≠ gb114) ∧ (IsSRd w0 w' g s0_0 t131) ∧ (KeepBut w w' g none) ∧ (Below w0.heap.size w0 w')) ?_ ?_
   rotate_left
   · intro hCont
     refine two_ (i := 4) (j := 13) (Ni := some 72) (Nj := some 7) (ba 16 255) (ba 16 8431) rfl rfl rfl rfl (two_of HT_.out (by kernel_rfl)) (by decide) (by decide) (fun K hK => ?_) (fun K hK => ?_)
     · skip
       refine goes_ Tryd.func38 (by kernel_rfl) rfl #[.pointer (some ⟨g, 0, none⟩), .int .i64 x102000_2] (by rfl) rfl rfl qm ?_
       with_reducible refine (spec_l6Rd_pick.calls kj50 g s0_0 x101_2 x102000_2 t104 t129 w0 _ ?side1 ?side2 A57.out).mono ?_
       (case side1 => exact qi HI0.out)
       (case side2 => exact qj HB.out HI0.out)
       rintro e w80 ⟨rfl, hi, hb, hk⟩
       refine ⟨_, rfl, ?_⟩
       replace HO_102001 := q0 (Kd.R_mono (Kd.R_keep (IsSRd.apart (show IsSRd w0 _ g s0_0 x101_2 from qi HI0.out) (qr HO_102001.out) (by decide)) hk (fun _ h => h.2)) (fun _ h => h.1))
       replace BK113 := q0 (kc hk BK113.out NB113_0.out)
       replace BK114 := q0 (kc hk BK114.out NB114_0.out)
       replace HK := q0 (KeepBut.trans (qh HK.out) hk (.inl rfl))
       replace HB := q0 (hb)
       replace HI0 := q0 (hi)
       (try clear hb)
       (try clear hb2)
       (try clear hk)
       (try clear hi)
       refine hK.out _ _ ⟨bca BK114, bcb BK114⟩ (fun hHeld => ?_)
       clear hK K
       refine nu 72 ?_
       refine two_ (i := 8) (j := 13) (Ni := some 76) (Nj := some 7) (ba 16 511) (ba 16 8447) rfl rfl rfl rfl (two_of HT_.out (by kernel_rfl)) (by decide) (by decide) (fun K hK => ?_) (fun K hK => ?_)
       · skip
         refine goes_ Tryd.func38 (by kernel_rfl) rfl #[.pointer (some ⟨g, 0, none⟩), .int .i64 x102000_2] (by rfl) rfl rfl qm ?_
         with_reducible refine (spec_l6Rd_pick.calls kj50 g s0_0 t129 x102000_2 t105 t131 w0 _ ?side1 ?side2 A58.out).mono ?_
         (case side1 => exact qi HI0.out)
         (case side2 => exact qj HB.out HI0.out)
         rintro e w81 ⟨rfl, hi, hb, hk⟩
         refine ⟨_, rfl, ?_⟩
         replace HO_102001 := q0 (Kd.R_mono (Kd.R_keep (IsSRd.apart (show IsSRd w0 _ g s0_0 t129 from qi HI0.out) (qr HO_102001.out) (by decide)) hk (fun _ h => h.2)) (fun _ h => h.1))
         replace BK113 := q0 (kc hk BK113.out NB113_0.out)
         replace BK114 := q0 (kc hk BK114.out NB114_0.out)
         replace HK := q0 (KeepBut.trans (qh HK.out) hk (.inl rfl))
         replace HB := q0 (hb)
         replace HI0 := q0 (hi)
         (try clear hb)
         (try clear hb2)
         (try clear hk)
         (try clear hi)
         refine hK.out _ _ ⟨bca BK114, bcb BK114⟩ (fun hHeld => ?_)
         clear hK K
         refine nu 76 ?_
         refine two_ (i := 9) (j := 13) (Ni := some 77) (Nj := some 7) (ba 16 1023) (ba 16 8703) rfl rfl rfl rfl (two_of HT_.out (by kernel_rfl)) (by decide) (by decide) (fun K hK => ?_) (fun K hK => ?_)
         · skip
           refine goes_ Tryd.func50 (by kernel_rfl) rfl #[.agg #[.int .i64 x102000_2, .slice Ao78 x102001_2.length co78], .int .i64 t104, .int .i64 t105] (by rfl) rfl rfl qm ?_
           with_reducible refine (spec_NetAdd.calls kj50 x102000_2 _ _ x102001_2 t104 t105 t106 t133 false _ ?side1 ?side2 A59.out).mono ?_
           (case side1 => exact qc (Kd.R_reads' HO_102001.out).2.2)
           (case side2 => exact (Kd.R_reads' HO_102001.out).2.1)
           rintro e w82 ⟨v136, rfl, ho0, hb⟩
           refine ⟨_, rfl, ?_⟩
           have HO137 := q0 (Kd.R_lower (Kd.R_new' ho0 (Kd.R_lt (qr HO_102001.out))) (keep_size (w := w) (g := g) (row := none) (qh HK.out)))
           replace HO_102001 := q0 (Kd.R_elder' (qr HO_102001.out) (Kd.R_base ho0) hb)
           replace BK113 := kd BK113 hb
           replace BK114 := kd BK114 hb
           replace HK := q0 (KeepBut.trans (qh HK.out) (KeepBut.of_below hb g none) (.inl rfl))
           replace HB := q0 (below_step (qj HB.out HI0.out) hb)
           replace HI0 := q0 (IsSRd.below (qi HI0.out) hb)
           (try clear hb)
           (try clear hb2)
           (try clear hk)
           (try clear hi)
           (try clear ho0)
           refine hK.out _ _ ⟨bca BK114, bcb BK114⟩ (fun hHeld => ?_)
           clear hK K
           refine nu 77 ?_
           refine pU 10 67 16 2047 HT_ ?_
           refine pU 11 78 16 4095 HT_ ?_
           refine pU 12 79 16 8191 HT_ ?_
           refine one_ (i := 13) (N := some 7) (ba 16 16383) rfl rfl (one_of HT_.out (by kernel_rfl)) (by decide) (fun K hK => ?_)
           refine box_step ?hg (N := 7) ?hd (cs := #[.int .i64 0, .slice none 0 0]) (t := 24) ?hr ?_; (case hd => rfl); (case hg => rfl); (case hr => first | (go_simp; done) | (go_simp; rfl))
           intro gb138 hg w83 hbox hb
           replace HO_102001 := q0 (Kd.R_below (qr HO_102001.out) hb)
           replace HO137 := q0 (Kd.R_below (qr HO137.out) hb)
           replace HB := q0 (below_step (qj HB.out HI0.out) hb)
           have BK138 := q0 (hbox)
           have GW138 := q0 ((by rw [hg]; exact (keep_size (w := w) (g := g) (row := none) (qh HK.out)) : w.heap.size ≤ gb138))
           have GE138 := q0 ((Nat.le_trans HW0.out (by rw [hg]; exact (keep_size (w := w) (g := g) (row := none) (qh HK.out)) : w.heap.size ≤ gb138) : w0.heap.size ≤ gb138))
           replace HK := q0 (KeepBut.trans (qh HK.out) (KeepBut.of_below hb g none) (.inl rfl))
           have NB113_138 := nl BK113 hg
           have NB138_113 := ng BK113 hg
           replace BK113 := kd BK113 hb
           have NB114_138 := nl BK114 hg
           have NB138_114 := ng BK114 hg
           replace BK114 := kd BK114 hb
           have NB0_138 := q0 ((by rw [hg]; exact Nat.ne_of_lt (IsSRd.lt (show IsSRd w0 _ g s0_0 t131 from qi HI0.out)) : g ≠ gb138))
           have NB138_0 := q0 ((by rw [hg]; exact Nat.ne_of_gt (IsSRd.lt (show IsSRd w0 _ g s0_0 t131 from qi HI0.out)) : gb138 ≠ g))
           replace HI0 := q0 (IsSRd.below (qi HI0.out) hb)
           clear hb hbox hg
           refine hK.out _ _ ⟨bca BK114, bcb BK114⟩ (fun hHeld => ?_)
           clear hK K
           refine nu 7 ?_
           exact norm_ (by simp only [putAll, Act.put, List.setIfInBounds_toArray, List.set_cons_zero, List.set_cons_succ]) (hCont (v136, gb138) _ ⟨hHeld, (by (with_reducible repeat (first | apply Kd.R_alloc | apply Kd.R_drewN | apply Kd.R_drew)); exact Kd.R_mono HO137.out (fun _ hk => hk.2)), (by (with_reducible repeat (first | apply Kd.R_alloc | apply Kd.R_drewN | apply Kd.R_drew)); exact Kd.R_mono HO_102001.out (fun _ hk => hk.2)), (qk BK113.out), (qk BK114.out), (qk BK138.out), GW138.out, GE138.out, NB0_138.out, NB138_0.out, NB113_138.out, NB138_113.out, NB114_138.out, NB138_114.out, (qi HI0.out), (qh HK.out), (qj HB.out HI0.out)⟩)
         · skip
           refine box_step ?hg (N := 7) ?hd (cs := #[.int .i64 0, .slice none 0 0]) (t := 24) ?hr ?_; (case hd => rfl); (case hg => rfl); (case hr => first | (go_simp; done) | (go_simp; rfl))
           intro gb138 hg w82 hbox hb
           replace HO_102001 := q0 (Kd.R_below (qr HO_102001.out) hb)
           replace HB := q0 (below_step (qj HB.out HI0.out) hb)
           have BK138 := q0 (hbox)
           have GW138 := q0 ((by rw [hg]; exact (keep_size (w := w) (g := g) (row := none) (qh HK.out)) : w.heap.size ≤ gb138))
           have GE138 := q0 ((Nat.le_trans HW0.out (by rw [hg]; exact (keep_size (w := w) (g := g) (row := none) (qh HK.out)) : w.heap.size ≤ gb138) : w0.heap.size ≤ gb138))
           replace HK := q0 (KeepBut.trans (qh HK.out) (KeepBut.of_below hb g none) (.inl rfl))
           have NB113_138 := nl BK113 hg
           have NB138_113 := ng BK113 hg
           replace BK113 := kd BK113 hb
           have NB114_138 := nl BK114 hg
           have NB138_114 := ng BK114 hg
           replace BK114 := kd BK114 hb
           have NB0_138 := q0 ((by rw [hg]; exact Nat.ne_of_lt (IsSRd.lt (show IsSRd w0 _ g s0_0 t131 from qi HI0.out)) : g ≠ gb138))
           have NB138_0 := q0 ((by rw [hg]; exact Nat.ne_of_gt (IsSRd.lt (show IsSRd w0 _ g s0_0 t131 from qi HI0.out)) : gb138 ≠ g))
           replace HI0 := q0 (IsSRd.below (qi HI0.out) hb)
           clear hb hbox hg
           refine hK.out _ _ ⟨bca BK114, bcb BK114⟩ (fun hHeld => ?_)
           clear hK K
           refine nu 7 ?_
           refine one_ (i := 9) (N := some 77) (ba 16 9215) rfl rfl (one_of HT_.out (by kernel_rfl)) (by decide) (fun K hK => ?_)
           refine goes_ Tryd.func50 (by kernel_rfl) rfl #[.agg #[.int .i64 x102000_2, .slice Ao78 x102001_2.length co78], .int .i64 t104, .int .i64 t105] (by rfl) rfl rfl qm ?_
           with_reducible refine (spec_NetAdd.calls kj50 x102000_2 _ _ x102001_2 t104 t105 t106 t133 false _ ?side1 ?side2 A59.out).mono ?_
           (case side1 => exact qc (Kd.R_reads' HO_102001.out).2.2)
           (case side2 => exact (Kd.R_reads' HO_102001.out).2.1)
           rintro e w83 ⟨v136, rfl, ho0, hb⟩
           refine ⟨_, rfl, ?_⟩
           have HO137 := q0 (Kd.R_lower (Kd.R_new' ho0 (Kd.R_lt (qr HO_102001.out))) (keep_size (w := w) (g := g) (row := none) (qh HK.out)))
           replace HO_102001 := q0 (Kd.R_elder' (qr HO_102001.out) (Kd.R_base ho0) hb)
           replace BK113 := kd BK113 hb
           replace BK114 := kd BK114 hb
           replace BK138 := kd BK138 hb
           replace HK := q0 (KeepBut.trans (qh HK.out) (KeepBut.of_below hb g none) (.inl rfl))
           replace HB := q0 (below_step (qj HB.out HI0.out) hb)
           replace HI0 := q0 (IsSRd.below (qi HI0.out) hb)
           (try clear hb)
           (try clear hb2)
           (try clear hk)
           (try clear hi)
           (try clear ho0)
           refine hK.out _ _ ⟨bca BK114, bcb BK114⟩ (fun hHeld => ?_)
           clear hK K
           refine nu 77 ?_
           refine pU 10 67 16 10239 HT_ ?_
           refine pU 11 78 16 12287 HT_ ?_
           refine pU 12 79 16 16383 HT_ ?_
           exact norm_ (by simp only [putAll, Act.put, List.setIfInBounds_toArray, List.set_cons_zero, List.set_cons_succ]) (hCont (v136, gb138) _ ⟨hHeld, (by (with_reducible repeat (first | apply Kd.R_alloc | apply Kd.R_drewN | apply Kd.R_drew)); exact Kd.R_mono HO137.out (fun _ hk => hk.2)), (by (with_reducible repeat (first | apply Kd.R_alloc | apply Kd.R_drewN | apply Kd.R_drew)); exact Kd.R_mono HO_102001.out (fun _ hk => hk.2)), (qk BK113.out), (qk BK114.out), (qk BK138.out), GW138.out, GE138.out, NB0_138.out, NB138_0.out, NB113_138.out, NB138_113.out, NB114_138.out, NB138_114.out, (qi HI0.out), (qh HK.out), (qj HB.out HI0.out)⟩)
       · skip
         refine box_step ?hg (N := 7) ?hd (cs := #[.int .i64 0, .slice none 0 0]) (t := 24) ?hr ?_; (case hd => rfl); (case hg => rfl); (case hr => first | (go_simp; done) | (go_simp; rfl))
         intro gb138 hg w81 hbox hb
         replace HO_102001 := q0 (Kd.R_below (qr HO_102001.out) hb)
         replace HB := q0 (below_step (qj HB.out HI0.out) hb)
         have BK138 := q0 (hbox)
         have GW138 := q0 ((by rw [hg]; exact (keep_size (w := w) (g := g) (row := none) (qh HK.out)) : w.heap.size ≤ gb138))
         have GE138 := q0 ((Nat.le_trans HW0.out (by rw [hg]; exact (keep_size (w := w) (g := g) (row := none) (qh HK.out)) : w.heap.size ≤ gb138) : w0.heap.size ≤ gb138))
         replace HK := q0 (KeepBut.trans (qh HK.out) (KeepBut.of_below hb g none) (.inl rfl))
         have NB113_138 := nl BK113 hg
         have NB138_113 := ng BK113 hg
         replace BK113 := kd BK113 hb
         have NB114_138 := nl BK114 hg
         have NB138_114 := ng BK114 hg
         replace BK114 := kd BK114 hb
         have NB0_138 := q0 ((by rw [hg]; exact Nat.ne_of_lt (IsSRd.lt (show IsSRd w0 _ g s0_0 t129 from qi HI0.out)) : g ≠ gb138))
         have NB138_0 := q0 ((by rw [hg]; exact Nat.ne_of_gt (IsSRd.lt (show IsSRd w0 _ g s0_0 t129 from qi HI0.out)) : gb138 ≠ g))
         replace HI0 := q0 (IsSRd.below (qi HI0.out) hb)
         clear hb hbox hg
         refine hK.out _ _ ⟨bca BK114, bcb BK114⟩ (fun hHeld => ?_)
         clear hK K
         refine nu 7 ?_
         refine one_ (i := 8) (N := some 76) (ba 16 8703) rfl rfl (one_of HT_.out (by kernel_rfl)) (by decide) (fun K hK => ?_)
         refine goes_ Tryd.func38 (by kernel_rfl) rfl #[.pointer (some ⟨g, 0, none⟩), .int .i64 x102000_2] (by rfl) rfl rfl qm ?_
         with_reducible refine (spec_l6Rd_pick.calls kj50 g s0_0 t129 x102000_2 t105 t131 w0 _ ?side1 ?side2 A58.out).mono ?_
         (case side1 => exact qi HI0.out)
         (case side2 => exact qj HB.out HI0.out)
         rintro e w82 ⟨rfl, hi, hb, hk⟩
         refine ⟨_, rfl, ?_⟩
         replace HO_102001 := q0 (Kd.R_mono (Kd.R_keep (IsSRd.apart (show IsSRd w0 _ g s0_0 t129 from qi HI0.out) (qr HO_102001.out) (by decide)) hk (fun _ h => h.2)) (fun _ h => h.1))
         replace BK113 := q0 (kc hk BK113.out NB113_0.out)
         replace BK114 := q0 (kc hk BK114.out NB114_0.out)
         replace BK138 := q0 (kc hk BK138.out NB138_0.out)
         replace HK := q0 (KeepBut.trans (qh HK.out) hk (.inl rfl))
         replace HB := q0 (hb)
         replace HI0 := q0 (hi)
         (try clear hb)
         (try clear hb2)
         (try clear hk)
         (try clear hi)
         refine hK.out _ _ ⟨bca BK114, bcb BK114⟩ (fun hHeld => ?_)
         clear hK K
         refine nu 76 ?_
         refine one_ (i := 9) (N := some 77) (ba 16 9215) rfl rfl (one_of HT_.out (by kernel_rfl)) (by decide) (fun K hK => ?_)
         refine goes_ Tryd.func50 (by kernel_rfl) rfl #[.agg #[.int .i64 x102000_2, .slice Ao78 x102001_2.length co78], .int .i64 t104, .int .i64 t105] (by rfl) rfl rfl qm ?_
         with_reducible refine (spec_NetAdd.calls kj50 x102000_2 _ _ x102001_2 t104 t105 t106 t133 false _ ?side1 ?side2 A59.out).mono ?_
         (case side1 => exact qc (Kd.R_reads' HO_102001.out).2.2)
         (case side2 => exact (Kd.R_reads' HO_102001.out).2.1)
         rintro e w83 ⟨v136, rfl, ho0, hb⟩
         refine ⟨_, rfl, ?_⟩
         have HO137 := q0 (Kd.R_lower (Kd.R_new' ho0 (Kd.R_lt (qr HO_102001.out))) (keep_size (w := w) (g := g) (row := none) (qh HK.out)))
         replace HO_102001 := q0 (Kd.R_elder' (qr HO_102001.out) (Kd.R_base ho0) hb)
         replace BK113 := kd BK113 hb
         replace BK114 := kd BK114 hb
         replace BK138 := kd BK138 hb
         replace HK := q0 (KeepBut.trans (qh HK.out) (KeepBut.of_below hb g none) (.inl rfl))
         replace HB := q0 (below_step (qj HB.out HI0.out) hb)
         replace HI0 := q0 (IsSRd.below (qi HI0.out) hb)
         (try clear hb)
         (try clear hb2)
         (try clear hk)
         (try clear hi)
         (try clear ho0)
         refine hK.out _ _ ⟨bca BK114, bcb BK114⟩ (fun hHeld => ?_)
         clear hK K
         refine nu 77 ?_
         refine pU 10 67 16 10239 HT_ ?_
         refine pU 11 78 16 12287 HT_ ?_
         refine pU 12 79 16 16383 HT_ ?_
         exact norm_ (by simp only [putAll, Act.put, List.setIfInBounds_toArray, List.set_cons_zero, List.set_cons_succ]) (hCont (v136, gb138) _ ⟨hHeld, (by (with_reducible repeat (first | apply Kd.R_alloc | apply Kd.R_drewN | apply Kd.R_drew)); exact Kd.R_mono HO137.out (fun _ hk => hk.2)), (by (with_reducible repeat (first | apply Kd.R_alloc | apply Kd.R_drewN | apply Kd.R_drew)); exact Kd.R_mono HO_102001.out (fun _ hk => hk.2)), (qk BK113.out), (qk BK114.out), (qk BK138.out), GW138.out, GE138.out, NB0_138.out, NB138_0.out, NB113_138.out, NB138_113.out, NB114_138.out, NB138_114.out, (qi HI0.out), (qh HK.out), (qj HB.out HI0.out)⟩)
     · skip
       refine box_step ?hg (N := 7) ?hd (cs := #[.int .i64 0, .slice none 0 0]) (t := 24) ?hr ?_; (case hd => rfl); (case hg => rfl); (case hr => first | (go_simp; done) | (go_simp; rfl))
       intro gb138 hg w80 hbox hb
       replace HO_102001 := q0 (Kd.R_below (qr HO_102001.out) hb)
       replace HB := q0 (below_step (qj HB.out HI0.out) hb)
       have BK138 := q0 (hbox)
       have GW138 := q0 ((by rw [hg]; exact (keep_size (w := w) (g := g) (row := none) (qh HK.out)) : w.heap.size ≤ gb138))
       have GE138 := q0 ((Nat.le_trans HW0.out (by rw [hg]; exact (keep_size (w := w) (g := g) (row := none) (qh HK.out)) : w.heap.size ≤ gb138) : w0.heap.size ≤ gb138))
       replace HK := q0 (KeepBut.trans (qh HK.out) (KeepBut.of_below hb g none) (.inl rfl))
       have NB113_138 := nl BK113 hg
       have NB138_113 := ng BK113 hg
       replace BK113 := kd BK113 hb
       have NB114_138 := nl BK114 hg
       have NB138_114 := ng BK114 hg
       replace BK114 := kd BK114 hb
       have NB0_138 := q0 ((by rw [hg]; exact Nat.ne_of_lt (IsSRd.lt (show IsSRd w0 _ g s0_0 x101_2 from qi HI0.out)) : g ≠ gb138))
       have NB138_0 := q0 ((by rw [hg]; exact Nat.ne_of_gt (IsSRd.lt (show IsSRd w0 _ g s0_0 x101_2 from qi HI0.out)) : gb138 ≠ g))
       replace HI0 := q0 (IsSRd.below (qi HI0.out) hb)
       clear hb hbox hg
       refine hK.out _ _ ⟨bca BK114, bcb BK114⟩ (fun hHeld => ?_)
       clear hK K
       refine nu 7 ?_
       refine one_ (i := 4) (N := some 72) (ba 16 8447) rfl rfl (one_of HT_.out (by kernel_rfl)) (by decide) (fun K hK => ?_)
       refine goes_ Tryd.func38 (by kernel_rfl) rfl #[.pointer (some ⟨g, 0, none⟩), .int .i64 x102000_2] (by rfl) rfl rfl qm ?_
       with_reducible refine (spec_l6Rd_pick.calls kj50 g s0_0 x101_2 x102000_2 t104 t129 w0 _ ?side1 ?side2 A57.out).mono ?_
       (case side1 => exact qi HI0.out)
       (case side2 => exact qj HB.out HI0.out)
       rintro e w81 ⟨rfl, hi, hb, hk⟩
       refine ⟨_, rfl, ?_⟩
       replace HO_102001 := q0 (Kd.R_mono (Kd.R_keep (IsSRd.apart (show IsSRd w0 _ g s0_0 x101_2 from qi HI0.out) (qr HO_102001.out) (by decide)) hk (fun _ h => h.2)) (fun _ h => h.1))
       replace BK113 := q0 (kc hk BK113.out NB113_0.out)
       replace BK114 := q0 (kc hk BK114.out NB114_0.out)
       replace BK138 := q0 (kc hk BK138.out NB138_0.out)
       replace HK := q0 (KeepBut.trans (qh HK.out) hk (.inl rfl))
       replace HB := q0 (hb)
       replace HI0 := q0 (hi)
       (try clear hb)
       (try clear hb2)
       (try clear hk)
       (try clear hi)
       refine hK.out _ _ ⟨bca BK114, bcb BK114⟩ (fun hHeld => ?_)
       clear hK K
       refine nu 72 ?_
       refine one_ (i := 8) (N := some 76) (ba 16 8703) rfl rfl (one_of HT_.out (by kernel_rfl)) (by decide) (fun K hK => ?_)
       refine goes_ Tryd.func38 (by kernel_rfl) rfl #[.pointer (some ⟨g, 0, none⟩), .int .i64 x102000_2] (by rfl) rfl rfl qm ?_
       with_reducible refine (spec_l6Rd_pick.calls kj50 g s0_0 t129 x102000_2 t105 t131 w0 _ ?side1 ?side2 A58.out).mono ?_
       (case side1 => exact qi HI0.out)
       (case side2 => exact qj HB.out HI0.out)
       rintro e w82 ⟨rfl, hi, hb, hk⟩
       refine ⟨_, rfl, ?_⟩
       replace HO_102001 := q0 (Kd.R_mono (Kd.R_keep (IsSRd.apart (show IsSRd w0 _ g s0_0 t129 from qi HI0.out) (qr HO_102001.out) (by decide)) hk (fun _ h => h.2)) (fun _ h => h.1))
       replace BK113 := q0 (kc hk BK113.out NB113_0.out)
       replace BK114 := q0 (kc hk BK114.out NB114_0.out)
       replace BK138 := q0 (kc hk BK138.out NB138_0.out)
       replace HK := q0 (KeepBut.trans (qh HK.out) hk (.inl rfl))
       replace HB := q0 (hb)
       replace HI0 := q0 (hi)
       (try clear hb)
       (try clear hb2)
       (try clear hk)
       (try clear hi)
       refine hK.out _ _ ⟨bca BK114, bcb BK114⟩ (fun hHeld => ?_)
       clear hK K
       refine nu 76 ?_
       refine one_ (i := 9) (N := some 77) (ba 16 9215) rfl rfl (one_of HT_.out (by kernel_rfl)) (by decide) (fun K hK => ?_)
       refine goes_ Tryd.func50 (by kernel_rfl) rfl #[.agg #[.int .i64 x102000_2, .slice Ao78 x102001_2.length co78], .int .i64 t104, .int .i64 t105] (by rfl) rfl rfl qm ?_
       with_reducible refine (spec_NetAdd.calls kj50 x102000_2 _ _ x102001_2 t104 t105 t106 t133 false _ ?side1 ?side2 A59.out).mono ?_
       (case side1 => exact qc (Kd.R_reads' HO_102001.out).2.2)
       (case side2 => exact (Kd.R_reads' HO_102001.out).2.1)
       rintro e w83 ⟨v136, rfl, ho0, hb⟩
       refine ⟨_, rfl, ?_⟩
       have HO137 := q0 (Kd.R_lower (Kd.R_new' ho0 (Kd.R_lt (qr HO_102001.out))) (keep_size (w := w) (g := g) (row := none) (qh HK.out)))
       replace HO_102001 := q0 (Kd.R_elder' (qr HO_102001.out) (Kd.R_base ho0) hb)
       replace BK113 := kd BK113 hb
       replace BK114 := kd BK114 hb
       replace BK138 := kd BK138 hb
       replace HK := q0 (KeepBut.trans (qh HK.out) (KeepBut.of_below hb g none) (.inl rfl))
       replace HB := q0 (below_step (qj HB.out HI0.out) hb)
       replace HI0 := q0 (IsSRd.below (qi HI0.out) hb)
       (try clear hb)
       (try clear hb2)
       (try clear hk)
       (try clear hi)
       (try clear ho0)
       refine hK.out _ _ ⟨bca BK114, bcb BK114⟩ (fun hHeld => ?_)
       clear hK K
       refine nu 77 ?_
       refine pU 10 67 16 10239 HT_ ?_
       refine pU 11 78 16 12287 HT_ ?_
       refine pU 12 79 16 16383 HT_ ?_
       exact norm_ (by simp only [putAll, Act.put, List.setIfInBounds_toArray, List.set_cons_zero, List.set_cons_succ]) (hCont (v136, gb138) _ ⟨hHeld, (by (with_reducible repeat (first | apply Kd.R_alloc | apply Kd.R_drewN | apply Kd.R_drew)); exact Kd.R_mono HO137.out (fun _ hk => hk.2)), (by (with_reducible repeat (first | apply Kd.R_alloc | apply Kd.R_drewN | apply Kd.R_drew)); exact Kd.R_mono HO_102001.out (fun _ hk => hk.2)), (qk BK113.out), (qk BK114.out), (qk BK138.out), GW138.out, GE138.out, NB0_138.out, NB138_0.out, NB113_138.out, NB138_113.out, NB114_138.out, NB138_114.out, (qi HI0.out), (qh HK.out), (qj HB.out HI0.out)⟩)
   rintro ⟨v136, gb138⟩ w84 ⟨hS_, h0_, h1_, h2_, h3_, h4_, h5_, h6_, h7_, h8_, h9_, h10_, h11_, h12_, h13_, h14_, h15_⟩
   have n0_ : Aside0 (Kd.R kTie 47 w84 w.heap.size (fun k_ => some k_ ≠ (.slice Ao78 x102001_2.length co78 : Value).ownBlock) v136 t133) := ⟨h0_⟩
   have n1_ : Aside0 (Kd.R kTie 47 w84 w.heap.size (fun k_ => some k_ ≠ (v136 : Value).ownBlock) (.slice Ao78 x102001_2.length co78) x102001_2) := ⟨h1_⟩
   have n2_ : Aside0 (w84.heap[gb113]? = some (.cells #[.int .i64 0, .slice none 0 0] 24 (0, 0))) := ⟨h2_⟩
   have n3_ : Aside0 (w84.heap[gb114]? = some (.cells #[.int .i64 x102000_2, .slice Ao78 x102001_2.length co78] 24 (0, 0))) := ⟨h3_⟩
   have n4_ : Aside0 (w84.heap[gb138]? = some (.cells #[.int .i64 0, .slice none 0 0] 24 (0, 0))) := ⟨h4_⟩
   have n5_ : Aside0 (w.heap.size ≤ gb138) := ⟨h5_⟩
   have n6_ : Aside0 (w0.heap.size ≤ gb138) := ⟨h6_⟩
   have n7_ : Aside0 (g ≠ gb138) := ⟨h7_⟩
   have n8_ : Aside0 (gb138 ≠ g) := ⟨h8_⟩
   have n9_ : Aside0 (gb113 ≠ gb138) := ⟨h9_⟩
   have n10_ : Aside0 (gb138 ≠ gb113) := ⟨h10_⟩
   have n11_ : Aside0 (gb114 ≠ gb138) := ⟨h11_⟩
   have n12_ : Aside0 (gb138 ≠ gb114) := ⟨h12_⟩
   have n13_ : Aside0 (IsSRd w0 w84 g s0_0 t131) := ⟨h13_⟩
   have n14_ : Aside0 (KeepBut w w84 g none) := ⟨h14_⟩
   have n15_ : Aside0 (Below w0.heap.size w0 w84) := ⟨h15_⟩
   clear HO_102001
   clear BK113
   clear BK114
   clear HI0
   clear HK
   clear HB
   clear h0_ h1_ h2_ h3_ h4_ h5_ h6_ h7_ h8_ h9_ h10_ h11_ h12_ h13_ h14_ h15_
   have HO137 := n0_
   have HO_102001 := n1_
   have BK113 := n2_
   have BK114 := n3_
   have BK138 := n4_
   have GW138 := n5_
   have GE138 := n6_
   have NB0_138 := n7_
   have NB138_0 := n8_
   have NB113_138 := n9_
   have NB138_113 := n10_
   have NB114_138 := n11_
   have NB138_114 := n12_
   have HI0 := n13_
   have HK := n14_
   have HB := n15_
   clear n0_ n1_ n2_ n3_ n4_ n5_ n6_ n7_ n8_ n9_ n10_ n11_ n12_ n13_ n14_ n15_
   have hHeld : w84.cell? ⟨gb114, 0, none⟩ = some (.int .i64 x102000_2) ∧ w84.cell? ⟨gb114, 1, none⟩ = some (.slice Ao78 x102001_2.length co78) := hS_
   obtain ⟨Ao86, co86, eo86⟩ := Kd.R_slice HO137.out
   (first | subst eo86 | (injection eo86 with f1_ f2_ f3_; have f4_ := f1_.symm; have f5_ := f3_.symm; clear f1_ f2_ f3_; subst f4_; subst f5_))
   refine norm_ (a' := ?_) ?_ ?_
   rotate_left
   · simp only [putAll, Act.put, List.setIfInBounds_toArray, List.set_cons_zero, List.set_cons_succ]
     rfl
   refine one_ (i := 14) (N := none) (ba 16 32767) rfl rfl (one_of HT_.out (by kernel_rfl)) (by decide) (fun K hK => ?_)
   have hs85 : w84.cell? ⟨gb138, 0, none⟩ = some (.int .i64 0) := (blk_cell BK138.out 0).trans rfl
   have hfs85 := blk_frozen BK138.out 0
   have hns85_0 := NB113_138.out
   have hns85_1 := NB114_138.out
   have hms85_0 := NB138_113.out
   have hms85_1 := NB138_114.out
   have hs87 : w84.cell? ⟨gb138, 1, none⟩ = some (.slice none 0 0) := (blk_cell BK138.out 1).trans rfl
   have hfs87 := blk_frozen BK138.out 1
   have hns87_0 := NB113_138.out
   have hns87_1 := NB114_138.out
   have hms87_0 := NB138_113.out
   have hms87_1 := NB138_114.out
   refine skip_ (w1 := ?_) (by rfl) rfl ?_ ?_
   rotate_left
   · go_simp
     rfl
   refine hK.out _ _ ⟨((cell_far (p := ⟨gb138, _, none⟩) NB114_138.out _).trans (((cell_far (p := ⟨gb138, _, none⟩) NB114_138.out _).trans (hHeld.1)))), ((cell_far (p := ⟨gb138, _, none⟩) NB114_138.out _).trans (((cell_far (p := ⟨gb138, _, none⟩) NB114_138.out _).trans (hHeld.2))))⟩ (fun hHeld => ?_)
   clear hK K
   refine pU 15 8 16 65535 HT_ ?_
   refine done_ (done_of HT_.out (by kernel_rfl)) ?_
   try go_wp2
   go_roundg kj50
   case measure => have := HJ3.out; have := HK2.out; have := HJ50.out; omega
   case rel => exact ⟨(wrap64 (x6_2 - 1)), (t131), (x102000_2), (x102001_2), (.slice Ao78 x102001_2.length co78), qs, H', ⟨by have := HJ3.out; have := HK2.out; have := HJ50.out; omega⟩, ⟨by (with_reducible repeat (first | apply Kd.R_alloc | apply Kd.R_drewN | apply Kd.R_drew)); exact rf2 HO_102001.out BK138.out (fun _ hk => trivial)⟩, ⟨qf BK113.out⟩, ⟨qf BK114.out⟩, ⟨qi HI0.out⟩, ⟨qh HK.out⟩, ⟨qj HB.out HI0.out⟩⟩
 subst c60
 rw [if_pos rfl] at H
 have H' := q0 H
 clear H
 obtain ⟨Ao61, co61, eo61⟩ := Kd.R_slice HO_102001.out
 subst eo61
 try go_wp2
 replace HO_102001 := q0 (Kd.R_drew HO_102001.out)
 replace BK113 := q0 (blk_drew BK113.out)
 replace BK114 := q0 (blk_drew BK114.out)
 replace HI0 := q0 (IsSRd.drew HI0.out)
 replace HK := q0 (keep_drew HK.out)
 replace HB := q0 (below_drew1 HB.out)
 refine start_ (n := 16) (S := fun w' => w'.cell? ⟨gb114, 0, none⟩ = some (.int .i64 x102000_2) ∧ w'.cell? ⟨gb114, 1, none⟩ = some (.slice Ao61 x102001_2.length co61)) (ds := []) (ba 16 0) (by kernel_rfl) rfl (by kernel_rfl) ⟨bca BK114, bcb BK114⟩ (fun hHeld => ?_); refine with_tabW spec_l71Net.tab16 spec_l71Net.bits16 (fun HT_ HW_ => ?_)
 generalize wc.drew = w62 at HO_102001 BK113 BK114 HI0 HK HB hHeld ⊢
 refine pU 1 69 16 2 HT_ ?_
 refine pU 2 70 16 6 HT_ ?_
 refine pU 5 73 16 38 HT_ ?_
 refine pU 6 74 16 102 HT_ ?_
 refine tU 0 68 16 103 HT_ HW_ hHeld ?_
 refine tU 3 71 16 111 HT_ HW_ hHeld ?_
 refine tU 7 75 16 239 HT_ HW_ hHeld ?_
 refine join_ (σ := Value × Nat) 2 (ba 16 16383) (fun s_ => [(72, .int .i64 t104), (76, .int .i64 t105), (77, .tuple #[.agg #[.int .i64 t106, s_.1], .bool true]), (7, .pointer (some ⟨s_.2, 0, none⟩)), (67, .tuple #[.agg #[.int .i64 t106, s_.1], .bool true]), (78, .agg #[.int .i64 t106, s_.1]), (79, .bool true)]) (fun s_ w' => (w'.cell? ⟨gb114, 0, none⟩ = some (.int .i64 x102000_2) ∧ w'.cell? ⟨gb114, 1, none⟩ = some (.slice Ao61 x102001_2.length co61)) ∧ (Kd.R kTie 47 w' w.heap.size (fun k_ => some k_ ≠ (.slice Ao61 x102001_2.length co61 : Value).ownBlock) s_.1 t133) ∧ (Kd.R kTie 47 w' w.heap.size (fun k_ => some k_ ≠ (s_.1 : Value).ownBlock) (.slice Ao61 x102001_2.length co61) x102001_2) ∧ (w'.heap[gb113]? = some (.cells #[.int .i64 0, .slice none 0 0] 24 (0, 0))) ∧ (w'.heap[gb114]? = some (.cells #[.int .i64 x102000_2, .slice Ao61 x102001_2.length co61] 24 (0, 0))) ∧ (w'.heap[s_.2]? = some (.cells #[.int .i64 0, .slice none 0 0] 24 (0, 0))) ∧ (w.heap.size ≤ s_.2) ∧ (w0.heap.size ≤ s_.2) ∧ (g ≠ s_.2) ∧ (s_.2 ≠ g) ∧ (gb113 ≠ s_.2) ∧ (s_.2 ≠ gb113) ∧ (gb114 ≠ s_.2) ∧ (s_.2 ≠ gb114) ∧ (IsSRd w0 w' g s0_0 t131) ∧ (KeepBut w w' g none) ∧ (Below w0.heap.size w0 w')) ?_ ?_
 rotate_left
 · intro hCont
   refine two_ (i := 4) (j := 13) (Ni := some 72) (Nj := some 7) (ba 16 255) (ba 16 8431) rfl rfl rfl rfl (two_of HT_.out (by kernel_rfl)) (by decide) (by decide) (fun K hK => ?_) (fun K hK => ?_)
   · skip
     refine goes_ Tryd.func38 (by kernel_rfl) rfl #[.pointer (some ⟨g, 0, none⟩), .int .i64 x102000_2] (by rfl) rfl rfl qm ?_
     with_reducible refine (spec_l6Rd_pick.calls kj50 g s0_0 x101_2 x102000_2 t104 t129 w0 _ ?side1 ?side2 A57.out).mono ?_
     (case side1 => exact qi HI0.out)
     (case side2 => exact qj HB.out HI0.out)
     rintro e w63 ⟨rfl, hi, hb, hk⟩
     refine ⟨_, rfl, ?_⟩
     replace HO_102001 := q0 (Kd.R_mono (Kd.R_keep (IsSRd.apart (show IsSRd w0 _ g s0_0 x101_2 from qi HI0.out) (qr HO_102001.out) (by decide)) hk (fun _ h => h.2)) (fun _ h => h.1))
     replace BK113 := q0 (kc hk BK113.out NB113_0.out)
     replace BK114 := q0 (kc hk BK114.out NB114_0.out)
     replace HK := q0 (KeepBut.trans (qh HK.out) hk (.inl rfl))
     replace HB := q0 (hb)
     replace HI0 := q0 (hi)
     (try clear hb)
     (try clear hb2)
     (try clear hk)
     (try clear hi)
     refine hK.out _ _ ⟨bca BK114, bcb BK114⟩ (fun hHeld => ?_)
     clear hK K
     refine nu 72 ?_
     refine two_ (i := 8) (j := 13) (Ni := some 76) (Nj := some 7) (ba 16 511) (ba 16 8447) rfl rfl rfl rfl (two_of HT_.out (by kernel_rfl)) (by decide) (by decide) (fun K hK => ?_) (fun K hK => ?_)
     · skip
       refine goes_ Tryd.func38 (by kernel_rfl) rfl #[.pointer (some ⟨g, 0, none⟩), .int .i64 x102000_2] (by rfl) rfl rfl qm ?_
       with_reducible refine (spec_l6Rd_pick.calls kj50 g s0_0 t129 x102000_2 t105 t131 w0 _ ?side1 ?side2 A58.out).mono ?_
       (case side1 => exact qi HI0.out)
       (case side2 => exact qj HB.out HI0.out)
       rintro e w64 ⟨rfl, hi, hb, hk⟩
       refine ⟨_, rfl, ?_⟩
       replace HO_102001 := q0 (Kd.R_mono (Kd.R_keep (IsSRd.apart (show IsSRd w0 _ g s0_0 t129 from qi HI0.out) (qr HO_102001.out) (by decide)) hk (fun _ h => h.2)) (fun _ h => h.1))
       replace BK113 := q0 (kc hk BK113.out NB113_0.out)
       replace BK114 := q0 (kc hk BK114.out NB114_0.out)
       replace HK := q0 (KeepBut.trans (qh HK.out) hk (.inl rfl))
       replace HB := q0 (hb)
       replace HI0 := q0 (hi)
       (try clear hb)
       (try clear hb2)
       (try clear hk)
       (try clear hi)
       refine hK.out _ _ ⟨bca BK114, bcb BK114⟩ (fun hHeld => ?_)
       clear hK K
       refine nu 76 ?_
       refine two_ (i := 9) (j := 13) (Ni := some 77) (Nj := some 7) (ba 16 1023) (ba 16 8703) rfl rfl rfl rfl (two_of HT_.out (by kernel_rfl)) (by decide) (by decide) (fun K hK => ?_) (fun K hK => ?_)
       · skip
         refine goes_ Tryd.func50 (by kernel_rfl) rfl #[.agg #[.int .i64 x102000_2, .slice Ao61 x102001_2.length co61], .int .i64 t104, .int .i64 t105] (by rfl) rfl rfl qm ?_
         with_reducible refine (spec_NetAdd.calls kj50 x102000_2 _ _ x102001_2 t104 t105 t106 t133 true _ ?side1 ?side2 A59.out).mono ?_
         (case side1 => exact qc (Kd.R_reads' HO_102001.out).2.2)
         (case side2 => exact (Kd.R_reads' HO_102001.out).2.1)
         rintro e w65 ⟨v136, rfl, ho0, hb⟩
         refine ⟨_, rfl, ?_⟩
         have HO137 := q0 (Kd.R_lower (Kd.R_new' ho0 (Kd.R_lt (qr HO_102001.out))) (keep_size (w := w) (g := g) (row := none) (qh HK.out)))
         replace HO_102001 := q0 (Kd.R_elder' (qr HO_102001.out) (Kd.R_base ho0) hb)
         replace BK113 := kd BK113 hb
         replace BK114 := kd BK114 hb
         replace HK := q0 (KeepBut.trans (qh HK.out) (KeepBut.of_below hb g none) (.inl rfl))
         replace HB := q0 (below_step (qj HB.out HI0.out) hb)
         replace HI0 := q0 (IsSRd.below (qi HI0.out) hb)
         (try clear hb)
         (try clear hb2)
         (try clear hk)
         (try clear hi)
         (try clear ho0)
         refine hK.out _ _ ⟨bca BK114, bcb BK114⟩ (fun hHeld => ?_)
         clear hK K
         refine nu 77 ?_
         refine pU 10 67 16 2047 HT_ ?_
         refine pU 11 78 16 4095 HT_ ?_
         refine pU 12 79 16 8191 HT_ ?_
         refine one_ (i := 13) (N := some 7) (ba 16 16383) rfl rfl (one_of HT_.out (by kernel_rfl)) (by decide) (fun K hK => ?_)
         refine box_step ?hg (N := 7) ?hd (cs := #[.int .i64 0, .slice none 0 0]) (t := 24) ?hr ?_; (case hd => rfl); (case hg => rfl); (case hr => first | (go_simp; done) | (go_simp; rfl))
         intro gb138 hg w66 hbox hb
         replace HO_102001 := q0 (Kd.R_below (qr HO_102001.out) hb)
         replace HO137 := q0 (Kd.R_below (qr HO137.out) hb)
         replace HB := q0 (below_step (qj HB.out HI0.out) hb)
         have BK138 := q0 (hbox)
         have GW138 := q0 ((by rw [hg]; exact (keep_size (w := w) (g := g) (row := none) (qh HK.out)) : w.heap.size ≤ gb138))
         have GE138 := q0 ((Nat.le_trans HW0.out (by rw [hg]; exact (keep_size (w := w) (g := g) (row := none) (qh HK.out)) : w.heap.size ≤ gb138) : w0.heap.size ≤ gb138))
         replace HK := q0 (KeepBut.trans (qh HK.out) (KeepBut.of_below hb g none) (.inl rfl))
         have NB113_138 := nl BK113 hg
         have NB138_113 := ng BK113 hg
         replace BK113 := kd BK113 hb
         have NB114_138 := nl BK114 hg
         have NB138_114 := ng BK114 hg
         replace BK114 := kd BK114 hb
         have NB0_138 := q0 ((by rw [hg]; exact Nat.ne_of_lt (IsSRd.lt (show IsSRd w0 _ g s0_0 t131 from qi HI0.out)) : g ≠ gb138))
         have NB138_0 := q0 ((by rw [hg]; exact Nat.ne_of_gt (IsSRd.lt (show IsSRd w0 _ g s0_0 t131 from qi HI0.out)) : gb138 ≠ g))
         replace HI0 := q0 (IsSRd.below (qi HI0.out) hb)
         clear hb hbox hg
         refine hK.out _ _ ⟨bca BK114, bcb BK114⟩ (fun hHeld => ?_)
         clear hK K
         refine nu 7 ?_
         exact norm_ (by simp only [putAll, Act.put, List.setIfInBounds_toArray, List.set_cons_zero, List.set_cons_succ]) (hCont (v136, gb138) _ ⟨hHeld, (by (with_reducible repeat (first | apply Kd.R_alloc | apply Kd.R_drewN | apply Kd.R_drew)); exact Kd.R_mono HO137.out (fun _ hk => hk.2)), (by (with_reducible repeat (first | apply Kd.R_alloc | apply Kd.R_drewN | apply Kd.R_drew)); exact Kd.R_mono HO_102001.out (fun _ hk => hk.2)), (qk BK113.out), (qk BK114.out), (qk BK138.out), GW138.out, GE138.out, NB0_138.out, NB138_0.out, NB113_138.out, NB138_113.out, NB114_138.out, NB138_114.out, (qi HI0.out), (qh HK.out), (qj HB.out HI0.out)⟩)
       · skip
         refine box_step ?hg (N := 7) ?hd (cs := #[.int .i64 0, .slice none 0 0]) (t := 24) ?hr ?_; (case hd => rfl); (case hg => rfl); (case hr => first | (go_simp; done) | (go_simp; rfl))
         intro gb138 hg w65 hbox hb
         replace HO_102001 := q0 (Kd.R_below (qr HO_102001.out) hb)
         replace HB := q0 (below_step (qj HB.out HI0.out) hb)
         have BK138 := q0 (hbox)
         have GW138 := q0 ((by rw [hg]; exact (keep_size (w := w) (g := g) (row := none) (qh HK.out)) : w.heap.size ≤ gb138))
         have GE138 := q0 ((Nat.le_trans HW0.out (by rw [hg]; exact (keep_size (w := w) (g := g) (row := none) (qh HK.out)) : w.heap.size ≤ gb138) : w0.heap.size ≤ gb138))
         replace HK := q0 (KeepBut.trans (qh HK.out) (KeepBut.of_below hb g none) (.inl rfl))
         have NB113_138 := nl BK113 hg
         have NB138_113 := ng BK113 hg
         replace BK113 := kd BK113 hb
         have NB114_138 := nl BK114 hg
         have NB138_114 := ng BK114 hg
         replace BK114 := kd BK114 hb
         have NB0_138 := q0 ((by rw [hg]; exact Nat.ne_of_lt (IsSRd.lt (show IsSRd w0 _ g s0_0 t131 from qi HI0.out)) : g ≠ gb138))
         have NB138_0 := q0 ((by rw [hg]; exact Nat.ne_of_gt (IsSRd.lt (show IsSRd w0 _ g s0_0 t131 from qi HI0.out)) : gb138 ≠ g))
         replace HI0 := q0 (IsSRd.below (qi HI0.out) hb)
         clear hb hbox hg
         refine hK.out _ _ ⟨bca BK114, bcb BK114⟩ (fun hHeld => ?_)
         clear hK K
         refine nu 7 ?_
         refine one_ (i := 9) (N := some 77) (ba 16 9215) rfl rfl (one_of HT_.out (by kernel_rfl)) (by decide) (fun K hK => ?_)
         refine goes_ Tryd.func50 (by kernel_rfl) rfl #[.agg #[.int .i64 x102000_2, .slice Ao61 x102001_2.length co61], .int .i64 t104, .int .i64 t105] (by rfl) rfl rfl qm ?_
         with_reducible refine (spec_NetAdd.calls kj50 x102000_2 _ _ x102001_2 t104 t105 t106 t133 true _ ?side1 ?side2 A59.out).mono ?_
         (case side1 => exact qc (Kd.R_reads' HO_102001.out).2.2)
         (case side2 => exact (Kd.R_reads' HO_102001.out).2.1)
         rintro e w66 ⟨v136, rfl, ho0, hb⟩
         refine ⟨_, rfl, ?_⟩
         have HO137 := q0 (Kd.R_lower (Kd.R_new' ho0 (Kd.R_lt (qr HO_102001.out))) (keep_size (w := w) (g := g) (row := none) (qh HK.out)))
         replace HO_102001 := q0 (Kd.R_elder' (qr HO_102001.out) (Kd.R_base ho0) hb)
         replace BK113 := kd BK113 hb
         replace BK114 := kd BK114 hb
         replace BK138 := kd BK138 hb
         replace HK := q0 (KeepBut.trans (qh HK.out) (KeepBut.of_below hb g none) (.inl rfl))
         replace HB := q0 (below_step (qj HB.out HI0.out) hb)
         replace HI0 := q0 (IsSRd.below (qi HI0.out) hb)
         (try clear hb)
         (try clear hb2)
         (try clear hk)
         (try clear hi)
         (try clear ho0)
         refine hK.out _ _ ⟨bca BK114, bcb BK114⟩ (fun hHeld => ?_)
         clear hK K
         refine nu 77 ?_
         refine pU 10 67 16 10239 HT_ ?_
         refine pU 11 78 16 12287 HT_ ?_
         refine pU 12 79 16 16383 HT_ ?_
         exact norm_ (by simp only [putAll, Act.put, List.setIfInBounds_toArray, List.set_cons_zero, List.set_cons_succ]) (hCont (v136, gb138) _ ⟨hHeld, (by (with_reducible repeat (first | apply Kd.R_alloc | apply Kd.R_drewN | apply Kd.R_drew)); exact Kd.R_mono HO137.out (fun _ hk => hk.2)), (by (with_reducible repeat (first | apply Kd.R_alloc | apply Kd.R_drewN | apply Kd.R_drew)); exact Kd.R_mono HO_102001.out (fun _ hk => hk.2)), (qk BK113.out), (qk BK114.out), (qk BK138.out), GW138.out, GE138.out, NB0_138.out, NB138_0.out, NB113_138.out, NB138_113.out, NB114_138.out, NB138_114.out, (qi HI0.out), (qh HK.out), (qj HB.out HI0.out)⟩)
     · skip
       refine box_step ?hg (N := 7) ?hd (cs := #[.int .i64 0, .slice none 0 0]) (t := 24) ?hr ?_; (case hd => rfl); (case hg => rfl); (case hr => first | (go_simp; done) | (go_simp; rfl))
       intro gb138 hg w64 hbox hb
       replace HO_102001 := q0 (Kd.R_below (qr HO_102001.out) hb)
       replace HB := q0 (below_step (qj HB.out HI0.out) hb)
       have BK138 := q0 (hbox)
       have GW138 := q0 ((by rw [hg]; exact (keep_size (w := w) (g := g) (row := none) (qh HK.out)) : w.heap.size ≤ gb138))
       have GE138 := q0 ((Nat.le_trans HW0.out (by rw [hg]; exact (keep_size (w := w) (g := g) (row := none) (qh HK.out)) : w.heap.size ≤ gb138) : w0.heap.size ≤ gb138))
       replace HK := q0 (KeepBut.trans (qh HK.out) (KeepBut.of_below hb g none) (.inl rfl))
       have NB113_138 := nl BK113 hg
       have NB138_113 := ng BK113 hg
       replace BK113 := kd BK113 hb
       have NB114_138 := nl BK114 hg
       have NB138_114 := ng BK114 hg
       replace BK114 := kd BK114 hb
       have NB0_138 := q0 ((by rw [hg]; exact Nat.ne_of_lt (IsSRd.lt (show IsSRd w0 _ g s0_0 t129 from qi HI0.out)) : g ≠ gb138))
       have NB138_0 := q0 ((by rw [hg]; exact Nat.ne_of_gt (IsSRd.lt (show IsSRd w0 _ g s0_0 t129 from qi HI0.out)) : gb138 ≠ g))
       replace HI0 := q0 (IsSRd.below (qi HI0.out) hb)
       clear hb hbox hg
       refine hK.out _ _ ⟨bca BK114, bcb BK114⟩ (fun hHeld => ?_)
       clear hK K
       refine nu 7 ?_
       refine one_ (i := 8) (N := some 76) (ba 16 8703) rfl rfl (one_of HT_.out (by kernel_rfl)) (by decide) (fun K hK => ?_)
       refine goes_ Tryd.func38 (by kernel_rfl) rfl #[.pointer (some ⟨g, 0, none⟩), .int .i64 x102000_2] (by rfl) rfl rfl qm ?_
       with_reducible refine (spec_l6Rd_pick.calls kj50 g s0_0 t129 x102000_2 t105 t131 w0 _ ?side1 ?side2 A58.out).mono ?_
       (case side1 => exact qi HI0.out)
       (case side2 => exact qj HB.out HI0.out)
       rintro e w65 ⟨rfl, hi, hb, hk⟩
       refine ⟨_, rfl, ?_⟩
       replace HO_102001 := q0 (Kd.R_mono (Kd.R_keep (IsSRd.apart (show IsSRd w0 _ g s0_0 t129 from qi HI0.out) (qr HO_102001.out) (by decide)) hk (fun _ h => h.2)) (fun _ h => h.1))
       replace BK113 := q0 (kc hk BK113.out NB113_0.out)
       replace BK114 := q0 (kc hk BK114.out NB114_0.out)
       replace BK138 := q0 (kc hk BK138.out NB138_0.out)
       replace HK := q0 (KeepBut.trans (qh HK.out) hk (.inl rfl))
       replace HB := q0 (hb)
       replace HI0 := q0 (hi)
       (try clear hb)
       (try clear hb2)
       (try clear hk)
       (try clear hi)
       refine hK.out _ _ ⟨bca BK114, bcb BK114⟩ (fun hHeld => ?_)
       clear hK K
       refine nu 76 ?_
       refine one_ (i := 9) (N := some 77) (ba 16 9215) rfl rfl (one_of HT_.out (by kernel_rfl)) (by decide) (fun K hK => ?_)
       refine goes_ Tryd.func50 (by kernel_rfl) rfl #[.agg #[.int .i64 x102000_2, .slice Ao61 x102001_2.length co61], .int .i64 t104, .int .i64 t105] (by rfl) rfl rfl qm ?_
       with_reducible refine (spec_NetAdd.calls kj50 x102000_2 _ _ x102001_2 t104 t105 t106 t133 true _ ?side1 ?side2 A59.out).mono ?_
       (case side1 => exact qc (Kd.R_reads' HO_102001.out).2.2)
       (case side2 => exact (Kd.R_reads' HO_102001.out).2.1)
       rintro e w66 ⟨v136, rfl, ho0, hb⟩
       refine ⟨_, rfl, ?_⟩
       have HO137 := q0 (Kd.R_lower (Kd.R_new' ho0 (Kd.R_lt (qr HO_102001.out))) (keep_size (w := w) (g := g) (row := none) (qh HK.out)))
       replace HO_102001 := q0 (Kd.R_elder' (qr HO_102001.out) (Kd.R_base ho0) hb)
       replace BK113 := kd BK113 hb
       replace BK114 := kd BK114 hb
       replace BK138 := kd BK138 hb
       replace HK := q0 (KeepBut.trans (qh HK.out) (KeepBut.of_below hb g none) (.inl rfl))
       replace HB := q0 (below_step (qj HB.out HI0.out) hb)
       replace HI0 := q0 (IsSRd.below (qi HI0.out) hb)
       (try clear hb)
       (try clear hb2)
       (try clear hk)
       (try clear hi)
       (try clear ho0)
       refine hK.out _ _ ⟨bca BK114, bcb BK114⟩ (fun hHeld => ?_)
       clear hK K
       refine nu 77 ?_
       refine pU 10 67 16 10239 HT_ ?_
       refine pU 11 78 16 12287 HT_ ?_
       refine pU 12 79 16 16383 HT_ ?_
       exact norm_ (by simp only [putAll, Act.put, List.setIfInBounds_toArray, List.set_cons_zero, List.set_cons_succ]) (hCont (v136, gb138) _ ⟨hHeld, (by (with_reducible repeat (first | apply Kd.R_alloc | apply Kd.R_drewN | apply Kd.R_drew)); exact Kd.R_mono HO137.out (fun _ hk => hk.2)), (by (with_reducible repeat (first | apply Kd.R_alloc | apply Kd.R_drewN | apply Kd.R_drew)); exact Kd.R_mono HO_102001.out (fun _ hk => hk.2)), (qk BK113.out), (qk BK114.out), (qk BK138.out), GW138.out, GE138.out, NB0_138.out, NB138_0.out, NB113_138.out, NB138_113.out, NB114_138.out, NB138_114.out, (qi HI0.out), (qh HK.out), (qj HB.out HI0.out)⟩)
   · skip
     refine box_step ?hg (N := 7) ?hd (cs := #[.int .i64 0, .slice none 0 0]) (t := 24) ?hr ?_; (case hd => rfl); (case hg => rfl); (case hr => first | (go_simp; done) | (go_simp; rfl))
     intro gb138 hg w63 hbox hb
     replace HO_102001 := q0 (Kd.R_below (qr HO_102001.out) hb)
     replace HB := q0 (below_step (qj HB.out HI0.out) hb)
     have BK138 := q0 (hbox)
     have GW138 := q0 ((by rw [hg]; exact (keep_size (w := w) (g := g) (row := none) (qh HK.out)) : w.heap.size ≤ gb138))
     have GE138 := q0 ((Nat.le_trans HW0.out (by rw [hg]; exact (keep_size (w := w) (g := g) (row := none) (qh HK.out)) : w.heap.size ≤ gb138) : w0.heap.size ≤ gb138))
     replace HK := q0 (KeepBut.trans (qh HK.out) (KeepBut.of_below hb g none) (.inl rfl))
     have NB113_138 := nl BK113 hg
     have NB138_113 := ng BK113 hg
     replace BK113 := kd BK113 hb
     have NB114_138 := nl BK114 hg
     have NB138_114 := ng BK114 hg
     replace BK114 := kd BK114 hb
     have NB0_138 := q0 ((by rw [hg]; exact Nat.ne_of_lt (IsSRd.lt (show IsSRd w0 _ g s0_0 x101_2 from qi HI0.out)) : g ≠ gb138))
     have NB138_0 := q0 ((by rw [hg]; exact Nat.ne_of_gt (IsSRd.lt (show IsSRd w0 _ g s0_0 x101_2 from qi HI0.out)) : gb138 ≠ g))
     replace HI0 := q0 (IsSRd.below (qi HI0.out) hb)
     clear hb hbox hg
     refine hK.out _ _ ⟨bca BK114, bcb BK114⟩ (fun hHeld => ?_)
     clear hK K
     refine nu 7 ?_
     refine one_ (i := 4) (N := some 72) (ba 16 8447) rfl rfl (one_of HT_.out (by kernel_rfl)) (by decide) (fun K hK => ?_)
     refine goes_ Tryd.func38 (by kernel_rfl) rfl #[.pointer (some ⟨g, 0, none⟩), .int .i64 x102000_2] (by rfl) rfl rfl qm ?_
     with_reducible refine (spec_l6Rd_pick.calls kj50 g s0_0 x101_2 x102000_2 t104 t129 w0 _ ?side1 ?side2 A57.out).mono ?_
     (case side1 => exact qi HI0.out)
     (case side2 => exact qj HB.out HI0.out)
     rintro e w64 ⟨rfl, hi, hb, hk⟩
     refine ⟨_, rfl, ?_⟩
     replace HO_102001 := q0 (Kd.R_mono (Kd.R_keep (IsSRd.apart (show IsSRd w0 _ g s0_0 x101_2 from qi HI0.out) (qr HO_102001.out) (by decide)) hk (fun _ h => h.2)) (fun _ h => h.1))
     replace BK113 := q0 (kc hk BK113.out NB113_0.out)
     replace BK114 := q0 (kc hk BK114.out NB114_0.out)
     replace BK138 := q0 (kc hk BK138.out NB138_0.out)
     replace HK := q0 (KeepBut.trans (qh HK.out) hk (.inl rfl))
     replace HB := q0 (hb)
     replace HI0 := q0 (hi)
     (try clear hb)
     (try clear hb2)
     (try clear hk)
     (try clear hi)
     refine hK.out _ _ ⟨bca BK114, bcb BK114⟩ (fun hHeld => ?_)
     clear hK K
     refine nu 72 ?_
     refine one_ (i := 8) (N := some 76) (ba 16 8703) rfl rfl (one_of HT_.out (by kernel_rfl)) (by decide) (fun K hK => ?_)
     refine goes_ Tryd.func38 (by kernel_rfl) rfl #[.pointer (some ⟨g, 0, none⟩), .int .i64 x102000_2] (by rfl) rfl rfl qm ?_
     with_reducible refine (spec_l6Rd_pick.calls kj50 g s0_0 t129 x102000_2 t105 t131 w0 _ ?side1 ?side2 A58.out).mono ?_
     (case side1 => exact qi HI0.out)
     (case side2 => exact qj HB.out HI0.out)
     rintro e w65 ⟨rfl, hi, hb, hk⟩
     refine ⟨_, rfl, ?_⟩
     replace HO_102001 := q0 (Kd.R_mono (Kd.R_keep (IsSRd.apart (show IsSRd w0 _ g s0_0 t129 from qi HI0.out) (qr HO_102001.out) (by decide)) hk (fun _ h => h.2)) (fun _ h => h.1))
     replace BK113 := q0 (kc hk BK113.out NB113_0.out)
     replace BK114 := q0 (kc hk BK114.out NB114_0.out)
     replace BK138 := q0 (kc hk BK138.out NB138_0.out)
     replace HK := q0 (KeepBut.trans (qh HK.out) hk (.inl rfl))
     replace HB := q0 (hb)
     replace HI0 := q0 (hi)
     (try clear hb)
     (try clear hb2)
     (try clear hk)
     (try clear hi)
     refine hK.out _ _ ⟨bca BK114, bcb BK114⟩ (fun hHeld => ?_)
     clear hK K
     refine nu 76 ?_
     refine one_ (i := 9) (N := some 77) (ba 16 9215) rfl rfl (one_of HT_.out (by kernel_rfl)) (by decide) (fun K hK => ?_)
     refine goes_ Tryd.func50 (by kernel_rfl) rfl #[.agg #[.int .i64 x102000_2, .slice Ao61 x102001_2.length co61], .int .i64 t104, .int .i64 t105] (by rfl) rfl rfl qm ?_
     with_reducible refine (spec_NetAdd.calls kj50 x102000_2 _ _ x102001_2 t104 t105 t106 t133 true _ ?side1 ?side2 A59.out).mono ?_
     (case side1 => exact qc (Kd.R_reads' HO_102001.out).2.2)
     (case side2 => exact (Kd.R_reads' HO_102001.out).2.1)
     rintro e w66 ⟨v136, rfl, ho0, hb⟩
     refine ⟨_, rfl, ?_⟩
     have HO137 := q0 (Kd.R_lower (Kd.R_new' ho0 (Kd.R_lt (qr HO_102001.out))) (keep_size (w := w) (g := g) (row := none) (qh HK.out)))
     replace HO_102001 := q0 (Kd.R_elder' (qr HO_102001.out) (Kd.R_base ho0) hb)
     replace BK113 := kd BK113 hb
     replace BK114 := kd BK114 hb
     replace BK138 := kd BK138 hb
     replace HK := q0 (KeepBut.trans (qh HK.out) (KeepBut.of_below hb g none) (.inl rfl))
     replace HB := q0 (below_step (qj HB.out HI0.out) hb)
     replace HI0 := q0 (IsSRd.below (qi HI0.out) hb)
     (try clear hb)
     (try clear hb2)
     (try clear hk)
     (try clear hi)
     (try clear ho0)
     refine hK.out _ _ ⟨bca BK114, bcb BK114⟩ (fun hHeld => ?_)
     clear hK K
     refine nu 77 ?_
     refine pU 10 67 16 10239 HT_ ?_
     refine pU 11 78 16 12287 HT_ ?_
     refine pU 12 79 16 16383 HT_ ?_
     exact norm_ (by simp only [putAll, Act.put, List.setIfInBounds_toArray, List.set_cons_zero, List.set_cons_succ]) (hCont (v136, gb138) _ ⟨hHeld, (by (with_reducible repeat (first | apply Kd.R_alloc | apply Kd.R_drewN | apply Kd.R_drew)); exact Kd.R_mono HO137.out (fun _ hk => hk.2)), (by (with_reducible repeat (first | apply Kd.R_alloc | apply Kd.R_drewN | apply Kd.R_drew)); exact Kd.R_mono HO_102001.out (fun _ hk => hk.2)), (qk BK113.out), (qk BK114.out), (qk BK138.out), GW138.out, GE138.out, NB0_138.out, NB138_0.out, NB113_138.out, NB138_113.out, NB114_138.out, NB138_114.out, (qi HI0.out), (qh HK.out), (qj HB.out HI0.out)⟩)
 rintro ⟨v136, gb138⟩ w67 ⟨hS_, h0_, h1_, h2_, h3_, h4_, h5_, h6_, h7_, h8_, h9_, h10_, h11_, h12_, h13_, h14_, h15_⟩
 have n0_ : Aside0 (Kd.R kTie 47 w67 w.heap.size (fun k_ => some k_ ≠ (.slice Ao61 x102001_2.length co61 : Value).ownBlock) v136 t133) := ⟨h0_⟩
 have n1_ : Aside0 (Kd.R kTie 47 w67 w.heap.size (fun k_ => some k_ ≠ (v136 : Value).ownBlock) (.slice Ao61 x102001_2.length co61) x102001_2) := ⟨h1_⟩
 have n2_ : Aside0 (w67.heap[gb113]? = some (.cells #[.int .i64 0, .slice none 0 0] 24 (0, 0))) := ⟨h2_⟩
 have n3_ : Aside0 (w67.heap[gb114]? = some (.cells #[.int .i64 x102000_2, .slice Ao61 x102001_2.length co61] 24 (0, 0))) := ⟨h3_⟩
 have n4_ : Aside0 (w67.heap[gb138]? = some (.cells #[.int .i64 0, .slice none 0 0] 24 (0, 0))) := ⟨h4_⟩
 have n5_ : Aside0 (w.heap.size ≤ gb138) := ⟨h5_⟩
 have n6_ : Aside0 (w0.heap.size ≤ gb138) := ⟨h6_⟩
 have n7_ : Aside0 (g ≠ gb138) := ⟨h7_⟩
 have n8_ : Aside0 (gb138 ≠ g) := ⟨h8_⟩
 have n9_ : Aside0 (gb113 ≠ gb138) := ⟨h9_⟩
 have n10_ : Aside0 (gb138 ≠ gb113) := ⟨h10_⟩
 have n11_ : Aside0 (gb114 ≠ gb138) := ⟨h11_⟩
 have n12_ : Aside0 (gb138 ≠ gb114) := ⟨h12_⟩
 have n13_ : Aside0 (IsSRd w0 w67 g s0_0 t131) := ⟨h13_⟩
 have n14_ : Aside0 (KeepBut w w67 g none) := ⟨h14_⟩
 have n15_ : Aside0 (Below w0.heap.size w0 w67) := ⟨h15_⟩
 clear HO_102001
 clear BK113
 clear BK114
 clear HI0
 clear HK
 clear HB
 clear h0_ h1_ h2_ h3_ h4_ h5_ h6_ h7_ h8_ h9_ h10_ h11_ h12_ h13_ h14_ h15_
 have HO137 := n0_
 have HO_102001 := n1_
 have BK113 := n2_
 have BK114 := n3_
 have BK138 := n4_
 have GW138 := n5_
 have GE138 := n6_
 have NB0_138 := n7_
 have NB138_0 := n8_
 have NB113_138 := n9_
 have NB138_113 := n10_
 have NB114_138 := n11_
 have NB138_114 := n12_
 have HI0 := n13_
 have HK := n14_
 have HB := n15_
 clear n0_ n1_ n2_ n3_ n4_ n5_ n6_ n7_ n8_ n9_ n10_ n11_ n12_ n13_ n14_ n15_
 have hHeld : w67.cell? ⟨gb114, 0, none⟩ = some (.int .i64 x102000_2) ∧ w67.cell? ⟨gb114, 1, none⟩ = some (.slice Ao61 x102001_2.length co61) := hS_
 obtain ⟨Ao69, co69, eo69⟩ := Kd.R_slice HO137.out
 (first | subst eo69 | (injection eo69 with f1_ f2_ f3_; have f4_ := f1_.symm; have f5_ := f3_.symm; clear f1_ f2_ f3_; subst f4_; subst f5_))
 refine norm_ (a' := ?_) ?_ ?_
 rotate_left
 · simp only [putAll, Act.put, List.setIfInBounds_toArray, List.set_cons_zero, List.set_cons_succ]
   rfl
 refine one_ (i := 14) (N := none) (ba 16 32767) rfl rfl (one_of HT_.out (by kernel_rfl)) (by decide) (fun K hK => ?_)
 have hs68 : w67.cell? ⟨gb138, 0, none⟩ = some (.int .i64 0) := (blk_cell BK138.out 0).trans rfl
 have hfs68 := blk_frozen BK138.out 0
 have hns68_0 := NB113_138.out
 have hns68_1 := NB114_138.out
 have hms68_0 := NB138_113.out
 have hms68_1 := NB138_114.out
 have hs70 : w67.cell? ⟨gb138, 1, none⟩ = some (.slice none 0 0) := (blk_cell BK138.out 1).trans rfl
 have hfs70 := blk_frozen BK138.out 1
 have hns70_0 := NB113_138.out
 have hns70_1 := NB114_138.out
 have hms70_0 := NB138_113.out
 have hms70_1 := NB138_114.out
 refine skip_ (w1 := ?_) (by rfl) rfl ?_ ?_
 rotate_left
 · go_simp
   rfl
 refine hK.out _ _ ⟨((cell_far (p := ⟨gb138, _, none⟩) NB114_138.out _).trans (((cell_far (p := ⟨gb138, _, none⟩) NB114_138.out _).trans (hHeld.1)))), ((cell_far (p := ⟨gb138, _, none⟩) NB114_138.out _).trans (((cell_far (p := ⟨gb138, _, none⟩) NB114_138.out _).trans (hHeld.2))))⟩ (fun hHeld => ?_)
 clear hK K
 refine pU 15 8 16 65535 HT_ ?_
 refine done_ (done_of HT_.out (by kernel_rfl)) ?_
 have hnb71 := NB138_113.out
 have hnc71 := NB113_138.out
 have hnb72 := NB138_114.out
 have hnc72 := NB114_138.out
 have hnb73 := NB138_0.out
 have hnc73 := NB0_138.out
 obtain ⟨hcz74_0, hcz74_1, hfz74_0, hfz74_1⟩ := b2 BK138
 have hnb75 := NB114_113.out
 have hnc75 := NB113_114.out
 have hnb76 := NB114_0.out
 have hnc76 := NB0_114.out
 obtain ⟨hcz77_0, hcz77_1, hfz77_0, hfz77_1⟩ := b2 BK114
 try go_wp2
 go_roundg kj50
 case measure => have := HJ3.out; have := HK2.out; have := HJ50.out; omega
 case rel => exact ⟨(wrap64 (x6_2 - 1)), (t131), (t106), (t133), (.slice Ao69 t133.length co69), qs, H', ⟨by have := HJ3.out; have := HK2.out; have := HJ50.out; omega⟩, ⟨by (with_reducible repeat (first | apply Kd.R_alloc | apply Kd.R_drewN | apply Kd.R_drew)); exact Kd.R_mono (Kd.R_far (p := ⟨gb114, 1, none⟩) (Kd.R_far (p := ⟨gb114, 0, none⟩) (Kd.R_far (p := ⟨gb138, 1, none⟩) (Kd.R_far (p := ⟨gb138, 0, none⟩) (Kd.R_types (Kd.R_types HO137.out BK138.out (by decide)) BK114.out (by decide)) (fun _ hk => hk.1.2) (.int .i64 t106)) (fun _ hk => hk.1.2) (.slice Ao69 t133.length co69)) (fun _ hk => hk.2) (.int .i64 t106)) (fun _ hk => hk.2) (.slice Ao69 t133.length co69)) (fun _ hk => trivial)⟩, ⟨qf BK113.out⟩, ⟨by (with_reducible repeat (first | refine blk_drewN ?_ _ | refine blk_drew ?_ | refine blk_alloc ?_ _)); refine blk_put (cs := #[.int .i64 t106, .slice Ao61 x102001_2.length co61]) ?_ 1 _ rfl; (with_reducible repeat (first | refine blk_drewN ?_ _ | refine blk_drew ?_ | refine blk_alloc ?_ _)); refine blk_put (cs := #[.int .i64 x102000_2, .slice Ao61 x102001_2.length co61]) ?_ 0 _ rfl; (with_reducible repeat (first | refine blk_drewN ?_ _ | refine blk_drew ?_ | refine blk_alloc ?_ _)); refine blk_far ?_ NB114_138.out _; (with_reducible repeat (first | refine blk_drewN ?_ _ | refine blk_drew ?_ | refine blk_alloc ?_ _)); refine blk_far ?_ NB114_138.out _; (with_reducible repeat (first | refine blk_drewN ?_ _ | refine blk_drew ?_ | refine blk_alloc ?_ _)); exact BK114.out⟩, ⟨qi HI0.out⟩, ⟨qh HK.out⟩, ⟨qj HB.out HI0.out⟩⟩

set_option maxHeartbeats 8000000 in
set_option maxRecDepth 100000 in
theorem spec_l6Open.calls (A0 : Option Addr) (c0 : Nat) (l0 : List Int) (r1 : List Int) (r2 : Int) (w0 w : World) (hB : Below w0.heap.size w0 w) (hr0 : Kd.C (Kd.int .u8) w0 A0 l0.length l0) (hc0 : l0.length ≤ c0) (h : spec_l6Open.f l0 = some (r1, r2)) :
    Calls Tryd.prog 30 #[.slice A0 l0.length c0] w fun e w' => ∃ g_ : Nat, e = .returned (.pointer (some ⟨g_, 0, none⟩)) ∧ IsSRd w0 w' g_ r1 r2 ∧ Below w0.heap.size w0 w' ∧ Below w.heap.size w w' := by
 have hu71 := Tryd.underlying71
 have HR0 := q0 hr0
 have HC0 := q0 hc0
 clear hr0 hc0
 have HBW := q0 (Below.refl w.heap.size w)
 have HW0 := q0 hB.size
 have HB := q0 hB
 clear hB
 have H : (if (l0.length : Int) > 2000 then (if 2000 ≤ (l0.length : Int) then (some (l0.take 2000, 0)) else (none)) else (some (l0, 0))) = some (r1, r2) := h
 clear h
 by_cases c2 : (l0.length : Int) > 2000
 rotate_left
 · rw [if_neg c2] at H
   have c2b0 := decide_eq_false c2
   have c2b1 : decide (2000 < l0.length) = false := decide_eq_false (by omega)
   clear c2
   simp only [Option.some.injEq, Prod.mk.injEq] at H
   obtain ⟨rfl, rfl⟩ := H
   go_enter Tryd.func30, Tryd.ntmps30
   go_wp2_with (first | ((with_reducible refine gd 10 ?_); refine be 10 #[.slice A0 l0.length c0, .int .i64 0] 71 ?_; intro gb102 hg w6 hbox hb; replace HB := bp HB hb; have BK102 := q0 (hbox); have GW102 := q0 ((by rw [hg]; exact (below_size (by repeat (first | (with_reducible first | exact HBW.out | apply below_alloc | apply pw_below_drewN | apply below_drew1) | exact HBW.out))) : w.heap.size ≤ gb102)); have GE102 := q0 ((Nat.le_trans HW0.out (by rw [hg]; exact (below_size (by repeat (first | (with_reducible first | exact HBW.out | apply below_alloc | apply pw_below_drewN | apply below_drew1) | exact HBW.out))) : w.heap.size ≤ gb102) : w0.heap.size ≤ gb102)); replace HBW := q0 (below_step HBW.out hb); clear hb hbox hg))
   go_ret
   exact ⟨_, rfl, (show IsSRd w0 _ gb102 l0 0 from ⟨_, _, qk BK102.out, GE102.out, HR0.out⟩), qb HB.out, by repeat (first | (with_reducible first | exact HBW.out | apply below_alloc | apply pw_below_drewN | apply below_drew1 | refine below_set ?_ GW102.out) | exact HBW.out)⟩
 rw [if_pos c2] at H
 have c2b0 := decide_eq_true c2
 have c2b1 : decide (2000 < l0.length) = true := decide_eq_true (by omega)
 clear c2
 obtain ⟨c3, H⟩ : (2000 ≤ (l0.length : Int)) ∧ _ := og H
 have c3b0 := eq_true c3
 have c3b1 := decide_eq_true c3
 clear c3
 simp only [Option.some.injEq, Prod.mk.injEq] at H
 obtain ⟨rfl, rfl⟩ := H
 obtain ⟨i04, hi04, _, hsz4, _⟩ := info_parts info5
 obtain ⟨hcut4, hA4, hC4⟩ := print_take_of (P := Tryd.prog) (Value.int .u8) 0 30 5 .i64 Tryd.underlying30 hi04 hsz4 A0 c0 l0 2000 (by omega) (of_decide_eq_true qa) HC0.out
 have HR100 := q0 (Kd.C_of_reads (h1 := fun _ => rfl) (hA4 _ (Kd.reads_of_C HR0.out)))
 have HC100 := q0 hC4
 clear hA4 hC4 hi04 hsz4
 go_enter Tryd.func30, Tryd.ntmps30
 go_wp2_with (first | ((with_reducible refine gd 10 ?_); refine be 10 #[.slice A0 (l0.take 2000).length c0, .int .i64 0] 71 ?_; intro gb101 hg w5 hbox hb; replace HB := bp HB hb; have BK101 := q0 (hbox); have GW101 := q0 ((by rw [hg]; exact (below_size (by repeat (first | (with_reducible first | exact HBW.out | apply below_alloc | apply pw_below_drewN | apply below_drew1) | exact HBW.out))) : w.heap.size ≤ gb101)); have GE101 := q0 ((Nat.le_trans HW0.out (by rw [hg]; exact (below_size (by repeat (first | (with_reducible first | exact HBW.out | apply below_alloc | apply pw_below_drewN | apply below_drew1) | exact HBW.out))) : w.heap.size ≤ gb101) : w0.heap.size ≤ gb101)); replace HBW := q0 (below_step HBW.out hb); clear hb hbox hg))
 go_ret
 exact ⟨_, rfl, (show IsSRd w0 _ gb101 (l0.take 2000) 0 from ⟨_, _, qk BK101.out, GE101.out, HR100.out⟩), qb HB.out, by repeat (first | (with_reducible first | exact HBW.out | apply below_alloc | apply pw_below_drewN | apply below_drew1 | refine below_set ?_ GW101.out) | exact HBW.out)⟩

attribute [local go_sem high] eqATie
set_option maxHeartbeats 8000000 in
set_option maxRecDepth 100000 in
theorem laws_loTies.calls (k : Nat) (A0 : Option Addr) (c0 : Nat) (l0 : List (STie)) (A1 : Option Addr) (c1 : Nat) (l1 : List (STie)) (r : Bool) (w : World) (hr0 : Kd.C kTie w A0 l0.length l0) (hc0 : l0.length ≤ c0) (hr1 : Kd.C kTie w A1 l1.length l1) (hc1 : l1.length ≤ c1) (h : laws_loTies.f k l0 l1 = some r) :
    Calls Tryd.prog 36 #[.slice A0 l0.length c0, .slice A1 l1.length c1] w fun e w' => e = .returned (.bool r) ∧ Drawn0 w w' := by
 have hu47 := Tryd.underlying47
 have HR0 := q0 hr0
 have HC0 := q0 hc0
 clear hr0 hc0
 have HR1 := q0 hr1
 have HC1 := q0 hc1
 clear hr1 hc1
 have H : (if (l0.length : Int) = (l1.length : Int) then (laws_loTies.l0 k l0 l1 0) else (some false)) = some r := h
 clear h
 by_cases c3 : (l0.length : Int) = (l1.length : Int)
 rotate_left
 · rw [if_neg c3] at H
   have c3b0 : ((l0.length : Int) == (l1.length : Int)) = false := beq_eq_false_iff_ne.mpr c3
   have c3b1 : ((l0.length : Int) != (l1.length : Int)) = true := bne_iff_ne.mpr c3
   have c3b2 : (l0.length == l1.length) = false := by first | simpa using c3 | (simp at c3 ⊢; omega)
   obtain rfl := Option.some.inj H
   go_enter Tryd.func36, Tryd.ntmps36
   go_wp2
   repeat (go_quiet (fail); try go_wp2)
   go_ret
   exact ⟨by first | rfl | (simp; done) | (simp [*]; done), by repeat (first | exact Drawn0.refl _ | apply Drawn0.step)⟩
 rw [if_pos c3] at H
 have c3b0 : ((l0.length : Int) == (l1.length : Int)) = true := beq_iff_eq.mpr c3
 have c3b1 : ((l0.length : Int) != (l1.length : Int)) = false := bne_eq_false_iff_eq.mpr c3
 have c3b2 : (l0.length == l1.length) = true := by first | simpa using c3 | (simp at c3 ⊢; omega)
 clear c3
 have H' := q0 H
 clear H
 go_enter Tryd.func36, Tryd.ntmps36
 go_wp2
 repeat (go_quiet (fail); try go_wp2)
 go_loopg [5] k (fun kq v5 w' => ∃ (x5_1 : Int), v5 = .int .i64 x5_1 ∧ Aside0 (laws_loTies.l0 kq l0 l1 x5_1 = some r) ∧ Aside0 (kq ≤ k) ∧ Drawn0 w w')
 case atStart => exact ⟨(0), qs, H', ⟨Nat.le_refl _⟩, by repeat (first | exact Drawn0.refl _ | apply Drawn0.step)⟩
 clear H'
 try clear c1
 try clear p2
 try clear c3
 try clear c3b0
 try clear c3b1
 try clear c3b2
 obtain ⟨x5_1, rfl, HA, HK1, ⟨m1, rfl⟩⟩ := hrel
 rcases gk with _ | k1
 · exact absurd HA.out (by simp [laws_loTies.l0])
 have H := HA.out
 clear HA
 simp only [laws_loTies.l0] at H
 by_cases c4 : x5_1 < (l0.length : Int)
 rotate_left
 · rw [if_neg c4] at H
   have c4b0 := decide_eq_false c4
   clear c4
   obtain rfl := Option.some.inj H
   go_wp2
   repeat (go_quiet (fail); try go_wp2)
   go_ret
   exact ⟨by first | rfl | (simp; done) | (simp [*]; done), by repeat (first | exact Drawn0.refl _ | apply Drawn0.step)⟩
 rw [if_pos c4] at H
 have c4b0 := decide_eq_true c4
 clear c4
 obtain ⟨c5, H⟩ : (0 ≤ x5_1) ∧ _ := og H
 have c5b0 := decide_eq_true c5
 clear c5
 obtain ⟨c6, H⟩ : (x5_1 < (l1.length : Int)) ∧ _ := og H
 have c6b0 := decide_eq_true c6
 clear c6
 by_cases c7 : (!(((rd_TTie l0 x5_1).f0) == ((rd_TTie l1 x5_1).f0)) || (!(((rd_TTie l0 x5_1).f1) == ((rd_TTie l1 x5_1).f1)))) = true
 · rw [if_pos c7] at H
   have c7b0 : (!(((rd_TTie l0 x5_1).f0) == ((rd_TTie l1 x5_1).f0)) || (!(((rd_TTie l0 x5_1).f1) == ((rd_TTie l1 x5_1).f1)))) = true := c7
   clear c7
   obtain rfl := Option.some.inj H
   have p100 : 0 ≤ (x5_1 : Int) := of_decide_eq_true qa
   have q100 : x5_1 < (l0.length : Int) := of_decide_eq_true qa
   obtain ⟨ad100, e100, hx100_0, hx100_1⟩ := at_TTie HR0.out x5_1 p100 q100
   cases e100
   replace p100 := eq_true p100
   replace q100 := eq_true q100
   have p101 : 0 ≤ (x5_1 : Int) := of_decide_eq_true qa
   have q101 : x5_1 < (l1.length : Int) := of_decide_eq_true qa
   obtain ⟨ad101, e101, hx101_0, hx101_1⟩ := at_TTie HR1.out x5_1 p101 q101
   cases e101
   replace p101 := eq_true p101
   replace q101 := eq_true q101
   go_wp2
   repeat (go_quiet (fail); try go_wp2)
   go_ret
   exact ⟨by first | rfl | (simp; done) | (simp [*]; done), by repeat (first | exact Drawn0.refl _ | apply Drawn0.step)⟩
 rw [if_neg c7] at H
 have c7b0 : (!(((rd_TTie l0 x5_1).f0) == ((rd_TTie l1 x5_1).f0)) || (!(((rd_TTie l0 x5_1).f1) == ((rd_TTie l1 x5_1).f1)))) = false := by simpa using c7
 clear c7
 have H' := q0 H
 clear H
 have p100 : 0 ≤ (x5_1 : Int) := of_decide_eq_true qa
 have q100 : x5_1 < (l0.length : Int) := of_decide_eq_true qa
 obtain ⟨ad100, e100, hx100_0, hx100_1⟩ := at_TTie HR0.out x5_1 p100 q100
 cases e100
 replace p100 := eq_true p100
 replace q100 := eq_true q100
 have p101 : 0 ≤ (x5_1 : Int) := of_decide_eq_true qa
 have q101 : x5_1 < (l1.length : Int) := of_decide_eq_true qa
 obtain ⟨ad101, e101, hx101_0, hx101_1⟩ := at_TTie HR1.out x5_1 p101 q101
 cases e101
 replace p101 := eq_true p101
 replace q101 := eq_true q101
 go_wp2
 repeat (go_quiet (fail); try go_wp2)
 go_roundg k1
 case measure => have := HK1.out; omega
 case rel => exact ⟨(wrap64 (x5_1 + 1)), qs, H', ⟨by have := HK1.out; omega⟩, by repeat (first | exact Drawn0.refl _ | apply Drawn0.step)⟩

set_option maxHeartbeats 8000000 in
set_option maxRecDepth 100000 in
theorem laws_loNet.calls (k : Nat) (a0_0 : Int) (A0_1 : Option Addr) (c0_1 : Nat) (l0_1 : List (STie)) (a1_0 : Int) (A1_1 : Option Addr) (c1_1 : Nat) (l1_1 : List (STie)) (r : Bool) (w : World) (hr0_1 : Kd.C kTie w A0_1 l0_1.length l0_1) (hc0_1 : l0_1.length ≤ c0_1) (hr1_1 : Kd.C kTie w A1_1 l1_1.length l1_1) (hc1_1 : l1_1.length ≤ c1_1) (h : laws_loNet.f k a0_0 l0_1 a1_0 l1_1 = some r) :
    Calls Tryd.prog 18 #[.agg #[.int .i64 a0_0, .slice A0_1 l0_1.length c0_1], .agg #[.int .i64 a1_0, .slice A1_1 l1_1.length c1_1]] w fun e w' => e = .returned (.bool r) ∧ Below w.heap.size w w' := by
 have hu24 := Tryd.underlying24
 have HR0_1 := q0 hr0_1
 have HC0_1 := q0 hc0_1
 clear hr0_1 hc0_1
 have HR1_1 := q0 hr1_1
 have HC1_1 := q0 hc1_1
 clear hr1_1 hc1_1
 have HB := q0 (Below.refl w.heap.size w)
 have H : (if a0_0 = a1_0 then ((laws_loTies.f k l0_1 l1_1).bind fun t100 => (some t100)) else (some false)) = some r := h
 clear h
 by_cases c3 : a0_0 = a1_0
 rotate_left
 · rw [if_neg c3] at H
   have c3b0 : (a0_0 == a1_0) = false := beq_eq_false_iff_ne.mpr c3
   have c3b1 : (a0_0 != a1_0) = true := bne_iff_ne.mpr c3
   obtain rfl := Option.some.inj H
   go_enter Tryd.func18, Tryd.ntmps18
   go_wp2_with (first | ((with_reducible refine gd 2 ?_); refine be 2 #[.int .i64 a0_0, .slice A0_1 l0_1.length c0_1] 24 ?_; intro gb101 hg w10 hbox hb; have BK101 := q0 (hbox); have GW101 := gw HB hg; have GE101 := gw HB hg; replace HB := bp HB hb; clear hb hbox hg) | ((with_reducible refine gd 3 ?_); refine be 3 #[.int .i64 a1_0, .slice A1_1 l1_1.length c1_1] 24 ?_; intro gb102 hg w11 hbox hb; have BK102 := q0 (hbox); have GW102 := gw HB hg; have GE102 := gw HB hg; replace HB := bp HB hb; have NB101_102 := nl BK101 hg; have NB102_101 := ng BK101 hg; replace BK101 := kd BK101 hb; clear hb hbox hg; have hnb12 := NB101_102.out; have hnc12 := NB102_101.out; obtain ⟨hcz13_0, hcz13_1, hfz13_0, hfz13_1⟩ := b2 BK101; obtain ⟨hcz14_0, hcz14_1, hfz14_0, hfz14_1⟩ := b2 BK102))
   go_ret
   exact ⟨qe, qb HB.out⟩
 rw [if_pos c3] at H
 have c3b0 : (a0_0 == a1_0) = true := beq_iff_eq.mpr c3
 have c3b1 : (a0_0 != a1_0) = false := bne_eq_false_iff_eq.mpr c3
 clear c3
 obtain ⟨t100, A4, H⟩ := ob H
 obtain rfl := Option.some.inj H
 go_enter Tryd.func18, Tryd.ntmps18
 go_wp2_with (first | ((with_reducible refine gd 2 ?_); refine be 2 #[.int .i64 a0_0, .slice A0_1 l0_1.length c0_1] 24 ?_; intro gb101 hg w5 hbox hb; have BK101 := q0 (hbox); have GW101 := gw HB hg; have GE101 := gw HB hg; replace HB := bp HB hb; clear hb hbox hg) | ((with_reducible refine gd 3 ?_); refine be 3 #[.int .i64 a1_0, .slice A1_1 l1_1.length c1_1] 24 ?_; intro gb102 hg w6 hbox hb; have BK102 := q0 (hbox); have GW102 := gw HB hg; have GE102 := gw HB hg; replace HB := bp HB hb; have NB101_102 := nl BK101 hg; have NB102_101 := ng BK101 hg; replace BK101 := kd BK101 hb; clear hb hbox hg; have hnb7 := NB101_102.out; have hnc7 := NB102_101.out; obtain ⟨hcz8_0, hcz8_1, hfz8_0, hfz8_1⟩ := b2 BK101; obtain ⟨hcz9_0, hcz9_1, hfz9_0, hfz9_1⟩ := b2 BK102) | (go_at_call 36; (with_reducible refine (laws_loTies.calls k _ _ l0_1 _ _ l1_1 t100 _ ?side1 ?side2 ?side3 ?side4 A4.out).mono ?_); (case side1 => exact qc (Kd.C_below HR0_1.out HB.out)); (case side2 => exact HC0_1.out); (case side3 => exact qc (Kd.C_below HR1_1.out HB.out)); (case side4 => exact HC1_1.out); rintro e w' ⟨rfl, ⟨nd, rfl⟩⟩))
 go_ret
 exact ⟨qe, qb HB.out⟩

end Go.Proofs.YtloonheabfdgbaaDoor.P
