import Derived.Test.YthaihdfkjhammaaP0
import Derived.Test.YthaihdfkjhammaaP1
import Derived.Test.YthaihdfkjhammaaP2
import Derived.Test.YthaihdfkjhammaaP7
import Derived.Test.YthaihdfkjhammaaP8
import Derived.Test.YthaihdfkjhammaaP11
namespace Go.Proofs.Ythaihdfkjhammaa.P
open Go.RowKit Go.Proofs.YthaihdfkjhammaaW.PrintWords Go.Proofs.YthaihdfkjhammaaW.PrintLast Go.Proofs.YthaihdfkjhammaaW.PrintMore
attribute [local go_sem] max2_int min2_int max_two min_two max_three min_three max_four min_four
set_option linter.unusedVariables false
set_option linter.unusedSimpArgs false
attribute [local go_sem high] eqATie
def impl_WayReach.T8 : Bool × List (List Nat × List Nat) := (true, [([], []), ([], []), ([], []), ([1, 2], [1, 2]), ([3], [3]), ([], []), ([], []), ([5, 6], [5, 6]), ([7], [7]), ([4, 8], [4, 8]), ([9], [9]), ([0, 10], [0, 10]), ([11, 11, 0, 1, 2, 3, 4, 5, 6, 7, 8, 9, 10, 11], [0, 11])])
def impl_WayReach.B8 : List Nat := [0, 0, 0, 6, 14, 0, 0, 96, 224, 510, 1022, 2047, 4095]
theorem impl_WayReach.tab8 : rtab .any (opsOf Try.f38 8) = impl_WayReach.T8 := by kernel_rfl
theorem impl_WayReach.bits8 : waitsOk impl_WayReach.T8.2 impl_WayReach.B8 = true := by kernel_rfl
set_option maxHeartbeats 8000000 in
set_option maxRecDepth 100000 in
theorem impl_WayReach.calls (k : Nat) (a0_0 : Int) (A0_1 : Option Addr) (c0_1 : Nat) (l0_1 : List (STie)) (a1 : Int) (r : List Bool) (w : World) (hr0_1 : Kd.C kTie w A0_1 l0_1.length l0_1) (hc0_1 : l0_1.length ≤ c0_1) (h : impl_WayReach.f k a0_0 l0_1 a1 = some r) :
    Calls Try.prog 38 #[.agg #[.int .i64 a0_0, .slice A0_1 l0_1.length c0_1], .int .i64 a1] w fun e w' => ∃ v0_ : Value, e = .returned (v0_) ∧ Kd.R Kd.bool 4 w' w.heap.size (fun _ => True) v0_ r ∧ Below w.heap.size w w' := by
 have hu30 := Try.underlying30
 have HR0_1 := Aside0.mk hr0_1
 have HC0_1 := Aside0.mk hc0_1
 clear hr0_1 hc0_1
 have HB := q0 (Below.refl w.heap.size w)
 have H : ((some (([] : List Bool) : List Bool)).bind fun y100 => ((impl_NetOk.f k a0_0 l0_1).bind fun t102 => (if t102 = true then ((impl_Net_knot.f a0_0 l0_1 a1).bind fun t103 => (impl_WayReach.j0 k a1 y100 (!t103) a0_0 l0_1)) else (impl_WayReach.j0 k a1 y100 true a0_0 l0_1)))) = some r := h
 clear h
 obtain ⟨y100, hy100⟩ : ∃ y_ : List Bool, y_ = (([] : List Bool)) := ⟨_, rfl⟩
 replace H : ((impl_NetOk.f k a0_0 l0_1).bind fun t102 => (if t102 = true then ((impl_Net_knot.f a0_0 l0_1 a1).bind fun t103 => (impl_WayReach.j0 k a1 y100 (!t103) a0_0 l0_1)) else (impl_WayReach.j0 k a1 y100 true a0_0 l0_1))) = some r := by first | (rw [hy100]; with_reducible exact H) | (have H2_ := (Option.bind_some _ _).symm.trans H; rw [hy100]; with_reducible exact H2_) | (have H2_ := (Option.bind_some _ _).symm.trans H; with_reducible exact H2_) | with_reducible exact H | (rw [hy100]; exact H) | exact H
 have Ny100 := Aside0.mk hy100
 clear hy100
 have HC3 := Aside0.mk H
 clear H
 go_enter Try.func38, Try.ntmps38
 go_upto_region 2 with (first | ((with_reducible refine gate_dst (N := 2) rfl ?_); refine be 2 #[.int .i64 a0_0, .slice A0_1 l0_1.length c0_1] 30 ?_; intro gb104 hg w4 hbox hb; have n0_ := q0 (below_step (qb HB.out) hb); have n1_ := q0 (hbox); have n2_ := q0 ((bs HB.out hg : w.heap.size ≤ gb104)); have n3_ := q0 ((bs HB.out hg : w.heap.size ≤ gb104)); clear HB; have HB := n0_; have BK104 := n1_; have GW104 := n2_; have GE104 := n3_; clear n0_ n1_ n2_ n3_ hb hbox hg) | ((with_reducible refine gate_dst (N := 8) rfl ?_); refine Kd.R_lit Kd.bool _ 4 ?hg (N := 8) ?hd (xs := ([] : List Bool)) (inner := []) (ok := fun _ => True) (okp := fun _ => True) ?hr ?hp (fun _ hk => hk) trivial (Below.refl _ _) (Nat.le_refl _) (by simp) ?_; (case hd => rfl); (case hg => rfl); (case hr => first | (go_simp; done) | (go_simp; rfl)); (case hp => exact (Reps.none _ _)); intro v105 w5 ho6 hb hg_ hnew_; clear hg_ hnew_; (first | rw [← Ny100.out] at ho6 | (simp only [Int.reduceToNat] at ho6; rw [← Ny100.out] at ho6)); have n0_ := q0 (Kd.R_lower ho6 (below_size (qb HB.out))); have n1_ := q0 (kb BK104.out hb); have n2_ := q0 (below_step (qb HB.out) hb); clear BK104 HB; have HO106 := n0_; have BK104 := n1_; have HB := n2_; clear n0_ n1_ n2_ hb ho6))
 (try simp only [Act.put, List.setIfInBounds_toArray, List.set_cons_zero, List.set_cons_succ])
 go_cut [17] (fun v17 wc => ∃ (kq : Nat) (x17_2 : Bool), v17 = .bool x17_2 ∧ Aside0 (impl_WayReach.j0 kq a1 y100 x17_2 a0_0 l0_1 = some r) ∧ Aside0 (kq ≤ k) ∧ Aside0 (Kd.R Kd.bool 4 wc w.heap.size (fun _ => True) v105 y100) ∧ Aside0 (wc.heap[gb104]? = some (.cells #[.int .i64 a0_0, (.slice A0_1 l0_1.length c0_1)] 30 (0, 0))) ∧ Aside0 (Below w.heap.size w wc))
 case first =>
   have H := HC3.out
   clear HC3
   replace H := Option.bind_eq_some_iff.mp H
   obtain ⟨t102, A70, H⟩ := H
   replace H : (if t102 = true then ((impl_Net_knot.f a0_0 l0_1 a1).bind fun t103 => (impl_WayReach.j0 k a1 y100 (!t103) a0_0 l0_1)) else (impl_WayReach.j0 k a1 y100 true a0_0 l0_1)) = some r := H
   have A7 := Aside0.mk A70
   clear A70
   by_cases c8 : t102 = true
   rotate_left
   · replace c8 := Bool.eq_false_iff.mpr c8
     subst c8
     have H1 : (impl_WayReach.j0 k a1 y100 true a0_0 l0_1) = some r := by rw [if_neg (show ¬ (false = true) by decide)] at H; exact H
     clear H
     have H := H1
     clear H1
     have H' := Aside0.mk H
     clear H
     have hcz14_0 : w5.cell? ⟨gb104, 0, none⟩ = some (.int .i64 a0_0) := (blk_cell BK104.out 0).trans rfl
     have hcz14_1 : w5.cell? ⟨gb104, 1, none⟩ = some (.slice A0_1 l0_1.length c0_1) := (blk_cell BK104.out 1).trans rfl
     have hfz14_0 := blk_frozen BK104.out 0
     have hfz14_1 := blk_frozen BK104.out 1
     go_wp2_with (first | ((with_reducible refine gate_callee (f := 17) rfl ?_); refine goesL_ (some 10) rfl rfl Try.func17 (by kernel_rfl) rfl #[.agg #[.int .i64 a0_0, .slice A0_1 l0_1.length c0_1]] rfl qm ?_; (with_reducible refine (impl_NetOk.calls k a0_0 _ _ l0_1 false _ ?side1 ?side2 A7.out).mono ?_); (case side1 => exact qc (Kd.C_below HR0_1.out HB.out)); (case side2 => exact HC0_1.out); rintro e w15 ⟨rfl, hb⟩; refine ⟨_, rfl, ?_⟩; have n0_ := q0 (Kd.R_below (qr HO106.out) hb); have n1_ := q0 (kb BK104.out hb); have n2_ := q0 (below_step (qb HB.out) hb); clear HO106 BK104 HB; have HO106 := n0_; have BK104 := n1_; have HB := n2_; clear n0_ n1_ n2_; (try clear hb); (try clear hb2); (try clear hk); (try clear hi)))
     go_meet
     case rel => exact ⟨_, (true), qs, H', ⟨by first | omega | exact Nat.le_refl _⟩, ⟨qr HO106.out⟩, ⟨qk BK104.out⟩, ⟨qb HB.out⟩⟩
   subst c8
   have H1 : ((impl_Net_knot.f a0_0 l0_1 a1).bind fun t103 => (impl_WayReach.j0 k a1 y100 (!t103) a0_0 l0_1)) = some r := by rw [if_pos rfl] at H; exact H
   clear H
   have H := H1
   clear H1
   replace H := Option.bind_eq_some_iff.mp H
   obtain ⟨t103, A90, H⟩ := H
   replace H : (impl_WayReach.j0 k a1 y100 (!t103) a0_0 l0_1) = some r := H
   have A9 := Aside0.mk A90
   clear A90
   have H' := Aside0.mk H
   clear H
   have hcz10_0 : w5.cell? ⟨gb104, 0, none⟩ = some (.int .i64 a0_0) := (blk_cell BK104.out 0).trans rfl
   have hcz10_1 : w5.cell? ⟨gb104, 1, none⟩ = some (.slice A0_1 l0_1.length c0_1) := (blk_cell BK104.out 1).trans rfl
   have hfz10_0 := blk_frozen BK104.out 0
   have hfz10_1 := blk_frozen BK104.out 1
   go_wp2_with (first | ((with_reducible refine gate_callee (f := 17) rfl ?_); refine goesL_ (some 10) rfl rfl Try.func17 (by kernel_rfl) rfl #[.agg #[.int .i64 a0_0, .slice A0_1 l0_1.length c0_1]] rfl qm ?_; (with_reducible refine (impl_NetOk.calls k a0_0 _ _ l0_1 true _ ?side1 ?side2 A7.out).mono ?_); (case side1 => exact qc (Kd.C_below HR0_1.out HB.out)); (case side2 => exact HC0_1.out); rintro e w11 ⟨rfl, hb⟩; refine ⟨_, rfl, ?_⟩; have n0_ := q0 (Kd.R_below (qr HO106.out) hb); have n1_ := q0 (kb BK104.out hb); have n2_ := q0 (below_step (qb HB.out) hb); clear HO106 BK104 HB; have HO106 := n0_; have BK104 := n1_; have HB := n2_; clear n0_ n1_ n2_; (try clear hb); (try clear hb2); (try clear hk); (try clear hi); have hcz12_0 : w11.cell? ⟨gb104, 0, none⟩ = some (.int .i64 a0_0) := (blk_cell BK104.out 0).trans rfl; have hcz12_1 : w11.cell? ⟨gb104, 1, none⟩ = some (.slice A0_1 l0_1.length c0_1) := (blk_cell BK104.out 1).trans rfl; have hfz12_0 := blk_frozen BK104.out 0; have hfz12_1 := blk_frozen BK104.out 1) | (go_at_call 55; (with_reducible refine (impl_Net_knot.calls a0_0 _ _ l0_1 a1 t103 _ ?side1 ?side2 A9.out).mono ?_); (case side1 => exact qc (Kd.C_below HR0_1.out HB.out)); (case side2 => exact HC0_1.out); rintro e w13 ⟨rfl, hb⟩; have n0_ := q0 (Kd.R_below (qr HO106.out) hb); have n1_ := q0 (kb BK104.out hb); have n2_ := q0 (below_step (qb HB.out) hb); clear HO106 BK104 HB; have HO106 := n0_; have BK104 := n1_; have HB := n2_; clear n0_ n1_ n2_; (try clear hb); (try clear hb2); (try clear hk); (try clear hi)))
   go_meet
   case rel => exact ⟨_, (!t103), qs, H', ⟨by first | omega | exact Nat.le_refl _⟩, ⟨qr HO106.out⟩, ⟨qk BK104.out⟩, ⟨qb HB.out⟩⟩
 clear HC3
 try clear c1
 try clear p2
 try clear c3
 try clear c8
 try clear hcz10_0
 try clear hcz10_1
 try clear hcz12_0
 try clear hcz12_1
 try clear hcz14_0
 try clear hcz14_1
 try clear hfz10_0
 try clear hfz10_1
 try clear hfz12_0
 try clear hfz12_1
 try clear hfz14_0
 try clear hfz14_1
 obtain ⟨kq, x17_2, rfl, HA, HJ2, HO_5, BK104, HB⟩ := hcut
 rcases kq with _ | kj2
 · exact absurd HA.out (by simp [impl_WayReach.j0])
 have H := HA.out
 clear HA
 simp only [impl_WayReach.j0] at H
 by_cases c16 : x17_2 = true
 · subst c16
   have H1 : (some y100) = some r := by rw [if_pos rfl] at H; exact H
   clear H
   have H := H1
   clear H1
   obtain rfl := Option.some.inj H
   go_wp2
   go_ret
   exact ⟨_, qe, by (with_reducible repeat (first | apply Kd.R_alloc | apply Kd.R_drewN | apply Kd.R_drew)); exact HO_5.out, qb HB.out⟩
 replace c16 := Bool.eq_false_iff.mpr c16
 subst c16
 have H1 : ((impl_Net_parts.f kj2 a0_0 l0_1).bind fun t101 => (impl_WayReach.l0 kj2 a1 y100 t101 (t101.length : Int) 0)) = some r := by rw [if_neg (show ¬ (false = true) by decide)] at H; exact H
 clear H
 have H := H1
 clear H1
 replace H := Option.bind_eq_some_iff.mp H
 obtain ⟨t101, A107, H⟩ := H
 replace H : (impl_WayReach.l0 kj2 a1 y100 t101 (t101.length : Int) 0) = some r := H
 have A17 := Aside0.mk A107
 clear A107
 have H' := Aside0.mk H
 clear H
 have hcz18_0 : wc.cell? ⟨gb104, 0, none⟩ = some (.int .i64 a0_0) := (blk_cell BK104.out 0).trans rfl
 have hcz18_1 : wc.cell? ⟨gb104, 1, none⟩ = some (.slice A0_1 l0_1.length c0_1) := (blk_cell BK104.out 1).trans rfl
 have hfz18_0 := blk_frozen BK104.out 0
 have hfz18_1 := blk_frozen BK104.out 1
 go_wp2_with (first | ((with_reducible refine gate_callee (f := 71) rfl ?_); refine goesL_ (some 20) rfl rfl Try.func71 (by kernel_rfl) rfl #[.agg #[.int .i64 a0_0, .slice A0_1 l0_1.length c0_1]] rfl qm ?_; (with_reducible refine (impl_Net_parts.calls kj2 a0_0 _ _ l0_1 t101 _ ?side1 ?side2 A17.out).mono ?_); (case side1 => exact qc (Kd.C_below HR0_1.out HB.out)); (case side2 => exact HC0_1.out); rintro e w19 ⟨v108, rfl, ho0, hb⟩; refine ⟨_, rfl, ?_⟩; have n0_ := q0 (Kd.R_below (qr HO_5.out) hb); have n1_ := q0 (Kd.R_lower ho0 (below_size (qb HB.out))); have n2_ := q0 (kb BK104.out hb); have n3_ := q0 (below_step (qb HB.out) hb); clear HO_5 BK104 HB; have HO_5 := n0_; have HO109 := n1_; have BK104 := n2_; have HB := n3_; clear n0_ n1_ n2_ n3_; (try clear hb); (try clear hb2); (try clear hk); (try clear hi); (try clear ho0); obtain ⟨Ao20, co20, eo20⟩ := Kd.R_slice HO109.out; subst eo20))
 go_loopg [5, 23] kj2 (fun kq v5 v23 w' => ∃ (x5_2 : List Bool) (x23_2 : Int), v23 = .int .i64 x23_2 ∧ Aside0 (impl_WayReach.l0 kq a1 x5_2 t101 (t101.length : Int) x23_2 = some r) ∧ Aside0 (kq ≤ kj2) ∧ Aside0 (Kd.R Kd.bool 4 w' w.heap.size (fun _ => True) v5 x5_2) ∧ Aside0 (Kd.R (Kd.int .i64) 3 w' w.heap.size (fun _ => True) (.slice Ao20 t101.length co20) t101) ∧ Aside0 (w'.heap[gb104]? = some (.cells #[.int .i64 a0_0, (.slice A0_1 l0_1.length c0_1)] 30 (0, 0))) ∧ Aside0 (Below w.heap.size w w'))
 case atStart => exact ⟨(y100), (0), qs, H', ⟨Nat.le_refl _⟩, ⟨qr HO_5.out⟩, ⟨qr HO109.out⟩, ⟨qk BK104.out⟩, ⟨qb HB.out⟩⟩
 clear H'
 try clear c1
 try clear p2
 try clear c3
 try clear c7
 try clear c8
 try clear c16
 try clear c17
 try clear hcz10_0
 try clear hcz10_1
 try clear hcz12_0
 try clear hcz12_1
 try clear hcz14_0
 try clear hcz14_1
 try clear hcz18_0
 try clear hcz18_1
 try clear hfz10_0
 try clear hfz10_1
 try clear hfz12_0
 try clear hfz12_1
 try clear hfz14_0
 try clear hfz14_1
 try clear hfz18_0
 try clear hfz18_1
 try clear p2
 obtain ⟨x5_2, x23_2, rfl, HA, HK2, HO_5, HO_6, BK104, HB⟩ := hrel
 rcases gk with _ | k2
 · exact absurd HA.out (by simp [impl_WayReach.l0])
 have H := HA.out
 clear HA
 simp only [impl_WayReach.l0] at H
 by_cases c21 : x23_2 < (t101.length : Int)
 rotate_left
 · rw [if_neg c21] at H
   have c21b0 : decide (x23_2 < (t101.length : Int)) = false := decide_eq_false c21
   clear c21
   obtain rfl := Option.some.inj H
   go_wp2
   go_ret
   exact ⟨_, qe, by (with_reducible repeat (first | apply Kd.R_alloc | apply Kd.R_drewN | apply Kd.R_drew)); exact HO_5.out, qb HB.out⟩
 rw [if_pos c21] at H
 have c21b0 : decide (x23_2 < (t101.length : Int)) = true := decide_eq_true c21
 clear c21
 by_cases c22 : 0 ≤ x23_2
 rotate_left
 · rw [if_neg c22] at H
   exact absurd H (by simp)
 rw [if_pos c22] at H
 have c22b0 : decide (0 ≤ x23_2) = true := decide_eq_true c22
 clear c22
 by_cases c23 : x23_2 < (t101.length : Int)
 rotate_left
 · rw [if_neg c23] at H
   exact absurd H (by simp)
 rw [if_pos c23] at H
 have c23b0 : decide (x23_2 < (t101.length : Int)) = true := decide_eq_true c23
 clear c23
 by_cases c24 : 0 ≤ a1
 rotate_left
 · rw [if_neg c24] at H
   exact absurd H (by simp)
 rw [if_pos c24] at H
 have c24b0 : decide (0 ≤ a1) = true := decide_eq_true c24
 clear c24
 by_cases c25 : a1 < (t101.length : Int)
 rotate_left
 · rw [if_neg c25] at H
   exact absurd H (by simp)
 rw [if_pos c25] at H
 have c25b0 : decide (a1 < (t101.length : Int)) = true := decide_eq_true c25
 clear c25
 by_cases c26 : x5_2.length < 140737488355328
 rotate_left
 · rw [if_neg c26] at H
   exact absurd H (by simp)
 rw [if_pos c26] at H
 have LMc26 := Aside0.mk c26
 clear c26
 obtain ⟨y110, hy110⟩ : ∃ y_ : List Bool, y_ = (x5_2 ++ [((rd t101 x23_2) == (rd t101 a1))]) := ⟨_, rfl⟩
 replace H : (impl_WayReach.l0 k2 a1 y110 t101 (t101.length : Int) (wrap64 (x23_2 + 1))) = some r := by first | (rw [hy110]; with_reducible exact H) | (have H2_ := (Option.bind_some _ _).symm.trans H; rw [hy110]; with_reducible exact H2_) | (have H2_ := (Option.bind_some _ _).symm.trans H; with_reducible exact H2_) | with_reducible exact H | (rw [hy110]; exact H) | exact H
 have Ny110 := Aside0.mk hy110
 clear hy110
 have H' := Aside0.mk H
 clear H
 try go_wp2
 have n0_ := q0 (Kd.R_drew HO_5.out)
 have n1_ := q0 (Kd.R_drew HO_6.out)
 have n2_ := q0 (blk_drew BK104.out)
 have n3_ := q0 (below_drew1 HB.out)
 clear HO_5
 clear HO_6
 clear BK104
 clear HB
 have HO_5 := n0_
 have HO_6 := n1_
 have BK104 := n2_
 have HB := n3_
 clear n0_ n1_ n2_ n3_
 have p111 : 0 ≤ (x23_2 : Int) := of_decide_eq_true qa
 have q111 : x23_2 < (t101.length : Int) := of_decide_eq_true qa
 obtain ⟨ad111, e111, hx111_0⟩ := Kd.at_int (Kd.R_reads' HO_6.out).2.2 x23_2 p111 q111
 cases e111
 replace p111 := eq_true p111
 replace q111 := eq_true q111
 have p112 : 0 ≤ (a1 : Int) := of_decide_eq_true qa
 have q112 : a1 < (t101.length : Int) := of_decide_eq_true qa
 obtain ⟨ad112, e112, hx112_0⟩ := Kd.at_int (Kd.R_reads' HO_6.out).2.2 a1 p112 q112
 obtain rfl : ad111 = ad112 := (by injection e112)
 replace p112 := eq_true p112
 replace q112 := eq_true q112
 refine start_ (n := 13) (S := fun w' => w'.cell? (ad111.add (x23_2).toNat) = some (.int .i64 (rd t101 x23_2)) ∧ w'.cell? (ad111.add (a1).toNat) = some (.int .i64 (rd t101 a1))) (ds := [10, 11]) (ba 13 0) (by kernel_rfl) rfl (by kernel_rfl) ⟨hx111_0, hx112_0⟩ (fun hHeld => ?_); refine with_tabW impl_WayReach.tab8 impl_WayReach.bits8 (fun HT_ HW_ => ?_)
 generalize wr.drew = w27 at HO_5 HO_6 BK104 HB hx111_0 hx112_0 hHeld ⊢
 refine pu 0 (some 26) (ba 13 1) HT_.out ?_
 refine pu 1 (some 27) (ba 13 3) HT_.out ?_
 refine pu 2 (some 28) (ba 13 7) HT_.out ?_
 refine pu 3 (some 29) (ba 13 15) HT_.out ?_
 refine pu 5 (some 31) (ba 13 47) HT_.out ?_
 refine pu 6 (some 32) (ba 13 111) HT_.out ?_
 refine pu 7 (some 33) (ba 13 239) HT_.out ?_
 refine tu 4 (some 30) (ba 13 255) HT_.out HW_.out hHeld ?_
 refine tu 8 (some 34) (ba 13 511) HT_.out HW_.out hHeld ?_
 refine pu 9 (some 35) (ba 13 1023) HT_.out ?_
 refine last_ (i := 10) (N := some 36) (ba 13 2047) rfl rfl (one_of HT_.out (by kernel_rfl)) (by decide) (fun K hK => ?_)
 refine value_ (w1 := ?_) (v := ?_) (by rfl) rfl ?_ ?_
 rotate_left 2
 · go_simp
   constructor
   · rfl
   · rfl
 refine hK.out _ _ ?_
 clear hK K
 refine nu 36 ?_
 refine last_ (i := 11) (N := some 37) (ba 13 4095) rfl rfl (one_of HT_.out (by kernel_rfl)) (by decide) (fun K hK => ?_)
 refine Kd.R_append_step Kd.bool (w0 := w) w.heap.size (by rfl) (.tmp 26) (.tmp 36) 56 4 (.bool false) 1 rfl Try.underlying56 info4 rfl (by decide) (by omega) u5 x5_2 ((rd t101 x23_2) == (rd t101 a1)) [.bool ((rd t101 x23_2) == (rd t101 a1))] (fun _ => True) (fun _ => False) rfl rfl ?aP (fun _ hk => hk.elim) ?aF ?aO ?aB ?aS ?aL ?_
 (case aP => exact rfl)
 (case aB => exact (qb HB.out))
 (case aF => exact (fun _ _ => trivial))
 (case aO => exact (qr HO_5.out))
 (case aS => exact (below_size (qb HB.out)))
 (case aL => have := LMc26.out; omega)
 intro v113 w28 ho hb hg hat
 rw [← Ny110.out] at ho
 have n0_ := q0 (Kd.R_over' (qr HO_6.out) (Kd.R_typed (qr HO_5.out)) (by decide) hg)
 have n1_ := q0 (blk_grown (g := gb104) (o := .cells #[.int .i64 a0_0, .slice A0_1 l0_1.length c0_1] 30 (0, 0)) (qk BK104.out) hg (Kd.R_ne HO_5.out BK104.out (by decide)))
 have n2_ := q0 (hb)
 have n3_ := q0 (ho)
 clear HO_6
 clear BK104
 clear HB
 clear HO_5
 have HO_6 := n0_
 have BK104 := n1_
 have HB := n2_
 have HO114 := n3_
 clear n0_ n1_ n2_ n3_
 clear ho hb hg hat
 refine hK.out _ _ ?_
 clear hK K
 refine nu 37 ?_
 refine pu 12 (some 5) (ba 13 8191) HT_.out ?_
 refine done_ (done_of HT_.out (by kernel_rfl)) ?_
 try go_wp2
 go_roundg k2
 case measure => have := HJ2.out; have := HK2.out; omega
 case rel => exact ⟨(y110), (wrap64 (x23_2 + 1)), qs, H', ⟨by have := HJ2.out; have := HK2.out; omega⟩, ⟨qr HO114.out⟩, ⟨qr HO_6.out⟩, ⟨qk BK104.out⟩, ⟨qb HB.out⟩⟩

set_option maxHeartbeats 8000000 in
set_option maxRecDepth 100000 in
theorem laws_eqBoolS.calls (k : Nat) (A0 : Option Addr) (c0 : Nat) (l0 : List Bool) (A1 : Option Addr) (c1 : Nat) (l1 : List Bool) (r : Bool) (w : World) (hr0 : Kd.C Kd.bool w A0 l0.length l0) (hc0 : l0.length ≤ c0) (hr1 : Kd.C Kd.bool w A1 l1.length l1) (hc1 : l1.length ≤ c1) (h : laws_eqBoolS.f k l0 l1 = some r) :
    Calls Try.prog 39 #[.slice A0 l0.length c0, .slice A1 l1.length c1] w fun e w' => e = .returned (.bool r) ∧ Drawn0 w w' := by
 have HR0 := Aside0.mk hr0
 have HC0 := Aside0.mk hc0
 clear hr0 hc0
 have HR1 := Aside0.mk hr1
 have HC1 := Aside0.mk hc1
 clear hr1 hc1
 have H : (if (l0.length : Int) = (l1.length : Int) then (laws_eqBoolS.l0 k l0 l1 0) else (some false)) = some r := h
 clear h
 by_cases c3 : (l0.length : Int) = (l1.length : Int)
 rotate_left
 · rw [if_neg c3] at H
   have c3b0 : ((l0.length : Int) == (l1.length : Int)) = false := beq_eq_false_iff_ne.mpr c3
   have c3b1 : ((l0.length : Int) != (l1.length : Int)) = true := bne_iff_ne.mpr c3
   have c3b2 : (l0.length == l1.length) = false := by first | simpa using c3 | (simp at c3 ⊢; omega)
   obtain rfl := Option.some.inj H
   go_enter Try.func39, Try.ntmps39
   go_wp2
   repeat (go_quiet (fail); try go_wp2)
   go_ret
   exact ⟨by first | rfl | (simp; done) | (simp [*]; done), by repeat (first | exact Drawn0.refl _ | apply Drawn0.step)⟩
 rw [if_pos c3] at H
 have c3b0 : ((l0.length : Int) == (l1.length : Int)) = true := beq_iff_eq.mpr c3
 have c3b1 : ((l0.length : Int) != (l1.length : Int)) = false := bne_eq_false_iff_eq.mpr c3
 have c3b2 : (l0.length == l1.length) = true := by first | simpa using c3 | (simp at c3 ⊢; omega)
 clear c3
 have H' := Aside0.mk H
 clear H
 go_enter Try.func39, Try.ntmps39
 go_wp2
 repeat (go_quiet (fail); try go_wp2)
 go_loopg [5] k (fun kq v5 w' => ∃ (x5_1 : Int), v5 = .int .i64 x5_1 ∧ Aside0 (laws_eqBoolS.l0 kq l0 l1 x5_1 = some r) ∧ Aside0 (kq ≤ k) ∧ Drawn0 w w')
 case atStart => exact ⟨(0), qs, H', ⟨Nat.le_refl _⟩, by repeat (first | exact Drawn0.refl _ | apply Drawn0.step)⟩
 clear H'
 try clear c1
 try clear p2
 try clear c3
 try clear c3b0
 try clear c3b1
 try clear c3b2
 obtain ⟨x5_1, rfl, HA, HK1, ⟨m1, rfl⟩⟩ := hrel
 rcases gk with _ | k1
 · exact absurd HA.out (by simp [laws_eqBoolS.l0])
 have H := HA.out
 clear HA
 simp only [laws_eqBoolS.l0] at H
 by_cases c4 : x5_1 < (l0.length : Int)
 rotate_left
 · rw [if_neg c4] at H
   have c4b0 : decide (x5_1 < (l0.length : Int)) = false := decide_eq_false c4
   clear c4
   obtain rfl := Option.some.inj H
   go_wp2
   repeat (go_quiet (fail); try go_wp2)
   go_ret
   exact ⟨by first | rfl | (simp; done) | (simp [*]; done), by repeat (first | exact Drawn0.refl _ | apply Drawn0.step)⟩
 rw [if_pos c4] at H
 have c4b0 : decide (x5_1 < (l0.length : Int)) = true := decide_eq_true c4
 clear c4
 by_cases c5 : 0 ≤ x5_1
 rotate_left
 · rw [if_neg c5] at H
   exact absurd H (by simp)
 rw [if_pos c5] at H
 have c5b0 : decide (0 ≤ x5_1) = true := decide_eq_true c5
 clear c5
 by_cases c6 : x5_1 < (l1.length : Int)
 rotate_left
 · rw [if_neg c6] at H
   exact absurd H (by simp)
 rw [if_pos c6] at H
 have c6b0 : decide (x5_1 < (l1.length : Int)) = true := decide_eq_true c6
 clear c6
 by_cases c7 : ((rdOf false l0 x5_1) != (rdOf false l1 x5_1)) = true
 · rw [if_pos c7] at H
   have c7b0 : ((rdOf false l0 x5_1) != (rdOf false l1 x5_1)) = true := c7
   (try (have c7b1 : decide ((rdOf false l0 x5_1) = (rdOf false l1 x5_1)) = false := by simpa using c7))
   (try (have c7b2 : ((rdOf false l0 x5_1) == (rdOf false l1 x5_1)) = false := by simpa using c7))
   (try (have c7b3 : ¬ ((rdOf false l0 x5_1) = (rdOf false l1 x5_1)) := by simpa using c7))
   clear c7
   obtain rfl := Option.some.inj H
   have p100 : 0 ≤ (x5_1 : Int) := of_decide_eq_true qa
   have q100 : x5_1 < (l0.length : Int) := of_decide_eq_true qa
   obtain ⟨ad100, e100, hx100_0⟩ := Kd.at_bool HR0.out x5_1 p100 q100
   cases e100
   replace p100 := eq_true p100
   replace q100 := eq_true q100
   have p101 : 0 ≤ (x5_1 : Int) := of_decide_eq_true qa
   have q101 : x5_1 < (l1.length : Int) := of_decide_eq_true qa
   obtain ⟨ad101, e101, hx101_0⟩ := Kd.at_bool HR1.out x5_1 p101 q101
   cases e101
   replace p101 := eq_true p101
   replace q101 := eq_true q101
   go_wp2
   repeat (go_quiet (fail); try go_wp2)
   go_ret
   exact ⟨by first | rfl | (simp; done) | (simp [*]; done), by repeat (first | exact Drawn0.refl _ | apply Drawn0.step)⟩
 rw [if_neg c7] at H
 have c7b0 : ((rdOf false l0 x5_1) != (rdOf false l1 x5_1)) = false := by simpa using c7
 (try (have c7b1 : decide ((rdOf false l0 x5_1) = (rdOf false l1 x5_1)) = true := by simpa using c7))
 (try (have c7b2 : ((rdOf false l0 x5_1) == (rdOf false l1 x5_1)) = true := by simpa using c7))
 clear c7
 have H' := Aside0.mk H
 clear H
 have p100 : 0 ≤ (x5_1 : Int) := of_decide_eq_true qa
 have q100 : x5_1 < (l0.length : Int) := of_decide_eq_true qa
 obtain ⟨ad100, e100, hx100_0⟩ := Kd.at_bool HR0.out x5_1 p100 q100
 cases e100
 replace p100 := eq_true p100
 replace q100 := eq_true q100
 have p101 : 0 ≤ (x5_1 : Int) := of_decide_eq_true qa
 have q101 : x5_1 < (l1.length : Int) := of_decide_eq_true qa
 obtain ⟨ad101, e101, hx101_0⟩ := Kd.at_bool HR1.out x5_1 p101 q101
 cases e101
 replace p101 := eq_true p101
 replace q101 := eq_true q101
 go_wp2
 repeat (go_quiet (fail); try go_wp2)
 go_roundg k1
 case measure => have := HK1.out; omega
 case rel => exact ⟨(wrap64 (x5_1 + 1)), qs, H', ⟨by have := HK1.out; omega⟩, by repeat (first | exact Drawn0.refl _ | apply Drawn0.step)⟩

set_option maxHeartbeats 8000000 in
set_option maxRecDepth 100000 in
theorem laws_markBoolS.calls (k : Nat) (P0_ : Nat → Prop) (u100_ : Value) (l0 : List Bool) (a1 : Int) (r1 : Int) (r2 : List Bool) (w0 w : World) (hB : Below w0.heap.size w0 w) (ho0 : Kd.R Kd.bool 4 w w0.heap.size P0_ u100_ l0) (h : laws_markBoolS.f k l0 a1 = some (r1, r2)) :
    Calls Try.prog 40 #[u100_, .int .i64 a1] w fun e w' => e = .returned (.int .i64 r1) ∧ Kd.R Kd.bool 4 w' w0.heap.size (fun k_ => (P0_ k_ ∨ w.heap.size ≤ k_)) u100_ r2 ∧ Below w0.heap.size w0 w' ∧ Kept w w' (fun k_ => P0_ k_) := by
 have HO0 := q0 (show Kd.R Kd.bool 4 w w0.heap.size (fun k_ => (P0_ k_ ∨ w.heap.size ≤ k_)) u100_ l0 from Kd.R_mono ho0 (fun k_ hk => (.inl hk)))
 have HK := q0 (Kept.refl w (fun k_ => P0_ k_))
 have HW0 := Aside0.mk hB.size
 have HB := Aside0.mk hB
 clear hB
 have H : (laws_markBoolS.l0 k l0 a1 0) = some (r1, r2) := h
 clear h
 have H' := Aside0.mk H
 clear H
 go_enter Try.func40, Try.ntmps40
 go_wp2
 go_loopg [1, 5] k (fun kq v1 v5 w' => ∃ (x0_1 : List Bool) (x1_1 : Int) (x5_1 : Int), v1 = .int .i64 x1_1 ∧ v5 = .int .i64 x5_1 ∧ Aside0 (laws_markBoolS.l0 kq x0_1 x1_1 x5_1 = some (r1, r2)) ∧ Aside0 (kq ≤ k) ∧ Aside0 (Kd.R Kd.bool 4 w' w0.heap.size (fun k_ => (P0_ k_ ∨ w.heap.size ≤ k_)) u100_ x0_1) ∧ Aside0 (Kept w w' (fun k_ => P0_ k_)) ∧ Aside0 (Below w0.heap.size w0 w'))
 case atStart => exact ⟨(l0), (a1), (0), qs, qs, H', ⟨Nat.le_refl _⟩, ⟨qr HO0.out⟩, ⟨by repeat (first | (with_reducible first | exact HK.out | apply Kept.alloc | apply Kept.drewN | apply Kept.drew) | exact HK.out)⟩, ⟨qb HB.out⟩⟩
 clear H'
 try clear p2
 obtain ⟨x0_1, x1_1, x5_1, rfl, rfl, HA, HK1, HO_0, HK, HB⟩ := hrel
 rcases gk with _ | k1
 · exact absurd HA.out (by simp [laws_markBoolS.l0])
 have H := HA.out
 clear HA
 simp only [laws_markBoolS.l0] at H
 by_cases c3 : x5_1 < (x0_1.length : Int)
 rotate_left
 · rw [if_neg c3] at H
   have c3b0 : decide (x5_1 < (x0_1.length : Int)) = false := decide_eq_false c3
   clear c3
   simp only [Option.some.injEq, Prod.mk.injEq] at H
   obtain ⟨rfl, rfl⟩ := H
   obtain ⟨Ao9, co9, eo9⟩ := Kd.R_slice HO_0.out
   subst eo9
   go_wp2
   go_ret
   exact ⟨qe, by (with_reducible repeat (first | apply Kd.R_alloc | apply Kd.R_drewN | apply Kd.R_drew)); exact HO_0.out, by repeat (first | (with_reducible first | exact HB.out | apply below_alloc | apply pw_below_drewN | apply below_drew1) | exact HB.out), by repeat (first | (with_reducible first | exact HK.out | apply Kept.alloc | apply Kept.drewN | apply Kept.drew) | exact HK.out)⟩
 rw [if_pos c3] at H
 have c3b0 : decide (x5_1 < (x0_1.length : Int)) = true := decide_eq_true c3
 clear c3
 by_cases c4 : 0 ≤ x5_1
 rotate_left
 · rw [if_neg c4] at H
   exact absurd H (by simp)
 rw [if_pos c4] at H
 have c4b0 : decide (0 ≤ x5_1) = true := decide_eq_true c4
 clear c4
 obtain ⟨y101, hy101⟩ : ∃ y_ : List Bool, y_ = (x0_1.set (x5_1 : Int).toNat ((Int.tmod x1_1 3) == 0)) := ⟨_, rfl⟩
 replace H : (laws_markBoolS.l0 k1 y101 (wrap64 (x1_1 + 1)) (wrap64 (x5_1 + 1))) = some (r1, r2) := by first | (rw [hy101]; with_reducible exact H) | (have H2_ := (Option.bind_some _ _).symm.trans H; rw [hy101]; with_reducible exact H2_) | (have H2_ := (Option.bind_some _ _).symm.trans H; with_reducible exact H2_) | with_reducible exact H | (rw [hy101]; exact H) | exact H
 have Ny101 := Aside0.mk hy101
 clear hy101
 have H' := Aside0.mk H
 clear H
 obtain ⟨Ao6, co6, eo6⟩ := Kd.R_slice HO_0.out
 subst eo6
 have p5 : 0 ≤ (x5_1 : Int) := of_decide_eq_true qa
 have q5 : (x5_1 : Int) < ((x0_1.length : Int) : Int) := of_decide_eq_true qa
 obtain ⟨go5, co5, eo5, gb5, gl5, cl5, HG5⟩ := Kd.R_form HO_0.out (by omega)
 (first | cases eo5 | (injection eo5 with ea_ en_ ec_; (first | subst ea_ | (injection ea_ with ea_; subst ea_)); subst ec_; clear en_))
 have GB5 := Aside0.mk gb5
 have GG5 := Aside0.mk HG5
 clear gb5 gl5 HG5
 have HMgo5 := q0 (show (P0_ go5 ∨ w.heap.size ≤ go5) from (HO_0.out.1 _ rfl))
 obtain ⟨hx5_0, hf5_0⟩ := Kd.R_celln false HO_0.out (x5_1 : Int) p5 q5
 replace p5 := eq_true p5
 replace q5 := eq_true q5
 have HP7 := Kd.R_putg HO_0.out (x5_1 : Int) ((Int.tmod x1_1 3) == 0)
 go_wp2_with (first | ((with_reducible refine gate_store (t := 4) (p := 17) rfl ?_); refine store_event (t := 4) (p := 17) (v := ?vo_w8) (w1 := (wr.setCell ⟨go5, (x5_1 : Int).toNat, none⟩ (.bool ((Int.tmod x1_1 3) == 0)))) ?hg ?ho ?hn ?hr ?_; (case ho => rfl); (case hg => rfl); (case hn => rfl); (case hr => first | (go_simp; done) | (go_simp; rfl)); intro w8 hw; have hg : wr.grownBy w8 (some go5) := (by rw [hw]; exact HP7.2); have hp_ : Kd.R Kd.bool 4 w8 w0.heap.size (fun k_ => (P0_ k_ ∨ w.heap.size ≤ k_)) (.slice (some ⟨go5, 0, none⟩) x0_1.length co6) y101 := (by rw [hw, Ny101.out]; exact HP7.1); clear HP7; have n0_ := q0 (hp_); have n1_ := q0 ((by rw [hw]; exact below_set (HB.out) GB5.out : Below w0.heap.size w0 w8)); have n2_ := q0 (Kept.of_grown (S := (fun k_ => P0_ k_)) hg (by repeat (first | (with_reducible first | exact HK.out | apply Kept.alloc | apply Kept.drewN | apply Kept.drew) | exact HK.out)) (fun k_ e_ => (HO_0.out.1 k_ e_))); clear HO_0 HB HK; have HO_0 := n0_; have HB := n1_; have HK := n2_; clear n0_ n1_ n2_ hg hw hp_))
 go_roundg k1
 case measure => have := HK1.out; omega
 case rel => exact ⟨(y101), (wrap64 (x1_1 + 1)), (wrap64 (x5_1 + 1)), qs, qs, H', ⟨by have := HK1.out; omega⟩, ⟨qr HO_0.out⟩, ⟨by repeat (first | (with_reducible first | exact HK.out | apply Kept.alloc | apply Kept.drewN | apply Kept.drew) | exact HK.out)⟩, ⟨qb HB.out⟩⟩

set_option maxHeartbeats 8000000 in
set_option maxRecDepth 100000 in
theorem laws_heldBoolS.calls (k : Nat) (A0 : Option Addr) (c0 : Nat) (l0 : List Bool) (a1 : Int) (r : Int) (w : World) (hr0 : Kd.C Kd.bool w A0 l0.length l0) (hc0 : l0.length ≤ c0) (h : laws_heldBoolS.f k l0 a1 = some r) :
    Calls Try.prog 41 #[.slice A0 l0.length c0, .int .i64 a1] w fun e w' => e = .returned (.int .i64 r) ∧ Drawn0 w w' := by
 have HR0 := Aside0.mk hr0
 have HC0 := Aside0.mk hc0
 clear hr0 hc0
 have H : (laws_heldBoolS.l0 k l0 a1 0) = some r := h
 clear h
 have H' := Aside0.mk H
 clear H
 go_enter Try.func41, Try.ntmps41
 go_wp2
 go_loopg [1, 5] k (fun kq v1 v5 w' => ∃ (x1_1 : Int) (x5_1 : Int), v1 = .int .i64 x1_1 ∧ v5 = .int .i64 x5_1 ∧ Aside0 (laws_heldBoolS.l0 kq l0 x1_1 x5_1 = some r) ∧ Aside0 (kq ≤ k) ∧ Drawn0 w w')
 case atStart => exact ⟨(a1), (0), qs, qs, H', ⟨Nat.le_refl _⟩, by repeat (first | exact Drawn0.refl _ | apply Drawn0.step)⟩
 clear H'
 try clear p2
 obtain ⟨x1_1, x5_1, rfl, rfl, HA, HK1, ⟨m1, rfl⟩⟩ := hrel
 rcases gk with _ | k1
 · exact absurd HA.out (by simp [laws_heldBoolS.l0])
 have H := HA.out
 clear HA
 simp only [laws_heldBoolS.l0] at H
 by_cases c3 : x5_1 < (l0.length : Int)
 rotate_left
 · rw [if_neg c3] at H
   have c3b0 : decide (x5_1 < (l0.length : Int)) = false := decide_eq_false c3
   clear c3
   obtain rfl := Option.some.inj H
   go_wp2
   go_ret
   exact ⟨by first | rfl | (simp; done) | (simp [*]; done), by repeat (first | exact Drawn0.refl _ | apply Drawn0.step)⟩
 rw [if_pos c3] at H
 have c3b0 : decide (x5_1 < (l0.length : Int)) = true := decide_eq_true c3
 clear c3
 by_cases c4 : 0 ≤ x5_1
 rotate_left
 · rw [if_neg c4] at H
   exact absurd H (by simp)
 rw [if_pos c4] at H
 have c4b0 : decide (0 ≤ x5_1) = true := decide_eq_true c4
 clear c4
 by_cases c5 : ((rdOf false l0 x5_1) != ((Int.tmod x1_1 3) == 0)) = true
 · rw [if_pos c5] at H
   have c5b0 : ((rdOf false l0 x5_1) != ((Int.tmod x1_1 3) == 0)) = true := c5
   (try (have c5b1 : decide ((rdOf false l0 x5_1) = ((Int.tmod x1_1 3) == 0)) = false := by simpa using c5))
   (try (have c5b2 : ((rdOf false l0 x5_1) == ((Int.tmod x1_1 3) == 0)) = false := by simpa using c5))
   (try (have c5b3 : ¬ ((rdOf false l0 x5_1) = ((Int.tmod x1_1 3) == 0)) := by simpa using c5))
   clear c5
   obtain rfl := Option.some.inj H
   have p100 : 0 ≤ (x5_1 : Int) := of_decide_eq_true qa
   have q100 : x5_1 < (l0.length : Int) := of_decide_eq_true qa
   obtain ⟨ad100, e100, hx100_0⟩ := Kd.at_bool HR0.out x5_1 p100 q100
   cases e100
   replace p100 := eq_true p100
   replace q100 := eq_true q100
   go_wp2
   go_ret
   exact ⟨by first | rfl | (simp; done) | (simp [*]; done), by repeat (first | exact Drawn0.refl _ | apply Drawn0.step)⟩
 rw [if_neg c5] at H
 have c5b0 : ((rdOf false l0 x5_1) != ((Int.tmod x1_1 3) == 0)) = false := by simpa using c5
 (try (have c5b1 : decide ((rdOf false l0 x5_1) = ((Int.tmod x1_1 3) == 0)) = true := by simpa using c5))
 (try (have c5b2 : ((rdOf false l0 x5_1) == ((Int.tmod x1_1 3) == 0)) = true := by simpa using c5))
 clear c5
 have H' := Aside0.mk H
 clear H
 have p100 : 0 ≤ (x5_1 : Int) := of_decide_eq_true qa
 have q100 : x5_1 < (l0.length : Int) := of_decide_eq_true qa
 obtain ⟨ad100, e100, hx100_0⟩ := Kd.at_bool HR0.out x5_1 p100 q100
 cases e100
 replace p100 := eq_true p100
 replace q100 := eq_true q100
 go_wp2
 go_roundg k1
 case measure => have := HK1.out; omega
 case rel => exact ⟨(wrap64 (x1_1 + 1)), (wrap64 (x5_1 + 1)), qs, qs, H', ⟨by have := HK1.out; omega⟩, by repeat (first | exact Drawn0.refl _ | apply Drawn0.step)⟩

set_option maxHeartbeats 8000000 in
set_option maxRecDepth 100000 in
theorem laws_FnExactWayReach.calls (k : Nat) (a0_0 : Int) (A0_1 : Option Addr) (c0_1 : Nat) (l0_1 : List (SLTie)) (a1 : Int) (r : Bool) (w : World) (hr0_1 : Kd.C kLTie w A0_1 l0_1.length l0_1) (hc0_1 : l0_1.length ≤ c0_1) (h : laws_FnExactWayReach.f k a0_0 l0_1 a1 = some r) :
    Calls Try.prog 12 #[.agg #[.int .i64 a0_0, .slice A0_1 l0_1.length c0_1], .int .i64 a1] w fun e w' => e = .returned (.bool r) ∧ Below w.heap.size w w' := by
 have hu25 := Try.underlying25
 have hu30 := Try.underlying30
 have HR0_1 := Aside0.mk hr0_1
 have HC0_1 := Aside0.mk hc0_1
 clear hr0_1 hc0_1
 have HB := q0 (Below.refl w.heap.size w)
 have H : ((laws_szNet.f a0_0 l0_1 1048576).bind fun t100 => (if t100 < 0 then (some true) else ((laws_toNet.f k a0_0 l0_1).bind fun bt107 => ((spec_WayReach.f k bt107.1 bt107.2 a1).bind fun t108 => ((laws_toNet.f k a0_0 l0_1).bind fun bt109 => ((impl_WayReach.f k bt109.1 bt109.2 a1).bind fun t110 => ((laws_eqBoolS.f k t110 t108).bind fun t111 => (if t111 = true then ((laws_toNet.f k a0_0 l0_1).bind fun bt112 => ((laws_eqNet.f k bt109.1 bt109.2 bt112.1 bt112.2).bind fun t113 => (if t113 = true then ((laws_markNet.f k bt109.1 bt109.2 1).bind fun bt114 => (if bt114.1 < 0 then (laws_FnExactWayReach.j0 k a1 t108 t110 true a0_0 l0_1) else ((laws_eqBoolS.f k t110 t108).bind fun t115 => (laws_FnExactWayReach.j0 k a1 t108 t110 (!t115) a0_0 l0_1)))) else (some false)))) else (some false))))))))) = some r := h
 clear h
 replace H := Option.bind_eq_some_iff.mp H
 obtain ⟨t100, A30, H⟩ := H
 replace H : (if t100 < 0 then (some true) else ((laws_toNet.f k a0_0 l0_1).bind fun bt107 => ((spec_WayReach.f k bt107.1 bt107.2 a1).bind fun t108 => ((laws_toNet.f k a0_0 l0_1).bind fun bt109 => ((impl_WayReach.f k bt109.1 bt109.2 a1).bind fun t110 => ((laws_eqBoolS.f k t110 t108).bind fun t111 => (if t111 = true then ((laws_toNet.f k a0_0 l0_1).bind fun bt112 => ((laws_eqNet.f k bt109.1 bt109.2 bt112.1 bt112.2).bind fun t113 => (if t113 = true then ((laws_markNet.f k bt109.1 bt109.2 1).bind fun bt114 => (if bt114.1 < 0 then (laws_FnExactWayReach.j0 k a1 t108 t110 true a0_0 l0_1) else ((laws_eqBoolS.f k t110 t108).bind fun t115 => (laws_FnExactWayReach.j0 k a1 t108 t110 (!t115) a0_0 l0_1)))) else (some false)))) else (some false)))))))) = some r := H
 have A3 := Aside0.mk A30
 clear A30
 by_cases c4 : t100 < 0
 · rw [if_pos c4] at H
   have c4b0 : decide (t100 < 0) = true := decide_eq_true c4
   clear c4
   obtain rfl := Option.some.inj H
   go_enter Try.func12, Try.ntmps12
   go_wp2_with (first | ((with_reducible refine gate_dst (N := 2) rfl ?_); refine be 2 #[.int .i64 a0_0, .slice A0_1 l0_1.length c0_1] 25 ?_; intro gb116 hg w5 hbox hb; have n0_ := q0 (below_step (qb HB.out) hb); have n1_ := q0 (hbox); have n2_ := q0 ((bs HB.out hg : w.heap.size ≤ gb116)); have n3_ := q0 ((bs HB.out hg : w.heap.size ≤ gb116)); clear HB; have HB := n0_; have BK116 := n1_; have GW116 := n2_; have GE116 := n3_; clear n0_ n1_ n2_ n3_ hb hbox hg; have hcz6_0 : w5.cell? ⟨gb116, 0, none⟩ = some (.int .i64 a0_0) := (blk_cell BK116.out 0).trans rfl; have hcz6_1 : w5.cell? ⟨gb116, 1, none⟩ = some (.slice A0_1 l0_1.length c0_1) := (blk_cell BK116.out 1).trans rfl; have hfz6_0 := blk_frozen BK116.out 0; have hfz6_1 := blk_frozen BK116.out 1) | ((with_reducible refine gate_callee (f := 14) rfl ?_); refine goesL_ (some 15) rfl rfl Try.func14 (by kernel_rfl) rfl #[.agg #[.int .i64 a0_0, .slice A0_1 l0_1.length c0_1], .int .i64 1048576] rfl qm ?_; (with_reducible refine (laws_szNet.calls a0_0 _ _ l0_1 1048576 t100 _ ?side1 ?side2 A3.out).mono ?_); (case side1 => exact qc (Kd.C_below HR0_1.out HB.out)); (case side2 => exact HC0_1.out); rintro e w7 ⟨rfl, hb⟩; refine ⟨_, rfl, ?_⟩; have n0_ := q0 (kb BK116.out hb); have n1_ := q0 (below_step (qb HB.out) hb); clear BK116 HB; have BK116 := n0_; have HB := n1_; clear n0_ n1_; (try clear hb); (try clear hb2); (try clear hk); (try clear hi)))
   go_ret
   exact ⟨qe, qb HB.out⟩
 rw [if_neg c4] at H
 have c4b0 : decide (t100 < 0) = false := decide_eq_false c4
 clear c4
 replace H := Option.bind_eq_some_iff.mp H
 obtain ⟨⟨t107, t117⟩, A80, H⟩ := H
 replace H : ((spec_WayReach.f k t107 t117 a1).bind fun t108 => ((laws_toNet.f k a0_0 l0_1).bind fun bt109 => ((impl_WayReach.f k bt109.1 bt109.2 a1).bind fun t110 => ((laws_eqBoolS.f k t110 t108).bind fun t111 => (if t111 = true then ((laws_toNet.f k a0_0 l0_1).bind fun bt112 => ((laws_eqNet.f k bt109.1 bt109.2 bt112.1 bt112.2).bind fun t113 => (if t113 = true then ((laws_markNet.f k bt109.1 bt109.2 1).bind fun bt114 => (if bt114.1 < 0 then (laws_FnExactWayReach.j0 k a1 t108 t110 true a0_0 l0_1) else ((laws_eqBoolS.f k t110 t108).bind fun t115 => (laws_FnExactWayReach.j0 k a1 t108 t110 (!t115) a0_0 l0_1)))) else (some false)))) else (some false)))))) = some r := H
 have A8 := Aside0.mk A80
 clear A80
 replace H := Option.bind_eq_some_iff.mp H
 obtain ⟨t108, A90, H⟩ := H
 replace H : ((laws_toNet.f k a0_0 l0_1).bind fun bt109 => ((impl_WayReach.f k bt109.1 bt109.2 a1).bind fun t110 => ((laws_eqBoolS.f k t110 t108).bind fun t111 => (if t111 = true then ((laws_toNet.f k a0_0 l0_1).bind fun bt112 => ((laws_eqNet.f k bt109.1 bt109.2 bt112.1 bt112.2).bind fun t113 => (if t113 = true then ((laws_markNet.f k bt109.1 bt109.2 1).bind fun bt114 => (if bt114.1 < 0 then (laws_FnExactWayReach.j0 k a1 t108 t110 true a0_0 l0_1) else ((laws_eqBoolS.f k t110 t108).bind fun t115 => (laws_FnExactWayReach.j0 k a1 t108 t110 (!t115) a0_0 l0_1)))) else (some false)))) else (some false))))) = some r := H
 have A9 := Aside0.mk A90
 clear A90
 replace H := Option.bind_eq_some_iff.mp H
 obtain ⟨⟨t109, t118⟩, A119, H⟩ := H
 replace H : ((impl_WayReach.f k t109 t118 a1).bind fun t110 => ((laws_eqBoolS.f k t110 t108).bind fun t111 => (if t111 = true then ((laws_toNet.f k a0_0 l0_1).bind fun bt112 => ((laws_eqNet.f k t109 t118 bt112.1 bt112.2).bind fun t113 => (if t113 = true then ((laws_markNet.f k t109 t118 1).bind fun bt114 => (if bt114.1 < 0 then (laws_FnExactWayReach.j0 k a1 t108 t110 true a0_0 l0_1) else ((laws_eqBoolS.f k t110 t108).bind fun t115 => (laws_FnExactWayReach.j0 k a1 t108 t110 (!t115) a0_0 l0_1)))) else (some false)))) else (some false)))) = some r := H
 have A10 := Aside0.mk A119
 clear A119
 replace H := Option.bind_eq_some_iff.mp H
 obtain ⟨t110, A120, H⟩ := H
 replace H : ((laws_eqBoolS.f k t110 t108).bind fun t111 => (if t111 = true then ((laws_toNet.f k a0_0 l0_1).bind fun bt112 => ((laws_eqNet.f k t109 t118 bt112.1 bt112.2).bind fun t113 => (if t113 = true then ((laws_markNet.f k t109 t118 1).bind fun bt114 => (if bt114.1 < 0 then (laws_FnExactWayReach.j0 k a1 t108 t110 true a0_0 l0_1) else ((laws_eqBoolS.f k t110 t108).bind fun t115 => (laws_FnExactWayReach.j0 k a1 t108 t110 (!t115) a0_0 l0_1)))) else (some false)))) else (some false))) = some r := H
 have A11 := Aside0.mk A120
 clear A120
 replace H := Option.bind_eq_some_iff.mp H
 obtain ⟨t111, A121, H⟩ := H
 replace H : (if t111 = true then ((laws_toNet.f k a0_0 l0_1).bind fun bt112 => ((laws_eqNet.f k t109 t118 bt112.1 bt112.2).bind fun t113 => (if t113 = true then ((laws_markNet.f k t109 t118 1).bind fun bt114 => (if bt114.1 < 0 then (laws_FnExactWayReach.j0 k a1 t108 t110 true a0_0 l0_1) else ((laws_eqBoolS.f k t110 t108).bind fun t115 => (laws_FnExactWayReach.j0 k a1 t108 t110 (!t115) a0_0 l0_1)))) else (some false)))) else (some false)) = some r := H
 have A12 := Aside0.mk A121
 clear A121
 by_cases c13 : t111 = true
 rotate_left
 · replace c13 := Bool.eq_false_iff.mpr c13
   subst c13
   have H1 : (some false) = some r := by rw [if_neg (show ¬ (false = true) by decide)] at H; exact H
   clear H
   have H := H1
   clear H1
   obtain rfl := Option.some.inj H
   go_enter Try.func12, Try.ntmps12
   go_wp2_with (first | ((with_reducible refine gate_dst (N := 2) rfl ?_); refine be 2 #[.int .i64 a0_0, .slice A0_1 l0_1.length c0_1] 25 ?_; intro gb116 hg w155 hbox hb; have n0_ := q0 (below_step (qb HB.out) hb); have n1_ := q0 (hbox); have n2_ := q0 ((bs HB.out hg : w.heap.size ≤ gb116)); have n3_ := q0 ((bs HB.out hg : w.heap.size ≤ gb116)); clear HB; have HB := n0_; have BK116 := n1_; have GW116 := n2_; have GE116 := n3_; clear n0_ n1_ n2_ n3_ hb hbox hg; have hcz156_0 : w155.cell? ⟨gb116, 0, none⟩ = some (.int .i64 a0_0) := (blk_cell BK116.out 0).trans rfl; have hcz156_1 : w155.cell? ⟨gb116, 1, none⟩ = some (.slice A0_1 l0_1.length c0_1) := (blk_cell BK116.out 1).trans rfl; have hfz156_0 := blk_frozen BK116.out 0; have hfz156_1 := blk_frozen BK116.out 1) | ((with_reducible refine gate_callee (f := 14) rfl ?_); refine goesL_ (some 15) rfl rfl Try.func14 (by kernel_rfl) rfl #[.agg #[.int .i64 a0_0, .slice A0_1 l0_1.length c0_1], .int .i64 1048576] rfl qm ?_; (with_reducible refine (laws_szNet.calls a0_0 _ _ l0_1 1048576 t100 _ ?side1 ?side2 A3.out).mono ?_); (case side1 => exact qc (Kd.C_below HR0_1.out HB.out)); (case side2 => exact HC0_1.out); rintro e w157 ⟨rfl, hb⟩; refine ⟨_, rfl, ?_⟩; have n0_ := q0 (kb BK116.out hb); have n1_ := q0 (below_step (qb HB.out) hb); clear BK116 HB; have BK116 := n0_; have HB := n1_; clear n0_ n1_; (try clear hb); (try clear hb2); (try clear hk); (try clear hi); have hcz158_0 : w157.cell? ⟨gb116, 0, none⟩ = some (.int .i64 a0_0) := (blk_cell BK116.out 0).trans rfl; have hcz158_1 : w157.cell? ⟨gb116, 1, none⟩ = some (.slice A0_1 l0_1.length c0_1) := (blk_cell BK116.out 1).trans rfl; have hfz158_0 := blk_frozen BK116.out 0; have hfz158_1 := blk_frozen BK116.out 1) | ((with_reducible refine gate_callee (f := 16) rfl ?_); refine goesL_ (some 19) rfl rfl Try.func16 (by kernel_rfl) rfl #[.agg #[.int .i64 a0_0, .slice A0_1 l0_1.length c0_1]] rfl qm ?_; (with_reducible refine (laws_toNet.calls k a0_0 _ _ l0_1 t107 t117 _ ?side1 ?side2 A8.out).mono ?_); (case side1 => exact qc (Kd.C_below HR0_1.out HB.out)); (case side2 => exact HC0_1.out); rintro e w159 ⟨v127, rfl, ho0, hb⟩; refine ⟨_, rfl, ?_⟩; have n0_ := q0 (Kd.R_lower ho0 (below_size (qb HB.out))); have n1_ := q0 (kb BK116.out hb); have n2_ := q0 (below_step (qb HB.out) hb); clear BK116 HB; have HO128 := n0_; have BK116 := n1_; have HB := n2_; clear n0_ n1_ n2_; (try clear hb); (try clear hb2); (try clear hk); (try clear hi); (try clear ho0); obtain ⟨Ao120, co120, eo120⟩ := Kd.R_slice HO128.out; subst eo120) | ((with_reducible refine gate_callee (f := 37) rfl ?_); refine goesL_ (some 21) rfl rfl Try.func37 (by kernel_rfl) rfl #[.agg #[.int .i64 t107, .slice Ao120 t117.length co120], .int .i64 a1] rfl qm ?_; (with_reducible refine (spec_WayReach.calls k t107 _ _ t117 a1 t108 _ ?side1 ?side2 A9.out).mono ?_); (case side1 => exact qc (Kd.R_reads' HO128.out).2.2); (case side2 => exact (Kd.R_reads' HO128.out).2.1); rintro e w160 ⟨v129, rfl, ho0, hb⟩; refine ⟨_, rfl, ?_⟩; have n0_ := q0 (Kd.R_below (qr HO128.out) hb); have n1_ := q0 (Kd.R_lower ho0 (below_size (qb HB.out))); have n2_ := q0 (kb BK116.out hb); have n3_ := q0 (below_step (qb HB.out) hb); clear HO128 BK116 HB; have HO128 := n0_; have HO130 := n1_; have BK116 := n2_; have HB := n3_; clear n0_ n1_ n2_ n3_; (try clear hb); (try clear hb2); (try clear hk); (try clear hi); (try clear ho0); have hcz161_0 : w160.cell? ⟨gb116, 0, none⟩ = some (.int .i64 a0_0) := (blk_cell BK116.out 0).trans rfl; have hcz161_1 : w160.cell? ⟨gb116, 1, none⟩ = some (.slice A0_1 l0_1.length c0_1) := (blk_cell BK116.out 1).trans rfl; have hfz161_0 := blk_frozen BK116.out 0; have hfz161_1 := blk_frozen BK116.out 1) | ((with_reducible refine gate_callee (f := 16) rfl ?_); refine goesL_ (some 23) rfl rfl Try.func16 (by kernel_rfl) rfl #[.agg #[.int .i64 a0_0, .slice A0_1 l0_1.length c0_1]] rfl qm ?_; (with_reducible refine (laws_toNet.calls k a0_0 _ _ l0_1 t109 t118 _ ?side1 ?side2 A10.out).mono ?_); (case side1 => exact qc (Kd.C_below HR0_1.out HB.out)); (case side2 => exact HC0_1.out); rintro e w162 ⟨v131, rfl, ho0, hb⟩; refine ⟨_, rfl, ?_⟩; have n0_ := q0 (Kd.R_elder' (qr HO128.out) (Kd.R_base ho0) hb); have n1_ := q0 (Kd.R_below (qr HO130.out) hb); have n2_ := q0 (Kd.R_lower (Kd.R_new' ho0 (Kd.R_lt (qr HO128.out))) (below_size (qb HB.out))); have n3_ := q0 (kb BK116.out hb); have n4_ := q0 (below_step (qb HB.out) hb); clear HO128 HO130 BK116 HB; have HO128 := n0_; have HO130 := n1_; have HO132 := n2_; have BK116 := n3_; have HB := n4_; clear n0_ n1_ n2_ n3_ n4_; (try clear hb); (try clear hb2); (try clear hk); (try clear hi); (try clear ho0)) | ((with_reducible refine gate_dst (N := 7) rfl ?_); refine be 7 #[.int .i64 0, .slice none 0 0] 30 ?_; intro gb133 hg w163 hbox hb; have n0_ := q0 (Kd.R_below (qr HO128.out) hb); have n1_ := q0 (Kd.R_below (qr HO130.out) hb); have n2_ := q0 (Kd.R_below (qr HO132.out) hb); have n3_ := q0 (kb BK116.out hb); have n4_ := q0 (below_step (qb HB.out) hb); have n5_ := q0 (hbox); have n6_ := q0 ((bs HB.out hg : w.heap.size ≤ gb133)); have n7_ := q0 ((bs HB.out hg : w.heap.size ≤ gb133)); have n8_ := q0 ((bl BK116.out hg : gb116 ≠ gb133)); have n9_ := q0 ((bg BK116.out hg : gb133 ≠ gb116)); clear HO128 HO130 HO132 BK116 HB; have HO128 := n0_; have HO130 := n1_; have HO132 := n2_; have BK116 := n3_; have HB := n4_; have BK133 := n5_; have GW133 := n6_; have GE133 := n7_; have NB116_133 := n8_; have NB133_116 := n9_; clear n0_ n1_ n2_ n3_ n4_ n5_ n6_ n7_ n8_ n9_ hb hbox hg; have hnb164 := NB133_116.out; have hnc164 := NB116_133.out; have hcz165_0 : w163.cell? ⟨gb133, 0, none⟩ = some (.int .i64 0) := (blk_cell BK133.out 0).trans rfl; have hcz165_1 : w163.cell? ⟨gb133, 1, none⟩ = some (.slice none 0 0) := (blk_cell BK133.out 1).trans rfl; have hfz165_0 := blk_frozen BK133.out 0; have hfz165_1 := blk_frozen BK133.out 1; obtain ⟨Ao166, co166, eo166⟩ := Kd.R_slice HO132.out; subst eo166) | ((with_reducible refine gate_callee (f := 38) rfl ?_); refine goesL_ (some 26) rfl rfl Try.func38 (by kernel_rfl) rfl #[.agg #[.int .i64 t109, .slice Ao166 t118.length co166], .int .i64 a1] rfl qm ?_; (with_reducible refine (impl_WayReach.calls k t109 _ _ t118 a1 t110 _ ?side1 ?side2 A11.out).mono ?_); (case side1 => refine (Kd.R_reads' (e := 54) (base := w.heap.size) (ok := fun k_ => (True ∧ some k_ ≠ (.slice Ao120 t117.length co120 : Value).ownBlock)) (n := t118.length) (c := co166) ?_).2.2; exact (by (with_reducible repeat (first | apply Kd.R_alloc | apply Kd.R_drewN | apply Kd.R_drew)); exact (Kd.R_mono (Kd.R_far (p := ⟨gb133, 1, none⟩) (Kd.R_far (p := ⟨gb133, 0, none⟩) (Kd.R_types HO132.out BK133.out (by decide)) (fun _ hk => hk.2) (.int .i64 t109)) (fun _ hk => hk.2) (.slice Ao166 t118.length co166)) (fun _ h_ => h_.1)))); (case side2 => exact (Kd.R_reads' HO132.out).2.1); rintro e w167 ⟨v134, rfl, ho0, hb⟩; refine ⟨_, rfl, ?_⟩; have n0_ := q0 (Kd.R_below (by (with_reducible repeat (first | apply Kd.R_alloc | apply Kd.R_drewN | apply Kd.R_drew)); exact (Kd.R_mono (Kd.R_far (p := ⟨gb133, 1, none⟩) (Kd.R_far (p := ⟨gb133, 0, none⟩) (Kd.R_types HO128.out BK133.out (by decide)) (fun _ hk => hk.2) (.int .i64 t109)) (fun _ hk => hk.2) (.slice Ao166 t118.length co166)) (fun _ h_ => h_.1))) hb); have n1_ := q0 (Kd.R_elder' (by (with_reducible repeat (first | apply Kd.R_alloc | apply Kd.R_drewN | apply Kd.R_drew)); exact (Kd.R_mono (Kd.R_far (p := ⟨gb133, 1, none⟩) (Kd.R_far (p := ⟨gb133, 0, none⟩) (Kd.R_types HO130.out BK133.out (by decide)) (fun _ hk => hk.2) (.int .i64 t109)) (fun _ hk => hk.2) (.slice Ao166 t118.length co166)) (fun _ h_ => h_.1))) (Kd.R_base ho0) hb); have n2_ := q0 (Kd.R_below (by (with_reducible repeat (first | apply Kd.R_alloc | apply Kd.R_drewN | apply Kd.R_drew)); exact (Kd.R_mono (Kd.R_far (p := ⟨gb133, 1, none⟩) (Kd.R_far (p := ⟨gb133, 0, none⟩) (Kd.R_types HO132.out BK133.out (by decide)) (fun _ hk => hk.2) (.int .i64 t109)) (fun _ hk => hk.2) (.slice Ao166 t118.length co166)) (fun _ h_ => h_.1))) hb); have n3_ := q0 (Kd.R_lower (Kd.R_new' ho0 (Kd.R_lt (by (with_reducible repeat (first | apply Kd.R_alloc | apply Kd.R_drewN | apply Kd.R_drew)); exact (Kd.R_mono (Kd.R_far (p := ⟨gb133, 1, none⟩) (Kd.R_far (p := ⟨gb133, 0, none⟩) (Kd.R_types HO130.out BK133.out (by decide)) (fun _ hk => hk.2) (.int .i64 t109)) (fun _ hk => hk.2) (.slice Ao166 t118.length co166)) (fun _ h_ => h_.1))))) (below_size (qb HB.out))); have n4_ := q0 (blk_below (g := gb116) (o := .cells #[.int .i64 a0_0, .slice A0_1 l0_1.length c0_1] 25 (0, 0)) (qf BK116.out) hb); have n5_ := q0 (blk_below (g := gb133) (o := .cells #[.int .i64 t109, .slice Ao166 t118.length co166] 30 (0, 0)) (by (with_reducible repeat (first | refine blk_drewN ?_ _ | refine blk_drew ?_ | refine blk_alloc ?_ _)); refine blk_put (cs := #[.int .i64 t109, .slice none 0 0]) ?_ 1 _ rfl; (with_reducible repeat (first | refine blk_drewN ?_ _ | refine blk_drew ?_ | refine blk_alloc ?_ _)); refine blk_put (cs := #[.int .i64 0, .slice none 0 0]) ?_ 0 _ rfl; (with_reducible repeat (first | refine blk_drewN ?_ _ | refine blk_drew ?_ | refine blk_alloc ?_ _)); exact BK133.out) hb); have n6_ := q0 (below_step (qb HB.out) hb); clear HO128 HO130 HO132 BK116 BK133 HB; have HO128 := n0_; have HO130 := n1_; have HO132 := n2_; have HO135 := n3_; have BK116 := n4_; have BK133 := n5_; have HB := n6_; clear n0_ n1_ n2_ n3_ n4_ n5_ n6_; (try clear hb); (try clear hb2); (try clear hk); (try clear hi); (try clear ho0); obtain ⟨Ao168, co168, eo168⟩ := Kd.R_slice HO135.out; subst eo168; obtain ⟨Ao121, co121, eo121⟩ := Kd.R_slice HO130.out; subst eo121) | ((with_reducible refine gate_callee (f := 39) rfl ?_); refine goesL_ (some 29) rfl rfl Try.func39 (by kernel_rfl) rfl #[.slice Ao168 t110.length co168, .slice Ao121 t108.length co121] rfl qm ?_; (with_reducible refine (laws_eqBoolS.calls k _ _ t110 _ _ t108 false _ ?side1 ?side2 ?side3 ?side4 A12.out).mono ?_); (case side1 => exact qc (Kd.R_reads' HO135.out).2.2); (case side2 => exact (Kd.R_reads' HO135.out).2.1); (case side3 => exact qc (Kd.R_reads' HO130.out).2.2); (case side4 => exact (Kd.R_reads' HO130.out).2.1); rintro e w' ⟨rfl, ⟨nd, rfl⟩⟩; refine ⟨_, rfl, ?_⟩))
   go_ret
   exact ⟨qe, qb HB.out⟩
 subst c13
 have H1 : ((laws_toNet.f k a0_0 l0_1).bind fun bt112 => ((laws_eqNet.f k t109 t118 bt112.1 bt112.2).bind fun t113 => (if t113 = true then ((laws_markNet.f k t109 t118 1).bind fun bt114 => (if bt114.1 < 0 then (laws_FnExactWayReach.j0 k a1 t108 t110 true a0_0 l0_1) else ((laws_eqBoolS.f k t110 t108).bind fun t115 => (laws_FnExactWayReach.j0 k a1 t108 t110 (!t115) a0_0 l0_1)))) else (some false)))) = some r := by rw [if_pos rfl] at H; exact H
 clear H
 have H := H1
 clear H1
 replace H := Option.bind_eq_some_iff.mp H
 obtain ⟨⟨t112, t122⟩, A123, H⟩ := H
 replace H : ((laws_eqNet.f k t109 t118 t112 t122).bind fun t113 => (if t113 = true then ((laws_markNet.f k t109 t118 1).bind fun bt114 => (if bt114.1 < 0 then (laws_FnExactWayReach.j0 k a1 t108 t110 true a0_0 l0_1) else ((laws_eqBoolS.f k t110 t108).bind fun t115 => (laws_FnExactWayReach.j0 k a1 t108 t110 (!t115) a0_0 l0_1)))) else (some false))) = some r := H
 have A14 := Aside0.mk A123
 clear A123
 replace H := Option.bind_eq_some_iff.mp H
 obtain ⟨t113, A124, H⟩ := H
 replace H : (if t113 = true then ((laws_markNet.f k t109 t118 1).bind fun bt114 => (if bt114.1 < 0 then (laws_FnExactWayReach.j0 k a1 t108 t110 true a0_0 l0_1) else ((laws_eqBoolS.f k t110 t108).bind fun t115 => (laws_FnExactWayReach.j0 k a1 t108 t110 (!t115) a0_0 l0_1)))) else (some false)) = some r := H
 have A15 := Aside0.mk A124
 clear A124
 by_cases c16 : t113 = true
 rotate_left
 · replace c16 := Bool.eq_false_iff.mpr c16
   subst c16
   have H1 : (some false) = some r := by rw [if_neg (show ¬ (false = true) by decide)] at H; exact H
   clear H
   have H := H1
   clear H1
   obtain rfl := Option.some.inj H
   go_enter Try.func12, Try.ntmps12
   try go_wp2_with (first | ((with_reducible refine gate_dst (N := 2) rfl ?_); refine be 2 #[.int .i64 a0_0, .slice A0_1 l0_1.length c0_1] 25 ?_; intro gb116 hg w85 hbox hb; have n0_ := q0 (below_step (qb HB.out) hb); have n1_ := q0 (hbox); have n2_ := q0 ((bs HB.out hg : w.heap.size ≤ gb116)); have n3_ := q0 ((bs HB.out hg : w.heap.size ≤ gb116)); clear HB; have HB := n0_; have BK116 := n1_; have GW116 := n2_; have GE116 := n3_; clear n0_ n1_ n2_ n3_ hb hbox hg; have hcz86_0 : w85.cell? ⟨gb116, 0, none⟩ = some (.int .i64 a0_0) := (blk_cell BK116.out 0).trans rfl; have hcz86_1 : w85.cell? ⟨gb116, 1, none⟩ = some (.slice A0_1 l0_1.length c0_1) := (blk_cell BK116.out 1).trans rfl; have hfz86_0 := blk_frozen BK116.out 0; have hfz86_1 := blk_frozen BK116.out 1) | ((with_reducible refine gate_callee (f := 14) rfl ?_); refine goesL_ (some 15) rfl rfl Try.func14 (by kernel_rfl) rfl #[.agg #[.int .i64 a0_0, .slice A0_1 l0_1.length c0_1], .int .i64 1048576] rfl qm ?_; (with_reducible refine (laws_szNet.calls a0_0 _ _ l0_1 1048576 t100 _ ?side1 ?side2 A3.out).mono ?_); (case side1 => exact qc (Kd.C_below HR0_1.out HB.out)); (case side2 => exact HC0_1.out); rintro e w87 ⟨rfl, hb⟩; refine ⟨_, rfl, ?_⟩; have n0_ := q0 (kb BK116.out hb); have n1_ := q0 (below_step (qb HB.out) hb); clear BK116 HB; have BK116 := n0_; have HB := n1_; clear n0_ n1_; (try clear hb); (try clear hb2); (try clear hk); (try clear hi); have hcz88_0 : w87.cell? ⟨gb116, 0, none⟩ = some (.int .i64 a0_0) := (blk_cell BK116.out 0).trans rfl; have hcz88_1 : w87.cell? ⟨gb116, 1, none⟩ = some (.slice A0_1 l0_1.length c0_1) := (blk_cell BK116.out 1).trans rfl; have hfz88_0 := blk_frozen BK116.out 0; have hfz88_1 := blk_frozen BK116.out 1) | ((with_reducible refine gate_callee (f := 16) rfl ?_); refine goesL_ (some 19) rfl rfl Try.func16 (by kernel_rfl) rfl #[.agg #[.int .i64 a0_0, .slice A0_1 l0_1.length c0_1]] rfl qm ?_; (with_reducible refine (laws_toNet.calls k a0_0 _ _ l0_1 t107 t117 _ ?side1 ?side2 A8.out).mono ?_); (case side1 => exact qc (Kd.C_below HR0_1.out HB.out)); (case side2 => exact HC0_1.out); rintro e w89 ⟨v127, rfl, ho0, hb⟩; refine ⟨_, rfl, ?_⟩; have n0_ := q0 (Kd.R_lower ho0 (below_size (qb HB.out))); have n1_ := q0 (kb BK116.out hb); have n2_ := q0 (below_step (qb HB.out) hb); clear BK116 HB; have HO128 := n0_; have BK116 := n1_; have HB := n2_; clear n0_ n1_ n2_; (try clear hb); (try clear hb2); (try clear hk); (try clear hi); (try clear ho0); obtain ⟨Ao90, co90, eo90⟩ := Kd.R_slice HO128.out; subst eo90) | ((with_reducible refine gate_callee (f := 37) rfl ?_); refine goesL_ (some 21) rfl rfl Try.func37 (by kernel_rfl) rfl #[.agg #[.int .i64 t107, .slice Ao90 t117.length co90], .int .i64 a1] rfl qm ?_; (with_reducible refine (spec_WayReach.calls k t107 _ _ t117 a1 t108 _ ?side1 ?side2 A9.out).mono ?_); (case side1 => exact qc (Kd.R_reads' HO128.out).2.2); (case side2 => exact (Kd.R_reads' HO128.out).2.1); rintro e w91 ⟨v129, rfl, ho0, hb⟩; refine ⟨_, rfl, ?_⟩; have n0_ := q0 (Kd.R_below (qr HO128.out) hb); have n1_ := q0 (Kd.R_lower ho0 (below_size (qb HB.out))); have n2_ := q0 (kb BK116.out hb); have n3_ := q0 (below_step (qb HB.out) hb); clear HO128 BK116 HB; have HO128 := n0_; have HO130 := n1_; have BK116 := n2_; have HB := n3_; clear n0_ n1_ n2_ n3_; (try clear hb); (try clear hb2); (try clear hk); (try clear hi); (try clear ho0); have hcz92_0 : w91.cell? ⟨gb116, 0, none⟩ = some (.int .i64 a0_0) := (blk_cell BK116.out 0).trans rfl; have hcz92_1 : w91.cell? ⟨gb116, 1, none⟩ = some (.slice A0_1 l0_1.length c0_1) := (blk_cell BK116.out 1).trans rfl; have hfz92_0 := blk_frozen BK116.out 0; have hfz92_1 := blk_frozen BK116.out 1) | ((with_reducible refine gate_callee (f := 16) rfl ?_); refine goesL_ (some 23) rfl rfl Try.func16 (by kernel_rfl) rfl #[.agg #[.int .i64 a0_0, .slice A0_1 l0_1.length c0_1]] rfl qm ?_; (with_reducible refine (laws_toNet.calls k a0_0 _ _ l0_1 t109 t118 _ ?side1 ?side2 A10.out).mono ?_); (case side1 => exact qc (Kd.C_below HR0_1.out HB.out)); (case side2 => exact HC0_1.out); rintro e w93 ⟨v131, rfl, ho0, hb⟩; refine ⟨_, rfl, ?_⟩; have n0_ := q0 (Kd.R_elder' (qr HO128.out) (Kd.R_base ho0) hb); have n1_ := q0 (Kd.R_below (qr HO130.out) hb); have n2_ := q0 (Kd.R_lower (Kd.R_new' ho0 (Kd.R_lt (qr HO128.out))) (below_size (qb HB.out))); have n3_ := q0 (kb BK116.out hb); have n4_ := q0 (below_step (qb HB.out) hb); clear HO128 HO130 BK116 HB; have HO128 := n0_; have HO130 := n1_; have HO132 := n2_; have BK116 := n3_; have HB := n4_; clear n0_ n1_ n2_ n3_ n4_; (try clear hb); (try clear hb2); (try clear hk); (try clear hi); (try clear ho0)) | ((with_reducible refine gate_dst (N := 7) rfl ?_); refine be 7 #[.int .i64 0, .slice none 0 0] 30 ?_; intro gb133 hg w94 hbox hb; have n0_ := q0 (Kd.R_below (qr HO128.out) hb); have n1_ := q0 (Kd.R_below (qr HO130.out) hb); have n2_ := q0 (Kd.R_below (qr HO132.out) hb); have n3_ := q0 (kb BK116.out hb); have n4_ := q0 (below_step (qb HB.out) hb); have n5_ := q0 (hbox); have n6_ := q0 ((bs HB.out hg : w.heap.size ≤ gb133)); have n7_ := q0 ((bs HB.out hg : w.heap.size ≤ gb133)); have n8_ := q0 ((bl BK116.out hg : gb116 ≠ gb133)); have n9_ := q0 ((bg BK116.out hg : gb133 ≠ gb116)); clear HO128 HO130 HO132 BK116 HB; have HO128 := n0_; have HO130 := n1_; have HO132 := n2_; have BK116 := n3_; have HB := n4_; have BK133 := n5_; have GW133 := n6_; have GE133 := n7_; have NB116_133 := n8_; have NB133_116 := n9_; clear n0_ n1_ n2_ n3_ n4_ n5_ n6_ n7_ n8_ n9_ hb hbox hg; have hnb95 := NB133_116.out; have hnc95 := NB116_133.out; have hcz96_0 : w94.cell? ⟨gb133, 0, none⟩ = some (.int .i64 0) := (blk_cell BK133.out 0).trans rfl; have hcz96_1 : w94.cell? ⟨gb133, 1, none⟩ = some (.slice none 0 0) := (blk_cell BK133.out 1).trans rfl; have hfz96_0 := blk_frozen BK133.out 0; have hfz96_1 := blk_frozen BK133.out 1; obtain ⟨Ao97, co97, eo97⟩ := Kd.R_slice HO132.out; subst eo97) | ((with_reducible refine gate_callee (f := 38) rfl ?_); refine goesL_ (some 26) rfl rfl Try.func38 (by kernel_rfl) rfl #[.agg #[.int .i64 t109, .slice Ao97 t118.length co97], .int .i64 a1] rfl qm ?_; (with_reducible refine (impl_WayReach.calls k t109 _ _ t118 a1 t110 _ ?side1 ?side2 A11.out).mono ?_); (case side1 => refine (Kd.R_reads' (e := 54) (base := w.heap.size) (ok := fun k_ => (True ∧ some k_ ≠ (.slice Ao90 t117.length co90 : Value).ownBlock)) (n := t118.length) (c := co97) ?_).2.2; exact (by (with_reducible repeat (first | apply Kd.R_alloc | apply Kd.R_drewN | apply Kd.R_drew)); exact (Kd.R_mono (Kd.R_far (p := ⟨gb133, 1, none⟩) (Kd.R_far (p := ⟨gb133, 0, none⟩) (Kd.R_types HO132.out BK133.out (by decide)) (fun _ hk => hk.2) (.int .i64 t109)) (fun _ hk => hk.2) (.slice Ao97 t118.length co97)) (fun _ h_ => h_.1)))); (case side2 => exact (Kd.R_reads' HO132.out).2.1); rintro e w98 ⟨v134, rfl, ho0, hb⟩; refine ⟨_, rfl, ?_⟩; have n0_ := q0 (Kd.R_below (by (with_reducible repeat (first | apply Kd.R_alloc | apply Kd.R_drewN | apply Kd.R_drew)); exact (Kd.R_mono (Kd.R_far (p := ⟨gb133, 1, none⟩) (Kd.R_far (p := ⟨gb133, 0, none⟩) (Kd.R_types HO128.out BK133.out (by decide)) (fun _ hk => hk.2) (.int .i64 t109)) (fun _ hk => hk.2) (.slice Ao97 t118.length co97)) (fun _ h_ => h_.1))) hb); have n1_ := q0 (Kd.R_elder' (by (with_reducible repeat (first | apply Kd.R_alloc | apply Kd.R_drewN | apply Kd.R_drew)); exact (Kd.R_mono (Kd.R_far (p := ⟨gb133, 1, none⟩) (Kd.R_far (p := ⟨gb133, 0, none⟩) (Kd.R_types HO130.out BK133.out (by decide)) (fun _ hk => hk.2) (.int .i64 t109)) (fun _ hk => hk.2) (.slice Ao97 t118.length co97)) (fun _ h_ => h_.1))) (Kd.R_base ho0) hb); have n2_ := q0 (Kd.R_below (by (with_reducible repeat (first | apply Kd.R_alloc | apply Kd.R_drewN | apply Kd.R_drew)); exact (Kd.R_mono (Kd.R_far (p := ⟨gb133, 1, none⟩) (Kd.R_far (p := ⟨gb133, 0, none⟩) (Kd.R_types HO132.out BK133.out (by decide)) (fun _ hk => hk.2) (.int .i64 t109)) (fun _ hk => hk.2) (.slice Ao97 t118.length co97)) (fun _ h_ => h_.1))) hb); have n3_ := q0 (Kd.R_lower (Kd.R_new' ho0 (Kd.R_lt (by (with_reducible repeat (first | apply Kd.R_alloc | apply Kd.R_drewN | apply Kd.R_drew)); exact (Kd.R_mono (Kd.R_far (p := ⟨gb133, 1, none⟩) (Kd.R_far (p := ⟨gb133, 0, none⟩) (Kd.R_types HO130.out BK133.out (by decide)) (fun _ hk => hk.2) (.int .i64 t109)) (fun _ hk => hk.2) (.slice Ao97 t118.length co97)) (fun _ h_ => h_.1))))) (below_size (qb HB.out))); have n4_ := q0 (blk_below (g := gb116) (o := .cells #[.int .i64 a0_0, .slice A0_1 l0_1.length c0_1] 25 (0, 0)) (qf BK116.out) hb); have n5_ := q0 (blk_below (g := gb133) (o := .cells #[.int .i64 t109, .slice Ao97 t118.length co97] 30 (0, 0)) (by (with_reducible repeat (first | refine blk_drewN ?_ _ | refine blk_drew ?_ | refine blk_alloc ?_ _)); refine blk_put (cs := #[.int .i64 t109, .slice none 0 0]) ?_ 1 _ rfl; (with_reducible repeat (first | refine blk_drewN ?_ _ | refine blk_drew ?_ | refine blk_alloc ?_ _)); refine blk_put (cs := #[.int .i64 0, .slice none 0 0]) ?_ 0 _ rfl; (with_reducible repeat (first | refine blk_drewN ?_ _ | refine blk_drew ?_ | refine blk_alloc ?_ _)); exact BK133.out) hb); have n6_ := q0 (below_step (qb HB.out) hb); clear HO128 HO130 HO132 BK116 BK133 HB; have HO128 := n0_; have HO130 := n1_; have HO132 := n2_; have HO135 := n3_; have BK116 := n4_; have BK133 := n5_; have HB := n6_; clear n0_ n1_ n2_ n3_ n4_ n5_ n6_; (try clear hb); (try clear hb2); (try clear hk); (try clear hi); (try clear ho0); obtain ⟨Ao99, co99, eo99⟩ := Kd.R_slice HO135.out; subst eo99; obtain ⟨Ao119, co119, eo119⟩ := Kd.R_slice HO130.out; subst eo119) | ((with_reducible refine gate_callee (f := 39) rfl ?_); refine goesL_ (some 29) rfl rfl Try.func39 (by kernel_rfl) rfl #[.slice Ao99 t110.length co99, .slice Ao119 t108.length co119] rfl qm ?_; (with_reducible refine (laws_eqBoolS.calls k _ _ t110 _ _ t108 true _ ?side1 ?side2 ?side3 ?side4 A12.out).mono ?_); (case side1 => exact qc (Kd.R_reads' HO135.out).2.2); (case side2 => exact (Kd.R_reads' HO135.out).2.1); (case side3 => exact qc (Kd.R_reads' HO130.out).2.2); (case side4 => exact (Kd.R_reads' HO130.out).2.1); rintro e w' ⟨rfl, ⟨nd, rfl⟩⟩; refine ⟨_, rfl, ?_⟩))
   (try (rw [drewN_self w98]; generalize hq_ : World.drewN w98 _ = w98; have n0_ : Aside0 (Kd.R kTie 54 w98 w.heap.size (fun k_ => some k_ ≠ (.slice Ao97 t118.length co97 : Value).ownBlock) (.slice Ao90 t117.length co90) t117) := ⟨by rw [← hq_]; exact (by (with_reducible repeat (first | apply Kd.R_alloc | apply Kd.R_drewN | apply Kd.R_drew)); exact Kd.R_mono HO128.out (fun _ hk => hk.2))⟩; have n1_ : Aside0 (Kd.R Kd.bool 4 w98 w.heap.size (fun k_ => some k_ ≠ (.slice Ao99 t110.length co99 : Value).ownBlock) (.slice Ao119 t108.length co119) t108) := ⟨by rw [← hq_]; exact (by (with_reducible repeat (first | apply Kd.R_alloc | apply Kd.R_drewN | apply Kd.R_drew)); exact Kd.R_mono HO130.out (fun _ hk => hk.2))⟩; have n2_ : Aside0 (Kd.R kTie 54 w98 w.heap.size (fun k_ => some k_ ≠ (.slice Ao90 t117.length co90 : Value).ownBlock) (.slice Ao97 t118.length co97) t118) := ⟨by rw [← hq_]; exact (by (with_reducible repeat (first | apply Kd.R_alloc | apply Kd.R_drewN | apply Kd.R_drew)); exact Kd.R_mono HO132.out (fun _ hk => hk.2))⟩; have n3_ : Aside0 (Kd.R Kd.bool 4 w98 w.heap.size (fun k_ => some k_ ≠ (.slice Ao119 t108.length co119 : Value).ownBlock) (.slice Ao99 t110.length co99) t110) := ⟨by rw [← hq_]; exact (by (with_reducible repeat (first | apply Kd.R_alloc | apply Kd.R_drewN | apply Kd.R_drew)); exact Kd.R_mono HO135.out (fun _ hk => hk.2))⟩; have n4_ : Aside0 (w98.heap[gb116]? = some (.cells #[.int .i64 a0_0, .slice A0_1 l0_1.length c0_1] 25 (0, 0))) := ⟨by rw [← hq_]; exact (qk BK116.out)⟩; have n5_ : Aside0 (w98.heap[gb133]? = some (.cells #[.int .i64 t109, .slice Ao97 t118.length co97] 30 (0, 0))) := ⟨by rw [← hq_]; exact (qk BK133.out)⟩; have n6_ : Aside0 (Below w.heap.size w w98) := ⟨by rw [← hq_]; exact (qb HB.out)⟩; clear HO128 HO130 HO132 HO135 BK116 BK133 HB hq_; have HO128 := n0_; have HO130 := n1_; have HO132 := n2_; have HO135 := n3_; have BK116 := n4_; have BK133 := n5_; have HB := n6_; clear n0_ n1_ n2_ n3_ n4_ n5_ n6_))
   have n0_ := q0 (Kd.R_drew HO128.out)
   have n1_ := q0 (Kd.R_drew HO130.out)
   have n2_ := q0 (Kd.R_drew HO132.out)
   have n3_ := q0 (Kd.R_drew HO135.out)
   have n4_ := q0 (blk_drew BK116.out)
   have n5_ := q0 (blk_drew BK133.out)
   have n6_ := q0 (below_drew1 HB.out)
   clear HO128
   clear HO130
   clear HO132
   clear HO135
   clear BK116
   clear BK133
   clear HB
   have HO128 := n0_
   have HO130 := n1_
   have HO132 := n2_
   have HO135 := n3_
   have BK116 := n4_
   have BK133 := n5_
   have HB := n6_
   clear n0_ n1_ n2_ n3_ n4_ n5_ n6_
   refine start_ (n := 5) (S := fun w' => w'.cell? ⟨gb133, 0, none⟩ = some (.int .i64 t109) ∧ w'.cell? ⟨gb133, 1, none⟩ = some (.slice Ao97 t118.length co97) ∧ w'.cell? ⟨gb116, 0, none⟩ = some (.int .i64 a0_0) ∧ w'.cell? ⟨gb116, 1, none⟩ = some (.slice A0_1 l0_1.length c0_1)) (ds := []) (ba 5 0) (by kernel_rfl) rfl (by kernel_rfl) ⟨(blk_cell BK133.out 0).trans rfl, (blk_cell BK133.out 1).trans rfl, (blk_cell BK116.out 0).trans rfl, (blk_cell BK116.out 1).trans rfl⟩ (fun hHeld => ?_)
   generalize w98.drew = w151 at HO128 HO130 HO132 HO135 BK116 BK133 HB hHeld ⊢
   refine tw 0 (some 31) (ba 5 1) hHeld ?_
   refine tw 1 (some 32) (ba 5 3) hHeld ?_
   refine one_ (i := 2) (N := some 33) (ba 5 7) rfl rfl (by kernel_rfl) (by decide) (fun K hK => ?_)
   refine goes_ Try.func16 (by kernel_rfl) rfl #[.agg #[.int .i64 a0_0, .slice A0_1 l0_1.length c0_1]] (by rfl) rfl rfl qm ?_
   with_reducible refine (laws_toNet.calls k a0_0 _ _ l0_1 t112 t122 _ ?side1 ?side2 A14.out).mono ?_
   (case side1 => exact qc (Kd.C_below HR0_1.out HB.out))
   (case side2 => exact HC0_1.out)
   rintro e w152 ⟨v136, rfl, ho0, hb⟩
   refine ⟨_, rfl, ?_⟩
   have n0_ := q0 (Kd.R_elder' (qr HO128.out) (Kd.R_base ho0) hb)
   have n1_ := q0 (Kd.R_below (qr HO130.out) hb)
   have n2_ := q0 (Kd.R_elder' (qr HO132.out) (Kd.R_base ho0) hb)
   have n3_ := q0 (Kd.R_below (qr HO135.out) hb)
   have n4_ := q0 (Kd.R_lower (Kd.R_new' (Kd.R_new' ho0 (Kd.R_lt (qr HO128.out))) (Kd.R_lt (qr HO132.out))) (below_size (qb HB.out)))
   have n5_ := q0 (kb BK116.out hb)
   have n6_ := q0 (kb BK133.out hb)
   have n7_ := q0 (below_step (qb HB.out) hb)
   clear HO128
   clear HO130
   clear HO132
   clear HO135
   clear BK116
   clear BK133
   clear HB
   have HO128 := n0_
   have HO130 := n1_
   have HO132 := n2_
   have HO135 := n3_
   have HO137 := n4_
   have BK116 := n5_
   have BK133 := n6_
   have HB := n7_
   clear n0_ n1_ n2_ n3_ n4_ n5_ n6_ n7_
   (try clear hb)
   (try clear hb2)
   (try clear hk)
   (try clear hi)
   (try clear ho0)
   obtain ⟨Ao153, co153, eo153⟩ := Kd.R_slice HO137.out
   (first | subst eo153 | (injection eo153 with f1_ f2_ f3_; have f4_ := f1_.symm; have f5_ := f3_.symm; clear f1_ f2_ f3_; subst f4_; subst f5_))
   refine hK.out _ _ ⟨(blk_cell BK133.out 0).trans rfl, (blk_cell BK133.out 1).trans rfl, (blk_cell BK116.out 0).trans rfl, (blk_cell BK116.out 1).trans rfl⟩ (fun hHeld => ?_)
   clear hK K
   refine nu 33 ?_
   refine one_ (i := 3) (N := some 34) (ba 5 15) rfl rfl (by kernel_rfl) (by decide) (fun K hK => ?_)
   refine goes_ Try.func18 (by kernel_rfl) rfl #[.agg #[.int .i64 t109, .slice Ao97 t118.length co97], .agg #[.int .i64 t112, .slice Ao153 t122.length co153]] (by rfl) rfl rfl qm ?_
   with_reducible refine (laws_eqNet.calls k t109 _ _ t118 t112 _ _ t122 false _ ?side1 ?side2 ?side3 ?side4 A15.out).mono ?_
   (case side1 => exact qc (Kd.R_reads' HO132.out).2.2)
   (case side2 => exact (Kd.R_reads' HO132.out).2.1)
   (case side3 => exact qc (Kd.R_reads' HO137.out).2.2)
   (case side4 => exact (Kd.R_reads' HO137.out).2.1)
   rintro e w154 ⟨rfl, hb⟩
   refine ⟨_, rfl, ?_⟩
   have n0_ := q0 (Kd.R_below (qr HO128.out) hb)
   have n1_ := q0 (Kd.R_below (qr HO130.out) hb)
   have n2_ := q0 (Kd.R_below (qr HO132.out) hb)
   have n3_ := q0 (Kd.R_below (qr HO135.out) hb)
   have n4_ := q0 (Kd.R_below (qr HO137.out) hb)
   have n5_ := q0 (kb BK116.out hb)
   have n6_ := q0 (kb BK133.out hb)
   have n7_ := q0 (below_step (qb HB.out) hb)
   clear HO128
   clear HO130
   clear HO132
   clear HO135
   clear HO137
   clear BK116
   clear BK133
   clear HB
   have HO128 := n0_
   have HO130 := n1_
   have HO132 := n2_
   have HO135 := n3_
   have HO137 := n4_
   have BK116 := n5_
   have BK133 := n6_
   have HB := n7_
   clear n0_ n1_ n2_ n3_ n4_ n5_ n6_ n7_
   (try clear hb)
   (try clear hb2)
   (try clear hk)
   (try clear hi)
   refine hK.out _ _ ⟨(blk_cell BK133.out 0).trans rfl, (blk_cell BK133.out 1).trans rfl, (blk_cell BK116.out 0).trans rfl, (blk_cell BK116.out 1).trans rfl⟩ (fun hHeld => ?_)
   clear hK K
   refine nu 34 ?_
   refine pw 4 (some 35) (ba 5 31) ?_
   refine done_ (by kernel_rfl) ?_
   try go_wp2
   go_ret
   exact ⟨qe, qb HB.out⟩
 subst c16
 have H1 : ((laws_markNet.f k t109 t118 1).bind fun bt114 => (if bt114.1 < 0 then (laws_FnExactWayReach.j0 k a1 t108 t110 true a0_0 l0_1) else ((laws_eqBoolS.f k t110 t108).bind fun t115 => (laws_FnExactWayReach.j0 k a1 t108 t110 (!t115) a0_0 l0_1)))) = some r := by rw [if_pos rfl] at H; exact H
 clear H
 have H := H1
 clear H1
 replace H := Option.bind_eq_some_iff.mp H
 obtain ⟨⟨t114, t125⟩, A126, H⟩ := H
 replace H : (if t114 < 0 then (laws_FnExactWayReach.j0 k a1 t108 t110 true a0_0 l0_1) else ((laws_eqBoolS.f k t110 t108).bind fun t115 => (laws_FnExactWayReach.j0 k a1 t108 t110 (!t115) a0_0 l0_1))) = some r := H
 have A17 := Aside0.mk A126
 clear A126
 have HC18 := Aside0.mk H
 clear H
 go_enter Try.func12, Try.ntmps12
 try go_wp2_with (first | ((with_reducible refine gate_dst (N := 2) rfl ?_); refine be 2 #[.int .i64 a0_0, .slice A0_1 l0_1.length c0_1] 25 ?_; intro gb116 hg w19 hbox hb; have n0_ := q0 (below_step (qb HB.out) hb); have n1_ := q0 (hbox); have n2_ := q0 ((bs HB.out hg : w.heap.size ≤ gb116)); have n3_ := q0 ((bs HB.out hg : w.heap.size ≤ gb116)); clear HB; have HB := n0_; have BK116 := n1_; have GW116 := n2_; have GE116 := n3_; clear n0_ n1_ n2_ n3_ hb hbox hg; have hcz20_0 : w19.cell? ⟨gb116, 0, none⟩ = some (.int .i64 a0_0) := (blk_cell BK116.out 0).trans rfl; have hcz20_1 : w19.cell? ⟨gb116, 1, none⟩ = some (.slice A0_1 l0_1.length c0_1) := (blk_cell BK116.out 1).trans rfl; have hfz20_0 := blk_frozen BK116.out 0; have hfz20_1 := blk_frozen BK116.out 1) | ((with_reducible refine gate_callee (f := 14) rfl ?_); refine goesL_ (some 15) rfl rfl Try.func14 (by kernel_rfl) rfl #[.agg #[.int .i64 a0_0, .slice A0_1 l0_1.length c0_1], .int .i64 1048576] rfl qm ?_; (with_reducible refine (laws_szNet.calls a0_0 _ _ l0_1 1048576 t100 _ ?side1 ?side2 A3.out).mono ?_); (case side1 => exact qc (Kd.C_below HR0_1.out HB.out)); (case side2 => exact HC0_1.out); rintro e w21 ⟨rfl, hb⟩; refine ⟨_, rfl, ?_⟩; have n0_ := q0 (kb BK116.out hb); have n1_ := q0 (below_step (qb HB.out) hb); clear BK116 HB; have BK116 := n0_; have HB := n1_; clear n0_ n1_; (try clear hb); (try clear hb2); (try clear hk); (try clear hi); have hcz22_0 : w21.cell? ⟨gb116, 0, none⟩ = some (.int .i64 a0_0) := (blk_cell BK116.out 0).trans rfl; have hcz22_1 : w21.cell? ⟨gb116, 1, none⟩ = some (.slice A0_1 l0_1.length c0_1) := (blk_cell BK116.out 1).trans rfl; have hfz22_0 := blk_frozen BK116.out 0; have hfz22_1 := blk_frozen BK116.out 1) | ((with_reducible refine gate_callee (f := 16) rfl ?_); refine goesL_ (some 19) rfl rfl Try.func16 (by kernel_rfl) rfl #[.agg #[.int .i64 a0_0, .slice A0_1 l0_1.length c0_1]] rfl qm ?_; (with_reducible refine (laws_toNet.calls k a0_0 _ _ l0_1 t107 t117 _ ?side1 ?side2 A8.out).mono ?_); (case side1 => exact qc (Kd.C_below HR0_1.out HB.out)); (case side2 => exact HC0_1.out); rintro e w23 ⟨v127, rfl, ho0, hb⟩; refine ⟨_, rfl, ?_⟩; have n0_ := q0 (Kd.R_lower ho0 (below_size (qb HB.out))); have n1_ := q0 (kb BK116.out hb); have n2_ := q0 (below_step (qb HB.out) hb); clear BK116 HB; have HO128 := n0_; have BK116 := n1_; have HB := n2_; clear n0_ n1_ n2_; (try clear hb); (try clear hb2); (try clear hk); (try clear hi); (try clear ho0); obtain ⟨Ao24, co24, eo24⟩ := Kd.R_slice HO128.out; subst eo24) | ((with_reducible refine gate_callee (f := 37) rfl ?_); refine goesL_ (some 21) rfl rfl Try.func37 (by kernel_rfl) rfl #[.agg #[.int .i64 t107, .slice Ao24 t117.length co24], .int .i64 a1] rfl qm ?_; (with_reducible refine (spec_WayReach.calls k t107 _ _ t117 a1 t108 _ ?side1 ?side2 A9.out).mono ?_); (case side1 => exact qc (Kd.R_reads' HO128.out).2.2); (case side2 => exact (Kd.R_reads' HO128.out).2.1); rintro e w25 ⟨v129, rfl, ho0, hb⟩; refine ⟨_, rfl, ?_⟩; have n0_ := q0 (Kd.R_below (qr HO128.out) hb); have n1_ := q0 (Kd.R_lower ho0 (below_size (qb HB.out))); have n2_ := q0 (kb BK116.out hb); have n3_ := q0 (below_step (qb HB.out) hb); clear HO128 BK116 HB; have HO128 := n0_; have HO130 := n1_; have BK116 := n2_; have HB := n3_; clear n0_ n1_ n2_ n3_; (try clear hb); (try clear hb2); (try clear hk); (try clear hi); (try clear ho0); have hcz26_0 : w25.cell? ⟨gb116, 0, none⟩ = some (.int .i64 a0_0) := (blk_cell BK116.out 0).trans rfl; have hcz26_1 : w25.cell? ⟨gb116, 1, none⟩ = some (.slice A0_1 l0_1.length c0_1) := (blk_cell BK116.out 1).trans rfl; have hfz26_0 := blk_frozen BK116.out 0; have hfz26_1 := blk_frozen BK116.out 1) | ((with_reducible refine gate_callee (f := 16) rfl ?_); refine goesL_ (some 23) rfl rfl Try.func16 (by kernel_rfl) rfl #[.agg #[.int .i64 a0_0, .slice A0_1 l0_1.length c0_1]] rfl qm ?_; (with_reducible refine (laws_toNet.calls k a0_0 _ _ l0_1 t109 t118 _ ?side1 ?side2 A10.out).mono ?_); (case side1 => exact qc (Kd.C_below HR0_1.out HB.out)); (case side2 => exact HC0_1.out); rintro e w27 ⟨v131, rfl, ho0, hb⟩; refine ⟨_, rfl, ?_⟩; have n0_ := q0 (Kd.R_elder' (qr HO128.out) (Kd.R_base ho0) hb); have n1_ := q0 (Kd.R_below (qr HO130.out) hb); have n2_ := q0 (Kd.R_lower (Kd.R_new' ho0 (Kd.R_lt (qr HO128.out))) (below_size (qb HB.out))); have n3_ := q0 (kb BK116.out hb); have n4_ := q0 (below_step (qb HB.out) hb); clear HO128 HO130 BK116 HB; have HO128 := n0_; have HO130 := n1_; have HO132 := n2_; have BK116 := n3_; have HB := n4_; clear n0_ n1_ n2_ n3_ n4_; (try clear hb); (try clear hb2); (try clear hk); (try clear hi); (try clear ho0)) | ((with_reducible refine gate_dst (N := 7) rfl ?_); refine be 7 #[.int .i64 0, .slice none 0 0] 30 ?_; intro gb133 hg w28 hbox hb; have n0_ := q0 (Kd.R_below (qr HO128.out) hb); have n1_ := q0 (Kd.R_below (qr HO130.out) hb); have n2_ := q0 (Kd.R_below (qr HO132.out) hb); have n3_ := q0 (kb BK116.out hb); have n4_ := q0 (below_step (qb HB.out) hb); have n5_ := q0 (hbox); have n6_ := q0 ((bs HB.out hg : w.heap.size ≤ gb133)); have n7_ := q0 ((bs HB.out hg : w.heap.size ≤ gb133)); have n8_ := q0 ((bl BK116.out hg : gb116 ≠ gb133)); have n9_ := q0 ((bg BK116.out hg : gb133 ≠ gb116)); clear HO128 HO130 HO132 BK116 HB; have HO128 := n0_; have HO130 := n1_; have HO132 := n2_; have BK116 := n3_; have HB := n4_; have BK133 := n5_; have GW133 := n6_; have GE133 := n7_; have NB116_133 := n8_; have NB133_116 := n9_; clear n0_ n1_ n2_ n3_ n4_ n5_ n6_ n7_ n8_ n9_ hb hbox hg; have hnb29 := NB133_116.out; have hnc29 := NB116_133.out; have hcz30_0 : w28.cell? ⟨gb133, 0, none⟩ = some (.int .i64 0) := (blk_cell BK133.out 0).trans rfl; have hcz30_1 : w28.cell? ⟨gb133, 1, none⟩ = some (.slice none 0 0) := (blk_cell BK133.out 1).trans rfl; have hfz30_0 := blk_frozen BK133.out 0; have hfz30_1 := blk_frozen BK133.out 1; obtain ⟨Ao31, co31, eo31⟩ := Kd.R_slice HO132.out; subst eo31) | ((with_reducible refine gate_callee (f := 38) rfl ?_); refine goesL_ (some 26) rfl rfl Try.func38 (by kernel_rfl) rfl #[.agg #[.int .i64 t109, .slice Ao31 t118.length co31], .int .i64 a1] rfl qm ?_; (with_reducible refine (impl_WayReach.calls k t109 _ _ t118 a1 t110 _ ?side1 ?side2 A11.out).mono ?_); (case side1 => refine (Kd.R_reads' (e := 54) (base := w.heap.size) (ok := fun k_ => (True ∧ some k_ ≠ (.slice Ao24 t117.length co24 : Value).ownBlock)) (n := t118.length) (c := co31) ?_).2.2; exact (by (with_reducible repeat (first | apply Kd.R_alloc | apply Kd.R_drewN | apply Kd.R_drew)); exact (Kd.R_mono (Kd.R_far (p := ⟨gb133, 1, none⟩) (Kd.R_far (p := ⟨gb133, 0, none⟩) (Kd.R_types HO132.out BK133.out (by decide)) (fun _ hk => hk.2) (.int .i64 t109)) (fun _ hk => hk.2) (.slice Ao31 t118.length co31)) (fun _ h_ => h_.1)))); (case side2 => exact (Kd.R_reads' HO132.out).2.1); rintro e w32 ⟨v134, rfl, ho0, hb⟩; refine ⟨_, rfl, ?_⟩; have n0_ := q0 (Kd.R_below (by (with_reducible repeat (first | apply Kd.R_alloc | apply Kd.R_drewN | apply Kd.R_drew)); exact (Kd.R_mono (Kd.R_far (p := ⟨gb133, 1, none⟩) (Kd.R_far (p := ⟨gb133, 0, none⟩) (Kd.R_types HO128.out BK133.out (by decide)) (fun _ hk => hk.2) (.int .i64 t109)) (fun _ hk => hk.2) (.slice Ao31 t118.length co31)) (fun _ h_ => h_.1))) hb); have n1_ := q0 (Kd.R_elder' (by (with_reducible repeat (first | apply Kd.R_alloc | apply Kd.R_drewN | apply Kd.R_drew)); exact (Kd.R_mono (Kd.R_far (p := ⟨gb133, 1, none⟩) (Kd.R_far (p := ⟨gb133, 0, none⟩) (Kd.R_types HO130.out BK133.out (by decide)) (fun _ hk => hk.2) (.int .i64 t109)) (fun _ hk => hk.2) (.slice Ao31 t118.length co31)) (fun _ h_ => h_.1))) (Kd.R_base ho0) hb); have n2_ := q0 (Kd.R_below (by (with_reducible repeat (first | apply Kd.R_alloc | apply Kd.R_drewN | apply Kd.R_drew)); exact (Kd.R_mono (Kd.R_far (p := ⟨gb133, 1, none⟩) (Kd.R_far (p := ⟨gb133, 0, none⟩) (Kd.R_types HO132.out BK133.out (by decide)) (fun _ hk => hk.2) (.int .i64 t109)) (fun _ hk => hk.2) (.slice Ao31 t118.length co31)) (fun _ h_ => h_.1))) hb); have n3_ := q0 (Kd.R_lower (Kd.R_new' ho0 (Kd.R_lt (by (with_reducible repeat (first | apply Kd.R_alloc | apply Kd.R_drewN | apply Kd.R_drew)); exact (Kd.R_mono (Kd.R_far (p := ⟨gb133, 1, none⟩) (Kd.R_far (p := ⟨gb133, 0, none⟩) (Kd.R_types HO130.out BK133.out (by decide)) (fun _ hk => hk.2) (.int .i64 t109)) (fun _ hk => hk.2) (.slice Ao31 t118.length co31)) (fun _ h_ => h_.1))))) (below_size (qb HB.out))); have n4_ := q0 (blk_below (g := gb116) (o := .cells #[.int .i64 a0_0, .slice A0_1 l0_1.length c0_1] 25 (0, 0)) (qf BK116.out) hb); have n5_ := q0 (blk_below (g := gb133) (o := .cells #[.int .i64 t109, .slice Ao31 t118.length co31] 30 (0, 0)) (by (with_reducible repeat (first | refine blk_drewN ?_ _ | refine blk_drew ?_ | refine blk_alloc ?_ _)); refine blk_put (cs := #[.int .i64 t109, .slice none 0 0]) ?_ 1 _ rfl; (with_reducible repeat (first | refine blk_drewN ?_ _ | refine blk_drew ?_ | refine blk_alloc ?_ _)); refine blk_put (cs := #[.int .i64 0, .slice none 0 0]) ?_ 0 _ rfl; (with_reducible repeat (first | refine blk_drewN ?_ _ | refine blk_drew ?_ | refine blk_alloc ?_ _)); exact BK133.out) hb); have n6_ := q0 (below_step (qb HB.out) hb); clear HO128 HO130 HO132 BK116 BK133 HB; have HO128 := n0_; have HO130 := n1_; have HO132 := n2_; have HO135 := n3_; have BK116 := n4_; have BK133 := n5_; have HB := n6_; clear n0_ n1_ n2_ n3_ n4_ n5_ n6_; (try clear hb); (try clear hb2); (try clear hk); (try clear hi); (try clear ho0); obtain ⟨Ao33, co33, eo33⟩ := Kd.R_slice HO135.out; subst eo33; obtain ⟨Ao34, co34, eo34⟩ := Kd.R_slice HO130.out; subst eo34) | ((with_reducible refine gate_callee (f := 39) rfl ?_); refine goesL_ (some 29) rfl rfl Try.func39 (by kernel_rfl) rfl #[.slice Ao33 t110.length co33, .slice Ao34 t108.length co34] rfl qm ?_; (with_reducible refine (laws_eqBoolS.calls k _ _ t110 _ _ t108 true _ ?side1 ?side2 ?side3 ?side4 A12.out).mono ?_); (case side1 => exact qc (Kd.R_reads' HO135.out).2.2); (case side2 => exact (Kd.R_reads' HO135.out).2.1); (case side3 => exact qc (Kd.R_reads' HO130.out).2.2); (case side4 => exact (Kd.R_reads' HO130.out).2.1); rintro e w' ⟨rfl, ⟨nd, rfl⟩⟩; refine ⟨_, rfl, ?_⟩))
 (try (rw [drewN_self w32]; generalize hq_ : World.drewN w32 _ = w32; have n0_ : Aside0 (Kd.R kTie 54 w32 w.heap.size (fun k_ => some k_ ≠ (.slice Ao31 t118.length co31 : Value).ownBlock) (.slice Ao24 t117.length co24) t117) := ⟨by rw [← hq_]; exact (by (with_reducible repeat (first | apply Kd.R_alloc | apply Kd.R_drewN | apply Kd.R_drew)); exact Kd.R_mono HO128.out (fun _ hk => hk.2))⟩; have n1_ : Aside0 (Kd.R Kd.bool 4 w32 w.heap.size (fun k_ => some k_ ≠ (.slice Ao33 t110.length co33 : Value).ownBlock) (.slice Ao34 t108.length co34) t108) := ⟨by rw [← hq_]; exact (by (with_reducible repeat (first | apply Kd.R_alloc | apply Kd.R_drewN | apply Kd.R_drew)); exact Kd.R_mono HO130.out (fun _ hk => hk.2))⟩; have n2_ : Aside0 (Kd.R kTie 54 w32 w.heap.size (fun k_ => some k_ ≠ (.slice Ao24 t117.length co24 : Value).ownBlock) (.slice Ao31 t118.length co31) t118) := ⟨by rw [← hq_]; exact (by (with_reducible repeat (first | apply Kd.R_alloc | apply Kd.R_drewN | apply Kd.R_drew)); exact Kd.R_mono HO132.out (fun _ hk => hk.2))⟩; have n3_ : Aside0 (Kd.R Kd.bool 4 w32 w.heap.size (fun k_ => some k_ ≠ (.slice Ao34 t108.length co34 : Value).ownBlock) (.slice Ao33 t110.length co33) t110) := ⟨by rw [← hq_]; exact (by (with_reducible repeat (first | apply Kd.R_alloc | apply Kd.R_drewN | apply Kd.R_drew)); exact Kd.R_mono HO135.out (fun _ hk => hk.2))⟩; have n4_ : Aside0 (w32.heap[gb116]? = some (.cells #[.int .i64 a0_0, .slice A0_1 l0_1.length c0_1] 25 (0, 0))) := ⟨by rw [← hq_]; exact (qk BK116.out)⟩; have n5_ : Aside0 (w32.heap[gb133]? = some (.cells #[.int .i64 t109, .slice Ao31 t118.length co31] 30 (0, 0))) := ⟨by rw [← hq_]; exact (qk BK133.out)⟩; have n6_ : Aside0 (Below w.heap.size w w32) := ⟨by rw [← hq_]; exact (qb HB.out)⟩; clear HO128 HO130 HO132 HO135 BK116 BK133 HB hq_; have HO128 := n0_; have HO130 := n1_; have HO132 := n2_; have HO135 := n3_; have BK116 := n4_; have BK133 := n5_; have HB := n6_; clear n0_ n1_ n2_ n3_ n4_ n5_ n6_))
 have n0_ := q0 (Kd.R_drew HO128.out)
 have n1_ := q0 (Kd.R_drew HO130.out)
 have n2_ := q0 (Kd.R_drew HO132.out)
 have n3_ := q0 (Kd.R_drew HO135.out)
 have n4_ := q0 (blk_drew BK116.out)
 have n5_ := q0 (blk_drew BK133.out)
 have n6_ := q0 (below_drew1 HB.out)
 clear HO128
 clear HO130
 clear HO132
 clear HO135
 clear BK116
 clear BK133
 clear HB
 have HO128 := n0_
 have HO130 := n1_
 have HO132 := n2_
 have HO135 := n3_
 have BK116 := n4_
 have BK133 := n5_
 have HB := n6_
 clear n0_ n1_ n2_ n3_ n4_ n5_ n6_
 refine start_ (n := 5) (S := fun w' => w'.cell? ⟨gb133, 0, none⟩ = some (.int .i64 t109) ∧ w'.cell? ⟨gb133, 1, none⟩ = some (.slice Ao31 t118.length co31) ∧ w'.cell? ⟨gb116, 0, none⟩ = some (.int .i64 a0_0) ∧ w'.cell? ⟨gb116, 1, none⟩ = some (.slice A0_1 l0_1.length c0_1)) (ds := []) (ba 5 0) (by kernel_rfl) rfl (by kernel_rfl) ⟨(blk_cell BK133.out 0).trans rfl, (blk_cell BK133.out 1).trans rfl, (blk_cell BK116.out 0).trans rfl, (blk_cell BK116.out 1).trans rfl⟩ (fun hHeld => ?_)
 generalize w32.drew = w35 at HO128 HO130 HO132 HO135 BK116 BK133 HB hHeld ⊢
 refine tw 0 (some 31) (ba 5 1) hHeld ?_
 refine tw 1 (some 32) (ba 5 3) hHeld ?_
 refine one_ (i := 2) (N := some 33) (ba 5 7) rfl rfl (by kernel_rfl) (by decide) (fun K hK => ?_)
 refine goes_ Try.func16 (by kernel_rfl) rfl #[.agg #[.int .i64 a0_0, .slice A0_1 l0_1.length c0_1]] (by rfl) rfl rfl qm ?_
 with_reducible refine (laws_toNet.calls k a0_0 _ _ l0_1 t112 t122 _ ?side1 ?side2 A14.out).mono ?_
 (case side1 => exact qc (Kd.C_below HR0_1.out HB.out))
 (case side2 => exact HC0_1.out)
 rintro e w36 ⟨v136, rfl, ho0, hb⟩
 refine ⟨_, rfl, ?_⟩
 have n0_ := q0 (Kd.R_elder' (qr HO128.out) (Kd.R_base ho0) hb)
 have n1_ := q0 (Kd.R_below (qr HO130.out) hb)
 have n2_ := q0 (Kd.R_elder' (qr HO132.out) (Kd.R_base ho0) hb)
 have n3_ := q0 (Kd.R_below (qr HO135.out) hb)
 have n4_ := q0 (Kd.R_lower (Kd.R_new' (Kd.R_new' ho0 (Kd.R_lt (qr HO128.out))) (Kd.R_lt (qr HO132.out))) (below_size (qb HB.out)))
 have n5_ := q0 (kb BK116.out hb)
 have n6_ := q0 (kb BK133.out hb)
 have n7_ := q0 (below_step (qb HB.out) hb)
 clear HO128
 clear HO130
 clear HO132
 clear HO135
 clear BK116
 clear BK133
 clear HB
 have HO128 := n0_
 have HO130 := n1_
 have HO132 := n2_
 have HO135 := n3_
 have HO137 := n4_
 have BK116 := n5_
 have BK133 := n6_
 have HB := n7_
 clear n0_ n1_ n2_ n3_ n4_ n5_ n6_ n7_
 (try clear hb)
 (try clear hb2)
 (try clear hk)
 (try clear hi)
 (try clear ho0)
 obtain ⟨Ao37, co37, eo37⟩ := Kd.R_slice HO137.out
 (first | subst eo37 | (injection eo37 with f1_ f2_ f3_; have f4_ := f1_.symm; have f5_ := f3_.symm; clear f1_ f2_ f3_; subst f4_; subst f5_))
 refine hK.out _ _ ⟨(blk_cell BK133.out 0).trans rfl, (blk_cell BK133.out 1).trans rfl, (blk_cell BK116.out 0).trans rfl, (blk_cell BK116.out 1).trans rfl⟩ (fun hHeld => ?_)
 clear hK K
 refine nu 33 ?_
 refine one_ (i := 3) (N := some 34) (ba 5 15) rfl rfl (by kernel_rfl) (by decide) (fun K hK => ?_)
 refine goes_ Try.func18 (by kernel_rfl) rfl #[.agg #[.int .i64 t109, .slice Ao31 t118.length co31], .agg #[.int .i64 t112, .slice Ao37 t122.length co37]] (by rfl) rfl rfl qm ?_
 with_reducible refine (laws_eqNet.calls k t109 _ _ t118 t112 _ _ t122 true _ ?side1 ?side2 ?side3 ?side4 A15.out).mono ?_
 (case side1 => exact qc (Kd.R_reads' HO132.out).2.2)
 (case side2 => exact (Kd.R_reads' HO132.out).2.1)
 (case side3 => exact qc (Kd.R_reads' HO137.out).2.2)
 (case side4 => exact (Kd.R_reads' HO137.out).2.1)
 rintro e w38 ⟨rfl, hb⟩
 refine ⟨_, rfl, ?_⟩
 have n0_ := q0 (Kd.R_below (qr HO128.out) hb)
 have n1_ := q0 (Kd.R_below (qr HO130.out) hb)
 have n2_ := q0 (Kd.R_below (qr HO132.out) hb)
 have n3_ := q0 (Kd.R_below (qr HO135.out) hb)
 have n4_ := q0 (Kd.R_below (qr HO137.out) hb)
 have n5_ := q0 (kb BK116.out hb)
 have n6_ := q0 (kb BK133.out hb)
 have n7_ := q0 (below_step (qb HB.out) hb)
 clear HO128
 clear HO130
 clear HO132
 clear HO135
 clear HO137
 clear BK116
 clear BK133
 clear HB
 have HO128 := n0_
 have HO130 := n1_
 have HO132 := n2_
 have HO135 := n3_
 have HO137 := n4_
 have BK116 := n5_
 have BK133 := n6_
 have HB := n7_
 clear n0_ n1_ n2_ n3_ n4_ n5_ n6_ n7_
 (try clear hb)
 (try clear hb2)
 (try clear hk)
 (try clear hi)
 refine hK.out _ _ ⟨(blk_cell BK133.out 0).trans rfl, (blk_cell BK133.out 1).trans rfl, (blk_cell BK116.out 0).trans rfl, (blk_cell BK116.out 1).trans rfl⟩ (fun hHeld => ?_)
 clear hK K
 refine nu 34 ?_
 refine pw 4 (some 35) (ba 5 31) ?_
 refine done_ (by kernel_rfl) ?_
 have hcz39_0 : w38.cell? ⟨gb133, 0, none⟩ = some (.int .i64 t109) := (blk_cell BK133.out 0).trans rfl
 have hcz39_1 : w38.cell? ⟨gb133, 1, none⟩ = some (.slice Ao31 t118.length co31) := (blk_cell BK133.out 1).trans rfl
 have hfz39_0 := blk_frozen BK133.out 0
 have hfz39_1 := blk_frozen BK133.out 1
 go_upto_region 14 with (first | ((with_reducible refine gate_callee (f := 23) rfl ?_); refine goesL_ (some 38) rfl rfl Try.func23 (by kernel_rfl) rfl #[.agg #[.int .i64 t109, .slice Ao31 t118.length co31], .int .i64 1] rfl qm ?_; (with_reducible refine (laws_markNet.calls k t109 (fun k_ => some k_ = (.slice Ao31 t118.length co31 : Value).ownBlock) (.slice Ao31 t118.length co31) t118 1 t114 t125 w _ ?side1 ?side2 A17.out).mono ?_); (case side1 => exact qb HB.out); (case side2 => exact Kd.R_tight rfl HO132.out); rintro e w40 ⟨rfl, hy0, hb, hkp⟩; refine ⟨_, rfl, ?_⟩; have n0_ := q0 (blk_kept (qk BK116.out) hkp (fun hs_ => (fun e_ => (Kd.R_ne HO132.out BK116.out (by decide)) e_) hs_)); have n1_ := q0 (Kd.R_mono (ok' := fun k_ => some k_ ≠ (.slice Ao31 t118.length co31 : Value).ownBlock ∧ some k_ ≠ (.slice Ao37 t122.length co37 : Value).ownBlock) (Kd.R_keptB (HO128.out) hkp (fun k_ hk_ hs_ => by first | exact (hk_.1.2) hs_ | grind)) (fun k_ hk_ => by first | exact ⟨hk_.1.1.2, hk_.1.2⟩ | grind)); have n2_ := q0 (Kd.R_mono (ok' := fun k_ => some k_ ≠ (.slice Ao33 t110.length co33 : Value).ownBlock) (Kd.R_keptB ((Kd.R_apart' HO130.out (Kd.R_typed HO132.out) (by decide))) hkp (fun k_ hk_ hs_ => by first | exact (hk_.2) hs_ | grind)) (fun k_ hk_ => by first | exact hk_.1.1.2 | grind)); have n3_ := q0 (Kd.R_reok rfl hy0 (fun k_ e_ => HO132.out.1 k_ e_)); have n4_ := q0 (blk_kept (qk BK133.out) hkp (fun hs_ => (fun e_ => (Kd.R_ne HO132.out BK133.out (by decide)) e_) hs_)); have n5_ := q0 (Kd.R_mono (ok' := fun k_ => some k_ ≠ (.slice Ao34 t108.length co34 : Value).ownBlock) (Kd.R_keptB ((Kd.R_apart' HO135.out (Kd.R_typed HO132.out) (by decide))) hkp (fun k_ hk_ hs_ => by first | exact (hk_.2) hs_ | grind)) (fun k_ hk_ => by first | exact hk_.1.1.2 | grind)); have n6_ := q0 (Kd.R_mono (ok' := fun k_ => some k_ ≠ (.slice Ao24 t117.length co24 : Value).ownBlock ∧ some k_ ≠ (.slice Ao31 t118.length co31 : Value).ownBlock) (Kd.R_keptB (HO137.out) hkp (fun k_ hk_ hs_ => by first | exact (hk_.2) hs_ | grind)) (fun k_ hk_ => by first | exact ⟨hk_.1.1.2, hk_.1.2⟩ | grind)); have n7_ := q0 (hb); clear BK116 HO128 HO130 HO132 BK133 HO135 HO137 HB; have BK116 := n0_; have HO128 := n1_; have HO130 := n2_; have HO132 := n3_; have BK133 := n4_; have HO135 := n5_; have HO137 := n6_; have HB := n7_; clear n0_ n1_ n2_ n3_ n4_ n5_ n6_ n7_; (try clear hb); (try clear hkp); (try clear hy0)))
 (try simp only [Act.put, List.setIfInBounds_toArray, List.set_cons_zero, List.set_cons_succ])
 go_cut [46] (fun v46 wc => ∃ (kq : Nat) (x46_17 : Bool), v46 = .bool x46_17 ∧ Aside0 (laws_FnExactWayReach.j0 kq a1 t108 t110 x46_17 a0_0 l0_1 = some r) ∧ Aside0 (kq ≤ k) ∧ Aside0 (Kd.R Kd.bool 4 wc w.heap.size (fun k_ => some k_ ≠ ((.slice Ao33 t110.length co33) : Value).ownBlock) (.slice Ao34 t108.length co34) t108) ∧ Aside0 (Kd.R Kd.bool 4 wc w.heap.size (fun k_ => some k_ ≠ ((.slice Ao34 t108.length co34) : Value).ownBlock) (.slice Ao33 t110.length co33) t110) ∧ Aside0 (Kd.R kTie 54 wc w.heap.size (fun _ => True) (.slice Ao31 t118.length co31) t125) ∧ Aside0 (wc.heap[gb116]? = some (.cells #[.int .i64 a0_0, (.slice A0_1 l0_1.length c0_1)] 25 (0, 0))) ∧ Aside0 (wc.heap[gb133]? = some (.cells #[.int .i64 t109, (.slice Ao31 t118.length co31)] 30 (0, 0))) ∧ Aside0 (Below w.heap.size w wc))
 case first =>
   have H := HC18.out
   clear HC18
   by_cases c41 : t114 < 0
   · rw [if_pos c41] at H
     have c41b0 : decide (t114 < 0) = true := decide_eq_true c41
     clear c41
     (first | rw [c41b0] | (simp only [i64_w, i32_w]; rw [c41b0]) | skip)
     have H' := Aside0.mk H
     clear H
     go_wp2
     go_meet
     case rel => exact ⟨_, (true), qs, H', ⟨by first | omega | exact Nat.le_refl _⟩, ⟨qr HO130.out⟩, ⟨qr HO135.out⟩, ⟨by (with_reducible repeat (first | apply Kd.R_alloc | apply Kd.R_drewN | apply Kd.R_drew)); exact Kd.R_mono HO132.out (fun _ hk => trivial)⟩, ⟨qk BK116.out⟩, ⟨qk BK133.out⟩, ⟨qb HB.out⟩⟩
   rw [if_neg c41] at H
   have c41b0 : decide (t114 < 0) = false := decide_eq_false c41
   clear c41
   (first | rw [c41b0] | (simp only [i64_w, i32_w]; rw [c41b0]) | skip)
   replace H := Option.bind_eq_some_iff.mp H
   obtain ⟨t115, A138, H⟩ := H
   replace H : (laws_FnExactWayReach.j0 k a1 t108 t110 (!t115) a0_0 l0_1) = some r := H
   have A42 := Aside0.mk A138
   clear A138
   have H' := Aside0.mk H
   clear H
   go_wp2_with (first | (go_at_call 39; (with_reducible refine (laws_eqBoolS.calls k _ _ t110 _ _ t108 t115 _ ?side1 ?side2 ?side3 ?side4 A42.out).mono ?_); (case side1 => exact qc (Kd.R_reads' HO135.out).2.2); (case side2 => exact (Kd.R_reads' HO135.out).2.1); (case side3 => exact qc (Kd.R_reads' HO130.out).2.2); (case side4 => exact (Kd.R_reads' HO130.out).2.1); rintro e w' ⟨rfl, ⟨nd, rfl⟩⟩))
   go_meet
   case rel => exact ⟨_, (!t115), qs, H', ⟨by first | omega | exact Nat.le_refl _⟩, ⟨qr HO130.out⟩, ⟨qr HO135.out⟩, ⟨by (with_reducible repeat (first | apply Kd.R_alloc | apply Kd.R_drewN | apply Kd.R_drew)); exact Kd.R_mono HO132.out (fun _ hk => trivial)⟩, ⟨qk BK116.out⟩, ⟨qk BK133.out⟩, ⟨qb HB.out⟩⟩
 clear HC18
 try clear c1
 try clear c2
 try clear p2
 try clear c3
 try clear c4
 try clear c4b0
 try clear c12
 try clear c13
 try clear c14
 try clear c16
 try clear c18
 try clear c23
 try clear c29
 try clear c37
 try clear c38
 try clear c39
 try clear c41
 try clear c41b0
 try clear hcz20_0
 try clear hcz20_1
 try clear hcz22_0
 try clear hcz22_1
 try clear hcz26_0
 try clear hcz26_1
 try clear hcz30_0
 try clear hcz30_1
 try clear hcz39_0
 try clear hcz39_1
 try clear hcz6_0
 try clear hcz6_1
 try clear hfz20_0
 try clear hfz20_1
 try clear hfz22_0
 try clear hfz22_1
 try clear hfz26_0
 try clear hfz26_1
 try clear hfz30_0
 try clear hfz30_1
 try clear hfz39_0
 try clear hfz39_1
 try clear hfz6_0
 try clear hfz6_1
 obtain ⟨kq, x46_17, rfl, HA, HJ17, HO_6, HO_8, HO_110001, BK116, BK133, HB⟩ := hcut
 have hl110001_17 := (Kd.R_reads' HO_110001.out).1
 rw [hl110001_17] at HO_110001
 (try simp only [hl110001_17])
 (try simp only [hl110001_17] at BK116)
 (try simp only [hl110001_17] at BK133)
 (try simp only [hl110001_17] at HO_6)
 (try simp only [hl110001_17] at HO_8)
 rcases kq with _ | kj17
 · exact absurd HA.out (by simp [laws_FnExactWayReach.j0])
 have H := HA.out
 clear HA
 simp only [laws_FnExactWayReach.j0] at H
 by_cases c43 : x46_17 = true
 · subst c43
   have H1 : (some false) = some r := by rw [if_pos rfl] at H; exact H
   clear H
   have H := H1
   clear H1
   obtain rfl := Option.some.inj H
   go_wp2
   go_ret
   exact ⟨qe, qb HB.out⟩
 replace c43 := Bool.eq_false_iff.mpr c43
 subst c43
 have H1 : ((laws_markBoolS.f kj17 t110 1).bind fun bt101 => ((laws_heldBoolS.f kj17 bt101.2 1).bind fun t102 => (if t102 < 0 then (some false) else (if t102 = bt101.1 then ((laws_toNet.f kj17 a0_0 l0_1).bind fun bt103 => ((impl_WayReach.f kj17 bt103.1 bt103.2 a1).bind fun t104 => ((laws_eqBoolS.f kj17 t104 t108).bind fun t105 => (if t105 = true then ((laws_heldBoolS.f kj17 bt101.2 1).bind fun t106 => (if t106 < 0 then (some false) else (if t106 = bt101.1 then (some true) else (some false)))) else (some false))))) else (some false))))) = some r := by rw [if_neg (show ¬ (false = true) by decide)] at H; exact H
 clear H
 have H := H1
 clear H1
 replace H := Option.bind_eq_some_iff.mp H
 obtain ⟨⟨t101, t139⟩, A140, H⟩ := H
 replace H : ((laws_heldBoolS.f kj17 t139 1).bind fun t102 => (if t102 < 0 then (some false) else (if t102 = t101 then ((laws_toNet.f kj17 a0_0 l0_1).bind fun bt103 => ((impl_WayReach.f kj17 bt103.1 bt103.2 a1).bind fun t104 => ((laws_eqBoolS.f kj17 t104 t108).bind fun t105 => (if t105 = true then ((laws_heldBoolS.f kj17 t139 1).bind fun t106 => (if t106 < 0 then (some false) else (if t106 = t101 then (some true) else (some false)))) else (some false))))) else (some false)))) = some r := H
 have A44 := Aside0.mk A140
 clear A140
 replace H := Option.bind_eq_some_iff.mp H
 obtain ⟨t102, A141, H⟩ := H
 replace H : (if t102 < 0 then (some false) else (if t102 = t101 then ((laws_toNet.f kj17 a0_0 l0_1).bind fun bt103 => ((impl_WayReach.f kj17 bt103.1 bt103.2 a1).bind fun t104 => ((laws_eqBoolS.f kj17 t104 t108).bind fun t105 => (if t105 = true then ((laws_heldBoolS.f kj17 t139 1).bind fun t106 => (if t106 < 0 then (some false) else (if t106 = t101 then (some true) else (some false)))) else (some false))))) else (some false))) = some r := H
 have A45 := Aside0.mk A141
 clear A141
 by_cases c46 : t102 < 0
 · rw [if_pos c46] at H
   have c46b0 : decide (t102 < 0) = true := decide_eq_true c46
   clear c46
   obtain rfl := Option.some.inj H
   go_wp2_with (first | ((with_reducible refine gate_callee (f := 40) rfl ?_); refine goesL_ (some 49) rfl rfl Try.func40 (by kernel_rfl) rfl #[.slice Ao33 t110.length co33, .int .i64 1] rfl qm ?_; (with_reducible refine (laws_markBoolS.calls kj17 (fun k_ => some k_ = (.slice Ao33 t110.length co33 : Value).ownBlock) (.slice Ao33 t110.length co33) t110 1 t101 t139 w _ ?side1 ?side2 A44.out).mono ?_); (case side1 => exact qb HB.out); (case side2 => exact Kd.R_tight rfl HO_8.out); rintro e w47 ⟨rfl, hy0, hb, hkp⟩; refine ⟨_, rfl, ?_⟩; have n0_ := q0 (Kd.R_mono (ok' := fun k_ => some k_ ≠ (.slice Ao33 t110.length co33 : Value).ownBlock) (Kd.R_keptB (HO_6.out) hkp (fun k_ hk_ hs_ => by first | exact (hk_) hs_ | grind)) (fun k_ hk_ => by first | exact hk_.1 | grind)); have n1_ := q0 (Kd.R_reok rfl hy0 (fun k_ e_ => HO_8.out.1 k_ e_)); have n2_ := q0 (Kd.R_mono (ok' := fun k_ => True) (Kd.R_keptB ((Kd.R_apart' HO_110001.out (Kd.R_typed HO_8.out) (by decide))) hkp (fun k_ hk_ hs_ => by first | exact (hk_.2) hs_ | grind)) (fun k_ hk_ => trivial)); have n3_ := q0 (blk_kept (qk BK116.out) hkp (fun hs_ => (fun e_ => (Kd.R_ne HO_8.out BK116.out (by decide)) e_) hs_)); have n4_ := q0 (blk_kept (qk BK133.out) hkp (fun hs_ => (fun e_ => (Kd.R_ne HO_8.out BK133.out (by decide)) e_) hs_)); have n5_ := q0 (hb); clear HO_6 HO_8 HO_110001 BK116 BK133 HB; have HO_6 := n0_; have HO_8 := n1_; have HO_110001 := n2_; have BK116 := n3_; have BK133 := n4_; have HB := n5_; clear n0_ n1_ n2_ n3_ n4_ n5_; (try clear hb); (try clear hkp); (try clear hy0)) | ((with_reducible refine gate_callee (f := 41) rfl ?_); refine goesL_ (some 52) rfl rfl Try.func41 (by kernel_rfl) rfl #[.slice Ao33 t139.length co33, .int .i64 1] rfl (by (try simp only [List.map_toArray, List.map_cons, List.map_nil]); first | done | (rw [show t139.length = t110.length from (Kd.R_reads' HO_8.out).1.symm] <;> rfl) | rfl | (simp only [List.length_drop, List.length_take]; rfl)) ?_; (with_reducible refine (laws_heldBoolS.calls kj17 _ _ t139 1 t102 _ ?side1 ?side2 A45.out).mono ?_); (case side1 => exact qc (Kd.R_reads' HO_8.out).2.2); (case side2 => rw [show t139.length = t110.length from (Kd.R_reads' HO_8.out).1.symm]; exact (Kd.R_reads' HO_8.out).2.1); rintro e w' ⟨rfl, ⟨nd, rfl⟩⟩; refine ⟨_, rfl, ?_⟩))
   go_ret
   exact ⟨qe, qb HB.out⟩
 rw [if_neg c46] at H
 have c46b0 : decide (t102 < 0) = false := decide_eq_false c46
 clear c46
 by_cases c48 : t102 = t101
 rotate_left
 · rw [if_neg c48] at H
   have c48b0 : (t102 == t101) = false := beq_eq_false_iff_ne.mpr c48
   have c48b1 : (t102 != t101) = true := bne_iff_ne.mpr c48
   obtain rfl := Option.some.inj H
   go_wp2_with (first | ((with_reducible refine gate_callee (f := 40) rfl ?_); refine goesL_ (some 49) rfl rfl Try.func40 (by kernel_rfl) rfl #[.slice Ao33 t110.length co33, .int .i64 1] rfl qm ?_; (with_reducible refine (laws_markBoolS.calls kj17 (fun k_ => some k_ = (.slice Ao33 t110.length co33 : Value).ownBlock) (.slice Ao33 t110.length co33) t110 1 t101 t139 w _ ?side1 ?side2 A44.out).mono ?_); (case side1 => exact qb HB.out); (case side2 => exact Kd.R_tight rfl HO_8.out); rintro e w84 ⟨rfl, hy0, hb, hkp⟩; refine ⟨_, rfl, ?_⟩; have n0_ := q0 (Kd.R_mono (ok' := fun k_ => some k_ ≠ (.slice Ao33 t110.length co33 : Value).ownBlock) (Kd.R_keptB (HO_6.out) hkp (fun k_ hk_ hs_ => by first | exact (hk_) hs_ | grind)) (fun k_ hk_ => by first | exact hk_.1 | grind)); have n1_ := q0 (Kd.R_reok rfl hy0 (fun k_ e_ => HO_8.out.1 k_ e_)); have n2_ := q0 (Kd.R_mono (ok' := fun k_ => True) (Kd.R_keptB ((Kd.R_apart' HO_110001.out (Kd.R_typed HO_8.out) (by decide))) hkp (fun k_ hk_ hs_ => by first | exact (hk_.2) hs_ | grind)) (fun k_ hk_ => trivial)); have n3_ := q0 (blk_kept (qk BK116.out) hkp (fun hs_ => (fun e_ => (Kd.R_ne HO_8.out BK116.out (by decide)) e_) hs_)); have n4_ := q0 (blk_kept (qk BK133.out) hkp (fun hs_ => (fun e_ => (Kd.R_ne HO_8.out BK133.out (by decide)) e_) hs_)); have n5_ := q0 (hb); clear HO_6 HO_8 HO_110001 BK116 BK133 HB; have HO_6 := n0_; have HO_8 := n1_; have HO_110001 := n2_; have BK116 := n3_; have BK133 := n4_; have HB := n5_; clear n0_ n1_ n2_ n3_ n4_ n5_; (try clear hb); (try clear hkp); (try clear hy0)) | ((with_reducible refine gate_callee (f := 41) rfl ?_); refine goesL_ (some 52) rfl rfl Try.func41 (by kernel_rfl) rfl #[.slice Ao33 t139.length co33, .int .i64 1] rfl (by (try simp only [List.map_toArray, List.map_cons, List.map_nil]); first | done | (rw [show t139.length = t110.length from (Kd.R_reads' HO_8.out).1.symm] <;> rfl) | rfl | (simp only [List.length_drop, List.length_take]; rfl)) ?_; (with_reducible refine (laws_heldBoolS.calls kj17 _ _ t139 1 t102 _ ?side1 ?side2 A45.out).mono ?_); (case side1 => exact qc (Kd.R_reads' HO_8.out).2.2); (case side2 => rw [show t139.length = t110.length from (Kd.R_reads' HO_8.out).1.symm]; exact (Kd.R_reads' HO_8.out).2.1); rintro e w' ⟨rfl, ⟨nd, rfl⟩⟩; refine ⟨_, rfl, ?_⟩))
   go_ret
   exact ⟨qe, qb HB.out⟩
 rw [if_pos c48] at H
 have c48b0 : (t102 == t101) = true := beq_iff_eq.mpr c48
 have c48b1 : (t102 != t101) = false := bne_eq_false_iff_eq.mpr c48
 clear c48
 replace H := Option.bind_eq_some_iff.mp H
 obtain ⟨⟨t103, t142⟩, A143, H⟩ := H
 replace H : ((impl_WayReach.f kj17 t103 t142 a1).bind fun t104 => ((laws_eqBoolS.f kj17 t104 t108).bind fun t105 => (if t105 = true then ((laws_heldBoolS.f kj17 t139 1).bind fun t106 => (if t106 < 0 then (some false) else (if t106 = t101 then (some true) else (some false)))) else (some false)))) = some r := H
 have A49 := Aside0.mk A143
 clear A143
 replace H := Option.bind_eq_some_iff.mp H
 obtain ⟨t104, A144, H⟩ := H
 replace H : ((laws_eqBoolS.f kj17 t104 t108).bind fun t105 => (if t105 = true then ((laws_heldBoolS.f kj17 t139 1).bind fun t106 => (if t106 < 0 then (some false) else (if t106 = t101 then (some true) else (some false)))) else (some false))) = some r := H
 have A50 := Aside0.mk A144
 clear A144
 replace H := Option.bind_eq_some_iff.mp H
 obtain ⟨t105, A145, H⟩ := H
 replace H : (if t105 = true then ((laws_heldBoolS.f kj17 t139 1).bind fun t106 => (if t106 < 0 then (some false) else (if t106 = t101 then (some true) else (some false)))) else (some false)) = some r := H
 have A51 := Aside0.mk A145
 clear A145
 by_cases c52 : t105 = true
 rotate_left
 · replace c52 := Bool.eq_false_iff.mpr c52
   subst c52
   have H1 : (some false) = some r := by rw [if_neg (show ¬ (false = true) by decide)] at H; exact H
   clear H
   have H := H1
   clear H1
   obtain rfl := Option.some.inj H
   go_wp2_with (first | ((with_reducible refine gate_callee (f := 40) rfl ?_); refine goesL_ (some 49) rfl rfl Try.func40 (by kernel_rfl) rfl #[.slice Ao33 t110.length co33, .int .i64 1] rfl qm ?_; (with_reducible refine (laws_markBoolS.calls kj17 (fun k_ => some k_ = (.slice Ao33 t110.length co33 : Value).ownBlock) (.slice Ao33 t110.length co33) t110 1 t101 t139 w _ ?side1 ?side2 A44.out).mono ?_); (case side1 => exact qb HB.out); (case side2 => exact Kd.R_tight rfl HO_8.out); rintro e w77 ⟨rfl, hy0, hb, hkp⟩; refine ⟨_, rfl, ?_⟩; have n0_ := q0 (Kd.R_mono (ok' := fun k_ => some k_ ≠ (.slice Ao33 t110.length co33 : Value).ownBlock) (Kd.R_keptB (HO_6.out) hkp (fun k_ hk_ hs_ => by first | exact (hk_) hs_ | grind)) (fun k_ hk_ => by first | exact hk_.1 | grind)); have n1_ := q0 (Kd.R_reok rfl hy0 (fun k_ e_ => HO_8.out.1 k_ e_)); have n2_ := q0 (Kd.R_mono (ok' := fun k_ => True) (Kd.R_keptB ((Kd.R_apart' HO_110001.out (Kd.R_typed HO_8.out) (by decide))) hkp (fun k_ hk_ hs_ => by first | exact (hk_.2) hs_ | grind)) (fun k_ hk_ => trivial)); have n3_ := q0 (blk_kept (qk BK116.out) hkp (fun hs_ => (fun e_ => (Kd.R_ne HO_8.out BK116.out (by decide)) e_) hs_)); have n4_ := q0 (blk_kept (qk BK133.out) hkp (fun hs_ => (fun e_ => (Kd.R_ne HO_8.out BK133.out (by decide)) e_) hs_)); have n5_ := q0 (hb); clear HO_6 HO_8 HO_110001 BK116 BK133 HB; have HO_6 := n0_; have HO_8 := n1_; have HO_110001 := n2_; have BK116 := n3_; have BK133 := n4_; have HB := n5_; clear n0_ n1_ n2_ n3_ n4_ n5_; (try clear hb); (try clear hkp); (try clear hy0)) | ((with_reducible refine gate_callee (f := 41) rfl ?_); refine goesL_ (some 52) rfl rfl Try.func41 (by kernel_rfl) rfl #[.slice Ao33 t139.length co33, .int .i64 1] rfl (by (try simp only [List.map_toArray, List.map_cons, List.map_nil]); first | done | (rw [show t139.length = t110.length from (Kd.R_reads' HO_8.out).1.symm] <;> rfl) | rfl | (simp only [List.length_drop, List.length_take]; rfl)) ?_; (with_reducible refine (laws_heldBoolS.calls kj17 _ _ t139 1 t102 _ ?side1 ?side2 A45.out).mono ?_); (case side1 => exact qc (Kd.R_reads' HO_8.out).2.2); (case side2 => rw [show t139.length = t110.length from (Kd.R_reads' HO_8.out).1.symm]; exact (Kd.R_reads' HO_8.out).2.1); rintro e w' ⟨rfl, ⟨nd, rfl⟩⟩; refine ⟨_, rfl, ?_⟩; have hnb78 := NB116_133.out; have hnc78 := NB133_116.out; have hcz79_0 : w77.cell? ⟨gb116, 0, none⟩ = some (.int .i64 a0_0) := (blk_cell BK116.out 0).trans rfl; have hcz79_1 : w77.cell? ⟨gb116, 1, none⟩ = some (.slice A0_1 l0_1.length c0_1) := (blk_cell BK116.out 1).trans rfl; have hfz79_0 := blk_frozen BK116.out 0; have hfz79_1 := blk_frozen BK116.out 1) | ((with_reducible refine gate_callee (f := 16) rfl ?_); refine goesL_ (some 59) rfl rfl Try.func16 (by kernel_rfl) rfl #[.agg #[.int .i64 a0_0, .slice A0_1 l0_1.length c0_1]] rfl qm ?_; (with_reducible refine (laws_toNet.calls kj17 a0_0 _ _ l0_1 t103 t142 _ ?side1 ?side2 A49.out).mono ?_); (case side1 => exact qc (Kd.C_below HR0_1.out (qb HB.out))); (case side2 => exact HC0_1.out); rintro e w80 ⟨v147, rfl, ho0, hb⟩; refine ⟨_, rfl, ?_⟩; have n0_ := q0 (Kd.R_below (qr HO_6.out) hb); have n1_ := q0 (Kd.R_below (qr HO_8.out) hb); have n2_ := q0 (Kd.R_elder' (qr HO_110001.out) (Kd.R_base ho0) hb); have n3_ := q0 (Kd.R_lower (Kd.R_new' ho0 (Kd.R_lt (qr HO_110001.out))) (below_size (qb HB.out))); have n4_ := q0 (kb BK116.out hb); have n5_ := q0 (kb BK133.out hb); have n6_ := q0 (below_step (qb HB.out) hb); clear HO_6 HO_8 HO_110001 BK116 BK133 HB; have HO_6 := n0_; have HO_8 := n1_; have HO_110001 := n2_; have HO148 := n3_; have BK116 := n4_; have BK133 := n5_; have HB := n6_; clear n0_ n1_ n2_ n3_ n4_ n5_ n6_; (try clear hb); (try clear hb2); (try clear hk); (try clear hi); (try clear ho0); obtain ⟨Ao81, co81, eo81⟩ := Kd.R_slice HO148.out; subst eo81) | ((with_reducible refine gate_callee (f := 38) rfl ?_); refine goesL_ (some 61) rfl rfl Try.func38 (by kernel_rfl) rfl #[.agg #[.int .i64 t103, .slice Ao81 t142.length co81], .int .i64 a1] rfl qm ?_; (with_reducible refine (impl_WayReach.calls kj17 t103 _ _ t142 a1 t104 _ ?side1 ?side2 A50.out).mono ?_); (case side1 => exact qc (Kd.R_reads' HO148.out).2.2); (case side2 => exact (Kd.R_reads' HO148.out).2.1); rintro e w82 ⟨v149, rfl, ho0, hb⟩; refine ⟨_, rfl, ?_⟩; have n0_ := q0 (Kd.R_elder' (qr HO_6.out) (Kd.R_base ho0) hb); have n1_ := q0 (Kd.R_elder' (qr HO_8.out) (Kd.R_base ho0) hb); have n2_ := q0 (Kd.R_below (qr HO_110001.out) hb); have n3_ := q0 (Kd.R_below (qr HO148.out) hb); have n4_ := q0 (Kd.R_lower (Kd.R_new' (Kd.R_new' ho0 (Kd.R_lt (qr HO_6.out))) (Kd.R_lt (qr HO_8.out))) (below_size (qb HB.out))); have n5_ := q0 (kb BK116.out hb); have n6_ := q0 (kb BK133.out hb); have n7_ := q0 (below_step (qb HB.out) hb); clear HO_6 HO_8 HO_110001 HO148 BK116 BK133 HB; have HO_6 := n0_; have HO_8 := n1_; have HO_110001 := n2_; have HO148 := n3_; have HO150 := n4_; have BK116 := n5_; have BK133 := n6_; have HB := n7_; clear n0_ n1_ n2_ n3_ n4_ n5_ n6_ n7_; (try clear hb); (try clear hb2); (try clear hk); (try clear hi); (try clear ho0); obtain ⟨Ao83, co83, eo83⟩ := Kd.R_slice HO150.out; subst eo83) | ((with_reducible refine gate_callee (f := 39) rfl ?_); refine goesL_ (some 64) rfl rfl Try.func39 (by kernel_rfl) rfl #[.slice Ao83 t104.length co83, .slice Ao34 t108.length co34] rfl qm ?_; (with_reducible refine (laws_eqBoolS.calls kj17 _ _ t104 _ _ t108 false _ ?side1 ?side2 ?side3 ?side4 A51.out).mono ?_); (case side1 => exact qc (Kd.R_reads' HO150.out).2.2); (case side2 => exact (Kd.R_reads' HO150.out).2.1); (case side3 => exact qc (Kd.R_reads' HO_6.out).2.2); (case side4 => exact (Kd.R_reads' HO_6.out).2.1); rintro e w' ⟨rfl, ⟨nd, rfl⟩⟩; refine ⟨_, rfl, ?_⟩))
   go_ret
   exact ⟨qe, qb HB.out⟩
 subst c52
 have H1 : ((laws_heldBoolS.f kj17 t139 1).bind fun t106 => (if t106 < 0 then (some false) else (if t106 = t101 then (some true) else (some false)))) = some r := by rw [if_pos rfl] at H; exact H
 clear H
 have H := H1
 clear H1
 replace H := Option.bind_eq_some_iff.mp H
 obtain ⟨t106, A146, H⟩ := H
 replace H : (if t106 < 0 then (some false) else (if t106 = t101 then (some true) else (some false))) = some r := H
 have A53 := Aside0.mk A146
 clear A146
 by_cases c54 : t106 < 0
 · rw [if_pos c54] at H
   have c54b0 : decide (t106 < 0) = true := decide_eq_true c54
   clear c54
   obtain rfl := Option.some.inj H
   go_wp2_with (first | ((with_reducible refine gate_callee (f := 40) rfl ?_); refine goesL_ (some 49) rfl rfl Try.func40 (by kernel_rfl) rfl #[.slice Ao33 t110.length co33, .int .i64 1] rfl qm ?_; (with_reducible refine (laws_markBoolS.calls kj17 (fun k_ => some k_ = (.slice Ao33 t110.length co33 : Value).ownBlock) (.slice Ao33 t110.length co33) t110 1 t101 t139 w _ ?side1 ?side2 A44.out).mono ?_); (case side1 => exact qb HB.out); (case side2 => exact Kd.R_tight rfl HO_8.out); rintro e w55 ⟨rfl, hy0, hb, hkp⟩; refine ⟨_, rfl, ?_⟩; have n0_ := q0 (Kd.R_mono (ok' := fun k_ => some k_ ≠ (.slice Ao33 t110.length co33 : Value).ownBlock) (Kd.R_keptB (HO_6.out) hkp (fun k_ hk_ hs_ => by first | exact (hk_) hs_ | grind)) (fun k_ hk_ => by first | exact hk_.1 | grind)); have n1_ := q0 (Kd.R_reok rfl hy0 (fun k_ e_ => HO_8.out.1 k_ e_)); have n2_ := q0 (Kd.R_mono (ok' := fun k_ => True) (Kd.R_keptB ((Kd.R_apart' HO_110001.out (Kd.R_typed HO_8.out) (by decide))) hkp (fun k_ hk_ hs_ => by first | exact (hk_.2) hs_ | grind)) (fun k_ hk_ => trivial)); have n3_ := q0 (blk_kept (qk BK116.out) hkp (fun hs_ => (fun e_ => (Kd.R_ne HO_8.out BK116.out (by decide)) e_) hs_)); have n4_ := q0 (blk_kept (qk BK133.out) hkp (fun hs_ => (fun e_ => (Kd.R_ne HO_8.out BK133.out (by decide)) e_) hs_)); have n5_ := q0 (hb); clear HO_6 HO_8 HO_110001 BK116 BK133 HB; have HO_6 := n0_; have HO_8 := n1_; have HO_110001 := n2_; have BK116 := n3_; have BK133 := n4_; have HB := n5_; clear n0_ n1_ n2_ n3_ n4_ n5_; (try clear hb); (try clear hkp); (try clear hy0)) | ((with_reducible refine gate_callee (f := 41) rfl ?_); refine goesL_ (some 52) rfl rfl Try.func41 (by kernel_rfl) rfl #[.slice Ao33 t139.length co33, .int .i64 1] rfl (by (try simp only [List.map_toArray, List.map_cons, List.map_nil]); first | done | (rw [show t139.length = t110.length from (Kd.R_reads' HO_8.out).1.symm] <;> rfl) | rfl | (simp only [List.length_drop, List.length_take]; rfl)) ?_; (with_reducible refine (laws_heldBoolS.calls kj17 _ _ t139 1 t102 _ ?side1 ?side2 A45.out).mono ?_); (case side1 => exact qc (Kd.R_reads' HO_8.out).2.2); (case side2 => rw [show t139.length = t110.length from (Kd.R_reads' HO_8.out).1.symm]; exact (Kd.R_reads' HO_8.out).2.1); rintro e w' ⟨rfl, ⟨nd, rfl⟩⟩; refine ⟨_, rfl, ?_⟩; have hnb56 := NB116_133.out; have hnc56 := NB133_116.out; have hcz57_0 : w55.cell? ⟨gb116, 0, none⟩ = some (.int .i64 a0_0) := (blk_cell BK116.out 0).trans rfl; have hcz57_1 : w55.cell? ⟨gb116, 1, none⟩ = some (.slice A0_1 l0_1.length c0_1) := (blk_cell BK116.out 1).trans rfl; have hfz57_0 := blk_frozen BK116.out 0; have hfz57_1 := blk_frozen BK116.out 1) | ((with_reducible refine gate_callee (f := 16) rfl ?_); refine goesL_ (some 59) rfl rfl Try.func16 (by kernel_rfl) rfl #[.agg #[.int .i64 a0_0, .slice A0_1 l0_1.length c0_1]] rfl qm ?_; (with_reducible refine (laws_toNet.calls kj17 a0_0 _ _ l0_1 t103 t142 _ ?side1 ?side2 A49.out).mono ?_); (case side1 => exact qc (Kd.C_below HR0_1.out (qb HB.out))); (case side2 => exact HC0_1.out); rintro e w58 ⟨v147, rfl, ho0, hb⟩; refine ⟨_, rfl, ?_⟩; have n0_ := q0 (Kd.R_below (qr HO_6.out) hb); have n1_ := q0 (Kd.R_below (qr HO_8.out) hb); have n2_ := q0 (Kd.R_elder' (qr HO_110001.out) (Kd.R_base ho0) hb); have n3_ := q0 (Kd.R_lower (Kd.R_new' ho0 (Kd.R_lt (qr HO_110001.out))) (below_size (qb HB.out))); have n4_ := q0 (kb BK116.out hb); have n5_ := q0 (kb BK133.out hb); have n6_ := q0 (below_step (qb HB.out) hb); clear HO_6 HO_8 HO_110001 BK116 BK133 HB; have HO_6 := n0_; have HO_8 := n1_; have HO_110001 := n2_; have HO148 := n3_; have BK116 := n4_; have BK133 := n5_; have HB := n6_; clear n0_ n1_ n2_ n3_ n4_ n5_ n6_; (try clear hb); (try clear hb2); (try clear hk); (try clear hi); (try clear ho0); obtain ⟨Ao59, co59, eo59⟩ := Kd.R_slice HO148.out; subst eo59) | ((with_reducible refine gate_callee (f := 38) rfl ?_); refine goesL_ (some 61) rfl rfl Try.func38 (by kernel_rfl) rfl #[.agg #[.int .i64 t103, .slice Ao59 t142.length co59], .int .i64 a1] rfl qm ?_; (with_reducible refine (impl_WayReach.calls kj17 t103 _ _ t142 a1 t104 _ ?side1 ?side2 A50.out).mono ?_); (case side1 => exact qc (Kd.R_reads' HO148.out).2.2); (case side2 => exact (Kd.R_reads' HO148.out).2.1); rintro e w60 ⟨v149, rfl, ho0, hb⟩; refine ⟨_, rfl, ?_⟩; have n0_ := q0 (Kd.R_elder' (qr HO_6.out) (Kd.R_base ho0) hb); have n1_ := q0 (Kd.R_elder' (qr HO_8.out) (Kd.R_base ho0) hb); have n2_ := q0 (Kd.R_below (qr HO_110001.out) hb); have n3_ := q0 (Kd.R_below (qr HO148.out) hb); have n4_ := q0 (Kd.R_lower (Kd.R_new' (Kd.R_new' ho0 (Kd.R_lt (qr HO_6.out))) (Kd.R_lt (qr HO_8.out))) (below_size (qb HB.out))); have n5_ := q0 (kb BK116.out hb); have n6_ := q0 (kb BK133.out hb); have n7_ := q0 (below_step (qb HB.out) hb); clear HO_6 HO_8 HO_110001 HO148 BK116 BK133 HB; have HO_6 := n0_; have HO_8 := n1_; have HO_110001 := n2_; have HO148 := n3_; have HO150 := n4_; have BK116 := n5_; have BK133 := n6_; have HB := n7_; clear n0_ n1_ n2_ n3_ n4_ n5_ n6_ n7_; (try clear hb); (try clear hb2); (try clear hk); (try clear hi); (try clear ho0); obtain ⟨Ao61, co61, eo61⟩ := Kd.R_slice HO150.out; subst eo61) | ((with_reducible refine gate_callee (f := 39) rfl ?_); refine goesL_ (some 64) rfl rfl Try.func39 (by kernel_rfl) rfl #[.slice Ao61 t104.length co61, .slice Ao34 t108.length co34] rfl qm ?_; (with_reducible refine (laws_eqBoolS.calls kj17 _ _ t104 _ _ t108 true _ ?side1 ?side2 ?side3 ?side4 A51.out).mono ?_); (case side1 => exact qc (Kd.R_reads' HO150.out).2.2); (case side2 => exact (Kd.R_reads' HO150.out).2.1); (case side3 => exact qc (Kd.R_reads' HO_6.out).2.2); (case side4 => exact (Kd.R_reads' HO_6.out).2.1); rintro e w' ⟨rfl, ⟨nd, rfl⟩⟩; refine ⟨_, rfl, ?_⟩) | ((with_reducible refine gate_callee (f := 41) rfl ?_); refine goesL_ (some 68) rfl rfl Try.func41 (by kernel_rfl) rfl #[.slice Ao33 t139.length co33, .int .i64 1] rfl (by (try simp only [List.map_toArray, List.map_cons, List.map_nil]); first | done | (rw [show t139.length = t110.length from (Kd.R_reads' HO_8.out).1.symm] <;> rfl) | rfl | (simp only [List.length_drop, List.length_take]; rfl)) ?_; (with_reducible refine (laws_heldBoolS.calls kj17 _ _ t139 1 t106 _ ?side1 ?side2 A53.out).mono ?_); (case side1 => exact qc (Kd.R_reads' HO_8.out).2.2); (case side2 => rw [show t139.length = t110.length from (Kd.R_reads' HO_8.out).1.symm]; exact (Kd.R_reads' HO_8.out).2.1); rintro e w' ⟨rfl, ⟨nd, rfl⟩⟩; refine ⟨_, rfl, ?_⟩))
   go_ret
   exact ⟨qe, qb HB.out⟩
 rw [if_neg c54] at H
 have c54b0 : decide (t106 < 0) = false := decide_eq_false c54
 clear c54
 by_cases c62 : t106 = t101
 rotate_left
 · rw [if_neg c62] at H
   have c62b0 : (t106 == t101) = false := beq_eq_false_iff_ne.mpr c62
   have c62b1 : (t106 != t101) = true := bne_iff_ne.mpr c62
   obtain rfl := Option.some.inj H
   go_wp2_with (first | ((with_reducible refine gate_callee (f := 40) rfl ?_); refine goesL_ (some 49) rfl rfl Try.func40 (by kernel_rfl) rfl #[.slice Ao33 t110.length co33, .int .i64 1] rfl qm ?_; (with_reducible refine (laws_markBoolS.calls kj17 (fun k_ => some k_ = (.slice Ao33 t110.length co33 : Value).ownBlock) (.slice Ao33 t110.length co33) t110 1 t101 t139 w _ ?side1 ?side2 A44.out).mono ?_); (case side1 => exact qb HB.out); (case side2 => exact Kd.R_tight rfl HO_8.out); rintro e w70 ⟨rfl, hy0, hb, hkp⟩; refine ⟨_, rfl, ?_⟩; have n0_ := q0 (Kd.R_mono (ok' := fun k_ => some k_ ≠ (.slice Ao33 t110.length co33 : Value).ownBlock) (Kd.R_keptB (HO_6.out) hkp (fun k_ hk_ hs_ => by first | exact (hk_) hs_ | grind)) (fun k_ hk_ => by first | exact hk_.1 | grind)); have n1_ := q0 (Kd.R_reok rfl hy0 (fun k_ e_ => HO_8.out.1 k_ e_)); have n2_ := q0 (Kd.R_mono (ok' := fun k_ => True) (Kd.R_keptB ((Kd.R_apart' HO_110001.out (Kd.R_typed HO_8.out) (by decide))) hkp (fun k_ hk_ hs_ => by first | exact (hk_.2) hs_ | grind)) (fun k_ hk_ => trivial)); have n3_ := q0 (blk_kept (qk BK116.out) hkp (fun hs_ => (fun e_ => (Kd.R_ne HO_8.out BK116.out (by decide)) e_) hs_)); have n4_ := q0 (blk_kept (qk BK133.out) hkp (fun hs_ => (fun e_ => (Kd.R_ne HO_8.out BK133.out (by decide)) e_) hs_)); have n5_ := q0 (hb); clear HO_6 HO_8 HO_110001 BK116 BK133 HB; have HO_6 := n0_; have HO_8 := n1_; have HO_110001 := n2_; have BK116 := n3_; have BK133 := n4_; have HB := n5_; clear n0_ n1_ n2_ n3_ n4_ n5_; (try clear hb); (try clear hkp); (try clear hy0)) | ((with_reducible refine gate_callee (f := 41) rfl ?_); refine goesL_ (some 52) rfl rfl Try.func41 (by kernel_rfl) rfl #[.slice Ao33 t139.length co33, .int .i64 1] rfl (by (try simp only [List.map_toArray, List.map_cons, List.map_nil]); first | done | (rw [show t139.length = t110.length from (Kd.R_reads' HO_8.out).1.symm] <;> rfl) | rfl | (simp only [List.length_drop, List.length_take]; rfl)) ?_; (with_reducible refine (laws_heldBoolS.calls kj17 _ _ t139 1 t102 _ ?side1 ?side2 A45.out).mono ?_); (case side1 => exact qc (Kd.R_reads' HO_8.out).2.2); (case side2 => rw [show t139.length = t110.length from (Kd.R_reads' HO_8.out).1.symm]; exact (Kd.R_reads' HO_8.out).2.1); rintro e w' ⟨rfl, ⟨nd, rfl⟩⟩; refine ⟨_, rfl, ?_⟩; have hnb71 := NB116_133.out; have hnc71 := NB133_116.out; have hcz72_0 : w70.cell? ⟨gb116, 0, none⟩ = some (.int .i64 a0_0) := (blk_cell BK116.out 0).trans rfl; have hcz72_1 : w70.cell? ⟨gb116, 1, none⟩ = some (.slice A0_1 l0_1.length c0_1) := (blk_cell BK116.out 1).trans rfl; have hfz72_0 := blk_frozen BK116.out 0; have hfz72_1 := blk_frozen BK116.out 1) | ((with_reducible refine gate_callee (f := 16) rfl ?_); refine goesL_ (some 59) rfl rfl Try.func16 (by kernel_rfl) rfl #[.agg #[.int .i64 a0_0, .slice A0_1 l0_1.length c0_1]] rfl qm ?_; (with_reducible refine (laws_toNet.calls kj17 a0_0 _ _ l0_1 t103 t142 _ ?side1 ?side2 A49.out).mono ?_); (case side1 => exact qc (Kd.C_below HR0_1.out (qb HB.out))); (case side2 => exact HC0_1.out); rintro e w73 ⟨v147, rfl, ho0, hb⟩; refine ⟨_, rfl, ?_⟩; have n0_ := q0 (Kd.R_below (qr HO_6.out) hb); have n1_ := q0 (Kd.R_below (qr HO_8.out) hb); have n2_ := q0 (Kd.R_elder' (qr HO_110001.out) (Kd.R_base ho0) hb); have n3_ := q0 (Kd.R_lower (Kd.R_new' ho0 (Kd.R_lt (qr HO_110001.out))) (below_size (qb HB.out))); have n4_ := q0 (kb BK116.out hb); have n5_ := q0 (kb BK133.out hb); have n6_ := q0 (below_step (qb HB.out) hb); clear HO_6 HO_8 HO_110001 BK116 BK133 HB; have HO_6 := n0_; have HO_8 := n1_; have HO_110001 := n2_; have HO148 := n3_; have BK116 := n4_; have BK133 := n5_; have HB := n6_; clear n0_ n1_ n2_ n3_ n4_ n5_ n6_; (try clear hb); (try clear hb2); (try clear hk); (try clear hi); (try clear ho0); obtain ⟨Ao74, co74, eo74⟩ := Kd.R_slice HO148.out; subst eo74) | ((with_reducible refine gate_callee (f := 38) rfl ?_); refine goesL_ (some 61) rfl rfl Try.func38 (by kernel_rfl) rfl #[.agg #[.int .i64 t103, .slice Ao74 t142.length co74], .int .i64 a1] rfl qm ?_; (with_reducible refine (impl_WayReach.calls kj17 t103 _ _ t142 a1 t104 _ ?side1 ?side2 A50.out).mono ?_); (case side1 => exact qc (Kd.R_reads' HO148.out).2.2); (case side2 => exact (Kd.R_reads' HO148.out).2.1); rintro e w75 ⟨v149, rfl, ho0, hb⟩; refine ⟨_, rfl, ?_⟩; have n0_ := q0 (Kd.R_elder' (qr HO_6.out) (Kd.R_base ho0) hb); have n1_ := q0 (Kd.R_elder' (qr HO_8.out) (Kd.R_base ho0) hb); have n2_ := q0 (Kd.R_below (qr HO_110001.out) hb); have n3_ := q0 (Kd.R_below (qr HO148.out) hb); have n4_ := q0 (Kd.R_lower (Kd.R_new' (Kd.R_new' ho0 (Kd.R_lt (qr HO_6.out))) (Kd.R_lt (qr HO_8.out))) (below_size (qb HB.out))); have n5_ := q0 (kb BK116.out hb); have n6_ := q0 (kb BK133.out hb); have n7_ := q0 (below_step (qb HB.out) hb); clear HO_6 HO_8 HO_110001 HO148 BK116 BK133 HB; have HO_6 := n0_; have HO_8 := n1_; have HO_110001 := n2_; have HO148 := n3_; have HO150 := n4_; have BK116 := n5_; have BK133 := n6_; have HB := n7_; clear n0_ n1_ n2_ n3_ n4_ n5_ n6_ n7_; (try clear hb); (try clear hb2); (try clear hk); (try clear hi); (try clear ho0); obtain ⟨Ao76, co76, eo76⟩ := Kd.R_slice HO150.out; subst eo76) | ((with_reducible refine gate_callee (f := 39) rfl ?_); refine goesL_ (some 64) rfl rfl Try.func39 (by kernel_rfl) rfl #[.slice Ao76 t104.length co76, .slice Ao34 t108.length co34] rfl qm ?_; (with_reducible refine (laws_eqBoolS.calls kj17 _ _ t104 _ _ t108 true _ ?side1 ?side2 ?side3 ?side4 A51.out).mono ?_); (case side1 => exact qc (Kd.R_reads' HO150.out).2.2); (case side2 => exact (Kd.R_reads' HO150.out).2.1); (case side3 => exact qc (Kd.R_reads' HO_6.out).2.2); (case side4 => exact (Kd.R_reads' HO_6.out).2.1); rintro e w' ⟨rfl, ⟨nd, rfl⟩⟩; refine ⟨_, rfl, ?_⟩) | ((with_reducible refine gate_callee (f := 41) rfl ?_); refine goesL_ (some 68) rfl rfl Try.func41 (by kernel_rfl) rfl #[.slice Ao33 t139.length co33, .int .i64 1] rfl (by (try simp only [List.map_toArray, List.map_cons, List.map_nil]); first | done | (rw [show t139.length = t110.length from (Kd.R_reads' HO_8.out).1.symm] <;> rfl) | rfl | (simp only [List.length_drop, List.length_take]; rfl)) ?_; (with_reducible refine (laws_heldBoolS.calls kj17 _ _ t139 1 t106 _ ?side1 ?side2 A53.out).mono ?_); (case side1 => exact qc (Kd.R_reads' HO_8.out).2.2); (case side2 => rw [show t139.length = t110.length from (Kd.R_reads' HO_8.out).1.symm]; exact (Kd.R_reads' HO_8.out).2.1); rintro e w' ⟨rfl, ⟨nd, rfl⟩⟩; refine ⟨_, rfl, ?_⟩))
   go_ret
   exact ⟨qe, qb HB.out⟩
 rw [if_pos c62] at H
 have c62b0 : (t106 == t101) = true := beq_iff_eq.mpr c62
 have c62b1 : (t106 != t101) = false := bne_eq_false_iff_eq.mpr c62
 clear c62
 obtain rfl := Option.some.inj H
 go_wp2_with (first | ((with_reducible refine gate_callee (f := 40) rfl ?_); refine goesL_ (some 49) rfl rfl Try.func40 (by kernel_rfl) rfl #[.slice Ao33 t110.length co33, .int .i64 1] rfl qm ?_; (with_reducible refine (laws_markBoolS.calls kj17 (fun k_ => some k_ = (.slice Ao33 t110.length co33 : Value).ownBlock) (.slice Ao33 t110.length co33) t110 1 t101 t139 w _ ?side1 ?side2 A44.out).mono ?_); (case side1 => exact qb HB.out); (case side2 => exact Kd.R_tight rfl HO_8.out); rintro e w63 ⟨rfl, hy0, hb, hkp⟩; refine ⟨_, rfl, ?_⟩; have n0_ := q0 (Kd.R_mono (ok' := fun k_ => some k_ ≠ (.slice Ao33 t110.length co33 : Value).ownBlock) (Kd.R_keptB (HO_6.out) hkp (fun k_ hk_ hs_ => by first | exact (hk_) hs_ | grind)) (fun k_ hk_ => by first | exact hk_.1 | grind)); have n1_ := q0 (Kd.R_reok rfl hy0 (fun k_ e_ => HO_8.out.1 k_ e_)); have n2_ := q0 (Kd.R_mono (ok' := fun k_ => True) (Kd.R_keptB ((Kd.R_apart' HO_110001.out (Kd.R_typed HO_8.out) (by decide))) hkp (fun k_ hk_ hs_ => by first | exact (hk_.2) hs_ | grind)) (fun k_ hk_ => trivial)); have n3_ := q0 (blk_kept (qk BK116.out) hkp (fun hs_ => (fun e_ => (Kd.R_ne HO_8.out BK116.out (by decide)) e_) hs_)); have n4_ := q0 (blk_kept (qk BK133.out) hkp (fun hs_ => (fun e_ => (Kd.R_ne HO_8.out BK133.out (by decide)) e_) hs_)); have n5_ := q0 (hb); clear HO_6 HO_8 HO_110001 BK116 BK133 HB; have HO_6 := n0_; have HO_8 := n1_; have HO_110001 := n2_; have BK116 := n3_; have BK133 := n4_; have HB := n5_; clear n0_ n1_ n2_ n3_ n4_ n5_; (try clear hb); (try clear hkp); (try clear hy0)) | ((with_reducible refine gate_callee (f := 41) rfl ?_); refine goesL_ (some 52) rfl rfl Try.func41 (by kernel_rfl) rfl #[.slice Ao33 t139.length co33, .int .i64 1] rfl (by (try simp only [List.map_toArray, List.map_cons, List.map_nil]); first | done | (rw [show t139.length = t110.length from (Kd.R_reads' HO_8.out).1.symm] <;> rfl) | rfl | (simp only [List.length_drop, List.length_take]; rfl)) ?_; (with_reducible refine (laws_heldBoolS.calls kj17 _ _ t139 1 t102 _ ?side1 ?side2 A45.out).mono ?_); (case side1 => exact qc (Kd.R_reads' HO_8.out).2.2); (case side2 => rw [show t139.length = t110.length from (Kd.R_reads' HO_8.out).1.symm]; exact (Kd.R_reads' HO_8.out).2.1); rintro e w' ⟨rfl, ⟨nd, rfl⟩⟩; refine ⟨_, rfl, ?_⟩; have hnb64 := NB116_133.out; have hnc64 := NB133_116.out; have hcz65_0 : w63.cell? ⟨gb116, 0, none⟩ = some (.int .i64 a0_0) := (blk_cell BK116.out 0).trans rfl; have hcz65_1 : w63.cell? ⟨gb116, 1, none⟩ = some (.slice A0_1 l0_1.length c0_1) := (blk_cell BK116.out 1).trans rfl; have hfz65_0 := blk_frozen BK116.out 0; have hfz65_1 := blk_frozen BK116.out 1) | ((with_reducible refine gate_callee (f := 16) rfl ?_); refine goesL_ (some 59) rfl rfl Try.func16 (by kernel_rfl) rfl #[.agg #[.int .i64 a0_0, .slice A0_1 l0_1.length c0_1]] rfl qm ?_; (with_reducible refine (laws_toNet.calls kj17 a0_0 _ _ l0_1 t103 t142 _ ?side1 ?side2 A49.out).mono ?_); (case side1 => exact qc (Kd.C_below HR0_1.out (qb HB.out))); (case side2 => exact HC0_1.out); rintro e w66 ⟨v147, rfl, ho0, hb⟩; refine ⟨_, rfl, ?_⟩; have n0_ := q0 (Kd.R_below (qr HO_6.out) hb); have n1_ := q0 (Kd.R_below (qr HO_8.out) hb); have n2_ := q0 (Kd.R_elder' (qr HO_110001.out) (Kd.R_base ho0) hb); have n3_ := q0 (Kd.R_lower (Kd.R_new' ho0 (Kd.R_lt (qr HO_110001.out))) (below_size (qb HB.out))); have n4_ := q0 (kb BK116.out hb); have n5_ := q0 (kb BK133.out hb); have n6_ := q0 (below_step (qb HB.out) hb); clear HO_6 HO_8 HO_110001 BK116 BK133 HB; have HO_6 := n0_; have HO_8 := n1_; have HO_110001 := n2_; have HO148 := n3_; have BK116 := n4_; have BK133 := n5_; have HB := n6_; clear n0_ n1_ n2_ n3_ n4_ n5_ n6_; (try clear hb); (try clear hb2); (try clear hk); (try clear hi); (try clear ho0); obtain ⟨Ao67, co67, eo67⟩ := Kd.R_slice HO148.out; subst eo67) | ((with_reducible refine gate_callee (f := 38) rfl ?_); refine goesL_ (some 61) rfl rfl Try.func38 (by kernel_rfl) rfl #[.agg #[.int .i64 t103, .slice Ao67 t142.length co67], .int .i64 a1] rfl qm ?_; (with_reducible refine (impl_WayReach.calls kj17 t103 _ _ t142 a1 t104 _ ?side1 ?side2 A50.out).mono ?_); (case side1 => exact qc (Kd.R_reads' HO148.out).2.2); (case side2 => exact (Kd.R_reads' HO148.out).2.1); rintro e w68 ⟨v149, rfl, ho0, hb⟩; refine ⟨_, rfl, ?_⟩; have n0_ := q0 (Kd.R_elder' (qr HO_6.out) (Kd.R_base ho0) hb); have n1_ := q0 (Kd.R_elder' (qr HO_8.out) (Kd.R_base ho0) hb); have n2_ := q0 (Kd.R_below (qr HO_110001.out) hb); have n3_ := q0 (Kd.R_below (qr HO148.out) hb); have n4_ := q0 (Kd.R_lower (Kd.R_new' (Kd.R_new' ho0 (Kd.R_lt (qr HO_6.out))) (Kd.R_lt (qr HO_8.out))) (below_size (qb HB.out))); have n5_ := q0 (kb BK116.out hb); have n6_ := q0 (kb BK133.out hb); have n7_ := q0 (below_step (qb HB.out) hb); clear HO_6 HO_8 HO_110001 HO148 BK116 BK133 HB; have HO_6 := n0_; have HO_8 := n1_; have HO_110001 := n2_; have HO148 := n3_; have HO150 := n4_; have BK116 := n5_; have BK133 := n6_; have HB := n7_; clear n0_ n1_ n2_ n3_ n4_ n5_ n6_ n7_; (try clear hb); (try clear hb2); (try clear hk); (try clear hi); (try clear ho0); obtain ⟨Ao69, co69, eo69⟩ := Kd.R_slice HO150.out; subst eo69) | ((with_reducible refine gate_callee (f := 39) rfl ?_); refine goesL_ (some 64) rfl rfl Try.func39 (by kernel_rfl) rfl #[.slice Ao69 t104.length co69, .slice Ao34 t108.length co34] rfl qm ?_; (with_reducible refine (laws_eqBoolS.calls kj17 _ _ t104 _ _ t108 true _ ?side1 ?side2 ?side3 ?side4 A51.out).mono ?_); (case side1 => exact qc (Kd.R_reads' HO150.out).2.2); (case side2 => exact (Kd.R_reads' HO150.out).2.1); (case side3 => exact qc (Kd.R_reads' HO_6.out).2.2); (case side4 => exact (Kd.R_reads' HO_6.out).2.1); rintro e w' ⟨rfl, ⟨nd, rfl⟩⟩; refine ⟨_, rfl, ?_⟩) | ((with_reducible refine gate_callee (f := 41) rfl ?_); refine goesL_ (some 68) rfl rfl Try.func41 (by kernel_rfl) rfl #[.slice Ao33 t139.length co33, .int .i64 1] rfl (by (try simp only [List.map_toArray, List.map_cons, List.map_nil]); first | done | (rw [show t139.length = t110.length from (Kd.R_reads' HO_8.out).1.symm] <;> rfl) | rfl | (simp only [List.length_drop, List.length_take]; rfl)) ?_; (with_reducible refine (laws_heldBoolS.calls kj17 _ _ t139 1 t106 _ ?side1 ?side2 A53.out).mono ?_); (case side1 => exact qc (Kd.R_reads' HO_8.out).2.2); (case side2 => rw [show t139.length = t110.length from (Kd.R_reads' HO_8.out).1.symm]; exact (Kd.R_reads' HO_8.out).2.1); rintro e w' ⟨rfl, ⟨nd, rfl⟩⟩; refine ⟨_, rfl, ?_⟩))
 go_ret
 exact ⟨qe, qb HB.out⟩

end Go.Proofs.Ythaihdfkjhammaa.P
