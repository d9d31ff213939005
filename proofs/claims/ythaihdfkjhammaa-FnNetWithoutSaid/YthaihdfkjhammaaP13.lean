import Derived.Test.YthaihdfkjhammaaP0
import Derived.Test.YthaihdfkjhammaaP1
import Derived.Test.YthaihdfkjhammaaP4
import Derived.Test.YthaihdfkjhammaaP7
namespace Go.Proofs.Ythaihdfkjhammaa.P
open Go.RowKit Go.Proofs.YthaihdfkjhammaaW.PrintWords Go.Proofs.YthaihdfkjhammaaW.PrintLast Go.Proofs.YthaihdfkjhammaaW.PrintMore
attribute [local go_sem] max2_int min2_int max_two min_two max_three min_three max_four min_four
set_option linter.unusedVariables false
set_option linter.unusedSimpArgs false
attribute [local go_sem high] eqATie
def spec_NetWithout.T8 : Bool × List (List Nat × List Nat) := (true, [([], []), ([0], [0]), ([], []), ([2], [2]), ([], []), ([3, 4], [3, 4]), ([5], [5]), ([6], [6]), ([1, 7], [1, 7]), ([0, 1, 2, 3, 4, 5, 6, 7, 8], []), ([9, 8, 8, 0, 1, 2, 3, 4, 5, 6, 7, 8], [8, 9])])
def spec_NetWithout.B8 : List Nat := [0, 1, 0, 4, 0, 28, 60, 124, 255, 511, 1023]
theorem spec_NetWithout.tab8 : rtab .any (opsOf Try.f21 8) = spec_NetWithout.T8 := by kernel_rfl
theorem spec_NetWithout.bits8 : waitsOk spec_NetWithout.T8.2 spec_NetWithout.B8 = true := by kernel_rfl
set_option maxHeartbeats 8000000 in
set_option maxRecDepth 100000 in
theorem spec_NetWithout.calls (k : Nat) (a0_0 : Int) (A0_1 : Option Addr) (c0_1 : Nat) (l0_1 : List (STie)) (a1 : Int) (r1 : Int) (r2 : List (STie)) (w : World) (hr0_1 : Kd.C kTie w A0_1 l0_1.length l0_1) (hc0_1 : l0_1.length ≤ c0_1) (h : spec_NetWithout.f k a0_0 l0_1 a1 = some (r1, r2)) :
    Calls Try.prog 21 #[.agg #[.int .i64 a0_0, .slice A0_1 l0_1.length c0_1], .int .i64 a1] w fun e w' => ∃ v1_ : Value, e = .returned (.agg #[.int .i64 r1, v1_]) ∧ Kd.R kTie 54 w' w.heap.size (fun _ => True) v1_ r2 ∧ Below w.heap.size w w' := by
 have hu30 := Try.underlying30
 have hu54 := Try.underlying54
 have HR0_1 := Aside0.mk hr0_1
 have HC0_1 := Aside0.mk hc0_1
 clear hr0_1 hc0_1
 have HB := q0 (Below.refl w.heap.size w)
 have H : ((spec_l1Knot.f k a0_0 l0_1 a1).bind fun t102 => (if t102 = true then (spec_NetWithout.l0 k a1 0 a0_0 l0_1 a0_0 ([] : List (STie))) else (some (0, ([] : List (STie)))))) = some (r1, r2) := h
 clear h
 replace H := Option.bind_eq_some_iff.mp H
 obtain ⟨t102, A30, H⟩ := H
 replace H : (if t102 = true then (spec_NetWithout.l0 k a1 0 a0_0 l0_1 a0_0 ([] : List (STie))) else (some (0, ([] : List (STie))))) = some (r1, r2) := H
 have A3 := Aside0.mk A30
 clear A30
 by_cases c4 : t102 = true
 rotate_left
 · replace c4 := Bool.eq_false_iff.mpr c4
   subst c4
   have H1 : (some (0, ([] : List (STie)))) = some (r1, r2) := by rw [if_neg (show ¬ (false = true) by decide)] at H; exact H
   clear H
   have H := H1
   clear H1
   simp only [Option.some.injEq, Prod.mk.injEq] at H
   obtain ⟨rfl, rfl⟩ := H
   go_enter Try.func21, Try.ntmps21
   go_wp2_with (first | ((with_reducible refine gate_dst (N := 2) rfl ?_); refine be 2 #[.int .i64 a0_0, .slice A0_1 l0_1.length c0_1] 30 ?_; intro gb103 hg w40 hbox hb; have n0_ := q0 (below_step (qb HB.out) hb); have n1_ := q0 (hbox); have n2_ := q0 ((bs HB.out hg : w.heap.size ≤ gb103)); have n3_ := q0 ((bs HB.out hg : w.heap.size ≤ gb103)); clear HB; have HB := n0_; have BK103 := n1_; have GW103 := n2_; have GE103 := n3_; clear n0_ n1_ n2_ n3_ hb hbox hg) | ((with_reducible refine gate_dst (N := 4) rfl ?_); refine be 4 #[.int .i64 0, .slice none 0 0] 30 ?_; intro gb100 hg w41 hbox hb; have n0_ := q0 (kb BK103.out hb); have n1_ := q0 (below_step (qb HB.out) hb); have n2_ := q0 (hbox); have n3_ := q0 ((bs HB.out hg : w.heap.size ≤ gb100)); have n4_ := q0 ((bs HB.out hg : w.heap.size ≤ gb100)); have n5_ := q0 ((bl BK103.out hg : gb103 ≠ gb100)); have n6_ := q0 ((bg BK103.out hg : gb100 ≠ gb103)); clear BK103 HB; have BK103 := n0_; have HB := n1_; have BK100 := n2_; have GW100 := n3_; have GE100 := n4_; have NB103_100 := n5_; have NB100_103 := n6_; clear n0_ n1_ n2_ n3_ n4_ n5_ n6_ hb hbox hg; have hnb42 := NB103_100.out; have hnc42 := NB100_103.out; have hcz43_0 : w41.cell? ⟨gb103, 0, none⟩ = some (.int .i64 a0_0) := (blk_cell BK103.out 0).trans rfl; have hcz43_1 : w41.cell? ⟨gb103, 1, none⟩ = some (.slice A0_1 l0_1.length c0_1) := (blk_cell BK103.out 1).trans rfl; have hfz43_0 := blk_frozen BK103.out 0; have hfz43_1 := blk_frozen BK103.out 1) | ((with_reducible refine gate_callee (f := 54) rfl ?_); refine goesL_ (some 9) rfl rfl Try.func54 (by kernel_rfl) rfl #[.agg #[.int .i64 a0_0, .slice A0_1 l0_1.length c0_1], .int .i64 a1] rfl qm ?_; (with_reducible refine (spec_l1Knot.calls k a0_0 _ _ l0_1 a1 false _ ?side1 ?side2 A3.out).mono ?_); (case side1 => exact qc (Kd.C_below HR0_1.out HB.out)); (case side2 => exact HC0_1.out); rintro e w44 ⟨rfl, hb⟩; refine ⟨_, rfl, ?_⟩; have n0_ := q0 (kb BK103.out hb); have n1_ := q0 (kb BK100.out hb); have n2_ := q0 (below_step (qb HB.out) hb); clear BK103 BK100 HB; have BK103 := n0_; have BK100 := n1_; have HB := n2_; clear n0_ n1_ n2_; (try clear hb); (try clear hb2); (try clear hk); (try clear hi); have hcz45_0 : w44.cell? ⟨gb100, 0, none⟩ = some (.int .i64 0) := (blk_cell BK100.out 0).trans rfl; have hcz45_1 : w44.cell? ⟨gb100, 1, none⟩ = some (.slice none 0 0) := (blk_cell BK100.out 1).trans rfl; have hfz45_0 := blk_frozen BK100.out 0; have hfz45_1 := blk_frozen BK100.out 1))
   refine bodyPost_ret (results_cell_row rfl _ _ gb100 30 #[.int .i64 0, .slice none 0 0] (0, 0) _ rfl (by (with_reducible repeat (first | refine blk_drewN ?_ _ | refine blk_drew ?_ | refine blk_alloc ?_ _)); refine blk_put (cs := #[.int .i64 0, .slice none 0 0]) ?_ 1 _ rfl; (with_reducible repeat (first | refine blk_drewN ?_ _ | refine blk_drew ?_ | refine blk_alloc ?_ _)); refine blk_put (cs := #[.int .i64 0, .slice none 0 0]) ?_ 0 _ rfl; (with_reducible repeat (first | refine blk_drewN ?_ _ | refine blk_drew ?_ | refine blk_alloc ?_ _)); exact BK100.out) Try.underlying30 rfl (by kernel_rfl)) rfl ?_
   exact ⟨_, qe, by first | exact Kd.R_nil _ _ _ _ _ | exact Kd.N_nil _ _ _ _ _ | exact Kd.V_nil _ _ _ _ _ | exact Kd.Q_nil _ _ _ _ _ | exact Kd.S_nil _ _ _ _ _, qb HB.out⟩
 subst c4
 have H1 : (spec_NetWithout.l0 k a1 0 a0_0 l0_1 a0_0 ([] : List (STie))) = some (r1, r2) := by rw [if_pos rfl] at H; exact H
 clear H
 have H := H1
 clear H1
 have H' := Aside0.mk H
 clear H
 go_enter Try.func21, Try.ntmps21
 go_wp2_with (first | ((with_reducible refine gate_dst (N := 2) rfl ?_); refine be 2 #[.int .i64 a0_0, .slice A0_1 l0_1.length c0_1] 30 ?_; intro gb103 hg w5 hbox hb; have n0_ := q0 (below_step (qb HB.out) hb); have n1_ := q0 (hbox); have n2_ := q0 ((bs HB.out hg : w.heap.size ≤ gb103)); have n3_ := q0 ((bs HB.out hg : w.heap.size ≤ gb103)); clear HB; have HB := n0_; have BK103 := n1_; have GW103 := n2_; have GE103 := n3_; clear n0_ n1_ n2_ n3_ hb hbox hg) | ((with_reducible refine gate_dst (N := 4) rfl ?_); refine be 4 #[.int .i64 0, .slice none 0 0] 30 ?_; intro gb100 hg w6 hbox hb; have n0_ := q0 (kb BK103.out hb); have n1_ := q0 (below_step (qb HB.out) hb); have n2_ := q0 (hbox); have n3_ := q0 ((bs HB.out hg : w.heap.size ≤ gb100)); have n4_ := q0 ((bs HB.out hg : w.heap.size ≤ gb100)); have n5_ := q0 ((bl BK103.out hg : gb103 ≠ gb100)); have n6_ := q0 ((bg BK103.out hg : gb100 ≠ gb103)); clear BK103 HB; have BK103 := n0_; have HB := n1_; have BK100 := n2_; have GW100 := n3_; have GE100 := n4_; have NB103_100 := n5_; have NB100_103 := n6_; clear n0_ n1_ n2_ n3_ n4_ n5_ n6_ hb hbox hg; have hnb7 := NB103_100.out; have hnc7 := NB100_103.out; have hcz8_0 : w6.cell? ⟨gb103, 0, none⟩ = some (.int .i64 a0_0) := (blk_cell BK103.out 0).trans rfl; have hcz8_1 : w6.cell? ⟨gb103, 1, none⟩ = some (.slice A0_1 l0_1.length c0_1) := (blk_cell BK103.out 1).trans rfl; have hfz8_0 := blk_frozen BK103.out 0; have hfz8_1 := blk_frozen BK103.out 1) | ((with_reducible refine gate_callee (f := 54) rfl ?_); refine goesL_ (some 9) rfl rfl Try.func54 (by kernel_rfl) rfl #[.agg #[.int .i64 a0_0, .slice A0_1 l0_1.length c0_1], .int .i64 a1] rfl qm ?_; (with_reducible refine (spec_l1Knot.calls k a0_0 _ _ l0_1 a1 true _ ?side1 ?side2 A3.out).mono ?_); (case side1 => exact qc (Kd.C_below HR0_1.out HB.out)); (case side2 => exact HC0_1.out); rintro e w9 ⟨rfl, hb⟩; refine ⟨_, rfl, ?_⟩; have n0_ := q0 (kb BK103.out hb); have n1_ := q0 (kb BK100.out hb); have n2_ := q0 (below_step (qb HB.out) hb); clear BK103 BK100 HB; have BK103 := n0_; have BK100 := n1_; have HB := n2_; clear n0_ n1_ n2_; (try clear hb); (try clear hb2); (try clear hk); (try clear hi); have hcz10_0 : w9.cell? ⟨gb103, 0, none⟩ = some (.int .i64 a0_0) := (blk_cell BK103.out 0).trans rfl; have hcz10_1 : w9.cell? ⟨gb103, 1, none⟩ = some (.slice A0_1 l0_1.length c0_1) := (blk_cell BK103.out 1).trans rfl; have hfz10_0 := blk_frozen BK103.out 0; have hfz10_1 := blk_frozen BK103.out 1) | ((with_reducible refine gate_dst (N := 5) rfl ?_); refine be 5 #[.int .i64 0, .slice none 0 0] 30 ?_; intro gb104 hg w11 hbox hb; have n0_ := q0 (kb BK103.out hb); have n1_ := q0 (kb BK100.out hb); have n2_ := q0 (below_step (qb HB.out) hb); have n3_ := q0 (hbox); have n4_ := q0 ((bs HB.out hg : w.heap.size ≤ gb104)); have n5_ := q0 ((bs HB.out hg : w.heap.size ≤ gb104)); have n6_ := q0 ((bl BK103.out hg : gb103 ≠ gb104)); have n7_ := q0 ((bg BK103.out hg : gb104 ≠ gb103)); have n8_ := q0 ((bl BK100.out hg : gb100 ≠ gb104)); have n9_ := q0 ((bg BK100.out hg : gb104 ≠ gb100)); clear BK103 BK100 HB; have BK103 := n0_; have BK100 := n1_; have HB := n2_; have BK104 := n3_; have GW104 := n4_; have GE104 := n5_; have NB103_104 := n6_; have NB104_103 := n7_; have NB100_104 := n8_; have NB104_100 := n9_; clear n0_ n1_ n2_ n3_ n4_ n5_ n6_ n7_ n8_ n9_ hb hbox hg; have hnb12 := NB104_103.out; have hnc12 := NB103_104.out; have hnb13 := NB104_100.out; have hnc13 := NB100_104.out; have hcz14_0 : w11.cell? ⟨gb104, 0, none⟩ = some (.int .i64 0) := (blk_cell BK104.out 0).trans rfl; have hcz14_1 : w11.cell? ⟨gb104, 1, none⟩ = some (.slice none 0 0) := (blk_cell BK104.out 1).trans rfl; have hfz14_0 := blk_frozen BK104.out 0; have hfz14_1 := blk_frozen BK104.out 1))
 go_loopg [6] k (fun kq v6 w' => ∃ (x6_1 : Int) (x101001_1 : List (STie)) (u101001 : Value), v6 = .int .i64 x6_1 ∧ Aside0 (spec_NetWithout.l0 kq a1 x6_1 a0_0 l0_1 a0_0 x101001_1 = some (r1, r2)) ∧ Aside0 (kq ≤ k) ∧ Aside0 (Kd.R kTie 54 w' w.heap.size (fun _ => True) u101001 x101001_1) ∧ Aside0 (w'.heap[gb103]? = some (.cells #[.int .i64 a0_0, (.slice A0_1 l0_1.length c0_1)] 30 (0, 0))) ∧ Aside0 (w'.heap[gb100]? = some (.cells #[.int .i64 0, (.slice none 0 0)] 30 (0, 0))) ∧ Aside0 (w'.heap[gb104]? = some (.cells #[.int .i64 a0_0, u101001] 30 (0, 0))) ∧ Aside0 (Below w.heap.size w w'))
 case atStart => exact ⟨(0), (([] : List (STie))), (.slice none 0 0), qs, H', ⟨Nat.le_refl _⟩, ⟨by first | exact Kd.R_nil _ _ _ _ _ | exact Kd.N_nil _ _ _ _ _ | exact Kd.V_nil _ _ _ _ _ | exact Kd.Q_nil _ _ _ _ _ | exact Kd.S_nil _ _ _ _ _⟩, ⟨qf BK103.out⟩, ⟨qf BK100.out⟩, ⟨by (with_reducible repeat (first | refine blk_drewN ?_ _ | refine blk_drew ?_ | refine blk_alloc ?_ _)); refine blk_put (cs := #[.int .i64 a0_0, .slice none 0 0]) ?_ 1 _ rfl; (with_reducible repeat (first | refine blk_drewN ?_ _ | refine blk_drew ?_ | refine blk_alloc ?_ _)); refine blk_put (cs := #[.int .i64 0, .slice none 0 0]) ?_ 0 _ rfl; (with_reducible repeat (first | refine blk_drewN ?_ _ | refine blk_drew ?_ | refine blk_alloc ?_ _)); exact BK104.out⟩, ⟨qb HB.out⟩⟩
 clear H'
 try clear c1
 try clear c2
 try clear p2
 try clear c4
 try clear c5
 try clear c7
 try clear c12
 try clear c13
 try clear hcz10_0
 try clear hcz10_1
 try clear hcz14_0
 try clear hcz14_1
 try clear hcz8_0
 try clear hcz8_1
 try clear hfz10_0
 try clear hfz10_1
 try clear hfz14_0
 try clear hfz14_1
 try clear hfz8_0
 try clear hfz8_1
 obtain ⟨x6_1, x101001_1, u101001, rfl, HA, HK1, HO_101001, BK103, BK100, BK104, HB⟩ := hrel
 rcases gk with _ | k1
 · exact absurd HA.out (by simp [spec_NetWithout.l0])
 have H := HA.out
 clear HA
 simp only [spec_NetWithout.l0] at H
 by_cases c15 : x6_1 < (l0_1.length : Int)
 rotate_left
 · rw [if_neg c15] at H
   have c15b0 : decide (x6_1 < (l0_1.length : Int)) = false := decide_eq_false c15
   clear c15
   simp only [Option.some.injEq, Prod.mk.injEq] at H
   obtain ⟨rfl, rfl⟩ := H
   have hnb33 := NB103_100.out
   have hnc33 := NB100_103.out
   have hnb34 := NB103_104.out
   have hnc34 := NB104_103.out
   have hcz35_0 : wr.cell? ⟨gb103, 0, none⟩ = some (.int .i64 a0_0) := (blk_cell BK103.out 0).trans rfl
   have hcz35_1 : wr.cell? ⟨gb103, 1, none⟩ = some (.slice A0_1 l0_1.length c0_1) := (blk_cell BK103.out 1).trans rfl
   have hfz35_0 := blk_frozen BK103.out 0
   have hfz35_1 := blk_frozen BK103.out 1
   have hnb36 := NB104_100.out
   have hnc36 := NB100_104.out
   have hcz37_0 : wr.cell? ⟨gb104, 0, none⟩ = some (.int .i64 a0_0) := (blk_cell BK104.out 0).trans rfl
   have hcz37_1 : wr.cell? ⟨gb104, 1, none⟩ = some (u101001) := (blk_cell BK104.out 1).trans rfl
   have hfz37_0 := blk_frozen BK104.out 0
   have hfz37_1 := blk_frozen BK104.out 1
   have hcz38_0 : wr.cell? ⟨gb100, 0, none⟩ = some (.int .i64 0) := (blk_cell BK100.out 0).trans rfl
   have hcz38_1 : wr.cell? ⟨gb100, 1, none⟩ = some (.slice none 0 0) := (blk_cell BK100.out 1).trans rfl
   have hfz38_0 := blk_frozen BK100.out 0
   have hfz38_1 := blk_frozen BK100.out 1
   obtain ⟨Ao39, co39, eo39⟩ := Kd.R_slice HO_101001.out
   subst eo39
   go_wp2
   refine bodyPost_ret (results_cell_row rfl _ _ gb100 30 #[.int .i64 a0_0, .slice Ao39 x101001_1.length co39] (0, 0) _ rfl (by (with_reducible repeat (first | refine blk_drewN ?_ _ | refine blk_drew ?_ | refine blk_alloc ?_ _)); refine blk_put (cs := #[.int .i64 a0_0, .slice none 0 0]) ?_ 1 _ rfl; (with_reducible repeat (first | refine blk_drewN ?_ _ | refine blk_drew ?_ | refine blk_alloc ?_ _)); refine blk_put (cs := #[.int .i64 0, .slice none 0 0]) ?_ 0 _ rfl; (with_reducible repeat (first | refine blk_drewN ?_ _ | refine blk_drew ?_ | refine blk_alloc ?_ _)); exact BK100.out) Try.underlying30 rfl (by kernel_rfl)) rfl ?_
   exact ⟨_, qe, by (with_reducible repeat (first | apply Kd.R_alloc | apply Kd.R_drewN | apply Kd.R_drew)); exact Kd.R_mono (Kd.R_far (p := ⟨gb100, 1, none⟩) (Kd.R_far (p := ⟨gb100, 0, none⟩) (Kd.R_types HO_101001.out BK100.out (by decide)) (fun _ hk => hk.2) (.int .i64 a0_0)) (fun _ hk => hk.2) (.slice Ao39 x101001_1.length co39)) (fun _ hk => trivial), qb HB.out⟩
 rw [if_pos c15] at H
 have c15b0 : decide (x6_1 < (l0_1.length : Int)) = true := decide_eq_true c15
 clear c15
 by_cases c16 : 0 ≤ x6_1
 rotate_left
 · rw [if_neg c16] at H
   exact absurd H (by simp)
 rw [if_pos c16] at H
 have c16b0 : decide (0 ≤ x6_1) = true := decide_eq_true c16
 clear c16
 by_cases c17 : ((rd_TTie l0_1 x6_1).f0) = a1
 · rw [if_pos c17] at H
   have c17b0 : (((rd_TTie l0_1 x6_1).f0) == a1) = true := beq_iff_eq.mpr c17
   have c17b1 : (((rd_TTie l0_1 x6_1).f0) != a1) = false := bne_eq_false_iff_eq.mpr c17
   clear c17
   have H' := Aside0.mk H
   clear H
   have hnb18 := NB103_100.out
   have hnc18 := NB100_103.out
   have hnb19 := NB103_104.out
   have hnc19 := NB104_103.out
   have hcz20_0 : wr.cell? ⟨gb103, 0, none⟩ = some (.int .i64 a0_0) := (blk_cell BK103.out 0).trans rfl
   have hcz20_1 : wr.cell? ⟨gb103, 1, none⟩ = some (.slice A0_1 l0_1.length c0_1) := (blk_cell BK103.out 1).trans rfl
   have hfz20_0 := blk_frozen BK103.out 0
   have hfz20_1 := blk_frozen BK103.out 1
   have p101 : 0 ≤ (x6_1 : Int) := of_decide_eq_true qa
   have q101 : x6_1 < (l0_1.length : Int) := of_decide_eq_true qa
   obtain ⟨ad101, e101, hx101_0, hx101_1⟩ := at_TTie HR0_1.out x6_1 p101 q101
   cases e101
   replace hx101_0 := (HB.out.cell (World.block_lt_of_cell? w _ hx101_0)).trans hx101_0
   replace hx101_1 := (HB.out.cell (World.block_lt_of_cell? w _ hx101_1)).trans hx101_1
   replace p101 := eq_true p101
   replace q101 := eq_true q101
   go_wp2
   go_roundg k1
   case measure => have := HK1.out; omega
   case rel => exact ⟨(wrap64 (x6_1 + 1)), (x101001_1), (u101001), qs, H', ⟨by have := HK1.out; omega⟩, ⟨qr HO_101001.out⟩, ⟨qk BK103.out⟩, ⟨qk BK100.out⟩, ⟨qk BK104.out⟩, ⟨qb HB.out⟩⟩
 rw [if_neg c17] at H
 have c17b0 : (((rd_TTie l0_1 x6_1).f0) == a1) = false := beq_eq_false_iff_ne.mpr c17
 have c17b1 : (((rd_TTie l0_1 x6_1).f0) != a1) = true := bne_iff_ne.mpr c17
 by_cases c21 : ((rd_TTie l0_1 x6_1).f1) = a1
 · rw [if_pos c21] at H
   have c21b0 : (((rd_TTie l0_1 x6_1).f1) == a1) = true := beq_iff_eq.mpr c21
   have c21b1 : (((rd_TTie l0_1 x6_1).f1) != a1) = false := bne_eq_false_iff_eq.mpr c21
   clear c21
   have H' := Aside0.mk H
   clear H
   have hnb22 := NB103_100.out
   have hnc22 := NB100_103.out
   have hnb23 := NB103_104.out
   have hnc23 := NB104_103.out
   have hcz24_0 : wr.cell? ⟨gb103, 0, none⟩ = some (.int .i64 a0_0) := (blk_cell BK103.out 0).trans rfl
   have hcz24_1 : wr.cell? ⟨gb103, 1, none⟩ = some (.slice A0_1 l0_1.length c0_1) := (blk_cell BK103.out 1).trans rfl
   have hfz24_0 := blk_frozen BK103.out 0
   have hfz24_1 := blk_frozen BK103.out 1
   have p101 : 0 ≤ (x6_1 : Int) := of_decide_eq_true qa
   have q101 : x6_1 < (l0_1.length : Int) := of_decide_eq_true qa
   obtain ⟨ad101, e101, hx101_0, hx101_1⟩ := at_TTie HR0_1.out x6_1 p101 q101
   cases e101
   replace hx101_0 := (HB.out.cell (World.block_lt_of_cell? w _ hx101_0)).trans hx101_0
   replace hx101_1 := (HB.out.cell (World.block_lt_of_cell? w _ hx101_1)).trans hx101_1
   replace p101 := eq_true p101
   replace q101 := eq_true q101
   have p105 : 0 ≤ (x6_1 : Int) := of_decide_eq_true qa
   have q105 : x6_1 < (l0_1.length : Int) := of_decide_eq_true qa
   obtain ⟨ad105, e105, hx105_0, hx105_1⟩ := at_TTie HR0_1.out x6_1 p105 q105
   obtain rfl : ad101 = ad105 := (by injection e105)
   replace hx105_0 := (HB.out.cell (World.block_lt_of_cell? w _ hx105_0)).trans hx105_0
   replace hx105_1 := (HB.out.cell (World.block_lt_of_cell? w _ hx105_1)).trans hx105_1
   replace p105 := eq_true p105
   replace q105 := eq_true q105
   go_wp2
   go_roundg k1
   case measure => have := HK1.out; omega
   case rel => exact ⟨(wrap64 (x6_1 + 1)), (x101001_1), (u101001), qs, H', ⟨by have := HK1.out; omega⟩, ⟨qr HO_101001.out⟩, ⟨qk BK103.out⟩, ⟨qk BK100.out⟩, ⟨qk BK104.out⟩, ⟨qb HB.out⟩⟩
 rw [if_neg c21] at H
 have c21b0 : (((rd_TTie l0_1 x6_1).f1) == a1) = false := beq_eq_false_iff_ne.mpr c21
 have c21b1 : (((rd_TTie l0_1 x6_1).f1) != a1) = true := bne_iff_ne.mpr c21
 by_cases c25 : x101001_1.length < 8796093022208
 rotate_left
 · rw [if_neg c25] at H
   exact absurd H (by simp)
 rw [if_pos c25] at H
 have LMc25 := Aside0.mk c25
 clear c25
 obtain ⟨y106, hy106⟩ : ∃ y_ : List (STie), y_ = (x101001_1 ++ [(⟨(rd_TTie l0_1 x6_1).f0, (rd_TTie l0_1 x6_1).f1⟩ : STie)]) := ⟨_, rfl⟩
 replace H : (spec_NetWithout.l0 k1 a1 (wrap64 (x6_1 + 1)) a0_0 l0_1 a0_0 y106) = some (r1, r2) := by first | (rw [hy106]; with_reducible exact H) | (have H2_ := (Option.bind_some _ _).symm.trans H; rw [hy106]; with_reducible exact H2_) | (have H2_ := (Option.bind_some _ _).symm.trans H; with_reducible exact H2_) | with_reducible exact H | (rw [hy106]; exact H) | exact H
 have Ny106 := Aside0.mk hy106
 clear hy106
 have H' := Aside0.mk H
 clear H
 have hnb26 := NB103_100.out
 have hnc26 := NB100_103.out
 have hnb27 := NB103_104.out
 have hnc27 := NB104_103.out
 have hcz28_0 : wr.cell? ⟨gb103, 0, none⟩ = some (.int .i64 a0_0) := (blk_cell BK103.out 0).trans rfl
 have hcz28_1 : wr.cell? ⟨gb103, 1, none⟩ = some (.slice A0_1 l0_1.length c0_1) := (blk_cell BK103.out 1).trans rfl
 have hfz28_0 := blk_frozen BK103.out 0
 have hfz28_1 := blk_frozen BK103.out 1
 have p101 : 0 ≤ (x6_1 : Int) := of_decide_eq_true qa
 have q101 : x6_1 < (l0_1.length : Int) := of_decide_eq_true qa
 obtain ⟨ad101, e101, hx101_0, hx101_1⟩ := at_TTie HR0_1.out x6_1 p101 q101
 cases e101
 replace hx101_0 := (HB.out.cell (World.block_lt_of_cell? w _ hx101_0)).trans hx101_0
 replace hx101_1 := (HB.out.cell (World.block_lt_of_cell? w _ hx101_1)).trans hx101_1
 replace p101 := eq_true p101
 replace q101 := eq_true q101
 have p105 : 0 ≤ (x6_1 : Int) := of_decide_eq_true qa
 have q105 : x6_1 < (l0_1.length : Int) := of_decide_eq_true qa
 obtain ⟨ad105, e105, hx105_0, hx105_1⟩ := at_TTie HR0_1.out x6_1 p105 q105
 obtain rfl : ad101 = ad105 := (by injection e105)
 replace hx105_0 := (HB.out.cell (World.block_lt_of_cell? w _ hx105_0)).trans hx105_0
 replace hx105_1 := (HB.out.cell (World.block_lt_of_cell? w _ hx105_1)).trans hx105_1
 replace p105 := eq_true p105
 replace q105 := eq_true q105
 try go_wp2
 have n0_ := q0 (Kd.R_drew HO_101001.out)
 have n1_ := q0 (blk_drew BK103.out)
 have n2_ := q0 (blk_drew BK100.out)
 have n3_ := q0 (blk_drew BK104.out)
 have n4_ := q0 (below_drew1 HB.out)
 clear HO_101001
 clear BK103
 clear BK100
 clear BK104
 clear HB
 have HO_101001 := n0_
 have BK103 := n1_
 have BK100 := n2_
 have BK104 := n3_
 have HB := n4_
 clear n0_ n1_ n2_ n3_ n4_
 have p107 : 0 ≤ (x6_1 : Int) := of_decide_eq_true qa
 have q107 : x6_1 < (l0_1.length : Int) := of_decide_eq_true qa
 obtain ⟨ad107, e107, hx107_0, hx107_1⟩ := at_TTie HR0_1.out x6_1 p107 q107
 have hw107_1 := hx107_1
 have hw107_0 := hx107_0
 obtain rfl : ad101 = ad107 := (by injection e107)
 replace hx107_0 := (HB.out.cell (World.block_lt_of_cell? w _ hx107_0)).trans hx107_0
 replace hx107_1 := (HB.out.cell (World.block_lt_of_cell? w _ hx107_1)).trans hx107_1
 replace p107 := eq_true p107
 replace q107 := eq_true q107
 refine start_ (n := 11) (S := fun w' => w'.cell? ⟨gb104, 0, none⟩ = some (.int .i64 a0_0) ∧ w'.cell? ⟨gb104, 1, none⟩ = some (u101001) ∧ w'.cell? ⟨gb103, 0, none⟩ = some (.int .i64 a0_0) ∧ w'.cell? ⟨gb103, 1, none⟩ = some (.slice (some ad101) l0_1.length c0_1) ∧ w'.cell? (ad101.add ((x6_1).toNat * 2)) = some (.int .i64 ((rd_TTie l0_1 x6_1).f0)) ∧ w'.cell? ⟨(ad101.add ((x6_1).toNat * 2)).block, (ad101.add ((x6_1).toNat * 2)).off + 1, none⟩ = some (.int .i64 ((rd_TTie l0_1 x6_1).f1))) (ds := [10]) (ba 11 0) (by kernel_rfl) rfl (by kernel_rfl) ⟨(blk_cell BK104.out 0).trans rfl, (blk_cell BK104.out 1).trans rfl, (blk_cell BK103.out 0).trans rfl, (blk_cell BK103.out 1).trans rfl, ((HB.out.cell (World.block_lt_of_cell? w _ hw107_0)).trans hw107_0), ((HB.out.cell (World.block_lt_of_cell? w _ hw107_1)).trans hw107_1)⟩ (fun hHeld => ?_); refine with_tabW spec_NetWithout.tab8 spec_NetWithout.bits8 (fun HT_ HW_ => ?_)
 generalize wr.drew = w29 at HO_101001 BK103 BK100 BK104 HB hx107_0 hx107_1 hHeld ⊢
 refine pu 0 (some 40) (ba 11 1) HT_.out ?_
 refine pu 2 (some 42) (ba 11 5) HT_.out ?_
 refine pu 4 (some 44) (ba 11 21) HT_.out ?_
 refine tu 1 (some 41) (ba 11 23) HT_.out HW_.out hHeld ?_
 refine tu 3 (some 43) (ba 11 31) HT_.out HW_.out hHeld ?_
 refine pu 5 (some 45) (ba 11 63) HT_.out ?_
 refine tu 6 (some 46) (ba 11 127) HT_.out HW_.out hHeld ?_
 refine one_ (i := 7) (N := some 47) (ba 11 255) rfl rfl (one_of HT_.out (by kernel_rfl)) (by decide) (fun K hK => ?_)
 refine value_ (w1 := ?_) (v := ?_) (by rfl) rfl ?_ ?_
 rotate_left 2
 · go_simp
   constructor
   · rfl
   · rfl
 refine hK.out _ _ ⟨(blk_cell (blk_alloc BK104.out _) 0).trans rfl, (blk_cell (blk_alloc BK104.out _) 1).trans rfl, (blk_cell (blk_alloc BK103.out _) 0).trans rfl, (blk_cell (blk_alloc BK103.out _) 1).trans rfl, (World.cell?_alloc_lt _ _ _ (World.block_lt_of_cell? _ _ (((HB.out.cell (World.block_lt_of_cell? w _ hw107_0)).trans hw107_0)))).trans (((HB.out.cell (World.block_lt_of_cell? w _ hw107_0)).trans hw107_0)), (World.cell?_alloc_lt _ _ _ (World.block_lt_of_cell? _ _ (((HB.out.cell (World.block_lt_of_cell? w _ hw107_1)).trans hw107_1)))).trans (((HB.out.cell (World.block_lt_of_cell? w _ hw107_1)).trans hw107_1))⟩ (fun hHeld => ?_)
 clear hK K
 refine nu 47 ?_
 refine one_ (i := 8) (N := some 48) (ba 11 511) rfl rfl (one_of HT_.out (by kernel_rfl)) (by decide) (fun K hK => ?_)
 refine Kd.R_append_step kTie (w0 := w) w.heap.size (by rfl) (.tmp 41) (.tmp 47) 28 54 (.agg #[(.int .i64 0), (.int .i64 0)]) 16 rfl Try.underlying28 info54 rfl (by decide) (by omega) u101001 x101001_1 (⟨(rd_TTie l0_1 x6_1).f0, (rd_TTie l0_1 x6_1).f1⟩ : STie) [.int .i64 ((rd_TTie l0_1 x6_1).f0), .int .i64 ((rd_TTie l0_1 x6_1).f1)] (fun _ => True) (fun _ => False) rfl rfl ?aP (fun _ hk => hk.elim) ?aF ?aO ?aB ?aS ?aL ?_
 (case aP => exact kTie_mkM _ _ _ (⟨(rd_TTie l0_1 x6_1).f0, (rd_TTie l0_1 x6_1).f1⟩ : STie))
 (case aB => exact (qb HB.out))
 (case aF => exact (fun _ _ => trivial))
 (case aO => exact (qr HO_101001.out))
 (case aS => exact (below_size (qb HB.out)))
 (case aL => have := LMc25.out; omega)
 intro v108 w30 ho hb hg hat
 rw [← Ny106.out] at ho
 have n0_ := q0 (blk_grown (g := gb103) (o := .cells #[.int .i64 a0_0, .slice (some ad101) l0_1.length c0_1] 30 (0, 0)) (qk BK103.out) hg (Kd.R_ne HO_101001.out BK103.out (by decide)))
 have n1_ := q0 (blk_grown (g := gb100) (o := .cells #[.int .i64 0, .slice none 0 0] 30 (0, 0)) (qk BK100.out) hg (Kd.R_ne HO_101001.out BK100.out (by decide)))
 have n2_ := q0 (blk_grown (g := gb104) (o := .cells #[.int .i64 a0_0, u101001] 30 (0, 0)) (qk BK104.out) hg (Kd.R_ne HO_101001.out BK104.out (by decide)))
 have n3_ := q0 (hb)
 have n4_ := q0 (ho)
 clear BK103
 clear BK100
 clear BK104
 clear HB
 clear HO_101001
 have BK103 := n0_
 have BK100 := n1_
 have BK104 := n2_
 have HB := n3_
 have HO109 := n4_
 clear n0_ n1_ n2_ n3_ n4_
 clear ho hb hg hat
 obtain ⟨Ao31, co31, eo31⟩ := Kd.R_slice HO109.out
 (first | subst eo31 | (injection eo31 with f1_ f2_ f3_; have f4_ := f1_.symm; have f5_ := f3_.symm; clear f1_ f2_ f3_; subst f4_; subst f5_))
 refine hK.out _ _ ⟨(blk_cell BK104.out 0).trans rfl, (blk_cell BK104.out 1).trans rfl, (blk_cell BK103.out 0).trans rfl, (blk_cell BK103.out 1).trans rfl, ((HB.out.cell (World.block_lt_of_cell? w _ hw107_0)).trans hw107_0), ((HB.out.cell (World.block_lt_of_cell? w _ hw107_1)).trans hw107_1)⟩ (fun hHeld => ?_)
 clear hK K
 refine nu 48 ?_
 refine pu 9 (some 49) (ba 11 1023) HT_.out ?_
 refine last_ (i := 10) (N := none) (ba 11 2047) rfl rfl (one_of HT_.out (by kernel_rfl)) (by decide) (fun K hK => ?_)
 have hs32 : w30.cell? ⟨gb104, 1, none⟩ = some (u101001) := (blk_cell BK104.out 1).trans rfl
 have hfs32 := blk_frozen BK104.out 1
 have hns32_0 := NB103_104.out
 have hns32_1 := NB100_104.out
 have hms32_0 := NB104_103.out
 have hms32_1 := NB104_100.out
 refine skip_ (w1 := ?_) (by rfl) rfl ?_ ?_
 rotate_left
 · go_simp
   rfl
 refine hK.out _ _ ?_
 clear hK K
 refine done_ (done_of HT_.out (by kernel_rfl)) ?_
 try go_wp2
 go_roundg k1
 case measure => have := HK1.out; omega
 case rel => exact ⟨(wrap64 (x6_1 + 1)), (y106), (.slice Ao31 y106.length co31), qs, H', ⟨by have := HK1.out; omega⟩, ⟨by (with_reducible repeat (first | apply Kd.R_alloc | apply Kd.R_drewN | apply Kd.R_drew)); exact Kd.R_mono (Kd.R_far (p := ⟨gb104, 1, none⟩) (Kd.R_types HO109.out BK104.out (by decide)) (fun _ hk => hk.2) (.slice Ao31 y106.length co31)) (fun _ hk => trivial)⟩, ⟨qf BK103.out⟩, ⟨qf BK100.out⟩, ⟨by (with_reducible repeat (first | refine blk_drewN ?_ _ | refine blk_drew ?_ | refine blk_alloc ?_ _)); refine blk_put (cs := #[.int .i64 a0_0, u101001]) ?_ 1 _ rfl; (with_reducible repeat (first | refine blk_drewN ?_ _ | refine blk_drew ?_ | refine blk_alloc ?_ _)); exact BK104.out⟩, ⟨qb HB.out⟩⟩

set_option maxHeartbeats 8000000 in
set_option maxRecDepth 100000 in
theorem impl_Net_without.calls (k : Nat) (a0_0 : Int) (A0_1 : Option Addr) (c0_1 : Nat) (l0_1 : List (STie)) (a1 : Int) (r1 : Int) (r2 : List (STie)) (w : World) (hr0_1 : Kd.C kTie w A0_1 l0_1.length l0_1) (hc0_1 : l0_1.length ≤ c0_1) (h : impl_Net_without.f k a0_0 l0_1 a1 = some (r1, r2)) :
    Calls Try.prog 56 #[.agg #[.int .i64 a0_0, .slice A0_1 l0_1.length c0_1], .int .i64 a1] w fun e w' => ∃ v1_ : Value, e = .returned (.agg #[.int .i64 r1, v1_]) ∧ Kd.R kTie 54 w' w.heap.size (fun _ => True) v1_ r2 ∧ Below w.heap.size w w' := by
 have hu30 := Try.underlying30
 have hu54 := Try.underlying54
 have HR0_1 := Aside0.mk hr0_1
 have HC0_1 := Aside0.mk hc0_1
 clear hr0_1 hc0_1
 have HB := q0 (Below.refl w.heap.size w)
 have H : (impl_Net_without.l0 k a1 l0_1 (l0_1.length : Int) 0 a0_0 (([] : List (STie)))) = some (r1, r2) := h
 clear h
 obtain ⟨y101, hy101⟩ : ∃ y_ : List (STie), y_ = (([] : List (STie))) := ⟨_, rfl⟩
 replace H : (impl_Net_without.l0 k a1 l0_1 (l0_1.length : Int) 0 a0_0 y101) = some (r1, r2) := by first | (rw [hy101]; with_reducible exact H) | (have H2_ := (Option.bind_some _ _).symm.trans H; rw [hy101]; with_reducible exact H2_) | (have H2_ := (Option.bind_some _ _).symm.trans H; with_reducible exact H2_) | with_reducible exact H | (rw [hy101]; exact H) | exact H
 have Ny101 := Aside0.mk hy101
 clear hy101
 have H' := Aside0.mk H
 clear H
 go_enter Try.func56, Try.ntmps56
 go_wp2_with (first | ((with_reducible refine gate_dst (N := 2) rfl ?_); refine be 2 #[.int .i64 a0_0, .slice A0_1 l0_1.length c0_1] 30 ?_; intro gb102 hg w3 hbox hb; have n0_ := q0 (below_step (qb HB.out) hb); have n1_ := q0 (hbox); have n2_ := q0 ((bs HB.out hg : w.heap.size ≤ gb102)); have n3_ := q0 ((bs HB.out hg : w.heap.size ≤ gb102)); clear HB; have HB := n0_; have BK102 := n1_; have GW102 := n2_; have GE102 := n3_; clear n0_ n1_ n2_ n3_ hb hbox hg) | ((with_reducible refine gate_dst (N := 4) rfl ?_); refine be 4 #[.int .i64 0, .slice none 0 0] 30 ?_; intro gb103 hg w4 hbox hb; have n0_ := q0 (kb BK102.out hb); have n1_ := q0 (below_step (qb HB.out) hb); have n2_ := q0 (hbox); have n3_ := q0 ((bs HB.out hg : w.heap.size ≤ gb103)); have n4_ := q0 ((bs HB.out hg : w.heap.size ≤ gb103)); have n5_ := q0 ((bl BK102.out hg : gb102 ≠ gb103)); have n6_ := q0 ((bg BK102.out hg : gb103 ≠ gb102)); clear BK102 HB; have BK102 := n0_; have HB := n1_; have BK103 := n2_; have GW103 := n3_; have GE103 := n4_; have NB102_103 := n5_; have NB103_102 := n6_; clear n0_ n1_ n2_ n3_ n4_ n5_ n6_ hb hbox hg; have hnb5 := NB102_103.out; have hnc5 := NB103_102.out; have hcz6_0 : w4.cell? ⟨gb102, 0, none⟩ = some (.int .i64 a0_0) := (blk_cell BK102.out 0).trans rfl; have hcz6_1 : w4.cell? ⟨gb102, 1, none⟩ = some (.slice A0_1 l0_1.length c0_1) := (blk_cell BK102.out 1).trans rfl; have hfz6_0 := blk_frozen BK102.out 0; have hfz6_1 := blk_frozen BK102.out 1) | ((with_reducible refine gate_dst (N := 10) rfl ?_); refine Kd.R_lit kTie _ 54 ?hg (N := 10) ?hd (xs := ([] : List (STie))) (inner := []) (ok := fun _ => True) (okp := fun _ => True) ?hr ?hp (fun _ hk => hk) trivial (Below.refl _ _) (Nat.le_refl _) (by simp) ?_; (case hd => rfl); (case hg => rfl); (case hr => first | (go_simp; done) | (go_simp; rfl)); (case hp => exact (Reps.none _ _)); intro v104 w7 ho8 hb hg_ hnew_; clear hg_ hnew_; (first | rw [← Ny101.out] at ho8 | (simp only [Int.reduceToNat] at ho8; rw [← Ny101.out] at ho8)); have n0_ := q0 (Kd.R_lower ho8 (below_size (qb HB.out))); have n1_ := q0 (kb BK102.out hb); have n2_ := q0 (kb BK103.out hb); have n3_ := q0 (below_step (qb HB.out) hb); clear BK102 BK103 HB; have HO105 := n0_; have BK102 := n1_; have BK103 := n2_; have HB := n3_; clear n0_ n1_ n2_ n3_ hb ho8; obtain ⟨Ao9, co9, eo9⟩ := Kd.R_slice HO105.out; subst eo9) | ((with_reducible refine gate_dst (N := 5) rfl ?_); refine be 5 #[.int .i64 0, .slice none 0 0] 30 ?_; intro gb106 hg w10 hbox hb; have n0_ := q0 (Kd.R_below (qr HO105.out) hb); have n1_ := q0 (kb BK102.out hb); have n2_ := q0 (kb BK103.out hb); have n3_ := q0 (below_step (qb HB.out) hb); have n4_ := q0 (hbox); have n5_ := q0 ((bs HB.out hg : w.heap.size ≤ gb106)); have n6_ := q0 ((bs HB.out hg : w.heap.size ≤ gb106)); have n7_ := q0 ((bl BK102.out hg : gb102 ≠ gb106)); have n8_ := q0 ((bg BK102.out hg : gb106 ≠ gb102)); have n9_ := q0 ((bl BK103.out hg : gb103 ≠ gb106)); have n10_ := q0 ((bg BK103.out hg : gb106 ≠ gb103)); clear HO105 BK102 BK103 HB; have HO105 := n0_; have BK102 := n1_; have BK103 := n2_; have HB := n3_; have BK106 := n4_; have GW106 := n5_; have GE106 := n6_; have NB102_106 := n7_; have NB106_102 := n8_; have NB103_106 := n9_; have NB106_103 := n10_; clear n0_ n1_ n2_ n3_ n4_ n5_ n6_ n7_ n8_ n9_ n10_ hb hbox hg; have hnb11 := NB106_102.out; have hnc11 := NB102_106.out; have hnb12 := NB106_103.out; have hnc12 := NB103_106.out; have hcz13_0 : w10.cell? ⟨gb106, 0, none⟩ = some (.int .i64 0) := (blk_cell BK106.out 0).trans rfl; have hcz13_1 : w10.cell? ⟨gb106, 1, none⟩ = some (.slice none 0 0) := (blk_cell BK106.out 1).trans rfl; have hfz13_0 := blk_frozen BK106.out 0; have hfz13_1 := blk_frozen BK106.out 1; have hcz14_0 : w10.cell? ⟨gb102, 0, none⟩ = some (.int .i64 a0_0) := (blk_cell BK102.out 0).trans rfl; have hcz14_1 : w10.cell? ⟨gb102, 1, none⟩ = some (.slice A0_1 l0_1.length c0_1) := (blk_cell BK102.out 1).trans rfl; have hfz14_0 := blk_frozen BK102.out 0; have hfz14_1 := blk_frozen BK102.out 1))
 go_loopg [15] k (fun kq v15 w' => ∃ (x15_1 : Int) (x100001_1 : List (STie)) (u100001 : Value), v15 = .int .i64 x15_1 ∧ Aside0 (impl_Net_without.l0 kq a1 l0_1 (l0_1.length : Int) x15_1 a0_0 x100001_1 = some (r1, r2)) ∧ Aside0 (kq ≤ k) ∧ Aside0 (Kd.R kTie 54 w' w.heap.size (fun _ => True) u100001 x100001_1) ∧ Aside0 (w'.heap[gb102]? = some (.cells #[.int .i64 a0_0, (.slice A0_1 l0_1.length c0_1)] 30 (0, 0))) ∧ Aside0 (w'.heap[gb103]? = some (.cells #[.int .i64 0, (.slice none 0 0)] 30 (0, 0))) ∧ Aside0 (w'.heap[gb106]? = some (.cells #[.int .i64 a0_0, u100001] 30 (0, 0))) ∧ Aside0 (Below w.heap.size w w'))
 case atStart => exact ⟨(0), (y101), (.slice Ao9 y101.length co9), qs, H', ⟨Nat.le_refl _⟩, ⟨by (with_reducible repeat (first | apply Kd.R_alloc | apply Kd.R_drewN | apply Kd.R_drew)); exact Kd.R_mono (Kd.R_far (p := ⟨gb106, 1, none⟩) (Kd.R_far (p := ⟨gb106, 0, none⟩) (Kd.R_types HO105.out BK106.out (by decide)) (fun _ hk => hk.2) (.int .i64 a0_0)) (fun _ hk => hk.2) (.slice Ao9 y101.length co9)) (fun _ hk => trivial)⟩, ⟨qf BK102.out⟩, ⟨qf BK103.out⟩, ⟨by (with_reducible repeat (first | refine blk_drewN ?_ _ | refine blk_drew ?_ | refine blk_alloc ?_ _)); refine blk_put (cs := #[.int .i64 a0_0, .slice none 0 0]) ?_ 1 _ rfl; (with_reducible repeat (first | refine blk_drewN ?_ _ | refine blk_drew ?_ | refine blk_alloc ?_ _)); refine blk_put (cs := #[.int .i64 0, .slice none 0 0]) ?_ 0 _ rfl; (with_reducible repeat (first | refine blk_drewN ?_ _ | refine blk_drew ?_ | refine blk_alloc ?_ _)); exact BK106.out⟩, ⟨qb HB.out⟩⟩
 clear H'
 try clear c1
 try clear p2
 try clear c5
 try clear c11
 try clear c12
 try clear hcz13_0
 try clear hcz13_1
 try clear hcz14_0
 try clear hcz14_1
 try clear hcz6_0
 try clear hcz6_1
 try clear hfz13_0
 try clear hfz13_1
 try clear hfz14_0
 try clear hfz14_1
 try clear hfz6_0
 try clear hfz6_1
 obtain ⟨x15_1, x100001_1, u100001, rfl, HA, HK1, HO_100001, BK102, BK103, BK106, HB⟩ := hrel
 rcases gk with _ | k1
 · exact absurd HA.out (by simp [impl_Net_without.l0])
 have H := HA.out
 clear HA
 simp only [impl_Net_without.l0] at H
 by_cases c15 : x15_1 < (l0_1.length : Int)
 rotate_left
 · rw [if_neg c15] at H
   have c15b0 : decide (x15_1 < (l0_1.length : Int)) = false := decide_eq_false c15
   clear c15
   simp only [Option.some.injEq, Prod.mk.injEq] at H
   obtain ⟨rfl, rfl⟩ := H
   have hnb42 := NB106_102.out
   have hnc42 := NB102_106.out
   have hnb43 := NB106_103.out
   have hnc43 := NB103_106.out
   have hcz44_0 : wr.cell? ⟨gb106, 0, none⟩ = some (.int .i64 a0_0) := (blk_cell BK106.out 0).trans rfl
   have hcz44_1 : wr.cell? ⟨gb106, 1, none⟩ = some (u100001) := (blk_cell BK106.out 1).trans rfl
   have hfz44_0 := blk_frozen BK106.out 0
   have hfz44_1 := blk_frozen BK106.out 1
   have hnb45 := NB103_102.out
   have hnc45 := NB102_103.out
   have hcz46_0 : wr.cell? ⟨gb103, 0, none⟩ = some (.int .i64 0) := (blk_cell BK103.out 0).trans rfl
   have hcz46_1 : wr.cell? ⟨gb103, 1, none⟩ = some (.slice none 0 0) := (blk_cell BK103.out 1).trans rfl
   have hfz46_0 := blk_frozen BK103.out 0
   have hfz46_1 := blk_frozen BK103.out 1
   obtain ⟨Ao47, co47, eo47⟩ := Kd.R_slice HO_100001.out
   subst eo47
   go_wp2
   refine bodyPost_ret (results_cell_row rfl _ _ gb103 30 #[.int .i64 a0_0, .slice Ao47 x100001_1.length co47] (0, 0) _ rfl (by (with_reducible repeat (first | refine blk_drewN ?_ _ | refine blk_drew ?_ | refine blk_alloc ?_ _)); refine blk_put (cs := #[.int .i64 a0_0, .slice none 0 0]) ?_ 1 _ rfl; (with_reducible repeat (first | refine blk_drewN ?_ _ | refine blk_drew ?_ | refine blk_alloc ?_ _)); refine blk_put (cs := #[.int .i64 0, .slice none 0 0]) ?_ 0 _ rfl; (with_reducible repeat (first | refine blk_drewN ?_ _ | refine blk_drew ?_ | refine blk_alloc ?_ _)); exact BK103.out) Try.underlying30 rfl (by kernel_rfl)) rfl ?_
   exact ⟨_, qe, by (with_reducible repeat (first | apply Kd.R_alloc | apply Kd.R_drewN | apply Kd.R_drew)); exact Kd.R_mono (Kd.R_far (p := ⟨gb103, 1, none⟩) (Kd.R_far (p := ⟨gb103, 0, none⟩) (Kd.R_types HO_100001.out BK103.out (by decide)) (fun _ hk => hk.2) (.int .i64 a0_0)) (fun _ hk => hk.2) (.slice Ao47 x100001_1.length co47)) (fun _ hk => trivial), qb HB.out⟩
 rw [if_pos c15] at H
 have c15b0 : decide (x15_1 < (l0_1.length : Int)) = true := decide_eq_true c15
 clear c15
 by_cases c16 : 0 ≤ x15_1
 rotate_left
 · rw [if_neg c16] at H
   exact absurd H (by simp)
 rw [if_pos c16] at H
 have c16b0 : decide (0 ≤ x15_1) = true := decide_eq_true c16
 clear c16
 by_cases c17 : x15_1 < (l0_1.length : Int)
 rotate_left
 · rw [if_neg c17] at H
   exact absurd H (by simp)
 rw [if_pos c17] at H
 have c17b0 : decide (x15_1 < (l0_1.length : Int)) = true := decide_eq_true c17
 clear c17
 by_cases c18 : ((rd_TTie l0_1 x15_1).f0) = a1
 · rw [if_pos c18] at H
   have c18b0 : (((rd_TTie l0_1 x15_1).f0) == a1) = true := beq_iff_eq.mpr c18
   have c18b1 : (((rd_TTie l0_1 x15_1).f0) != a1) = false := bne_eq_false_iff_eq.mpr c18
   clear c18
   have H' := Aside0.mk H
   clear H
   have p100 : 0 ≤ (x15_1 : Int) := of_decide_eq_true qa
   have q100 : x15_1 < (l0_1.length : Int) := of_decide_eq_true qa
   obtain ⟨ad100, e100, hx100_0, hx100_1⟩ := at_TTie HR0_1.out x15_1 p100 q100
   cases e100
   replace hx100_0 := (HB.out.cell (World.block_lt_of_cell? w _ hx100_0)).trans hx100_0
   replace hx100_1 := (HB.out.cell (World.block_lt_of_cell? w _ hx100_1)).trans hx100_1
   replace p100 := eq_true p100
   replace q100 := eq_true q100
   go_wp2_with (first | ((with_reducible refine gate_dst (N := 7) rfl ?_); refine be 7 #[.int .i64 0, .int .i64 0] 54 ?_; intro gb107 hg w19 hbox hb; have n0_ := q0 (Kd.R_below (Kd.R_elderB (qr HO_100001.out) gb107 (Nat.le_of_eq hg.symm)) hb); have n1_ := q0 (kb BK102.out hb); have n2_ := q0 (kb BK103.out hb); have n3_ := q0 (kb BK106.out hb); have n4_ := q0 (below_step (qb HB.out) hb); have n5_ := q0 (hbox); have n6_ := q0 ((bs HB.out hg : w.heap.size ≤ gb107)); have n7_ := q0 ((bs HB.out hg : w.heap.size ≤ gb107)); have n8_ := q0 ((bl BK102.out hg : gb102 ≠ gb107)); have n9_ := q0 ((bg BK102.out hg : gb107 ≠ gb102)); have n10_ := q0 ((bl BK103.out hg : gb103 ≠ gb107)); have n11_ := q0 ((bg BK103.out hg : gb107 ≠ gb103)); have n12_ := q0 ((bl BK106.out hg : gb106 ≠ gb107)); have n13_ := q0 ((bg BK106.out hg : gb107 ≠ gb106)); clear HO_100001 BK102 BK103 BK106 HB; have HO_100001 := n0_; have BK102 := n1_; have BK103 := n2_; have BK106 := n3_; have HB := n4_; have BK107 := n5_; have GW107 := n6_; have GE107 := n7_; have NB102_107 := n8_; have NB107_102 := n9_; have NB103_107 := n10_; have NB107_103 := n11_; have NB106_107 := n12_; have NB107_106 := n13_; clear n0_ n1_ n2_ n3_ n4_ n5_ n6_ n7_ n8_ n9_ n10_ n11_ n12_ n13_ hb hbox hg; have hnb20 := NB107_102.out; have hnc20 := NB102_107.out; have hnb21 := NB107_103.out; have hnc21 := NB103_107.out; have hnb22 := NB107_106.out; have hnc22 := NB106_107.out; have hcz23_0 : w19.cell? ⟨gb107, 0, none⟩ = some (.int .i64 0) := (blk_cell BK107.out 0).trans rfl; have hcz23_1 : w19.cell? ⟨gb107, 1, none⟩ = some (.int .i64 0) := (blk_cell BK107.out 1).trans rfl; have hfz23_0 := blk_frozen BK107.out 0; have hfz23_1 := blk_frozen BK107.out 1))
   go_roundg k1
   case measure => have := HK1.out; omega
   case rel => exact ⟨(wrap64 (x15_1 + 1)), (x100001_1), (u100001), qs, H', ⟨by have := HK1.out; omega⟩, ⟨by (with_reducible repeat (first | apply Kd.R_alloc | apply Kd.R_drewN | apply Kd.R_drew)); exact Kd.R_mono (Kd.R_far (p := ⟨gb107, 1, none⟩) (Kd.R_far (p := ⟨gb107, 0, none⟩) (Kd.R_mono HO_100001.out (fun k_ hk => (⟨hk, hk.2⟩ : _ ∧ k_ ≠ gb107))) (fun _ hk => hk.2) (.int .i64 ((rd_TTie l0_1 x15_1).f0))) (fun _ hk => hk.2) (.int .i64 ((rd_TTie l0_1 x15_1).f1))) (fun _ hk => trivial)⟩, ⟨qf BK102.out⟩, ⟨qf BK103.out⟩, ⟨qf BK106.out⟩, ⟨qb HB.out⟩⟩
 rw [if_neg c18] at H
 have c18b0 : (((rd_TTie l0_1 x15_1).f0) == a1) = false := beq_eq_false_iff_ne.mpr c18
 have c18b1 : (((rd_TTie l0_1 x15_1).f0) != a1) = true := bne_iff_ne.mpr c18
 by_cases c24 : ((rd_TTie l0_1 x15_1).f1) = a1
 · rw [if_pos c24] at H
   have c24b0 : (((rd_TTie l0_1 x15_1).f1) == a1) = true := beq_iff_eq.mpr c24
   have c24b1 : (((rd_TTie l0_1 x15_1).f1) != a1) = false := bne_eq_false_iff_eq.mpr c24
   clear c24
   have H' := Aside0.mk H
   clear H
   have p100 : 0 ≤ (x15_1 : Int) := of_decide_eq_true qa
   have q100 : x15_1 < (l0_1.length : Int) := of_decide_eq_true qa
   obtain ⟨ad100, e100, hx100_0, hx100_1⟩ := at_TTie HR0_1.out x15_1 p100 q100
   cases e100
   replace hx100_0 := (HB.out.cell (World.block_lt_of_cell? w _ hx100_0)).trans hx100_0
   replace hx100_1 := (HB.out.cell (World.block_lt_of_cell? w _ hx100_1)).trans hx100_1
   replace p100 := eq_true p100
   replace q100 := eq_true q100
   go_wp2_with (first | ((with_reducible refine gate_dst (N := 7) rfl ?_); refine be 7 #[.int .i64 0, .int .i64 0] 54 ?_; intro gb107 hg w25 hbox hb; have n0_ := q0 (Kd.R_below (Kd.R_elderB (qr HO_100001.out) gb107 (Nat.le_of_eq hg.symm)) hb); have n1_ := q0 (kb BK102.out hb); have n2_ := q0 (kb BK103.out hb); have n3_ := q0 (kb BK106.out hb); have n4_ := q0 (below_step (qb HB.out) hb); have n5_ := q0 (hbox); have n6_ := q0 ((bs HB.out hg : w.heap.size ≤ gb107)); have n7_ := q0 ((bs HB.out hg : w.heap.size ≤ gb107)); have n8_ := q0 ((bl BK102.out hg : gb102 ≠ gb107)); have n9_ := q0 ((bg BK102.out hg : gb107 ≠ gb102)); have n10_ := q0 ((bl BK103.out hg : gb103 ≠ gb107)); have n11_ := q0 ((bg BK103.out hg : gb107 ≠ gb103)); have n12_ := q0 ((bl BK106.out hg : gb106 ≠ gb107)); have n13_ := q0 ((bg BK106.out hg : gb107 ≠ gb106)); clear HO_100001 BK102 BK103 BK106 HB; have HO_100001 := n0_; have BK102 := n1_; have BK103 := n2_; have BK106 := n3_; have HB := n4_; have BK107 := n5_; have GW107 := n6_; have GE107 := n7_; have NB102_107 := n8_; have NB107_102 := n9_; have NB103_107 := n10_; have NB107_103 := n11_; have NB106_107 := n12_; have NB107_106 := n13_; clear n0_ n1_ n2_ n3_ n4_ n5_ n6_ n7_ n8_ n9_ n10_ n11_ n12_ n13_ hb hbox hg; have hnb26 := NB107_102.out; have hnc26 := NB102_107.out; have hnb27 := NB107_103.out; have hnc27 := NB103_107.out; have hnb28 := NB107_106.out; have hnc28 := NB106_107.out; have hcz29_0 : w25.cell? ⟨gb107, 0, none⟩ = some (.int .i64 0) := (blk_cell BK107.out 0).trans rfl; have hcz29_1 : w25.cell? ⟨gb107, 1, none⟩ = some (.int .i64 0) := (blk_cell BK107.out 1).trans rfl; have hfz29_0 := blk_frozen BK107.out 0; have hfz29_1 := blk_frozen BK107.out 1))
   go_roundg k1
   case measure => have := HK1.out; omega
   case rel => exact ⟨(wrap64 (x15_1 + 1)), (x100001_1), (u100001), qs, H', ⟨by have := HK1.out; omega⟩, ⟨by (with_reducible repeat (first | apply Kd.R_alloc | apply Kd.R_drewN | apply Kd.R_drew)); exact Kd.R_mono (Kd.R_far (p := ⟨gb107, 1, none⟩) (Kd.R_far (p := ⟨gb107, 0, none⟩) (Kd.R_mono HO_100001.out (fun k_ hk => (⟨hk, hk.2⟩ : _ ∧ k_ ≠ gb107))) (fun _ hk => hk.2) (.int .i64 ((rd_TTie l0_1 x15_1).f0))) (fun _ hk => hk.2) (.int .i64 ((rd_TTie l0_1 x15_1).f1))) (fun _ hk => trivial)⟩, ⟨qf BK102.out⟩, ⟨qf BK103.out⟩, ⟨qf BK106.out⟩, ⟨qb HB.out⟩⟩
 rw [if_neg c24] at H
 have c24b0 : (((rd_TTie l0_1 x15_1).f1) == a1) = false := beq_eq_false_iff_ne.mpr c24
 have c24b1 : (((rd_TTie l0_1 x15_1).f1) != a1) = true := bne_iff_ne.mpr c24
 by_cases c30 : x100001_1.length < 8796093022208
 rotate_left
 · rw [if_neg c30] at H
   exact absurd H (by simp)
 rw [if_pos c30] at H
 have LMc30 := Aside0.mk c30
 clear c30
 obtain ⟨y108, hy108⟩ : ∃ y_ : List (STie), y_ = (x100001_1 ++ [(⟨(rd_TTie l0_1 x15_1).f0, (rd_TTie l0_1 x15_1).f1⟩ : STie)]) := ⟨_, rfl⟩
 replace H : (impl_Net_without.l0 k1 a1 l0_1 (l0_1.length : Int) (wrap64 (x15_1 + 1)) a0_0 y108) = some (r1, r2) := by first | (rw [hy108]; with_reducible exact H) | (have H2_ := (Option.bind_some _ _).symm.trans H; rw [hy108]; with_reducible exact H2_) | (have H2_ := (Option.bind_some _ _).symm.trans H; with_reducible exact H2_) | with_reducible exact H | (rw [hy108]; exact H) | exact H
 have Ny108 := Aside0.mk hy108
 clear hy108
 have H' := Aside0.mk H
 clear H
 have p100 : 0 ≤ (x15_1 : Int) := of_decide_eq_true qa
 have q100 : x15_1 < (l0_1.length : Int) := of_decide_eq_true qa
 obtain ⟨ad100, e100, hx100_0, hx100_1⟩ := at_TTie HR0_1.out x15_1 p100 q100
 cases e100
 replace hx100_0 := (HB.out.cell (World.block_lt_of_cell? w _ hx100_0)).trans hx100_0
 replace hx100_1 := (HB.out.cell (World.block_lt_of_cell? w _ hx100_1)).trans hx100_1
 replace p100 := eq_true p100
 replace q100 := eq_true q100
 go_wp2_with (first | ((with_reducible refine gate_dst (N := 7) rfl ?_); refine be 7 #[.int .i64 0, .int .i64 0] 54 ?_; intro gb107 hg w31 hbox hb; have n0_ := q0 (Kd.R_below (Kd.R_elderB (qr HO_100001.out) gb107 (Nat.le_of_eq hg.symm)) hb); have n1_ := q0 (kb BK102.out hb); have n2_ := q0 (kb BK103.out hb); have n3_ := q0 (kb BK106.out hb); have n4_ := q0 (below_step (qb HB.out) hb); have n5_ := q0 (hbox); have n6_ := q0 ((bs HB.out hg : w.heap.size ≤ gb107)); have n7_ := q0 ((bs HB.out hg : w.heap.size ≤ gb107)); have n8_ := q0 ((bl BK102.out hg : gb102 ≠ gb107)); have n9_ := q0 ((bg BK102.out hg : gb107 ≠ gb102)); have n10_ := q0 ((bl BK103.out hg : gb103 ≠ gb107)); have n11_ := q0 ((bg BK103.out hg : gb107 ≠ gb103)); have n12_ := q0 ((bl BK106.out hg : gb106 ≠ gb107)); have n13_ := q0 ((bg BK106.out hg : gb107 ≠ gb106)); clear HO_100001 BK102 BK103 BK106 HB; have HO_100001 := n0_; have BK102 := n1_; have BK103 := n2_; have BK106 := n3_; have HB := n4_; have BK107 := n5_; have GW107 := n6_; have GE107 := n7_; have NB102_107 := n8_; have NB107_102 := n9_; have NB103_107 := n10_; have NB107_103 := n11_; have NB106_107 := n12_; have NB107_106 := n13_; clear n0_ n1_ n2_ n3_ n4_ n5_ n6_ n7_ n8_ n9_ n10_ n11_ n12_ n13_ hb hbox hg; have hnb32 := NB107_102.out; have hnc32 := NB102_107.out; have hnb33 := NB107_103.out; have hnc33 := NB103_107.out; have hnb34 := NB107_106.out; have hnc34 := NB106_107.out; have hcz35_0 : w31.cell? ⟨gb107, 0, none⟩ = some (.int .i64 0) := (blk_cell BK107.out 0).trans rfl; have hcz35_1 : w31.cell? ⟨gb107, 1, none⟩ = some (.int .i64 0) := (blk_cell BK107.out 1).trans rfl; have hfz35_0 := blk_frozen BK107.out 0; have hfz35_1 := blk_frozen BK107.out 1; have hnb36 := NB106_102.out; have hnc36 := NB102_106.out; have hnb37 := NB106_103.out; have hnc37 := NB103_106.out; have hcz38_0 : w31.cell? ⟨gb106, 0, none⟩ = some (.int .i64 a0_0) := (blk_cell BK106.out 0).trans rfl; have hcz38_1 : w31.cell? ⟨gb106, 1, none⟩ = some (u100001) := (blk_cell BK106.out 1).trans rfl; have hfz38_0 := blk_frozen BK106.out 0; have hfz38_1 := blk_frozen BK106.out 1) | ((with_reducible refine gate_builtin (b := .append) (xs := #[.tmp 30, .tmp 32]) rfl ?_); at_builtin; refine Kd.R_append kTie (w0 := w) w.heap.size rfl (.tmp 30) (.tmp 32) 28 54 (.agg #[(.int .i64 0), (.int .i64 0)]) 16 rfl Try.underlying28 info54 rfl (by decide) (by omega) u100001 x100001_1 (⟨(rd_TTie l0_1 x15_1).f0, (rd_TTie l0_1 x15_1).f1⟩ : STie) [.int .i64 ((rd_TTie l0_1 x15_1).f0), .int .i64 ((rd_TTie l0_1 x15_1).f1)] (fun k_ => k_ ≠ gb107) (fun _ => False) rfl (by first | (go_simp; done) | (go_simp; rfl)) ?aP (fun _ hk => hk.elim) ?aF ?aO ?aB ?aS ?aL ?_; (case aP => exact kTie_mkM _ _ _ (⟨(rd_TTie l0_1 x15_1).f0, (rd_TTie l0_1 x15_1).f1⟩ : STie)); (case aB => exact (qb HB.out)); (case aF => exact (fun k_ hk => Kd.freshB (g := gb107) (o := .cells #[.int .i64 ((rd_TTie l0_1 x15_1).f0), .int .i64 ((rd_TTie l0_1 x15_1).f1)] 54 (0, 0)) (by (with_reducible repeat (first | refine blk_drewN ?_ _ | refine blk_drew ?_ | refine blk_alloc ?_ _)); refine blk_put (cs := #[.int .i64 ((rd_TTie l0_1 x15_1).f0), .int .i64 0]) ?_ 1 _ rfl; (with_reducible repeat (first | refine blk_drewN ?_ _ | refine blk_drew ?_ | refine blk_alloc ?_ _)); refine blk_put (cs := #[.int .i64 0, .int .i64 0]) ?_ 0 _ rfl; (with_reducible repeat (first | refine blk_drewN ?_ _ | refine blk_drew ?_ | refine blk_alloc ?_ _)); exact BK107.out) k_ hk)); (case aO => exact (by (with_reducible repeat (first | apply Kd.R_alloc | apply Kd.R_drewN | apply Kd.R_drew)); exact Kd.R_mono (Kd.R_far (p := ⟨gb107, 1, none⟩) (Kd.R_far (p := ⟨gb107, 0, none⟩) (Kd.R_mono HO_100001.out (fun k_ hk => (⟨hk, hk.2⟩ : _ ∧ k_ ≠ gb107))) (fun _ hk => hk.2) (.int .i64 ((rd_TTie l0_1 x15_1).f0))) (fun _ hk => hk.2) (.int .i64 ((rd_TTie l0_1 x15_1).f1))) (fun _ hk => hk.1.2))); (case aS => exact (below_size (qb HB.out))); (case aL => have := LMc30.out; omega); intro v109 w39 ho hb hg hat; rw [← Ny108.out] at ho; have n0_ := q0 (blk_grown (g := gb102) (o := .cells #[.int .i64 a0_0, .slice (some ad100) l0_1.length c0_1] 30 (0, 0)) (qf BK102.out) hg (Kd.R_ne HO_100001.out BK102.out (by decide))); have n1_ := q0 (blk_grown (g := gb103) (o := .cells #[.int .i64 0, .slice none 0 0] 30 (0, 0)) (qf BK103.out) hg (Kd.R_ne HO_100001.out BK103.out (by decide))); have n2_ := q0 (blk_grown (g := gb106) (o := .cells #[.int .i64 a0_0, u100001] 30 (0, 0)) (qf BK106.out) hg (Kd.R_ne HO_100001.out BK106.out (by decide))); have n3_ := q0 (blk_grown (g := gb107) (o := .cells #[.int .i64 ((rd_TTie l0_1 x15_1).f0), .int .i64 ((rd_TTie l0_1 x15_1).f1)] 54 (0, 0)) (by (with_reducible repeat (first | refine blk_drewN ?_ _ | refine blk_drew ?_ | refine blk_alloc ?_ _)); refine blk_put (cs := #[.int .i64 ((rd_TTie l0_1 x15_1).f0), .int .i64 0]) ?_ 1 _ rfl; (with_reducible repeat (first | refine blk_drewN ?_ _ | refine blk_drew ?_ | refine blk_alloc ?_ _)); refine blk_put (cs := #[.int .i64 0, .int .i64 0]) ?_ 0 _ rfl; (with_reducible repeat (first | refine blk_drewN ?_ _ | refine blk_drew ?_ | refine blk_alloc ?_ _)); exact BK107.out) hg (Kd.R_away HO_100001.out (fun _ hk => hk.2))); have n4_ := q0 (hb); have n5_ := q0 (ho); clear BK102 BK103 BK106 BK107 HB HO_100001; have BK102 := n0_; have BK103 := n1_; have BK106 := n2_; have BK107 := n3_; have HB := n4_; have HO110 := n5_; clear n0_ n1_ n2_ n3_ n4_ n5_ ho hb hg hat; obtain ⟨Ao40, co40, eo40⟩ := Kd.R_slice HO110.out; subst eo40; have hcz41_0 : w39.cell? ⟨gb106, 0, none⟩ = some (.int .i64 a0_0) := (blk_cell BK106.out 0).trans rfl; have hcz41_1 : w39.cell? ⟨gb106, 1, none⟩ = some (u100001) := (blk_cell BK106.out 1).trans rfl; have hfz41_0 := blk_frozen BK106.out 0; have hfz41_1 := blk_frozen BK106.out 1))
 go_roundg k1
 case measure => have := HK1.out; omega
 case rel => exact ⟨(wrap64 (x15_1 + 1)), (y108), (.slice Ao40 y108.length co40), qs, H', ⟨by have := HK1.out; omega⟩, ⟨by (with_reducible repeat (first | apply Kd.R_alloc | apply Kd.R_drewN | apply Kd.R_drew)); exact Kd.R_mono (Kd.R_far (p := ⟨gb106, 1, none⟩) (Kd.R_types HO110.out BK106.out (by decide)) (fun _ hk => hk.2) (.slice Ao40 y108.length co40)) (fun _ hk => trivial)⟩, ⟨qf BK102.out⟩, ⟨qf BK103.out⟩, ⟨by (with_reducible repeat (first | refine blk_drewN ?_ _ | refine blk_drew ?_ | refine blk_alloc ?_ _)); refine blk_put (cs := #[.int .i64 a0_0, u100001]) ?_ 1 _ rfl; (with_reducible repeat (first | refine blk_drewN ?_ _ | refine blk_drew ?_ | refine blk_alloc ?_ _)); exact BK106.out⟩, ⟨qb HB.out⟩⟩

set_option maxHeartbeats 8000000 in
set_option maxRecDepth 100000 in
theorem impl_NetWithout.calls (k : Nat) (a0_0 : Int) (A0_1 : Option Addr) (c0_1 : Nat) (l0_1 : List (STie)) (a1 : Int) (r1 : Int) (r2 : List (STie)) (w : World) (hr0_1 : Kd.C kTie w A0_1 l0_1.length l0_1) (hc0_1 : l0_1.length ≤ c0_1) (h : impl_NetWithout.f k a0_0 l0_1 a1 = some (r1, r2)) :
    Calls Try.prog 22 #[.agg #[.int .i64 a0_0, .slice A0_1 l0_1.length c0_1], .int .i64 a1] w fun e w' => ∃ v1_ : Value, e = .returned (.agg #[.int .i64 r1, v1_]) ∧ Kd.R kTie 54 w' w.heap.size (fun _ => True) v1_ r2 ∧ Below w.heap.size w w' := by
 have hu30 := Try.underlying30
 have HR0_1 := Aside0.mk hr0_1
 have HC0_1 := Aside0.mk hc0_1
 clear hr0_1 hc0_1
 have HB := q0 (Below.refl w.heap.size w)
 have H : ((impl_NetOk.f k a0_0 l0_1).bind fun t100 => (if t100 = true then ((impl_Net_knot.f a0_0 l0_1 a1).bind fun t101 => (if t101 = true then ((impl_Net_without.f k a0_0 l0_1 a1).bind fun bt102 => (some (bt102.1, bt102.2))) else (some (0, ([] : List (STie)))))) else (some (0, ([] : List (STie)))))) = some (r1, r2) := h
 clear h
 replace H := Option.bind_eq_some_iff.mp H
 obtain ⟨t100, A30, H⟩ := H
 replace H : (if t100 = true then ((impl_Net_knot.f a0_0 l0_1 a1).bind fun t101 => (if t101 = true then ((impl_Net_without.f k a0_0 l0_1 a1).bind fun bt102 => (some (bt102.1, bt102.2))) else (some (0, ([] : List (STie)))))) else (some (0, ([] : List (STie))))) = some (r1, r2) := H
 have A3 := Aside0.mk A30
 clear A30
 by_cases c4 : t100 = true
 rotate_left
 · replace c4 := Bool.eq_false_iff.mpr c4
   subst c4
   have H1 : (some (0, ([] : List (STie)))) = some (r1, r2) := by rw [if_neg (show ¬ (false = true) by decide)] at H; exact H
   clear H
   have H := H1
   clear H1
   simp only [Option.some.injEq, Prod.mk.injEq] at H
   obtain ⟨rfl, rfl⟩ := H
   go_enter Try.func22, Try.ntmps22
   go_wp2_with (first | ((with_reducible refine gate_dst (N := 2) rfl ?_); refine be 2 #[.int .i64 a0_0, .slice A0_1 l0_1.length c0_1] 30 ?_; intro gb104 hg w27 hbox hb; have n0_ := q0 (below_step (qb HB.out) hb); have n1_ := q0 (hbox); have n2_ := q0 ((bs HB.out hg : w.heap.size ≤ gb104)); have n3_ := q0 ((bs HB.out hg : w.heap.size ≤ gb104)); clear HB; have HB := n0_; have BK104 := n1_; have GW104 := n2_; have GE104 := n3_; clear n0_ n1_ n2_ n3_ hb hbox hg) | ((with_reducible refine gate_dst (N := 4) rfl ?_); refine be 4 #[.int .i64 0, .slice none 0 0] 30 ?_; intro gb105 hg w28 hbox hb; have n0_ := q0 (kb BK104.out hb); have n1_ := q0 (below_step (qb HB.out) hb); have n2_ := q0 (hbox); have n3_ := q0 ((bs HB.out hg : w.heap.size ≤ gb105)); have n4_ := q0 ((bs HB.out hg : w.heap.size ≤ gb105)); have n5_ := q0 ((bl BK104.out hg : gb104 ≠ gb105)); have n6_ := q0 ((bg BK104.out hg : gb105 ≠ gb104)); clear BK104 HB; have BK104 := n0_; have HB := n1_; have BK105 := n2_; have GW105 := n3_; have GE105 := n4_; have NB104_105 := n5_; have NB105_104 := n6_; clear n0_ n1_ n2_ n3_ n4_ n5_ n6_ hb hbox hg; have hnb29 := NB104_105.out; have hnc29 := NB105_104.out; have hcz30_0 : w28.cell? ⟨gb104, 0, none⟩ = some (.int .i64 a0_0) := (blk_cell BK104.out 0).trans rfl; have hcz30_1 : w28.cell? ⟨gb104, 1, none⟩ = some (.slice A0_1 l0_1.length c0_1) := (blk_cell BK104.out 1).trans rfl; have hfz30_0 := blk_frozen BK104.out 0; have hfz30_1 := blk_frozen BK104.out 1) | ((with_reducible refine gate_callee (f := 17) rfl ?_); refine goesL_ (some 6) rfl rfl Try.func17 (by kernel_rfl) rfl #[.agg #[.int .i64 a0_0, .slice A0_1 l0_1.length c0_1]] rfl qm ?_; (with_reducible refine (impl_NetOk.calls k a0_0 _ _ l0_1 false _ ?side1 ?side2 A3.out).mono ?_); (case side1 => exact qc (Kd.C_below HR0_1.out HB.out)); (case side2 => exact HC0_1.out); rintro e w31 ⟨rfl, hb⟩; refine ⟨_, rfl, ?_⟩; have n0_ := q0 (kb BK104.out hb); have n1_ := q0 (kb BK105.out hb); have n2_ := q0 (below_step (qb HB.out) hb); clear BK104 BK105 HB; have BK104 := n0_; have BK105 := n1_; have HB := n2_; clear n0_ n1_ n2_; (try clear hb); (try clear hb2); (try clear hk); (try clear hi); have hcz32_0 : w31.cell? ⟨gb105, 0, none⟩ = some (.int .i64 0) := (blk_cell BK105.out 0).trans rfl; have hcz32_1 : w31.cell? ⟨gb105, 1, none⟩ = some (.slice none 0 0) := (blk_cell BK105.out 1).trans rfl; have hfz32_0 := blk_frozen BK105.out 0; have hfz32_1 := blk_frozen BK105.out 1))
   refine bodyPost_ret (results_cell_row rfl _ _ gb105 30 #[.int .i64 0, .slice none 0 0] (0, 0) _ rfl (by (with_reducible repeat (first | refine blk_drewN ?_ _ | refine blk_drew ?_ | refine blk_alloc ?_ _)); refine blk_put (cs := #[.int .i64 0, .slice none 0 0]) ?_ 1 _ rfl; (with_reducible repeat (first | refine blk_drewN ?_ _ | refine blk_drew ?_ | refine blk_alloc ?_ _)); refine blk_put (cs := #[.int .i64 0, .slice none 0 0]) ?_ 0 _ rfl; (with_reducible repeat (first | refine blk_drewN ?_ _ | refine blk_drew ?_ | refine blk_alloc ?_ _)); exact BK105.out) Try.underlying30 rfl (by kernel_rfl)) rfl ?_
   exact ⟨_, qe, by first | exact Kd.R_nil _ _ _ _ _ | exact Kd.N_nil _ _ _ _ _ | exact Kd.V_nil _ _ _ _ _ | exact Kd.Q_nil _ _ _ _ _ | exact Kd.S_nil _ _ _ _ _, qb HB.out⟩
 subst c4
 have H1 : ((impl_Net_knot.f a0_0 l0_1 a1).bind fun t101 => (if t101 = true then ((impl_Net_without.f k a0_0 l0_1 a1).bind fun bt102 => (some (bt102.1, bt102.2))) else (some (0, ([] : List (STie)))))) = some (r1, r2) := by rw [if_pos rfl] at H; exact H
 clear H
 have H := H1
 clear H1
 replace H := Option.bind_eq_some_iff.mp H
 obtain ⟨t101, A50, H⟩ := H
 replace H : (if t101 = true then ((impl_Net_without.f k a0_0 l0_1 a1).bind fun bt102 => (some (bt102.1, bt102.2))) else (some (0, ([] : List (STie))))) = some (r1, r2) := H
 have A5 := Aside0.mk A50
 clear A50
 by_cases c6 : t101 = true
 rotate_left
 · replace c6 := Bool.eq_false_iff.mpr c6
   subst c6
   have H1 : (some (0, ([] : List (STie)))) = some (r1, r2) := by rw [if_neg (show ¬ (false = true) by decide)] at H; exact H
   clear H
   have H := H1
   clear H1
   simp only [Option.some.injEq, Prod.mk.injEq] at H
   obtain ⟨rfl, rfl⟩ := H
   go_enter Try.func22, Try.ntmps22
   go_wp2_with (first | ((with_reducible refine gate_dst (N := 2) rfl ?_); refine be 2 #[.int .i64 a0_0, .slice A0_1 l0_1.length c0_1] 30 ?_; intro gb104 hg w19 hbox hb; have n0_ := q0 (below_step (qb HB.out) hb); have n1_ := q0 (hbox); have n2_ := q0 ((bs HB.out hg : w.heap.size ≤ gb104)); have n3_ := q0 ((bs HB.out hg : w.heap.size ≤ gb104)); clear HB; have HB := n0_; have BK104 := n1_; have GW104 := n2_; have GE104 := n3_; clear n0_ n1_ n2_ n3_ hb hbox hg) | ((with_reducible refine gate_dst (N := 4) rfl ?_); refine be 4 #[.int .i64 0, .slice none 0 0] 30 ?_; intro gb105 hg w20 hbox hb; have n0_ := q0 (kb BK104.out hb); have n1_ := q0 (below_step (qb HB.out) hb); have n2_ := q0 (hbox); have n3_ := q0 ((bs HB.out hg : w.heap.size ≤ gb105)); have n4_ := q0 ((bs HB.out hg : w.heap.size ≤ gb105)); have n5_ := q0 ((bl BK104.out hg : gb104 ≠ gb105)); have n6_ := q0 ((bg BK104.out hg : gb105 ≠ gb104)); clear BK104 HB; have BK104 := n0_; have HB := n1_; have BK105 := n2_; have GW105 := n3_; have GE105 := n4_; have NB104_105 := n5_; have NB105_104 := n6_; clear n0_ n1_ n2_ n3_ n4_ n5_ n6_ hb hbox hg; have hnb21 := NB104_105.out; have hnc21 := NB105_104.out; have hcz22_0 : w20.cell? ⟨gb104, 0, none⟩ = some (.int .i64 a0_0) := (blk_cell BK104.out 0).trans rfl; have hcz22_1 : w20.cell? ⟨gb104, 1, none⟩ = some (.slice A0_1 l0_1.length c0_1) := (blk_cell BK104.out 1).trans rfl; have hfz22_0 := blk_frozen BK104.out 0; have hfz22_1 := blk_frozen BK104.out 1) | ((with_reducible refine gate_callee (f := 17) rfl ?_); refine goesL_ (some 6) rfl rfl Try.func17 (by kernel_rfl) rfl #[.agg #[.int .i64 a0_0, .slice A0_1 l0_1.length c0_1]] rfl qm ?_; (with_reducible refine (impl_NetOk.calls k a0_0 _ _ l0_1 true _ ?side1 ?side2 A3.out).mono ?_); (case side1 => exact qc (Kd.C_below HR0_1.out HB.out)); (case side2 => exact HC0_1.out); rintro e w23 ⟨rfl, hb⟩; refine ⟨_, rfl, ?_⟩; have n0_ := q0 (kb BK104.out hb); have n1_ := q0 (kb BK105.out hb); have n2_ := q0 (below_step (qb HB.out) hb); clear BK104 BK105 HB; have BK104 := n0_; have BK105 := n1_; have HB := n2_; clear n0_ n1_ n2_; (try clear hb); (try clear hb2); (try clear hk); (try clear hi); have hcz24_0 : w23.cell? ⟨gb104, 0, none⟩ = some (.int .i64 a0_0) := (blk_cell BK104.out 0).trans rfl; have hcz24_1 : w23.cell? ⟨gb104, 1, none⟩ = some (.slice A0_1 l0_1.length c0_1) := (blk_cell BK104.out 1).trans rfl; have hfz24_0 := blk_frozen BK104.out 0; have hfz24_1 := blk_frozen BK104.out 1) | (go_at_call 55; (with_reducible refine (impl_Net_knot.calls a0_0 _ _ l0_1 a1 false _ ?side1 ?side2 A5.out).mono ?_); (case side1 => exact qc (Kd.C_below HR0_1.out HB.out)); (case side2 => exact HC0_1.out); rintro e w25 ⟨rfl, hb⟩; have n0_ := q0 (kb BK104.out hb); have n1_ := q0 (kb BK105.out hb); have n2_ := q0 (below_step (qb HB.out) hb); clear BK104 BK105 HB; have BK104 := n0_; have BK105 := n1_; have HB := n2_; clear n0_ n1_ n2_; (try clear hb); (try clear hb2); (try clear hk); (try clear hi); have hcz26_0 : w25.cell? ⟨gb105, 0, none⟩ = some (.int .i64 0) := (blk_cell BK105.out 0).trans rfl; have hcz26_1 : w25.cell? ⟨gb105, 1, none⟩ = some (.slice none 0 0) := (blk_cell BK105.out 1).trans rfl; have hfz26_0 := blk_frozen BK105.out 0; have hfz26_1 := blk_frozen BK105.out 1))
   refine bodyPost_ret (results_cell_row rfl _ _ gb105 30 #[.int .i64 0, .slice none 0 0] (0, 0) _ rfl (by (with_reducible repeat (first | refine blk_drewN ?_ _ | refine blk_drew ?_ | refine blk_alloc ?_ _)); refine blk_put (cs := #[.int .i64 0, .slice none 0 0]) ?_ 1 _ rfl; (with_reducible repeat (first | refine blk_drewN ?_ _ | refine blk_drew ?_ | refine blk_alloc ?_ _)); refine blk_put (cs := #[.int .i64 0, .slice none 0 0]) ?_ 0 _ rfl; (with_reducible repeat (first | refine blk_drewN ?_ _ | refine blk_drew ?_ | refine blk_alloc ?_ _)); exact BK105.out) Try.underlying30 rfl (by kernel_rfl)) rfl ?_
   exact ⟨_, qe, by first | exact Kd.R_nil _ _ _ _ _ | exact Kd.N_nil _ _ _ _ _ | exact Kd.V_nil _ _ _ _ _ | exact Kd.Q_nil _ _ _ _ _ | exact Kd.S_nil _ _ _ _ _, qb HB.out⟩
 subst c6
 have H1 : ((impl_Net_without.f k a0_0 l0_1 a1).bind fun bt102 => (some (bt102.1, bt102.2))) = some (r1, r2) := by rw [if_pos rfl] at H; exact H
 clear H
 have H := H1
 clear H1
 replace H := Option.bind_eq_some_iff.mp H
 obtain ⟨⟨t102, t103⟩, A70, H⟩ := H
 replace H : (some (t102, t103)) = some (r1, r2) := H
 have A7 := Aside0.mk A70
 clear A70
 simp only [Option.some.injEq, Prod.mk.injEq] at H
 obtain ⟨rfl, rfl⟩ := H
 go_enter Try.func22, Try.ntmps22
 go_wp2_with (first | ((with_reducible refine gate_dst (N := 2) rfl ?_); refine be 2 #[.int .i64 a0_0, .slice A0_1 l0_1.length c0_1] 30 ?_; intro gb104 hg w8 hbox hb; have n0_ := q0 (below_step (qb HB.out) hb); have n1_ := q0 (hbox); have n2_ := q0 ((bs HB.out hg : w.heap.size ≤ gb104)); have n3_ := q0 ((bs HB.out hg : w.heap.size ≤ gb104)); clear HB; have HB := n0_; have BK104 := n1_; have GW104 := n2_; have GE104 := n3_; clear n0_ n1_ n2_ n3_ hb hbox hg) | ((with_reducible refine gate_dst (N := 4) rfl ?_); refine be 4 #[.int .i64 0, .slice none 0 0] 30 ?_; intro gb105 hg w9 hbox hb; have n0_ := q0 (kb BK104.out hb); have n1_ := q0 (below_step (qb HB.out) hb); have n2_ := q0 (hbox); have n3_ := q0 ((bs HB.out hg : w.heap.size ≤ gb105)); have n4_ := q0 ((bs HB.out hg : w.heap.size ≤ gb105)); have n5_ := q0 ((bl BK104.out hg : gb104 ≠ gb105)); have n6_ := q0 ((bg BK104.out hg : gb105 ≠ gb104)); clear BK104 HB; have BK104 := n0_; have HB := n1_; have BK105 := n2_; have GW105 := n3_; have GE105 := n4_; have NB104_105 := n5_; have NB105_104 := n6_; clear n0_ n1_ n2_ n3_ n4_ n5_ n6_ hb hbox hg; have hnb10 := NB104_105.out; have hnc10 := NB105_104.out; have hcz11_0 : w9.cell? ⟨gb104, 0, none⟩ = some (.int .i64 a0_0) := (blk_cell BK104.out 0).trans rfl; have hcz11_1 : w9.cell? ⟨gb104, 1, none⟩ = some (.slice A0_1 l0_1.length c0_1) := (blk_cell BK104.out 1).trans rfl; have hfz11_0 := blk_frozen BK104.out 0; have hfz11_1 := blk_frozen BK104.out 1) | ((with_reducible refine gate_callee (f := 17) rfl ?_); refine goesL_ (some 6) rfl rfl Try.func17 (by kernel_rfl) rfl #[.agg #[.int .i64 a0_0, .slice A0_1 l0_1.length c0_1]] rfl qm ?_; (with_reducible refine (impl_NetOk.calls k a0_0 _ _ l0_1 true _ ?side1 ?side2 A3.out).mono ?_); (case side1 => exact qc (Kd.C_below HR0_1.out HB.out)); (case side2 => exact HC0_1.out); rintro e w12 ⟨rfl, hb⟩; refine ⟨_, rfl, ?_⟩; have n0_ := q0 (kb BK104.out hb); have n1_ := q0 (kb BK105.out hb); have n2_ := q0 (below_step (qb HB.out) hb); clear BK104 BK105 HB; have BK104 := n0_; have BK105 := n1_; have HB := n2_; clear n0_ n1_ n2_; (try clear hb); (try clear hb2); (try clear hk); (try clear hi); have hcz13_0 : w12.cell? ⟨gb104, 0, none⟩ = some (.int .i64 a0_0) := (blk_cell BK104.out 0).trans rfl; have hcz13_1 : w12.cell? ⟨gb104, 1, none⟩ = some (.slice A0_1 l0_1.length c0_1) := (blk_cell BK104.out 1).trans rfl; have hfz13_0 := blk_frozen BK104.out 0; have hfz13_1 := blk_frozen BK104.out 1) | (go_at_call 55; (with_reducible refine (impl_Net_knot.calls a0_0 _ _ l0_1 a1 true _ ?side1 ?side2 A5.out).mono ?_); (case side1 => exact qc (Kd.C_below HR0_1.out HB.out)); (case side2 => exact HC0_1.out); rintro e w14 ⟨rfl, hb⟩; have n0_ := q0 (kb BK104.out hb); have n1_ := q0 (kb BK105.out hb); have n2_ := q0 (below_step (qb HB.out) hb); clear BK104 BK105 HB; have BK104 := n0_; have BK105 := n1_; have HB := n2_; clear n0_ n1_ n2_; (try clear hb); (try clear hb2); (try clear hk); (try clear hi); have hcz15_0 : w14.cell? ⟨gb104, 0, none⟩ = some (.int .i64 a0_0) := (blk_cell BK104.out 0).trans rfl; have hcz15_1 : w14.cell? ⟨gb104, 1, none⟩ = some (.slice A0_1 l0_1.length c0_1) := (blk_cell BK104.out 1).trans rfl; have hfz15_0 := blk_frozen BK104.out 0; have hfz15_1 := blk_frozen BK104.out 1) | ((with_reducible refine gate_callee (f := 56) rfl ?_); refine goesL_ (some 17) rfl rfl Try.func56 (by kernel_rfl) rfl #[.agg #[.int .i64 a0_0, .slice A0_1 l0_1.length c0_1], .int .i64 a1] rfl qm ?_; (with_reducible refine (impl_Net_without.calls k a0_0 _ _ l0_1 a1 t102 t103 _ ?side1 ?side2 A7.out).mono ?_); (case side1 => exact qc (Kd.C_below HR0_1.out HB.out)); (case side2 => exact HC0_1.out); rintro e w16 ⟨v106, rfl, ho0, hb⟩; refine ⟨_, rfl, ?_⟩; have n0_ := q0 (Kd.R_lower ho0 (below_size (qb HB.out))); have n1_ := q0 (kb BK104.out hb); have n2_ := q0 (kb BK105.out hb); have n3_ := q0 (below_step (qb HB.out) hb); clear BK104 BK105 HB; have HO107 := n0_; have BK104 := n1_; have BK105 := n2_; have HB := n3_; clear n0_ n1_ n2_ n3_; (try clear hb); (try clear hb2); (try clear hk); (try clear hi); (try clear ho0); have hcz17_0 : w16.cell? ⟨gb105, 0, none⟩ = some (.int .i64 0) := (blk_cell BK105.out 0).trans rfl; have hcz17_1 : w16.cell? ⟨gb105, 1, none⟩ = some (.slice none 0 0) := (blk_cell BK105.out 1).trans rfl; have hfz17_0 := blk_frozen BK105.out 0; have hfz17_1 := blk_frozen BK105.out 1; obtain ⟨Ao18, co18, eo18⟩ := Kd.R_slice HO107.out; subst eo18))
 refine bodyPost_ret (results_cell_row rfl _ _ gb105 30 #[.int .i64 t102, .slice Ao18 t103.length co18] (0, 0) _ rfl (by (with_reducible repeat (first | refine blk_drewN ?_ _ | refine blk_drew ?_ | refine blk_alloc ?_ _)); refine blk_put (cs := #[.int .i64 t102, .slice none 0 0]) ?_ 1 _ rfl; (with_reducible repeat (first | refine blk_drewN ?_ _ | refine blk_drew ?_ | refine blk_alloc ?_ _)); refine blk_put (cs := #[.int .i64 0, .slice none 0 0]) ?_ 0 _ rfl; (with_reducible repeat (first | refine blk_drewN ?_ _ | refine blk_drew ?_ | refine blk_alloc ?_ _)); exact BK105.out) Try.underlying30 rfl (by kernel_rfl)) rfl ?_
 exact ⟨_, qe, by (with_reducible repeat (first | apply Kd.R_alloc | apply Kd.R_drewN | apply Kd.R_drew)); exact Kd.R_mono (Kd.R_far (p := ⟨gb105, 1, none⟩) (Kd.R_far (p := ⟨gb105, 0, none⟩) (Kd.R_types HO107.out BK105.out (by decide)) (fun _ hk => hk.2) (.int .i64 t102)) (fun _ hk => hk.2) (.slice Ao18 t103.length co18)) (fun _ hk => trivial), qb HB.out⟩

end Go.Proofs.Ythaihdfkjhammaa.P
