import Derived.Test.YtheoebelhgbejaaP0
import Derived.Test.YtheoebelhgbejaaP1
import Derived.Test.YtheoebelhgbejaaP2
import Derived.Test.YtheoebelhgbejaaP11
import Derived.Test.YtheoebelhgbejaaP14
import Derived.Test.YtheoebelhgbejaaP16
import Derived.Test.YtheoebelhgbejaaP17
namespace Go.Proofs.Ytheoebelhgbejaa.P
open Go.RowKit Go.Proofs.YtheoebelhgbejaaW.PrintWords Go.Proofs.YtheoebelhgbejaaW.PrintLast Go.Proofs.YtheoebelhgbejaaW.PrintMore
attribute [local go_sem] max2_int min2_int max_two min_two max_three min_three max_four min_four
set_option linter.unusedVariables false
set_option linter.unusedSimpArgs false
attribute [local go_sem high] eqATie
def spec_TreeOk.T7 : Bool × List (List Nat × List Nat) := (true, [([], []), ([], []), ([], []), ([1, 2], [1, 2]), ([3], [3]), ([4], [4]), ([], []), ([], []), ([6, 7], [6, 7]), ([8], [8]), ([9], [9]), ([0, 5, 10], [0, 5, 10]), ([11], [11])])
def spec_TreeOk.B7 : List Nat := [0, 0, 0, 6, 14, 30, 0, 0, 192, 448, 960, 2047, 4095]
theorem spec_TreeOk.tab7 : rtab .any (opsOf Try.f27 7) = spec_TreeOk.T7 := by kernel_rfl
theorem spec_TreeOk.bits7 : waitsOk spec_TreeOk.T7.2 spec_TreeOk.B7 = true := by kernel_rfl
def spec_TreeOk.T9 : Bool × List (List Nat × List Nat) := (true, [([], []), ([0], [0]), ([], []), ([2, 1], [2]), ([1, 3], [1, 3]), ([4, 3], [4]), ([5], [5]), ([6, 5], [5, 6]), ([5], [5]), ([8, 5], [5, 8]), ([5], [5]), ([10, 5, 5], [5, 10]), ([9, 11, 5], [5, 9, 11]), ([7, 12, 5], [5, 7, 12]), ([5, 13], [5, 13]), ([14, 11, 0, 1, 2, 3, 4, 5, 6, 7, 8, 9, 10, 11, 12, 13, 14], [14])])
def spec_TreeOk.B9 : List Nat := [0, 1, 0, 7, 15, 31, 63, 127, 63, 319, 63, 1087, 3903, 8191, 16383, 32767]
theorem spec_TreeOk.tab9 : rtab .any (opsOf Try.f27 9) = spec_TreeOk.T9 := by kernel_rfl
theorem spec_TreeOk.bits9 : waitsOk spec_TreeOk.T9.2 spec_TreeOk.B9 = true := by kernel_rfl
set_option maxHeartbeats 8000000 in
set_option maxRecDepth 100000 in
theorem spec_TreeOk.calls (k : Nat) (a0_0 : Int) (A0_1 : Option Addr) (c0_1 : Nat) (l0_1 : List (STie)) (A1 : Option Addr) (c1 : Nat) (l1 : List (STie)) (r : Bool) (w : World) (hr0_1 : Kd.C kTie w A0_1 l0_1.length l0_1) (hc0_1 : l0_1.length ≤ c0_1) (hr1 : Kd.C kTie w A1 l1.length l1) (hc1 : l1.length ≤ c1) (h : spec_TreeOk.f k a0_0 l0_1 l1 = some r) :
    Calls Try.prog 27 #[.agg #[.int .i64 a0_0, .slice A0_1 l0_1.length c0_1], .slice A1 l1.length c1] w fun e w' => e = .returned (.bool r) ∧ Below w.heap.size w w' := by
 have hu30 := Try.underlying30
 have HR0_1 := Aside0.mk hr0_1
 have HC0_1 := Aside0.mk hc0_1
 clear hr0_1 hc0_1
 have HR1 := Aside0.mk hr1
 have HC1 := Aside0.mk hc1
 clear hr1 hc1
 have HB := q0 (Below.refl w.heap.size w)
 have H : ((spec_NetOk.f k a0_0 l0_1).bind fun t101 => (if t101 = true then ((spec_NetOk.f k a0_0 l1).bind fun t106 => (spec_TreeOk.j0 k l1 (!t106) a0_0 l0_1 a0_0 l1)) else (spec_TreeOk.j0 k l1 true a0_0 l0_1 a0_0 l1))) = some r := h
 clear h
 have HC3 := Aside0.mk H
 clear H
 go_enter Try.func27, Try.ntmps27
 go_upto_region 2 with (first | ((with_reducible refine gate_dst (N := 2) rfl ?_); (try (refine gate_guard (by rfl) ?_; dsimp only)); refine be 2 #[.int .i64 a0_0, .slice A0_1 l0_1.length c0_1] 30 ?_; intro gb107 hg w4 hbox hb; have n0_ := q0 (below_step (qb HB.out) hb); have n1_ := q0 (hbox); have n2_ := q0 ((bs HB.out hg : w.heap.size ≤ gb107)); have n3_ := q0 ((bs HB.out hg : w.heap.size ≤ gb107)); clear HB; have HB := n0_; have BK107 := n1_; have GW107 := n2_; have GE107 := n3_; clear n0_ n1_ n2_ n3_ hb hbox hg; have hcz5_0 : w4.cell? ⟨gb107, 0, none⟩ = some (.int .i64 a0_0) := (blk_cell BK107.out 0).trans rfl; have hcz5_1 : w4.cell? ⟨gb107, 1, none⟩ = some (.slice A0_1 l0_1.length c0_1) := (blk_cell BK107.out 1).trans rfl; have hfz5_0 := blk_frozen BK107.out 0; have hfz5_1 := blk_frozen BK107.out 1) | ((with_reducible refine gate_dst (N := 5) rfl ?_); (try (refine gate_guard (by rfl) ?_; dsimp only)); refine be 5 #[.int .i64 0, .slice none 0 0] 30 ?_; intro gb100 hg w6 hbox hb; have n0_ := q0 (kb BK107.out hb); have n1_ := q0 (below_step (qb HB.out) hb); have n2_ := q0 (hbox); have n3_ := q0 ((bs HB.out hg : w.heap.size ≤ gb100)); have n4_ := q0 ((bs HB.out hg : w.heap.size ≤ gb100)); have n5_ := q0 ((bl BK107.out hg : gb107 ≠ gb100)); have n6_ := q0 ((bg BK107.out hg : gb100 ≠ gb107)); clear BK107 HB; have BK107 := n0_; have HB := n1_; have BK100 := n2_; have GW100 := n3_; have GE100 := n4_; have NB107_100 := n5_; have NB100_107 := n6_; clear n0_ n1_ n2_ n3_ n4_ n5_ n6_ hb hbox hg; have hnb7 := NB100_107.out; have hnc7 := NB107_100.out; have hcz8_0 : w6.cell? ⟨gb100, 0, none⟩ = some (.int .i64 0) := (blk_cell BK100.out 0).trans rfl; have hcz8_1 : w6.cell? ⟨gb100, 1, none⟩ = some (.slice none 0 0) := (blk_cell BK100.out 1).trans rfl; have hfz8_0 := blk_frozen BK100.out 0; have hfz8_1 := blk_frozen BK100.out 1))
 (try simp only [Act.put, List.setIfInBounds_toArray, List.set_cons_zero, List.set_cons_succ])
 go_cut [18] (fun v18 wc => ∃ (kq : Nat) (x18_2 : Bool), v18 = .bool x18_2 ∧ Aside0 (spec_TreeOk.j0 kq l1 x18_2 a0_0 l0_1 a0_0 l1 = some r) ∧ Aside0 (kq ≤ k) ∧ Aside0 (wc.heap[gb107]? = some (.cells #[.int .i64 a0_0, (.slice A0_1 l0_1.length c0_1)] 30 (0, 0))) ∧ Aside0 (wc.heap[gb100]? = some (.cells #[.int .i64 a0_0, (.slice A1 l1.length c1)] 30 (0, 0))) ∧ Aside0 (Below w.heap.size w wc))
 case first =>
   have H := HC3.out
   clear HC3
   replace H := Option.bind_eq_some_iff.mp H
   obtain ⟨t101, A90, H⟩ := H
   replace H : (if t101 = true then ((spec_NetOk.f k a0_0 l1).bind fun t106 => (spec_TreeOk.j0 k l1 (!t106) a0_0 l0_1 a0_0 l1)) else (spec_TreeOk.j0 k l1 true a0_0 l0_1 a0_0 l1)) = some r := H
   have A9 := Aside0.mk A90
   clear A90
   by_cases c10 : t101 = true
   rotate_left
   · replace c10 := Bool.eq_false_iff.mpr c10
     subst c10
     have H1 : (spec_TreeOk.j0 k l1 true a0_0 l0_1 a0_0 l1) = some r := by rw [if_neg (show ¬ (false = true) by decide)] at H; exact H
     clear H
     have H := H1
     clear H1
     have H' := Aside0.mk H
     clear H
     have hnb17 := NB107_100.out
     have hnc17 := NB100_107.out
     have hcz18_0 : w6.cell? ⟨gb107, 0, none⟩ = some (.int .i64 a0_0) := (blk_cell BK107.out 0).trans rfl
     have hcz18_1 : w6.cell? ⟨gb107, 1, none⟩ = some (.slice A0_1 l0_1.length c0_1) := (blk_cell BK107.out 1).trans rfl
     have hfz18_0 := blk_frozen BK107.out 0
     have hfz18_1 := blk_frozen BK107.out 1
     go_wp2_with (first | ((with_reducible refine gate_callee (f := 49) rfl ?_); refine goesL_ (some 12) rfl rfl Try.func49 (by kernel_rfl) rfl #[.agg #[.int .i64 a0_0, .slice A0_1 l0_1.length c0_1]] rfl qm ?_; (with_reducible refine (spec_NetOk.calls k a0_0 _ _ l0_1 false _ ?side1 ?side2 A9.out).mono ?_); (case side1 => exact Kd.C_below HR0_1.out (qb HB.out)); (case side2 => exact HC0_1.out); rintro e w19 ⟨rfl, hb⟩; refine ⟨_, rfl, ?_⟩; have n0_ := q0 (blk_below (g := gb107) (o := .cells #[.int .i64 a0_0, .slice A0_1 l0_1.length c0_1] 30 (0, 0)) (qf BK107.out) hb); have n1_ := q0 (blk_below (g := gb100) (o := .cells #[.int .i64 a0_0, .slice A1 l1.length c1] 30 (0, 0)) (by (with_reducible repeat (first | refine blk_drewN ?_ _ | refine blk_drew ?_ | refine blk_alloc ?_ _)); refine blk_put (cs := #[.int .i64 a0_0, .slice none 0 0]) ?_ 1 _ rfl; (with_reducible repeat (first | refine blk_drewN ?_ _ | refine blk_drew ?_ | refine blk_alloc ?_ _)); refine blk_put (cs := #[.int .i64 0, .slice none 0 0]) ?_ 0 _ rfl; (with_reducible repeat (first | refine blk_drewN ?_ _ | refine blk_drew ?_ | refine blk_alloc ?_ _)); exact BK100.out) hb); have n2_ := q0 (below_step (qb HB.out) hb); clear BK107 BK100 HB; have BK107 := n0_; have BK100 := n1_; have HB := n2_; clear n0_ n1_ n2_; (try clear hb); (try clear hb2); (try clear hk); (try clear hi)))
     go_meet
     case rel => exact ⟨_, (true), qs, H', ⟨by first | omega | exact Nat.le_refl _⟩, ⟨qk BK107.out⟩, ⟨qk BK100.out⟩, ⟨qb HB.out⟩⟩
   subst c10
   have H1 : ((spec_NetOk.f k a0_0 l1).bind fun t106 => (spec_TreeOk.j0 k l1 (!t106) a0_0 l0_1 a0_0 l1)) = some r := by rw [if_pos rfl] at H; exact H
   clear H
   have H := H1
   clear H1
   replace H := Option.bind_eq_some_iff.mp H
   obtain ⟨t106, A108, H⟩ := H
   replace H : (spec_TreeOk.j0 k l1 (!t106) a0_0 l0_1 a0_0 l1) = some r := H
   have A11 := Aside0.mk A108
   clear A108
   have H' := Aside0.mk H
   clear H
   have hnb12 := NB107_100.out
   have hnc12 := NB100_107.out
   have hcz13_0 : w6.cell? ⟨gb107, 0, none⟩ = some (.int .i64 a0_0) := (blk_cell BK107.out 0).trans rfl
   have hcz13_1 : w6.cell? ⟨gb107, 1, none⟩ = some (.slice A0_1 l0_1.length c0_1) := (blk_cell BK107.out 1).trans rfl
   have hfz13_0 := blk_frozen BK107.out 0
   have hfz13_1 := blk_frozen BK107.out 1
   go_wp2_with (first | ((with_reducible refine gate_callee (f := 49) rfl ?_); refine goesL_ (some 12) rfl rfl Try.func49 (by kernel_rfl) rfl #[.agg #[.int .i64 a0_0, .slice A0_1 l0_1.length c0_1]] rfl qm ?_; (with_reducible refine (spec_NetOk.calls k a0_0 _ _ l0_1 true _ ?side1 ?side2 A9.out).mono ?_); (case side1 => exact Kd.C_below HR0_1.out (qb HB.out)); (case side2 => exact HC0_1.out); rintro e w14 ⟨rfl, hb⟩; refine ⟨_, rfl, ?_⟩; have n0_ := q0 (blk_below (g := gb107) (o := .cells #[.int .i64 a0_0, .slice A0_1 l0_1.length c0_1] 30 (0, 0)) (qf BK107.out) hb); have n1_ := q0 (blk_below (g := gb100) (o := .cells #[.int .i64 a0_0, .slice A1 l1.length c1] 30 (0, 0)) (by (with_reducible repeat (first | refine blk_drewN ?_ _ | refine blk_drew ?_ | refine blk_alloc ?_ _)); refine blk_put (cs := #[.int .i64 a0_0, .slice none 0 0]) ?_ 1 _ rfl; (with_reducible repeat (first | refine blk_drewN ?_ _ | refine blk_drew ?_ | refine blk_alloc ?_ _)); refine blk_put (cs := #[.int .i64 0, .slice none 0 0]) ?_ 0 _ rfl; (with_reducible repeat (first | refine blk_drewN ?_ _ | refine blk_drew ?_ | refine blk_alloc ?_ _)); exact BK100.out) hb); have n2_ := q0 (below_step (qb HB.out) hb); clear BK107 BK100 HB; have BK107 := n0_; have BK100 := n1_; have HB := n2_; clear n0_ n1_ n2_; (try clear hb); (try clear hb2); (try clear hk); (try clear hi); have hcz15_0 : w14.cell? ⟨gb100, 0, none⟩ = some (.int .i64 a0_0) := (blk_cell BK100.out 0).trans rfl; have hcz15_1 : w14.cell? ⟨gb100, 1, none⟩ = some (.slice A1 l1.length c1) := (blk_cell BK100.out 1).trans rfl; have hfz15_0 := blk_frozen BK100.out 0; have hfz15_1 := blk_frozen BK100.out 1) | (go_at_call 49; (with_reducible refine (spec_NetOk.calls k a0_0 _ _ l1 t106 _ ?side1 ?side2 A11.out).mono ?_); (case side1 => exact qc (Kd.C_below HR1.out HB.out)); (case side2 => exact HC1.out); rintro e w16 ⟨rfl, hb⟩; have n0_ := q0 (kb BK107.out hb); have n1_ := q0 (kb BK100.out hb); have n2_ := q0 (below_step (qb HB.out) hb); clear BK107 BK100 HB; have BK107 := n0_; have BK100 := n1_; have HB := n2_; clear n0_ n1_ n2_; (try clear hb); (try clear hb2); (try clear hk); (try clear hi)))
   go_meet
   case rel => exact ⟨_, (!t106), qs, H', ⟨by first | omega | exact Nat.le_refl _⟩, ⟨qk BK107.out⟩, ⟨qk BK100.out⟩, ⟨qb HB.out⟩⟩
 clear HC3
 try clear c1
 try clear c2
 try clear p2
 try clear c4
 try clear c7
 try clear c10
 try clear c12
 try clear c17
 try clear hcz13_0
 try clear hcz13_1
 try clear hcz15_0
 try clear hcz15_1
 try clear hcz18_0
 try clear hcz18_1
 try clear hcz5_0
 try clear hcz5_1
 try clear hcz8_0
 try clear hcz8_1
 try clear hfz13_0
 try clear hfz13_1
 try clear hfz15_0
 try clear hfz15_1
 try clear hfz18_0
 try clear hfz18_1
 try clear hfz5_0
 try clear hfz5_1
 try clear hfz8_0
 try clear hfz8_1
 obtain ⟨kq, x18_2, rfl, HA, HJ2, BK107, BK100, HB⟩ := hcut
 rcases kq with _ | kj2
 · exact absurd HA.out (by simp [spec_TreeOk.j0])
 have H := HA.out
 clear HA
 simp only [spec_TreeOk.j0] at H
 by_cases c20 : x18_2 = true
 · subst c20
   have H1 : (some false) = some r := by rw [if_pos rfl] at H; exact H
   clear H
   have H := H1
   clear H1
   obtain rfl := Option.some.inj H
   go_wp2
   go_ret
   exact ⟨qe, qb HB.out⟩
 replace c20 := Bool.eq_false_iff.mpr c20
 subst c20
 have H1 : (spec_TreeOk.l0 kj2 l1 0 a0_0 l0_1 a0_0 l1) = some r := by rw [if_neg (show ¬ (false = true) by decide)] at H; exact H
 clear H
 have H := H1
 clear H1
 have H' := Aside0.mk H
 clear H
 go_wp2
 go_loopg [6] kj2 (fun kq v6 w' => ∃ (x6_2 : Int), v6 = .int .i64 x6_2 ∧ Aside0 (spec_TreeOk.l0 kq l1 x6_2 a0_0 l0_1 a0_0 l1 = some r) ∧ Aside0 (kq ≤ kj2) ∧ Aside0 (w'.heap[gb107]? = some (.cells #[.int .i64 a0_0, (.slice A0_1 l0_1.length c0_1)] 30 (0, 0))) ∧ Aside0 (w'.heap[gb100]? = some (.cells #[.int .i64 a0_0, (.slice A1 l1.length c1)] 30 (0, 0))) ∧ Aside0 (Below w.heap.size w w'))
 case atStart => exact ⟨(0), qs, H', ⟨Nat.le_refl _⟩, ⟨qk BK107.out⟩, ⟨qk BK100.out⟩, ⟨qb HB.out⟩⟩
 clear H'
 try clear c1
 try clear c2
 try clear p2
 try clear c4
 try clear c7
 try clear c10
 try clear c12
 try clear c17
 try clear c20
 try clear hcz13_0
 try clear hcz13_1
 try clear hcz15_0
 try clear hcz15_1
 try clear hcz18_0
 try clear hcz18_1
 try clear hcz5_0
 try clear hcz5_1
 try clear hcz8_0
 try clear hcz8_1
 try clear hfz13_0
 try clear hfz13_1
 try clear hfz15_0
 try clear hfz15_1
 try clear hfz18_0
 try clear hfz18_1
 try clear hfz5_0
 try clear hfz5_1
 try clear hfz8_0
 try clear hfz8_1
 try clear p2
 obtain ⟨x6_2, rfl, HA, HK2, BK107, BK100, HB⟩ := hrel
 rcases gk with _ | k2
 · exact absurd HA.out (by simp [spec_TreeOk.l0])
 have H := HA.out
 clear HA
 simp only [spec_TreeOk.l0] at H
 by_cases c21 : x6_2 < (l1.length : Int)
 · rw [if_pos c21] at H
   have c21b0 : decide (x6_2 < (l1.length : Int)) = true := decide_eq_true c21
   clear c21
   by_cases c22 : 0 ≤ x6_2
   rotate_left
   · rw [if_neg c22] at H
     exact absurd H (by simp)
   rw [if_pos c22] at H
   have c22b0 : decide (0 ≤ x6_2) = true := decide_eq_true c22
   clear c22
   replace H := Option.bind_eq_some_iff.mp H
   obtain ⟨t102, A109, H⟩ := H
   replace H : (if t102 = true then (spec_TreeOk.l0 k2 l1 (wrap64 (x6_2 + 1)) a0_0 l0_1 a0_0 l1) else (some false)) = some r := H
   have A23 := Aside0.mk A109
   clear A109
   by_cases c24 : t102 = true
   rotate_left
   · replace c24 := Bool.eq_false_iff.mpr c24
     subst c24
     have H1 : (some false) = some r := by rw [if_neg (show ¬ (false = true) by decide)] at H; exact H
     clear H
     have H := H1
     clear H1
     obtain rfl := Option.some.inj H
     try go_wp2
     have n0_ := q0 (blk_drew BK107.out)
     have n1_ := q0 (blk_drew BK100.out)
     have n2_ := q0 (below_drew1 HB.out)
     clear BK107
     clear BK100
     clear HB
     have BK107 := n0_
     have BK100 := n1_
     have HB := n2_
     clear n0_ n1_ n2_
     have p110 : 0 ≤ (x6_2 : Int) := of_decide_eq_true qa
     have q110 : x6_2 < (l1.length : Int) := of_decide_eq_true qa
     obtain ⟨ad110, e110, hx110_0, hx110_1⟩ := at_TTie HR1.out x6_2 p110 q110
     have hw110_1 := hx110_1
     have hw110_0 := hx110_0
     cases e110
     replace hx110_0 := (HB.out.cell (World.block_lt_of_cell? w _ hx110_0)).trans hx110_0
     replace hx110_1 := (HB.out.cell (World.block_lt_of_cell? w _ hx110_1)).trans hx110_1
     replace p110 := eq_true p110
     replace q110 := eq_true q110
     have p111 : 0 ≤ (x6_2 : Int) := of_decide_eq_true qa
     have q111 : x6_2 < (l1.length : Int) := of_decide_eq_true qa
     obtain ⟨ad111, e111, hx111_0, hx111_1⟩ := at_TTie HR1.out x6_2 p111 q111
     have hw111_1 := hx111_1
     have hw111_0 := hx111_0
     obtain rfl : ad110 = ad111 := (by injection e111)
     replace hx111_0 := (HB.out.cell (World.block_lt_of_cell? w _ hx111_0)).trans hx111_0
     replace hx111_1 := (HB.out.cell (World.block_lt_of_cell? w _ hx111_1)).trans hx111_1
     replace p111 := eq_true p111
     replace q111 := eq_true q111
     refine start_ (n := 13) (S := fun w' => w'.cell? ⟨gb107, 0, none⟩ = some (.int .i64 a0_0) ∧ w'.cell? ⟨gb107, 1, none⟩ = some (.slice A0_1 l0_1.length c0_1) ∧ w'.cell? (ad110.add ((x6_2).toNat * 2)) = some (.int .i64 ((rd_TTie l1 x6_2).f0)) ∧ w'.cell? ⟨(ad110.add ((x6_2).toNat * 2)).block, (ad110.add ((x6_2).toNat * 2)).off + 1, none⟩ = some (.int .i64 ((rd_TTie l1 x6_2).f1)) ∧ w'.cell? (ad110.add ((x6_2).toNat * 2)) = some (.int .i64 ((rd_TTie l1 x6_2).f0)) ∧ w'.cell? ⟨(ad110.add ((x6_2).toNat * 2)).block, (ad110.add ((x6_2).toNat * 2)).off + 1, none⟩ = some (.int .i64 ((rd_TTie l1 x6_2).f1))) (ds := []) (ba 13 0) (by kernel_rfl) rfl (by kernel_rfl) ⟨(blk_cell BK107.out 0).trans rfl, (blk_cell BK107.out 1).trans rfl, ((HB.out.cell (World.block_lt_of_cell? w _ hw110_0)).trans hw110_0), ((HB.out.cell (World.block_lt_of_cell? w _ hw110_1)).trans hw110_1), ((HB.out.cell (World.block_lt_of_cell? w _ hw111_0)).trans hw111_0), ((HB.out.cell (World.block_lt_of_cell? w _ hw111_1)).trans hw111_1)⟩ (fun hHeld => ?_); refine with_tabW spec_TreeOk.tab7 spec_TreeOk.bits7 (fun HT_ HW_ => ?_)
     generalize wr.drew = w27 at BK107 BK100 HB hx110_0 hx110_1 hx111_0 hx111_1 hHeld ⊢
     refine pu 1 (some 26) (ba 13 2) HT_.out ?_
     refine pu 2 (some 27) (ba 13 6) HT_.out ?_
     refine pu 3 (some 28) (ba 13 14) HT_.out ?_
     refine pu 4 (some 29) (ba 13 30) HT_.out ?_
     refine pu 6 (some 31) (ba 13 94) HT_.out ?_
     refine pu 7 (some 32) (ba 13 222) HT_.out ?_
     refine pu 8 (some 33) (ba 13 478) HT_.out ?_
     refine pu 9 (some 34) (ba 13 990) HT_.out ?_
     refine tu 0 (some 25) (ba 13 991) HT_.out HW_.out hHeld ?_
     refine tu 5 (some 30) (ba 13 1023) HT_.out HW_.out hHeld ?_
     refine tu 10 (some 35) (ba 13 2047) HT_.out HW_.out hHeld ?_
     refine one_ (i := 11) (N := some 36) (ba 13 4095) rfl rfl (one_of HT_.out (by kernel_rfl)) (by decide) (fun K hK => ?_)
     refine goes_ Try.func56 (by kernel_rfl) rfl #[.agg #[.int .i64 a0_0, .slice A0_1 l0_1.length c0_1], .int .i64 ((rd_TTie l1 x6_2).f0), .int .i64 ((rd_TTie l1 x6_2).f1)] (by rfl) rfl rfl qm ?_
     with_reducible refine (spec_NetHas.calls k2 a0_0 _ _ l0_1 ((rd_TTie l1 x6_2).f0) ((rd_TTie l1 x6_2).f1) false _ ?side1 ?side2 A23.out).mono ?_
     (case side1 => exact qc (Kd.C_below HR0_1.out HB.out))
     (case side2 => exact HC0_1.out)
     rintro e w28 ⟨rfl, hb⟩
     refine ⟨_, rfl, ?_⟩
     have n0_ := q0 (kb BK107.out hb)
     have n1_ := q0 (kb BK100.out hb)
     have n2_ := q0 (below_step (qb HB.out) hb)
     clear BK107
     clear BK100
     clear HB
     have BK107 := n0_
     have BK100 := n1_
     have HB := n2_
     clear n0_ n1_ n2_
     (try clear hb)
     (try clear hb2)
     (try clear hk)
     (try clear hi)
     refine hK.out _ _ ⟨(blk_cell BK107.out 0).trans rfl, (blk_cell BK107.out 1).trans rfl, ((HB.out.cell (World.block_lt_of_cell? w _ hw110_0)).trans hw110_0), ((HB.out.cell (World.block_lt_of_cell? w _ hw110_1)).trans hw110_1), ((HB.out.cell (World.block_lt_of_cell? w _ hw111_0)).trans hw111_0), ((HB.out.cell (World.block_lt_of_cell? w _ hw111_1)).trans hw111_1)⟩ (fun hHeld => ?_)
     clear hK K
     refine nu 36 ?_
     refine pu 12 (some 37) (ba 13 8191) HT_.out ?_
     refine done_ (done_of HT_.out (by kernel_rfl)) ?_
     try go_wp2
     go_ret
     exact ⟨qe, qb HB.out⟩
   subst c24
   have H1 : (spec_TreeOk.l0 k2 l1 (wrap64 (x6_2 + 1)) a0_0 l0_1 a0_0 l1) = some r := by rw [if_pos rfl] at H; exact H
   clear H
   have H := H1
   clear H1
   have H' := Aside0.mk H
   clear H
   try go_wp2
   have n0_ := q0 (blk_drew BK107.out)
   have n1_ := q0 (blk_drew BK100.out)
   have n2_ := q0 (below_drew1 HB.out)
   clear BK107
   clear BK100
   clear HB
   have BK107 := n0_
   have BK100 := n1_
   have HB := n2_
   clear n0_ n1_ n2_
   have p110 : 0 ≤ (x6_2 : Int) := of_decide_eq_true qa
   have q110 : x6_2 < (l1.length : Int) := of_decide_eq_true qa
   obtain ⟨ad110, e110, hx110_0, hx110_1⟩ := at_TTie HR1.out x6_2 p110 q110
   have hw110_1 := hx110_1
   have hw110_0 := hx110_0
   cases e110
   replace hx110_0 := (HB.out.cell (World.block_lt_of_cell? w _ hx110_0)).trans hx110_0
   replace hx110_1 := (HB.out.cell (World.block_lt_of_cell? w _ hx110_1)).trans hx110_1
   replace p110 := eq_true p110
   replace q110 := eq_true q110
   have p111 : 0 ≤ (x6_2 : Int) := of_decide_eq_true qa
   have q111 : x6_2 < (l1.length : Int) := of_decide_eq_true qa
   obtain ⟨ad111, e111, hx111_0, hx111_1⟩ := at_TTie HR1.out x6_2 p111 q111
   have hw111_1 := hx111_1
   have hw111_0 := hx111_0
   obtain rfl : ad110 = ad111 := (by injection e111)
   replace hx111_0 := (HB.out.cell (World.block_lt_of_cell? w _ hx111_0)).trans hx111_0
   replace hx111_1 := (HB.out.cell (World.block_lt_of_cell? w _ hx111_1)).trans hx111_1
   replace p111 := eq_true p111
   replace q111 := eq_true q111
   refine start_ (n := 13) (S := fun w' => w'.cell? ⟨gb107, 0, none⟩ = some (.int .i64 a0_0) ∧ w'.cell? ⟨gb107, 1, none⟩ = some (.slice A0_1 l0_1.length c0_1) ∧ w'.cell? (ad110.add ((x6_2).toNat * 2)) = some (.int .i64 ((rd_TTie l1 x6_2).f0)) ∧ w'.cell? ⟨(ad110.add ((x6_2).toNat * 2)).block, (ad110.add ((x6_2).toNat * 2)).off + 1, none⟩ = some (.int .i64 ((rd_TTie l1 x6_2).f1)) ∧ w'.cell? (ad110.add ((x6_2).toNat * 2)) = some (.int .i64 ((rd_TTie l1 x6_2).f0)) ∧ w'.cell? ⟨(ad110.add ((x6_2).toNat * 2)).block, (ad110.add ((x6_2).toNat * 2)).off + 1, none⟩ = some (.int .i64 ((rd_TTie l1 x6_2).f1))) (ds := []) (ba 13 0) (by kernel_rfl) rfl (by kernel_rfl) ⟨(blk_cell BK107.out 0).trans rfl, (blk_cell BK107.out 1).trans rfl, ((HB.out.cell (World.block_lt_of_cell? w _ hw110_0)).trans hw110_0), ((HB.out.cell (World.block_lt_of_cell? w _ hw110_1)).trans hw110_1), ((HB.out.cell (World.block_lt_of_cell? w _ hw111_0)).trans hw111_0), ((HB.out.cell (World.block_lt_of_cell? w _ hw111_1)).trans hw111_1)⟩ (fun hHeld => ?_); refine with_tabW spec_TreeOk.tab7 spec_TreeOk.bits7 (fun HT_ HW_ => ?_)
   generalize wr.drew = w25 at BK107 BK100 HB hx110_0 hx110_1 hx111_0 hx111_1 hHeld ⊢
   refine pu 1 (some 26) (ba 13 2) HT_.out ?_
   refine pu 2 (some 27) (ba 13 6) HT_.out ?_
   refine pu 3 (some 28) (ba 13 14) HT_.out ?_
   refine pu 4 (some 29) (ba 13 30) HT_.out ?_
   refine pu 6 (some 31) (ba 13 94) HT_.out ?_
   refine pu 7 (some 32) (ba 13 222) HT_.out ?_
   refine pu 8 (some 33) (ba 13 478) HT_.out ?_
   refine pu 9 (some 34) (ba 13 990) HT_.out ?_
   refine tu 0 (some 25) (ba 13 991) HT_.out HW_.out hHeld ?_
   refine tu 5 (some 30) (ba 13 1023) HT_.out HW_.out hHeld ?_
   refine tu 10 (some 35) (ba 13 2047) HT_.out HW_.out hHeld ?_
   refine one_ (i := 11) (N := some 36) (ba 13 4095) rfl rfl (one_of HT_.out (by kernel_rfl)) (by decide) (fun K hK => ?_)
   refine goes_ Try.func56 (by kernel_rfl) rfl #[.agg #[.int .i64 a0_0, .slice A0_1 l0_1.length c0_1], .int .i64 ((rd_TTie l1 x6_2).f0), .int .i64 ((rd_TTie l1 x6_2).f1)] (by rfl) rfl rfl qm ?_
   with_reducible refine (spec_NetHas.calls k2 a0_0 _ _ l0_1 ((rd_TTie l1 x6_2).f0) ((rd_TTie l1 x6_2).f1) true _ ?side1 ?side2 A23.out).mono ?_
   (case side1 => exact qc (Kd.C_below HR0_1.out HB.out))
   (case side2 => exact HC0_1.out)
   rintro e w26 ⟨rfl, hb⟩
   refine ⟨_, rfl, ?_⟩
   have n0_ := q0 (kb BK107.out hb)
   have n1_ := q0 (kb BK100.out hb)
   have n2_ := q0 (below_step (qb HB.out) hb)
   clear BK107
   clear BK100
   clear HB
   have BK107 := n0_
   have BK100 := n1_
   have HB := n2_
   clear n0_ n1_ n2_
   (try clear hb)
   (try clear hb2)
   (try clear hk)
   (try clear hi)
   refine hK.out _ _ ⟨(blk_cell BK107.out 0).trans rfl, (blk_cell BK107.out 1).trans rfl, ((HB.out.cell (World.block_lt_of_cell? w _ hw110_0)).trans hw110_0), ((HB.out.cell (World.block_lt_of_cell? w _ hw110_1)).trans hw110_1), ((HB.out.cell (World.block_lt_of_cell? w _ hw111_0)).trans hw111_0), ((HB.out.cell (World.block_lt_of_cell? w _ hw111_1)).trans hw111_1)⟩ (fun hHeld => ?_)
   clear hK K
   refine nu 36 ?_
   refine pu 12 (some 37) (ba 13 8191) HT_.out ?_
   refine done_ (done_of HT_.out (by kernel_rfl)) ?_
   try go_wp2
   go_roundg k2
   case measure => have := HJ2.out; have := HK2.out; omega
   case rel => exact ⟨(wrap64 (x6_2 + 1)), qs, H', ⟨by have := HJ2.out; have := HK2.out; omega⟩, ⟨qk BK107.out⟩, ⟨qk BK100.out⟩, ⟨qb HB.out⟩⟩
 rw [if_neg c21] at H
 have c21b0 : decide (x6_2 < (l1.length : Int)) = false := decide_eq_false c21
 clear c21
 replace H := Option.bind_eq_some_iff.mp H
 obtain ⟨t103, A112, H⟩ := H
 replace H : ((spec_WayCount.f k2 a0_0 l0_1).bind fun t104 => (if t103 = t104 then ((spec_WayCount.f k2 a0_0 l0_1).bind fun t105 => (some ((l1.length : Int) == (wrap64 (a0_0 - t105))))) else (some false))) = some r := H
 have A29 := Aside0.mk A112
 clear A112
 replace H := Option.bind_eq_some_iff.mp H
 obtain ⟨t104, A113, H⟩ := H
 replace H : (if t103 = t104 then ((spec_WayCount.f k2 a0_0 l0_1).bind fun t105 => (some ((l1.length : Int) == (wrap64 (a0_0 - t105))))) else (some false)) = some r := H
 have A30 := Aside0.mk A113
 clear A113
 by_cases c31 : t103 = t104
 rotate_left
 · rw [if_neg c31] at H
   have c31b0 : (t103 == t104) = false := beq_eq_false_iff_ne.mpr c31
   have c31b1 : (t103 != t104) = true := bne_iff_ne.mpr c31
   obtain rfl := Option.some.inj H
   try go_wp2
   have n0_ := q0 (blk_drew BK107.out)
   have n1_ := q0 (blk_drew BK100.out)
   have n2_ := q0 (below_drew1 HB.out)
   clear BK107
   clear BK100
   clear HB
   have BK107 := n0_
   have BK100 := n1_
   have HB := n2_
   clear n0_ n1_ n2_
   refine start_ (n := 16) (S := fun w' => w'.cell? ⟨gb100, 0, none⟩ = some (.int .i64 a0_0) ∧ w'.cell? ⟨gb100, 1, none⟩ = some (.slice A1 l1.length c1) ∧ w'.cell? ⟨gb107, 0, none⟩ = some (.int .i64 a0_0) ∧ w'.cell? ⟨gb107, 1, none⟩ = some (.slice A0_1 l0_1.length c0_1)) (ds := []) (ba 16 0) (by kernel_rfl) rfl (by kernel_rfl) ⟨(blk_cell BK100.out 0).trans rfl, (blk_cell BK100.out 1).trans rfl, (blk_cell BK107.out 0).trans rfl, (blk_cell BK107.out 1).trans rfl⟩ (fun hHeld => ?_); refine with_tabW spec_TreeOk.tab9 spec_TreeOk.bits9 (fun HT_ HW_ => ?_)
   generalize wr.drew = w37 at BK107 BK100 HB hHeld ⊢
   refine tu 0 (some 38) (ba 16 1) HT_.out HW_.out hHeld ?_
   refine tu 2 (some 40) (ba 16 5) HT_.out HW_.out hHeld ?_
   refine one_ (i := 1) (N := some 39) (ba 16 7) rfl rfl (one_of HT_.out (by kernel_rfl)) (by decide) (fun K hK => ?_)
   refine goes_ Try.func42 (by kernel_rfl) rfl #[.agg #[.int .i64 a0_0, .slice A1 l1.length c1]] (by rfl) rfl rfl qm ?_
   with_reducible refine (spec_WayCount.calls k2 a0_0 _ _ l1 t103 _ ?side1 ?side2 A29.out).mono ?_
   (case side1 => exact qc (Kd.C_below HR1.out HB.out))
   (case side2 => exact HC1.out)
   rintro e w38 ⟨rfl, hb⟩
   refine ⟨_, rfl, ?_⟩
   have n0_ := q0 (kb BK107.out hb)
   have n1_ := q0 (kb BK100.out hb)
   have n2_ := q0 (below_step (qb HB.out) hb)
   clear BK107
   clear BK100
   clear HB
   have BK107 := n0_
   have BK100 := n1_
   have HB := n2_
   clear n0_ n1_ n2_
   (try clear hb)
   (try clear hb2)
   (try clear hk)
   (try clear hi)
   refine hK.out _ _ ⟨(blk_cell BK100.out 0).trans rfl, (blk_cell BK100.out 1).trans rfl, (blk_cell BK107.out 0).trans rfl, (blk_cell BK107.out 1).trans rfl⟩ (fun hHeld => ?_)
   clear hK K
   refine nu 39 ?_
   refine one_ (i := 3) (N := some 41) (ba 16 15) rfl rfl (one_of HT_.out (by kernel_rfl)) (by decide) (fun K hK => ?_)
   refine goes_ Try.func42 (by kernel_rfl) rfl #[.agg #[.int .i64 a0_0, .slice A0_1 l0_1.length c0_1]] (by rfl) rfl rfl qm ?_
   with_reducible refine (spec_WayCount.calls k2 a0_0 _ _ l0_1 t104 _ ?side1 ?side2 A30.out).mono ?_
   (case side1 => exact qc (Kd.C_below HR0_1.out HB.out))
   (case side2 => exact HC0_1.out)
   rintro e w39 ⟨rfl, hb⟩
   refine ⟨_, rfl, ?_⟩
   have n0_ := q0 (kb BK107.out hb)
   have n1_ := q0 (kb BK100.out hb)
   have n2_ := q0 (below_step (qb HB.out) hb)
   clear BK107
   clear BK100
   clear HB
   have BK107 := n0_
   have BK100 := n1_
   have HB := n2_
   clear n0_ n1_ n2_
   (try clear hb)
   (try clear hb2)
   (try clear hk)
   (try clear hi)
   refine hK.out _ _ ⟨(blk_cell BK100.out 0).trans rfl, (blk_cell BK100.out 1).trans rfl, (blk_cell BK107.out 0).trans rfl, (blk_cell BK107.out 1).trans rfl⟩ (fun hHeld => ?_)
   clear hK K
   refine nu 41 ?_
   refine pu 4 (some 42) (ba 16 31) HT_.out ?_
   refine pu 5 (some 43) (ba 16 63) HT_.out ?_
   refine pv 6 (some 44) (ba 16 127) HT_.out ?_
   refine pv 7 (some 45) (ba 16 255) HT_.out ?_
   refine pv 8 (some 46) (ba 16 511) HT_.out ?_
   refine pv 9 (some 47) (ba 16 1023) HT_.out ?_
   refine pv 10 (some 48) (ba 16 2047) HT_.out ?_
   refine pv 11 (some 49) (ba 16 4095) HT_.out ?_
   refine pv 12 (some 50) (ba 16 8191) HT_.out ?_
   refine pv 13 (some 51) (ba 16 16383) HT_.out ?_
   refine pu 14 (some 52) (ba 16 32767) HT_.out ?_
   refine pu 15 (some 4) (ba 16 65535) HT_.out ?_
   refine done_ (done_of HT_.out (by kernel_rfl)) ?_
   try go_wp2
   go_ret
   exact ⟨qe, qb HB.out⟩
 rw [if_pos c31] at H
 have c31b0 : (t103 == t104) = true := beq_iff_eq.mpr c31
 have c31b1 : (t103 != t104) = false := bne_eq_false_iff_eq.mpr c31
 clear c31
 replace H := Option.bind_eq_some_iff.mp H
 obtain ⟨t105, A114, H⟩ := H
 replace H : (some ((l1.length : Int) == (wrap64 (a0_0 - t105)))) = some r := H
 have A32 := Aside0.mk A114
 clear A114
 obtain rfl := Option.some.inj H
 try go_wp2
 have n0_ := q0 (blk_drew BK107.out)
 have n1_ := q0 (blk_drew BK100.out)
 have n2_ := q0 (below_drew1 HB.out)
 clear BK107
 clear BK100
 clear HB
 have BK107 := n0_
 have BK100 := n1_
 have HB := n2_
 clear n0_ n1_ n2_
 refine start_ (n := 16) (S := fun w' => w'.cell? ⟨gb100, 0, none⟩ = some (.int .i64 a0_0) ∧ w'.cell? ⟨gb100, 1, none⟩ = some (.slice A1 l1.length c1) ∧ w'.cell? ⟨gb107, 0, none⟩ = some (.int .i64 a0_0) ∧ w'.cell? ⟨gb107, 1, none⟩ = some (.slice A0_1 l0_1.length c0_1)) (ds := []) (ba 16 0) (by kernel_rfl) rfl (by kernel_rfl) ⟨(blk_cell BK100.out 0).trans rfl, (blk_cell BK100.out 1).trans rfl, (blk_cell BK107.out 0).trans rfl, (blk_cell BK107.out 1).trans rfl⟩ (fun hHeld => ?_); refine with_tabW spec_TreeOk.tab9 spec_TreeOk.bits9 (fun HT_ HW_ => ?_)
 generalize wr.drew = w33 at BK107 BK100 HB hHeld ⊢
 refine tu 0 (some 38) (ba 16 1) HT_.out HW_.out hHeld ?_
 refine tu 2 (some 40) (ba 16 5) HT_.out HW_.out hHeld ?_
 refine one_ (i := 1) (N := some 39) (ba 16 7) rfl rfl (one_of HT_.out (by kernel_rfl)) (by decide) (fun K hK => ?_)
 refine goes_ Try.func42 (by kernel_rfl) rfl #[.agg #[.int .i64 a0_0, .slice A1 l1.length c1]] (by rfl) rfl rfl qm ?_
 with_reducible refine (spec_WayCount.calls k2 a0_0 _ _ l1 t103 _ ?side1 ?side2 A29.out).mono ?_
 (case side1 => exact qc (Kd.C_below HR1.out HB.out))
 (case side2 => exact HC1.out)
 rintro e w34 ⟨rfl, hb⟩
 refine ⟨_, rfl, ?_⟩
 have n0_ := q0 (kb BK107.out hb)
 have n1_ := q0 (kb BK100.out hb)
 have n2_ := q0 (below_step (qb HB.out) hb)
 clear BK107
 clear BK100
 clear HB
 have BK107 := n0_
 have BK100 := n1_
 have HB := n2_
 clear n0_ n1_ n2_
 (try clear hb)
 (try clear hb2)
 (try clear hk)
 (try clear hi)
 refine hK.out _ _ ⟨(blk_cell BK100.out 0).trans rfl, (blk_cell BK100.out 1).trans rfl, (blk_cell BK107.out 0).trans rfl, (blk_cell BK107.out 1).trans rfl⟩ (fun hHeld => ?_)
 clear hK K
 refine nu 39 ?_
 refine one_ (i := 3) (N := some 41) (ba 16 15) rfl rfl (one_of HT_.out (by kernel_rfl)) (by decide) (fun K hK => ?_)
 refine goes_ Try.func42 (by kernel_rfl) rfl #[.agg #[.int .i64 a0_0, .slice A0_1 l0_1.length c0_1]] (by rfl) rfl rfl qm ?_
 with_reducible refine (spec_WayCount.calls k2 a0_0 _ _ l0_1 t104 _ ?side1 ?side2 A30.out).mono ?_
 (case side1 => exact qc (Kd.C_below HR0_1.out HB.out))
 (case side2 => exact HC0_1.out)
 rintro e w35 ⟨rfl, hb⟩
 refine ⟨_, rfl, ?_⟩
 have n0_ := q0 (kb BK107.out hb)
 have n1_ := q0 (kb BK100.out hb)
 have n2_ := q0 (below_step (qb HB.out) hb)
 clear BK107
 clear BK100
 clear HB
 have BK107 := n0_
 have BK100 := n1_
 have HB := n2_
 clear n0_ n1_ n2_
 (try clear hb)
 (try clear hb2)
 (try clear hk)
 (try clear hi)
 refine hK.out _ _ ⟨(blk_cell BK100.out 0).trans rfl, (blk_cell BK100.out 1).trans rfl, (blk_cell BK107.out 0).trans rfl, (blk_cell BK107.out 1).trans rfl⟩ (fun hHeld => ?_)
 clear hK K
 refine nu 41 ?_
 refine pu 4 (some 42) (ba 16 31) HT_.out ?_
 refine pu 5 (some 43) (ba 16 63) HT_.out ?_
 refine pu 6 (some 44) (ba 16 127) HT_.out ?_
 refine pu 7 (some 45) (ba 16 255) HT_.out ?_
 refine pu 8 (some 46) (ba 16 511) HT_.out ?_
 refine tu 9 (some 47) (ba 16 1023) HT_.out HW_.out hHeld ?_
 refine tu 10 (some 48) (ba 16 2047) HT_.out HW_.out hHeld ?_
 refine one_ (i := 11) (N := some 49) (ba 16 4095) rfl rfl (one_of HT_.out (by kernel_rfl)) (by decide) (fun K hK => ?_)
 refine goes_ Try.func42 (by kernel_rfl) rfl #[.agg #[.int .i64 a0_0, .slice A0_1 l0_1.length c0_1]] (by rfl) rfl rfl qm ?_
 with_reducible refine (spec_WayCount.calls k2 a0_0 _ _ l0_1 t105 _ ?side1 ?side2 A32.out).mono ?_
 (case side1 => exact qc (Kd.C_below HR0_1.out HB.out))
 (case side2 => exact HC0_1.out)
 rintro e w36 ⟨rfl, hb⟩
 refine ⟨_, rfl, ?_⟩
 have n0_ := q0 (kb BK107.out hb)
 have n1_ := q0 (kb BK100.out hb)
 have n2_ := q0 (below_step (qb HB.out) hb)
 clear BK107
 clear BK100
 clear HB
 have BK107 := n0_
 have BK100 := n1_
 have HB := n2_
 clear n0_ n1_ n2_
 (try clear hb)
 (try clear hb2)
 (try clear hk)
 (try clear hi)
 refine hK.out _ _ ⟨(blk_cell BK100.out 0).trans rfl, (blk_cell BK100.out 1).trans rfl, (blk_cell BK107.out 0).trans rfl, (blk_cell BK107.out 1).trans rfl⟩ (fun hHeld => ?_)
 clear hK K
 refine nu 49 ?_
 refine pu 12 (some 50) (ba 16 8191) HT_.out ?_
 refine pu 13 (some 51) (ba 16 16383) HT_.out ?_
 refine pu 14 (some 52) (ba 16 32767) HT_.out ?_
 refine pu 15 (some 4) (ba 16 65535) HT_.out ?_
 refine done_ (done_of HT_.out (by kernel_rfl)) ?_
 try go_wp2
 go_ret
 exact ⟨qe, qb HB.out⟩

set_option maxHeartbeats 8000000 in
set_option maxRecDepth 100000 in
theorem impl_Net_own.calls (k : Nat) (a0_0 : Int) (A0_1 : Option Addr) (c0_1 : Nat) (l0_1 : List (STie)) (A1 : Option Addr) (c1 : Nat) (l1 : List (STie)) (r : Bool) (w : World) (hr0_1 : Kd.C kTie w A0_1 l0_1.length l0_1) (hc0_1 : l0_1.length ≤ c0_1) (hr1 : Kd.C kTie w A1 l1.length l1) (hc1 : l1.length ≤ c1) (h : impl_Net_own.f k a0_0 l0_1 l1 = some r) :
    Calls Try.prog 58 #[.agg #[.int .i64 a0_0, .slice A0_1 l0_1.length c0_1], .slice A1 l1.length c1] w fun e w' => e = .returned (.bool r) ∧ Below w.heap.size w w' := by
 have hu30 := Try.underlying30
 have hu44 := Try.underlying44
 have HR0_1 := Aside0.mk hr0_1
 have HC0_1 := Aside0.mk hc0_1
 clear hr0_1 hc0_1
 have HR1 := Aside0.mk hr1
 have HC1 := Aside0.mk hc1
 clear hr1 hc1
 have HB := q0 (Below.refl w.heap.size w)
 have H : (impl_Net_own.l0 k l1 l1 (l1.length : Int) 0 a0_0 l0_1) = some r := h
 clear h
 have H' := Aside0.mk H
 clear H
 go_enter Try.func58, Try.ntmps58
 go_wp2_with (first | ((with_reducible refine gate_dst (N := 2) rfl ?_); refine be 2 #[.int .i64 a0_0, .slice A0_1 l0_1.length c0_1] 30 ?_; intro gb103 hg w3 hbox hb; have n0_ := q0 (below_step (qb HB.out) hb); have n1_ := q0 (hbox); have n2_ := q0 ((bs HB.out hg : w.heap.size ≤ gb103)); have n3_ := q0 ((bs HB.out hg : w.heap.size ≤ gb103)); clear HB; have HB := n0_; have BK103 := n1_; have GW103 := n2_; have GE103 := n3_; clear n0_ n1_ n2_ n3_ hb hbox hg))
 go_loopg [9] k (fun kq v9 w' => ∃ (x9_1 : Int), v9 = .int .i64 x9_1 ∧ Aside0 (impl_Net_own.l0 kq l1 l1 (l1.length : Int) x9_1 a0_0 l0_1 = some r) ∧ Aside0 (kq ≤ k) ∧ Aside0 (w'.heap[gb103]? = some (.cells #[.int .i64 a0_0, (.slice A0_1 l0_1.length c0_1)] 30 (0, 0))) ∧ Aside0 (Below w.heap.size w w'))
 case atStart => exact ⟨(0), qs, H', ⟨Nat.le_refl _⟩, ⟨qk BK103.out⟩, ⟨qb HB.out⟩⟩
 clear H'
 try clear c1
 try clear p2
 obtain ⟨x9_1, rfl, HA, HK1, BK103, HB⟩ := hrel
 rcases gk with _ | k1
 · exact absurd HA.out (by simp [impl_Net_own.l0])
 have H := HA.out
 clear HA
 simp only [impl_Net_own.l0] at H
 by_cases c4 : x9_1 < (l1.length : Int)
 rotate_left
 · rw [if_neg c4] at H
   have c4b0 : decide (x9_1 < (l1.length : Int)) = false := decide_eq_false c4
   clear c4
   replace H := Option.bind_eq_some_iff.mp H
   obtain ⟨t102, A105, H⟩ := H
   replace H : (some t102) = some r := H
   have A19 := Aside0.mk A105
   clear A105
   obtain rfl := Option.some.inj H
   go_wp2_with (first | ((with_reducible refine gate_callee (f := 68) rfl ?_); refine goesL_ (some 20) rfl rfl Try.func68 (by kernel_rfl) rfl #[.slice A1 l1.length c1] rfl qm ?_; (with_reducible refine (impl_ascending.calls k1 _ _ l1 t102 _ ?side1 ?side2 A19.out).mono ?_); (case side1 => exact qc (Kd.C_below HR1.out HB.out)); (case side2 => exact HC1.out); rintro e w20 ⟨rfl, hb⟩; refine ⟨_, rfl, ?_⟩; have n0_ := q0 (kb BK103.out hb); have n1_ := q0 (below_step (qb HB.out) hb); clear BK103 HB; have BK103 := n0_; have HB := n1_; clear n0_ n1_; (try clear hb); (try clear hb2); (try clear hk); (try clear hi)))
   go_ret
   exact ⟨qe, qb HB.out⟩
 rw [if_pos c4] at H
 have c4b0 : decide (x9_1 < (l1.length : Int)) = true := decide_eq_true c4
 clear c4
 by_cases c5 : 0 ≤ x9_1
 rotate_left
 · rw [if_neg c5] at H
   exact absurd H (by simp)
 rw [if_pos c5] at H
 have c5b0 : decide (0 ≤ x9_1) = true := decide_eq_true c5
 clear c5
 by_cases c6 : x9_1 < (l1.length : Int)
 rotate_left
 · rw [if_neg c6] at H
   exact absurd H (by simp)
 rw [if_pos c6] at H
 have c6b0 : decide (x9_1 < (l1.length : Int)) = true := decide_eq_true c6
 clear c6
 replace H := Option.bind_eq_some_iff.mp H
 obtain ⟨t101, A70, H⟩ := H
 replace H : (if t101 = true then (impl_Net_own.l0 k1 l1 l1 (l1.length : Int) (wrap64 (x9_1 + 1)) a0_0 l0_1) else (some false)) = some r := H
 have A7 := Aside0.mk A70
 clear A70
 by_cases c8 : t101 = true
 rotate_left
 · replace c8 := Bool.eq_false_iff.mpr c8
   subst c8
   have H1 : (some false) = some r := by rw [if_neg (show ¬ (false = true) by decide)] at H; exact H
   clear H
   have H := H1
   clear H1
   obtain rfl := Option.some.inj H
   have p100 : 0 ≤ (x9_1 : Int) := of_decide_eq_true qa
   have q100 : x9_1 < (l1.length : Int) := of_decide_eq_true qa
   obtain ⟨ad100, e100, hx100_0, hx100_1⟩ := at_TTie HR1.out x9_1 p100 q100
   cases e100
   replace hx100_0 := (HB.out.cell (World.block_lt_of_cell? w _ hx100_0)).trans hx100_0
   replace hx100_1 := (HB.out.cell (World.block_lt_of_cell? w _ hx100_1)).trans hx100_1
   replace p100 := eq_true p100
   replace q100 := eq_true q100
   go_wp2_with (first | ((with_reducible refine gate_dst (N := 6) rfl ?_); refine be 6 #[.int .i64 0, .int .i64 0] 44 ?_; intro gb104 hg w14 hbox hb; have n0_ := q0 (kb BK103.out hb); have n1_ := q0 (below_step (qb HB.out) hb); have n2_ := q0 (hbox); have n3_ := q0 ((bs HB.out hg : w.heap.size ≤ gb104)); have n4_ := q0 ((bs HB.out hg : w.heap.size ≤ gb104)); have n5_ := q0 ((bl BK103.out hg : gb103 ≠ gb104)); have n6_ := q0 ((bg BK103.out hg : gb104 ≠ gb103)); clear BK103 HB; have BK103 := n0_; have HB := n1_; have BK104 := n2_; have GW104 := n3_; have GE104 := n4_; have NB103_104 := n5_; have NB104_103 := n6_; clear n0_ n1_ n2_ n3_ n4_ n5_ n6_ hb hbox hg; have hnb15 := NB104_103.out; have hnc15 := NB103_104.out; have hcz16_0 : w14.cell? ⟨gb104, 0, none⟩ = some (.int .i64 0) := (blk_cell BK104.out 0).trans rfl; have hcz16_1 : w14.cell? ⟨gb104, 1, none⟩ = some (.int .i64 0) := (blk_cell BK104.out 1).trans rfl; have hfz16_0 := blk_frozen BK104.out 0; have hfz16_1 := blk_frozen BK104.out 1; have hcz17_0 : w14.cell? ⟨gb103, 0, none⟩ = some (.int .i64 a0_0) := (blk_cell BK103.out 0).trans rfl; have hcz17_1 : w14.cell? ⟨gb103, 1, none⟩ = some (.slice A0_1 l0_1.length c0_1) := (blk_cell BK103.out 1).trans rfl; have hfz17_0 := blk_frozen BK103.out 0; have hfz17_1 := blk_frozen BK103.out 1) | ((with_reducible refine gate_callee (f := 70) rfl ?_); refine goesL_ (some 16) rfl rfl Try.func70 (by kernel_rfl) rfl #[.slice A0_1 l0_1.length c0_1, .agg #[.int .i64 ((rd_TTie l1 x9_1).f0), .int .i64 ((rd_TTie l1 x9_1).f1)]] rfl qm ?_; (with_reducible refine (slices_Contains_Tie.calls k1 _ _ l0_1 ((rd_TTie l1 x9_1).f0) ((rd_TTie l1 x9_1).f1) false _ ?side1 ?side2 A7.out).mono ?_); (case side1 => exact Kd.C_below HR0_1.out (qb HB.out)); (case side2 => exact HC0_1.out); rintro e w18 ⟨rfl, hb⟩; refine ⟨_, rfl, ?_⟩; have n0_ := q0 (blk_below (g := gb103) (o := .cells #[.int .i64 a0_0, .slice A0_1 l0_1.length c0_1] 30 (0, 0)) (qf BK103.out) hb); have n1_ := q0 (blk_below (g := gb104) (o := .cells #[.int .i64 ((rd_TTie l1 x9_1).f0), .int .i64 ((rd_TTie l1 x9_1).f1)] 44 (0, 0)) (by (with_reducible repeat (first | refine blk_drewN ?_ _ | refine blk_drew ?_ | refine blk_alloc ?_ _)); refine blk_put (cs := #[.int .i64 ((rd_TTie l1 x9_1).f0), .int .i64 0]) ?_ 1 _ rfl; (with_reducible repeat (first | refine blk_drewN ?_ _ | refine blk_drew ?_ | refine blk_alloc ?_ _)); refine blk_put (cs := #[.int .i64 0, .int .i64 0]) ?_ 0 _ rfl; (with_reducible repeat (first | refine blk_drewN ?_ _ | refine blk_drew ?_ | refine blk_alloc ?_ _)); exact BK104.out) hb); have n2_ := q0 (below_step (qb HB.out) hb); clear BK103 BK104 HB; have BK103 := n0_; have BK104 := n1_; have HB := n2_; clear n0_ n1_ n2_; (try clear hb); (try clear hb2); (try clear hk); (try clear hi)))
   go_ret
   exact ⟨qe, qb HB.out⟩
 subst c8
 have H1 : (impl_Net_own.l0 k1 l1 l1 (l1.length : Int) (wrap64 (x9_1 + 1)) a0_0 l0_1) = some r := by rw [if_pos rfl] at H; exact H
 clear H
 have H := H1
 clear H1
 have H' := Aside0.mk H
 clear H
 have p100 : 0 ≤ (x9_1 : Int) := of_decide_eq_true qa
 have q100 : x9_1 < (l1.length : Int) := of_decide_eq_true qa
 obtain ⟨ad100, e100, hx100_0, hx100_1⟩ := at_TTie HR1.out x9_1 p100 q100
 cases e100
 replace hx100_0 := (HB.out.cell (World.block_lt_of_cell? w _ hx100_0)).trans hx100_0
 replace hx100_1 := (HB.out.cell (World.block_lt_of_cell? w _ hx100_1)).trans hx100_1
 replace p100 := eq_true p100
 replace q100 := eq_true q100
 go_wp2_with (first | ((with_reducible refine gate_dst (N := 6) rfl ?_); refine be 6 #[.int .i64 0, .int .i64 0] 44 ?_; intro gb104 hg w9 hbox hb; have n0_ := q0 (kb BK103.out hb); have n1_ := q0 (below_step (qb HB.out) hb); have n2_ := q0 (hbox); have n3_ := q0 ((bs HB.out hg : w.heap.size ≤ gb104)); have n4_ := q0 ((bs HB.out hg : w.heap.size ≤ gb104)); have n5_ := q0 ((bl BK103.out hg : gb103 ≠ gb104)); have n6_ := q0 ((bg BK103.out hg : gb104 ≠ gb103)); clear BK103 HB; have BK103 := n0_; have HB := n1_; have BK104 := n2_; have GW104 := n3_; have GE104 := n4_; have NB103_104 := n5_; have NB104_103 := n6_; clear n0_ n1_ n2_ n3_ n4_ n5_ n6_ hb hbox hg; have hnb10 := NB104_103.out; have hnc10 := NB103_104.out; have hcz11_0 : w9.cell? ⟨gb104, 0, none⟩ = some (.int .i64 0) := (blk_cell BK104.out 0).trans rfl; have hcz11_1 : w9.cell? ⟨gb104, 1, none⟩ = some (.int .i64 0) := (blk_cell BK104.out 1).trans rfl; have hfz11_0 := blk_frozen BK104.out 0; have hfz11_1 := blk_frozen BK104.out 1; have hcz12_0 : w9.cell? ⟨gb103, 0, none⟩ = some (.int .i64 a0_0) := (blk_cell BK103.out 0).trans rfl; have hcz12_1 : w9.cell? ⟨gb103, 1, none⟩ = some (.slice A0_1 l0_1.length c0_1) := (blk_cell BK103.out 1).trans rfl; have hfz12_0 := blk_frozen BK103.out 0; have hfz12_1 := blk_frozen BK103.out 1) | ((with_reducible refine gate_callee (f := 70) rfl ?_); refine goesL_ (some 16) rfl rfl Try.func70 (by kernel_rfl) rfl #[.slice A0_1 l0_1.length c0_1, .agg #[.int .i64 ((rd_TTie l1 x9_1).f0), .int .i64 ((rd_TTie l1 x9_1).f1)]] rfl qm ?_; (with_reducible refine (slices_Contains_Tie.calls k1 _ _ l0_1 ((rd_TTie l1 x9_1).f0) ((rd_TTie l1 x9_1).f1) true _ ?side1 ?side2 A7.out).mono ?_); (case side1 => exact Kd.C_below HR0_1.out (qb HB.out)); (case side2 => exact HC0_1.out); rintro e w13 ⟨rfl, hb⟩; refine ⟨_, rfl, ?_⟩; have n0_ := q0 (blk_below (g := gb103) (o := .cells #[.int .i64 a0_0, .slice A0_1 l0_1.length c0_1] 30 (0, 0)) (qf BK103.out) hb); have n1_ := q0 (blk_below (g := gb104) (o := .cells #[.int .i64 ((rd_TTie l1 x9_1).f0), .int .i64 ((rd_TTie l1 x9_1).f1)] 44 (0, 0)) (by (with_reducible repeat (first | refine blk_drewN ?_ _ | refine blk_drew ?_ | refine blk_alloc ?_ _)); refine blk_put (cs := #[.int .i64 ((rd_TTie l1 x9_1).f0), .int .i64 0]) ?_ 1 _ rfl; (with_reducible repeat (first | refine blk_drewN ?_ _ | refine blk_drew ?_ | refine blk_alloc ?_ _)); refine blk_put (cs := #[.int .i64 0, .int .i64 0]) ?_ 0 _ rfl; (with_reducible repeat (first | refine blk_drewN ?_ _ | refine blk_drew ?_ | refine blk_alloc ?_ _)); exact BK104.out) hb); have n2_ := q0 (below_step (qb HB.out) hb); clear BK103 BK104 HB; have BK103 := n0_; have BK104 := n1_; have HB := n2_; clear n0_ n1_ n2_; (try clear hb); (try clear hb2); (try clear hk); (try clear hi)))
 go_roundg k1
 case measure => have := HK1.out; omega
 case rel => exact ⟨(wrap64 (x9_1 + 1)), qs, H', ⟨by have := HK1.out; omega⟩, ⟨qk BK103.out⟩, ⟨qb HB.out⟩⟩

set_option maxHeartbeats 8000000 in
set_option maxRecDepth 100000 in
theorem impl_TreeOk.calls (k : Nat) (a0_0 : Int) (A0_1 : Option Addr) (c0_1 : Nat) (l0_1 : List (STie)) (A1 : Option Addr) (c1 : Nat) (l1 : List (STie)) (r : Bool) (w : World) (hr0_1 : Kd.C kTie w A0_1 l0_1.length l0_1) (hc0_1 : l0_1.length ≤ c0_1) (hr1 : Kd.C kTie w A1 l1.length l1) (hc1 : l1.length ≤ c1) (h : impl_TreeOk.f k a0_0 l0_1 l1 = some r) :
    Calls Try.prog 29 #[.agg #[.int .i64 a0_0, .slice A0_1 l0_1.length c0_1], .slice A1 l1.length c1] w fun e w' => e = .returned (.bool r) ∧ Below w.heap.size w w' := by
 have hu30 := Try.underlying30
 have HR0_1 := Aside0.mk hr0_1
 have HC0_1 := Aside0.mk hc0_1
 clear hr0_1 hc0_1
 have HR1 := Aside0.mk hr1
 have HC1 := Aside0.mk hc1
 clear hr1 hc1
 have HB := q0 (Below.refl w.heap.size w)
 have H : ((impl_NetOk.f k a0_0 l0_1).bind fun t100 => (if t100 = true then ((impl_Net_own.f k a0_0 l0_1 l1).bind fun t103 => (impl_TreeOk.j0 k l1 (!t103) a0_0 l0_1)) else (impl_TreeOk.j0 k l1 true a0_0 l0_1))) = some r := h
 clear h
 have HC3 := Aside0.mk H
 clear H
 go_enter Try.func29, Try.ntmps29
 go_upto_region 1 with (first | ((with_reducible refine gate_dst (N := 2) rfl ?_); (try (refine gate_guard (by rfl) ?_; dsimp only)); refine be 2 #[.int .i64 a0_0, .slice A0_1 l0_1.length c0_1] 30 ?_; intro gb104 hg w4 hbox hb; have n0_ := q0 (below_step (qb HB.out) hb); have n1_ := q0 (hbox); have n2_ := q0 ((bs HB.out hg : w.heap.size ≤ gb104)); have n3_ := q0 ((bs HB.out hg : w.heap.size ≤ gb104)); clear HB; have HB := n0_; have BK104 := n1_; have GW104 := n2_; have GE104 := n3_; clear n0_ n1_ n2_ n3_ hb hbox hg))
 (try simp only [Act.put, List.setIfInBounds_toArray, List.set_cons_zero, List.set_cons_succ])
 go_cut [14] (fun v14 wc => ∃ (kq : Nat) (x14_2 : Bool), v14 = .bool x14_2 ∧ Aside0 (impl_TreeOk.j0 kq l1 x14_2 a0_0 l0_1 = some r) ∧ Aside0 (kq ≤ k) ∧ Aside0 (wc.heap[gb104]? = some (.cells #[.int .i64 a0_0, (.slice A0_1 l0_1.length c0_1)] 30 (0, 0))) ∧ Aside0 (Below w.heap.size w wc))
 case first =>
   have H := HC3.out
   clear HC3
   replace H := Option.bind_eq_some_iff.mp H
   obtain ⟨t100, A50, H⟩ := H
   replace H : (if t100 = true then ((impl_Net_own.f k a0_0 l0_1 l1).bind fun t103 => (impl_TreeOk.j0 k l1 (!t103) a0_0 l0_1)) else (impl_TreeOk.j0 k l1 true a0_0 l0_1)) = some r := H
   have A5 := Aside0.mk A50
   clear A50
   by_cases c6 : t100 = true
   rotate_left
   · replace c6 := Bool.eq_false_iff.mpr c6
     subst c6
     have H1 : (impl_TreeOk.j0 k l1 true a0_0 l0_1) = some r := by rw [if_neg (show ¬ (false = true) by decide)] at H; exact H
     clear H
     have H := H1
     clear H1
     have H' := Aside0.mk H
     clear H
     have hcz12_0 : w4.cell? ⟨gb104, 0, none⟩ = some (.int .i64 a0_0) := (blk_cell BK104.out 0).trans rfl
     have hcz12_1 : w4.cell? ⟨gb104, 1, none⟩ = some (.slice A0_1 l0_1.length c0_1) := (blk_cell BK104.out 1).trans rfl
     have hfz12_0 := blk_frozen BK104.out 0
     have hfz12_1 := blk_frozen BK104.out 1
     go_wp2_with (first | ((with_reducible refine gate_callee (f := 38) rfl ?_); refine goesL_ (some 7) rfl rfl Try.func38 (by kernel_rfl) rfl #[.agg #[.int .i64 a0_0, .slice A0_1 l0_1.length c0_1]] rfl qm ?_; (with_reducible refine (impl_NetOk.calls k a0_0 _ _ l0_1 false _ ?side1 ?side2 A5.out).mono ?_); (case side1 => exact qc (Kd.C_below HR0_1.out HB.out)); (case side2 => exact HC0_1.out); rintro e w13 ⟨rfl, hb⟩; refine ⟨_, rfl, ?_⟩; have n0_ := q0 (kb BK104.out hb); have n1_ := q0 (below_step (qb HB.out) hb); clear BK104 HB; have BK104 := n0_; have HB := n1_; clear n0_ n1_; (try clear hb); (try clear hb2); (try clear hk); (try clear hi)))
     go_meet
     case rel => exact ⟨_, (true), qs, H', ⟨by first | omega | exact Nat.le_refl _⟩, ⟨qk BK104.out⟩, ⟨qb HB.out⟩⟩
   subst c6
   have H1 : ((impl_Net_own.f k a0_0 l0_1 l1).bind fun t103 => (impl_TreeOk.j0 k l1 (!t103) a0_0 l0_1)) = some r := by rw [if_pos rfl] at H; exact H
   clear H
   have H := H1
   clear H1
   replace H := Option.bind_eq_some_iff.mp H
   obtain ⟨t103, A70, H⟩ := H
   replace H : (impl_TreeOk.j0 k l1 (!t103) a0_0 l0_1) = some r := H
   have A7 := Aside0.mk A70
   clear A70
   have H' := Aside0.mk H
   clear H
   have hcz8_0 : w4.cell? ⟨gb104, 0, none⟩ = some (.int .i64 a0_0) := (blk_cell BK104.out 0).trans rfl
   have hcz8_1 : w4.cell? ⟨gb104, 1, none⟩ = some (.slice A0_1 l0_1.length c0_1) := (blk_cell BK104.out 1).trans rfl
   have hfz8_0 := blk_frozen BK104.out 0
   have hfz8_1 := blk_frozen BK104.out 1
   go_wp2_with (first | ((with_reducible refine gate_callee (f := 38) rfl ?_); refine goesL_ (some 7) rfl rfl Try.func38 (by kernel_rfl) rfl #[.agg #[.int .i64 a0_0, .slice A0_1 l0_1.length c0_1]] rfl qm ?_; (with_reducible refine (impl_NetOk.calls k a0_0 _ _ l0_1 true _ ?side1 ?side2 A5.out).mono ?_); (case side1 => exact qc (Kd.C_below HR0_1.out HB.out)); (case side2 => exact HC0_1.out); rintro e w9 ⟨rfl, hb⟩; refine ⟨_, rfl, ?_⟩; have n0_ := q0 (kb BK104.out hb); have n1_ := q0 (below_step (qb HB.out) hb); clear BK104 HB; have BK104 := n0_; have HB := n1_; clear n0_ n1_; (try clear hb); (try clear hb2); (try clear hk); (try clear hi); have hcz10_0 : w9.cell? ⟨gb104, 0, none⟩ = some (.int .i64 a0_0) := (blk_cell BK104.out 0).trans rfl; have hcz10_1 : w9.cell? ⟨gb104, 1, none⟩ = some (.slice A0_1 l0_1.length c0_1) := (blk_cell BK104.out 1).trans rfl; have hfz10_0 := blk_frozen BK104.out 0; have hfz10_1 := blk_frozen BK104.out 1) | (go_at_call 58; (with_reducible refine (impl_Net_own.calls k a0_0 _ _ l0_1 _ _ l1 t103 _ ?side1 ?side2 ?side3 ?side4 A7.out).mono ?_); (case side1 => exact qc (Kd.C_below HR0_1.out HB.out)); (case side2 => exact HC0_1.out); (case side3 => exact qc (Kd.C_below HR1.out HB.out)); (case side4 => exact HC1.out); rintro e w11 ⟨rfl, hb⟩; have n0_ := q0 (kb BK104.out hb); have n1_ := q0 (below_step (qb HB.out) hb); clear BK104 HB; have BK104 := n0_; have HB := n1_; clear n0_ n1_; (try clear hb); (try clear hb2); (try clear hk); (try clear hi)))
   go_meet
   case rel => exact ⟨_, (!t103), qs, H', ⟨by first | omega | exact Nat.le_refl _⟩, ⟨qk BK104.out⟩, ⟨qb HB.out⟩⟩
 clear HC3
 try clear c1
 try clear c2
 try clear p2
 try clear c3
 try clear c6
 try clear hcz10_0
 try clear hcz10_1
 try clear hcz12_0
 try clear hcz12_1
 try clear hcz8_0
 try clear hcz8_1
 try clear hfz10_0
 try clear hfz10_1
 try clear hfz12_0
 try clear hfz12_1
 try clear hfz8_0
 try clear hfz8_1
 obtain ⟨kq, x14_2, rfl, HA, HJ2, BK104, HB⟩ := hcut
 rcases kq with _ | kj2
 · exact absurd HA.out (by simp [impl_TreeOk.j0])
 have H := HA.out
 clear HA
 simp only [impl_TreeOk.j0] at H
 by_cases c14 : x14_2 = true
 · subst c14
   have H1 : (some false) = some r := by rw [if_pos rfl] at H; exact H
   clear H
   have H := H1
   clear H1
   obtain rfl := Option.some.inj H
   go_wp2
   go_ret
   exact ⟨qe, qb HB.out⟩
 replace c14 := Bool.eq_false_iff.mpr c14
 subst c14
 have H1 : ((impl_Net_count.f kj2 a0_0 l0_1).bind fun t101 => ((impl_Net_count.f kj2 a0_0 l1).bind fun t102 => (if t102 = t101 then (some ((l1.length : Int) == (wrap64 (a0_0 - t101)))) else (some false)))) = some r := by rw [if_neg (show ¬ (false = true) by decide)] at H; exact H
 clear H
 have H := H1
 clear H1
 replace H := Option.bind_eq_some_iff.mp H
 obtain ⟨t101, A105, H⟩ := H
 replace H : ((impl_Net_count.f kj2 a0_0 l1).bind fun t102 => (if t102 = t101 then (some ((l1.length : Int) == (wrap64 (a0_0 - t101)))) else (some false))) = some r := H
 have A15 := Aside0.mk A105
 clear A105
 replace H := Option.bind_eq_some_iff.mp H
 obtain ⟨t102, A106, H⟩ := H
 replace H : (if t102 = t101 then (some ((l1.length : Int) == (wrap64 (a0_0 - t101)))) else (some false)) = some r := H
 have A16 := Aside0.mk A106
 clear A106
 by_cases c17 : t102 = t101
 rotate_left
 · rw [if_neg c17] at H
   have c17b0 : (t102 == t101) = false := beq_eq_false_iff_ne.mpr c17
   have c17b1 : (t102 != t101) = true := bne_iff_ne.mpr c17
   obtain rfl := Option.some.inj H
   have hcz23_0 : wc.cell? ⟨gb104, 0, none⟩ = some (.int .i64 a0_0) := (blk_cell BK104.out 0).trans rfl
   have hcz23_1 : wc.cell? ⟨gb104, 1, none⟩ = some (.slice A0_1 l0_1.length c0_1) := (blk_cell BK104.out 1).trans rfl
   have hfz23_0 := blk_frozen BK104.out 0
   have hfz23_1 := blk_frozen BK104.out 1
   go_wp2_with (first | ((with_reducible refine gate_callee (f := 59) rfl ?_); refine goesL_ (some 16) rfl rfl Try.func59 (by kernel_rfl) rfl #[.agg #[.int .i64 a0_0, .slice A0_1 l0_1.length c0_1]] rfl qm ?_; (with_reducible refine (impl_Net_count.calls kj2 a0_0 _ _ l0_1 t101 _ ?side1 ?side2 A15.out).mono ?_); (case side1 => exact qc (Kd.C_below HR0_1.out HB.out)); (case side2 => exact HC0_1.out); rintro e w24 ⟨rfl, hb⟩; refine ⟨_, rfl, ?_⟩; have n0_ := q0 (kb BK104.out hb); have n1_ := q0 (below_step (qb HB.out) hb); clear BK104 HB; have BK104 := n0_; have HB := n1_; clear n0_ n1_; (try clear hb); (try clear hb2); (try clear hk); (try clear hi); have hcz25_0 : w24.cell? ⟨gb104, 0, none⟩ = some (.int .i64 a0_0) := (blk_cell BK104.out 0).trans rfl; have hcz25_1 : w24.cell? ⟨gb104, 1, none⟩ = some (.slice A0_1 l0_1.length c0_1) := (blk_cell BK104.out 1).trans rfl; have hfz25_0 := blk_frozen BK104.out 0; have hfz25_1 := blk_frozen BK104.out 1) | ((with_reducible refine gate_callee (f := 59) rfl ?_); refine goesL_ (some 21) rfl rfl Try.func59 (by kernel_rfl) rfl #[.agg #[.int .i64 a0_0, .slice A1 l1.length c1]] rfl qm ?_; (with_reducible refine (impl_Net_count.calls kj2 a0_0 _ _ l1 t102 _ ?side1 ?side2 A16.out).mono ?_); (case side1 => exact qc (Kd.C_below HR1.out HB.out)); (case side2 => exact HC1.out); rintro e w26 ⟨rfl, hb⟩; refine ⟨_, rfl, ?_⟩; have n0_ := q0 (kb BK104.out hb); have n1_ := q0 (below_step (qb HB.out) hb); clear BK104 HB; have BK104 := n0_; have HB := n1_; clear n0_ n1_; (try clear hb); (try clear hb2); (try clear hk); (try clear hi)))
   go_ret
   exact ⟨qe, qb HB.out⟩
 rw [if_pos c17] at H
 have c17b0 : (t102 == t101) = true := beq_iff_eq.mpr c17
 have c17b1 : (t102 != t101) = false := bne_eq_false_iff_eq.mpr c17
 clear c17
 obtain rfl := Option.some.inj H
 have hcz18_0 : wc.cell? ⟨gb104, 0, none⟩ = some (.int .i64 a0_0) := (blk_cell BK104.out 0).trans rfl
 have hcz18_1 : wc.cell? ⟨gb104, 1, none⟩ = some (.slice A0_1 l0_1.length c0_1) := (blk_cell BK104.out 1).trans rfl
 have hfz18_0 := blk_frozen BK104.out 0
 have hfz18_1 := blk_frozen BK104.out 1
 go_wp2_with (first | ((with_reducible refine gate_callee (f := 59) rfl ?_); refine goesL_ (some 16) rfl rfl Try.func59 (by kernel_rfl) rfl #[.agg #[.int .i64 a0_0, .slice A0_1 l0_1.length c0_1]] rfl qm ?_; (with_reducible refine (impl_Net_count.calls kj2 a0_0 _ _ l0_1 t101 _ ?side1 ?side2 A15.out).mono ?_); (case side1 => exact qc (Kd.C_below HR0_1.out HB.out)); (case side2 => exact HC0_1.out); rintro e w19 ⟨rfl, hb⟩; refine ⟨_, rfl, ?_⟩; have n0_ := q0 (kb BK104.out hb); have n1_ := q0 (below_step (qb HB.out) hb); clear BK104 HB; have BK104 := n0_; have HB := n1_; clear n0_ n1_; (try clear hb); (try clear hb2); (try clear hk); (try clear hi); have hcz20_0 : w19.cell? ⟨gb104, 0, none⟩ = some (.int .i64 a0_0) := (blk_cell BK104.out 0).trans rfl; have hcz20_1 : w19.cell? ⟨gb104, 1, none⟩ = some (.slice A0_1 l0_1.length c0_1) := (blk_cell BK104.out 1).trans rfl; have hfz20_0 := blk_frozen BK104.out 0; have hfz20_1 := blk_frozen BK104.out 1) | ((with_reducible refine gate_callee (f := 59) rfl ?_); refine goesL_ (some 21) rfl rfl Try.func59 (by kernel_rfl) rfl #[.agg #[.int .i64 a0_0, .slice A1 l1.length c1]] rfl qm ?_; (with_reducible refine (impl_Net_count.calls kj2 a0_0 _ _ l1 t102 _ ?side1 ?side2 A16.out).mono ?_); (case side1 => exact qc (Kd.C_below HR1.out HB.out)); (case side2 => exact HC1.out); rintro e w21 ⟨rfl, hb⟩; refine ⟨_, rfl, ?_⟩; have n0_ := q0 (kb BK104.out hb); have n1_ := q0 (below_step (qb HB.out) hb); clear BK104 HB; have BK104 := n0_; have HB := n1_; clear n0_ n1_; (try clear hb); (try clear hb2); (try clear hk); (try clear hi); have hcz22_0 : w21.cell? ⟨gb104, 0, none⟩ = some (.int .i64 a0_0) := (blk_cell BK104.out 0).trans rfl; have hcz22_1 : w21.cell? ⟨gb104, 1, none⟩ = some (.slice A0_1 l0_1.length c0_1) := (blk_cell BK104.out 1).trans rfl; have hfz22_0 := blk_frozen BK104.out 0; have hfz22_1 := blk_frozen BK104.out 1))
 go_ret
 exact ⟨qe, qb HB.out⟩

set_option maxHeartbeats 8000000 in
set_option maxRecDepth 100000 in
theorem laws_FnExactTreeOk.calls (k : Nat) (a0_0 : Int) (A0_1 : Option Addr) (c0_1 : Nat) (l0_1 : List (SLTie)) (A1 : Option Addr) (c1 : Nat) (l1 : List (SLTie)) (r : Bool) (w : World) (hr0_1 : Kd.C kLTie w A0_1 l0_1.length l0_1) (hc0_1 : l0_1.length ≤ c0_1) (hr1 : Kd.C kLTie w A1 l1.length l1) (hc1 : l1.length ≤ c1) (h : laws_FnExactTreeOk.f k a0_0 l0_1 l1 = some r) :
    Calls Try.prog 6 #[.agg #[.int .i64 a0_0, .slice A0_1 l0_1.length c0_1], .slice A1 l1.length c1] w fun e w' => e = .returned (.bool r) ∧ Below w.heap.size w w' := by
 have hu24 := Try.underlying24
 have hu30 := Try.underlying30
 have HR0_1 := Aside0.mk hr0_1
 have HC0_1 := Aside0.mk hc0_1
 clear hr0_1 hc0_1
 have HR1 := Aside0.mk hr1
 have HC1 := Aside0.mk hc1
 clear hr1 hc1
 have HB := q0 (Below.refl w.heap.size w)
 have H : ((laws_szNet.f a0_0 l0_1 1048576).bind fun t100 => (if t100 < 0 then (some true) else ((laws_szTieS.f l1 t100).bind fun t101 => (if t101 < 0 then (some true) else ((laws_toNet.f k a0_0 l0_1).bind fun bt102 => ((laws_toTieS.f k l1).bind fun t103 => ((spec_TreeOk.f k bt102.1 bt102.2 t103).bind fun t104 => ((laws_toNet.f k a0_0 l0_1).bind fun bt105 => ((laws_toTieS.f k l1).bind fun t106 => ((impl_TreeOk.f k bt105.1 bt105.2 t106).bind fun t107 => (if (t107 != t104) = true then (some false) else ((laws_toNet.f k a0_0 l0_1).bind fun bt108 => ((laws_eqNet.f k bt105.1 bt105.2 bt108.1 bt108.2).bind fun t109 => (if t109 = true then ((laws_toTieS.f k l1).bind fun t110 => ((laws_eqTieS.f k t106 t110).bind fun t111 => (if t111 = true then (some true) else (some false)))) else (some false))))))))))))))) = some r := h
 clear h
 replace H := Option.bind_eq_some_iff.mp H
 obtain ⟨t100, A30, H⟩ := H
 replace H : (if t100 < 0 then (some true) else ((laws_szTieS.f l1 t100).bind fun t101 => (if t101 < 0 then (some true) else ((laws_toNet.f k a0_0 l0_1).bind fun bt102 => ((laws_toTieS.f k l1).bind fun t103 => ((spec_TreeOk.f k bt102.1 bt102.2 t103).bind fun t104 => ((laws_toNet.f k a0_0 l0_1).bind fun bt105 => ((laws_toTieS.f k l1).bind fun t106 => ((impl_TreeOk.f k bt105.1 bt105.2 t106).bind fun t107 => (if (t107 != t104) = true then (some false) else ((laws_toNet.f k a0_0 l0_1).bind fun bt108 => ((laws_eqNet.f k bt105.1 bt105.2 bt108.1 bt108.2).bind fun t109 => (if t109 = true then ((laws_toTieS.f k l1).bind fun t110 => ((laws_eqTieS.f k t106 t110).bind fun t111 => (if t111 = true then (some true) else (some false)))) else (some false)))))))))))))) = some r := H
 have A3 := Aside0.mk A30
 clear A30
 by_cases c4 : t100 < 0
 · rw [if_pos c4] at H
   have c4b0 : decide (t100 < 0) = true := decide_eq_true c4
   clear c4
   obtain rfl := Option.some.inj H
   go_enter Try.func6, Try.ntmps6
   go_wp2_with (first | ((with_reducible refine gate_dst (N := 2) rfl ?_); refine be 2 #[.int .i64 a0_0, .slice A0_1 l0_1.length c0_1] 24 ?_; intro gb112 hg w5 hbox hb; have n0_ := q0 (below_step (qb HB.out) hb); have n1_ := q0 (hbox); have n2_ := q0 ((bs HB.out hg : w.heap.size ≤ gb112)); have n3_ := q0 ((bs HB.out hg : w.heap.size ≤ gb112)); clear HB; have HB := n0_; have BK112 := n1_; have GW112 := n2_; have GE112 := n3_; clear n0_ n1_ n2_ n3_ hb hbox hg; have hcz6_0 : w5.cell? ⟨gb112, 0, none⟩ = some (.int .i64 a0_0) := (blk_cell BK112.out 0).trans rfl; have hcz6_1 : w5.cell? ⟨gb112, 1, none⟩ = some (.slice A0_1 l0_1.length c0_1) := (blk_cell BK112.out 1).trans rfl; have hfz6_0 := blk_frozen BK112.out 0; have hfz6_1 := blk_frozen BK112.out 1) | ((with_reducible refine gate_callee (f := 13) rfl ?_); refine goesL_ (some 12) rfl rfl Try.func13 (by kernel_rfl) rfl #[.agg #[.int .i64 a0_0, .slice A0_1 l0_1.length c0_1], .int .i64 1048576] rfl qm ?_; (with_reducible refine (laws_szNet.calls a0_0 _ _ l0_1 1048576 t100 _ ?side1 ?side2 A3.out).mono ?_); (case side1 => exact qc (Kd.C_below HR0_1.out HB.out)); (case side2 => exact HC0_1.out); rintro e w7 ⟨rfl, hb⟩; refine ⟨_, rfl, ?_⟩; have n0_ := q0 (kb BK112.out hb); have n1_ := q0 (below_step (qb HB.out) hb); clear BK112 HB; have BK112 := n0_; have HB := n1_; clear n0_ n1_; (try clear hb); (try clear hb2); (try clear hk); (try clear hi)))
   go_ret
   exact ⟨qe, qb HB.out⟩
 rw [if_neg c4] at H
 have c4b0 : decide (t100 < 0) = false := decide_eq_false c4
 clear c4
 replace H := Option.bind_eq_some_iff.mp H
 obtain ⟨t101, A80, H⟩ := H
 replace H : (if t101 < 0 then (some true) else ((laws_toNet.f k a0_0 l0_1).bind fun bt102 => ((laws_toTieS.f k l1).bind fun t103 => ((spec_TreeOk.f k bt102.1 bt102.2 t103).bind fun t104 => ((laws_toNet.f k a0_0 l0_1).bind fun bt105 => ((laws_toTieS.f k l1).bind fun t106 => ((impl_TreeOk.f k bt105.1 bt105.2 t106).bind fun t107 => (if (t107 != t104) = true then (some false) else ((laws_toNet.f k a0_0 l0_1).bind fun bt108 => ((laws_eqNet.f k bt105.1 bt105.2 bt108.1 bt108.2).bind fun t109 => (if t109 = true then ((laws_toTieS.f k l1).bind fun t110 => ((laws_eqTieS.f k t106 t110).bind fun t111 => (if t111 = true then (some true) else (some false)))) else (some false)))))))))))) = some r := H
 have A8 := Aside0.mk A80
 clear A80
 by_cases c9 : t101 < 0
 · rw [if_pos c9] at H
   have c9b0 : decide (t101 < 0) = true := decide_eq_true c9
   clear c9
   obtain rfl := Option.some.inj H
   go_enter Try.func6, Try.ntmps6
   go_wp2_with (first | ((with_reducible refine gate_dst (N := 2) rfl ?_); refine be 2 #[.int .i64 a0_0, .slice A0_1 l0_1.length c0_1] 24 ?_; intro gb112 hg w10 hbox hb; have n0_ := q0 (below_step (qb HB.out) hb); have n1_ := q0 (hbox); have n2_ := q0 ((bs HB.out hg : w.heap.size ≤ gb112)); have n3_ := q0 ((bs HB.out hg : w.heap.size ≤ gb112)); clear HB; have HB := n0_; have BK112 := n1_; have GW112 := n2_; have GE112 := n3_; clear n0_ n1_ n2_ n3_ hb hbox hg; have hcz11_0 : w10.cell? ⟨gb112, 0, none⟩ = some (.int .i64 a0_0) := (blk_cell BK112.out 0).trans rfl; have hcz11_1 : w10.cell? ⟨gb112, 1, none⟩ = some (.slice A0_1 l0_1.length c0_1) := (blk_cell BK112.out 1).trans rfl; have hfz11_0 := blk_frozen BK112.out 0; have hfz11_1 := blk_frozen BK112.out 1) | ((with_reducible refine gate_callee (f := 13) rfl ?_); refine goesL_ (some 12) rfl rfl Try.func13 (by kernel_rfl) rfl #[.agg #[.int .i64 a0_0, .slice A0_1 l0_1.length c0_1], .int .i64 1048576] rfl qm ?_; (with_reducible refine (laws_szNet.calls a0_0 _ _ l0_1 1048576 t100 _ ?side1 ?side2 A3.out).mono ?_); (case side1 => exact qc (Kd.C_below HR0_1.out HB.out)); (case side2 => exact HC0_1.out); rintro e w12 ⟨rfl, hb⟩; refine ⟨_, rfl, ?_⟩; have n0_ := q0 (kb BK112.out hb); have n1_ := q0 (below_step (qb HB.out) hb); clear BK112 HB; have BK112 := n0_; have HB := n1_; clear n0_ n1_; (try clear hb); (try clear hb2); (try clear hk); (try clear hi)) | ((with_reducible refine gate_callee (f := 26) rfl ?_); refine goesL_ (some 17) rfl rfl Try.func26 (by kernel_rfl) rfl #[.slice A1 l1.length c1, .int .i64 t100] rfl qm ?_; (with_reducible refine (laws_szTieS.calls _ _ l1 t100 t101 _ ?side1 ?side2 A8.out).mono ?_); (case side1 => exact qc (Kd.C_below HR1.out HB.out)); (case side2 => exact HC1.out); rintro e w' ⟨rfl, ⟨nd, rfl⟩⟩; refine ⟨_, rfl, ?_⟩))
   go_ret
   exact ⟨qe, qb HB.out⟩
 rw [if_neg c9] at H
 have c9b0 : decide (t101 < 0) = false := decide_eq_false c9
 clear c9
 replace H := Option.bind_eq_some_iff.mp H
 obtain ⟨⟨t102, t113⟩, A114, H⟩ := H
 replace H : ((laws_toTieS.f k l1).bind fun t103 => ((spec_TreeOk.f k t102 t113 t103).bind fun t104 => ((laws_toNet.f k a0_0 l0_1).bind fun bt105 => ((laws_toTieS.f k l1).bind fun t106 => ((impl_TreeOk.f k bt105.1 bt105.2 t106).bind fun t107 => (if (t107 != t104) = true then (some false) else ((laws_toNet.f k a0_0 l0_1).bind fun bt108 => ((laws_eqNet.f k bt105.1 bt105.2 bt108.1 bt108.2).bind fun t109 => (if t109 = true then ((laws_toTieS.f k l1).bind fun t110 => ((laws_eqTieS.f k t106 t110).bind fun t111 => (if t111 = true then (some true) else (some false)))) else (some false)))))))))) = some r := H
 have A13 := Aside0.mk A114
 clear A114
 replace H := Option.bind_eq_some_iff.mp H
 obtain ⟨t103, A115, H⟩ := H
 replace H : ((spec_TreeOk.f k t102 t113 t103).bind fun t104 => ((laws_toNet.f k a0_0 l0_1).bind fun bt105 => ((laws_toTieS.f k l1).bind fun t106 => ((impl_TreeOk.f k bt105.1 bt105.2 t106).bind fun t107 => (if (t107 != t104) = true then (some false) else ((laws_toNet.f k a0_0 l0_1).bind fun bt108 => ((laws_eqNet.f k bt105.1 bt105.2 bt108.1 bt108.2).bind fun t109 => (if t109 = true then ((laws_toTieS.f k l1).bind fun t110 => ((laws_eqTieS.f k t106 t110).bind fun t111 => (if t111 = true then (some true) else (some false)))) else (some false))))))))) = some r := H
 have A14 := Aside0.mk A115
 clear A115
 replace H := Option.bind_eq_some_iff.mp H
 obtain ⟨t104, A116, H⟩ := H
 replace H : ((laws_toNet.f k a0_0 l0_1).bind fun bt105 => ((laws_toTieS.f k l1).bind fun t106 => ((impl_TreeOk.f k bt105.1 bt105.2 t106).bind fun t107 => (if (t107 != t104) = true then (some false) else ((laws_toNet.f k a0_0 l0_1).bind fun bt108 => ((laws_eqNet.f k bt105.1 bt105.2 bt108.1 bt108.2).bind fun t109 => (if t109 = true then ((laws_toTieS.f k l1).bind fun t110 => ((laws_eqTieS.f k t106 t110).bind fun t111 => (if t111 = true then (some true) else (some false)))) else (some false)))))))) = some r := H
 have A15 := Aside0.mk A116
 clear A116
 replace H := Option.bind_eq_some_iff.mp H
 obtain ⟨⟨t105, t117⟩, A118, H⟩ := H
 replace H : ((laws_toTieS.f k l1).bind fun t106 => ((impl_TreeOk.f k t105 t117 t106).bind fun t107 => (if (t107 != t104) = true then (some false) else ((laws_toNet.f k a0_0 l0_1).bind fun bt108 => ((laws_eqNet.f k t105 t117 bt108.1 bt108.2).bind fun t109 => (if t109 = true then ((laws_toTieS.f k l1).bind fun t110 => ((laws_eqTieS.f k t106 t110).bind fun t111 => (if t111 = true then (some true) else (some false)))) else (some false))))))) = some r := H
 have A16 := Aside0.mk A118
 clear A118
 replace H := Option.bind_eq_some_iff.mp H
 obtain ⟨t106, A119, H⟩ := H
 replace H : ((impl_TreeOk.f k t105 t117 t106).bind fun t107 => (if (t107 != t104) = true then (some false) else ((laws_toNet.f k a0_0 l0_1).bind fun bt108 => ((laws_eqNet.f k t105 t117 bt108.1 bt108.2).bind fun t109 => (if t109 = true then ((laws_toTieS.f k l1).bind fun t110 => ((laws_eqTieS.f k t106 t110).bind fun t111 => (if t111 = true then (some true) else (some false)))) else (some false)))))) = some r := H
 have A17 := Aside0.mk A119
 clear A119
 replace H := Option.bind_eq_some_iff.mp H
 obtain ⟨t107, A120, H⟩ := H
 replace H : (if (t107 != t104) = true then (some false) else ((laws_toNet.f k a0_0 l0_1).bind fun bt108 => ((laws_eqNet.f k t105 t117 bt108.1 bt108.2).bind fun t109 => (if t109 = true then ((laws_toTieS.f k l1).bind fun t110 => ((laws_eqTieS.f k t106 t110).bind fun t111 => (if t111 = true then (some true) else (some false)))) else (some false))))) = some r := H
 have A18 := Aside0.mk A120
 clear A120
 by_cases c19 : (t107 != t104) = true
 · rw [if_pos c19] at H
   have c19b0 : (t107 != t104) = true := c19
   (try (have c19b1 : decide (t107 = t104) = false := by simpa using c19))
   (try (have c19b2 : (t107 == t104) = false := by simpa using c19))
   (try (have c19b3 : ¬ (t107 = t104) := by simpa using c19))
   clear c19
   obtain rfl := Option.some.inj H
   go_enter Try.func6, Try.ntmps6
   go_wp2_with (first | ((with_reducible refine gate_dst (N := 2) rfl ?_); refine be 2 #[.int .i64 a0_0, .slice A0_1 l0_1.length c0_1] 24 ?_; intro gb112 hg w20 hbox hb; have n0_ := q0 (below_step (qb HB.out) hb); have n1_ := q0 (hbox); have n2_ := q0 ((bs HB.out hg : w.heap.size ≤ gb112)); have n3_ := q0 ((bs HB.out hg : w.heap.size ≤ gb112)); clear HB; have HB := n0_; have BK112 := n1_; have GW112 := n2_; have GE112 := n3_; clear n0_ n1_ n2_ n3_ hb hbox hg; have hcz21_0 : w20.cell? ⟨gb112, 0, none⟩ = some (.int .i64 a0_0) := (blk_cell BK112.out 0).trans rfl; have hcz21_1 : w20.cell? ⟨gb112, 1, none⟩ = some (.slice A0_1 l0_1.length c0_1) := (blk_cell BK112.out 1).trans rfl; have hfz21_0 := blk_frozen BK112.out 0; have hfz21_1 := blk_frozen BK112.out 1) | ((with_reducible refine gate_callee (f := 13) rfl ?_); refine goesL_ (some 12) rfl rfl Try.func13 (by kernel_rfl) rfl #[.agg #[.int .i64 a0_0, .slice A0_1 l0_1.length c0_1], .int .i64 1048576] rfl qm ?_; (with_reducible refine (laws_szNet.calls a0_0 _ _ l0_1 1048576 t100 _ ?side1 ?side2 A3.out).mono ?_); (case side1 => exact qc (Kd.C_below HR0_1.out HB.out)); (case side2 => exact HC0_1.out); rintro e w22 ⟨rfl, hb⟩; refine ⟨_, rfl, ?_⟩; have n0_ := q0 (kb BK112.out hb); have n1_ := q0 (below_step (qb HB.out) hb); clear BK112 HB; have BK112 := n0_; have HB := n1_; clear n0_ n1_; (try clear hb); (try clear hb2); (try clear hk); (try clear hi)) | ((with_reducible refine gate_callee (f := 26) rfl ?_); refine goesL_ (some 17) rfl rfl Try.func26 (by kernel_rfl) rfl #[.slice A1 l1.length c1, .int .i64 t100] rfl qm ?_; (with_reducible refine (laws_szTieS.calls _ _ l1 t100 t101 _ ?side1 ?side2 A8.out).mono ?_); (case side1 => exact qc (Kd.C_below HR1.out HB.out)); (case side2 => exact HC1.out); rintro e w' ⟨rfl, ⟨nd, rfl⟩⟩; refine ⟨_, rfl, ?_⟩; (try (rw [drewN_self w22]; generalize hq_ : World.drewN w22 _ = w22; have n0_ : Aside0 (w22.heap[gb112]? = some (.cells #[.int .i64 a0_0, .slice A0_1 l0_1.length c0_1] 24 (0, 0))) := ⟨by rw [← hq_]; exact (qk BK112.out)⟩; have n1_ : Aside0 (Below w.heap.size w w22) := ⟨by rw [← hq_]; exact (qb HB.out)⟩; clear BK112 HB hq_; have BK112 := n0_; have HB := n1_; clear n0_ n1_)); have hcz23_0 : w22.cell? ⟨gb112, 0, none⟩ = some (.int .i64 a0_0) := (blk_cell BK112.out 0).trans rfl; have hcz23_1 : w22.cell? ⟨gb112, 1, none⟩ = some (.slice A0_1 l0_1.length c0_1) := (blk_cell BK112.out 1).trans rfl; have hfz23_0 := blk_frozen BK112.out 0; have hfz23_1 := blk_frozen BK112.out 1) | ((with_reducible refine gate_callee (f := 15) rfl ?_); refine goesL_ (some 21) rfl rfl Try.func15 (by kernel_rfl) rfl #[.agg #[.int .i64 a0_0, .slice A0_1 l0_1.length c0_1]] rfl qm ?_; (with_reducible refine (laws_toNet.calls k a0_0 _ _ l0_1 t102 t113 _ ?side1 ?side2 A13.out).mono ?_); (case side1 => exact qc (Kd.C_below HR0_1.out HB.out)); (case side2 => exact HC0_1.out); rintro e w24 ⟨v121, rfl, ho0, hb⟩; refine ⟨_, rfl, ?_⟩; have n0_ := q0 (Kd.R_lower ho0 (below_size (qb HB.out))); have n1_ := q0 (kb BK112.out hb); have n2_ := q0 (below_step (qb HB.out) hb); clear BK112 HB; have HO122 := n0_; have BK112 := n1_; have HB := n2_; clear n0_ n1_ n2_; (try clear hb); (try clear hb2); (try clear hk); (try clear hi); (try clear ho0)) | ((with_reducible refine gate_callee (f := 28) rfl ?_); refine goesL_ (some 23) rfl rfl Try.func28 (by kernel_rfl) rfl #[.slice A1 l1.length c1] rfl qm ?_; (with_reducible refine (laws_toTieS.calls k _ _ l1 t103 _ ?side1 ?side2 A14.out).mono ?_); (case side1 => exact qc (Kd.C_below HR1.out HB.out)); (case side2 => exact HC1.out); rintro e w25 ⟨v123, rfl, ho0, hb⟩; refine ⟨_, rfl, ?_⟩; have n0_ := q0 (Kd.R_elder' (qr HO122.out) (Kd.R_base ho0) hb); have n1_ := q0 (Kd.R_lower (Kd.R_new' ho0 (Kd.R_lt (qr HO122.out))) (below_size (qb HB.out))); have n2_ := q0 (kb BK112.out hb); have n3_ := q0 (below_step (qb HB.out) hb); clear HO122 BK112 HB; have HO122 := n0_; have HO124 := n1_; have BK112 := n2_; have HB := n3_; clear n0_ n1_ n2_ n3_; (try clear hb); (try clear hb2); (try clear hk); (try clear hi); (try clear ho0); obtain ⟨Ao26, co26, eo26⟩ := Kd.R_slice HO122.out; subst eo26; obtain ⟨Ao27, co27, eo27⟩ := Kd.R_slice HO124.out; subst eo27) | ((with_reducible refine gate_callee (f := 27) rfl ?_); refine goesL_ (some 24) rfl rfl Try.func27 (by kernel_rfl) rfl #[.agg #[.int .i64 t102, .slice Ao26 t113.length co26], .slice Ao27 t103.length co27] rfl qm ?_; (with_reducible refine (spec_TreeOk.calls k t102 _ _ t113 _ _ t103 t104 _ ?side1 ?side2 ?side3 ?side4 A15.out).mono ?_); (case side1 => exact qc (Kd.R_reads' HO122.out).2.2); (case side2 => exact (Kd.R_reads' HO122.out).2.1); (case side3 => exact qc (Kd.R_reads' HO124.out).2.2); (case side4 => exact (Kd.R_reads' HO124.out).2.1); rintro e w28 ⟨rfl, hb⟩; refine ⟨_, rfl, ?_⟩; have n0_ := q0 (Kd.R_below (qr HO122.out) hb); have n1_ := q0 (Kd.R_below (qr HO124.out) hb); have n2_ := q0 (kb BK112.out hb); have n3_ := q0 (below_step (qb HB.out) hb); clear HO122 HO124 BK112 HB; have HO122 := n0_; have HO124 := n1_; have BK112 := n2_; have HB := n3_; clear n0_ n1_ n2_ n3_; (try clear hb); (try clear hb2); (try clear hk); (try clear hi); have hcz29_0 : w28.cell? ⟨gb112, 0, none⟩ = some (.int .i64 a0_0) := (blk_cell BK112.out 0).trans rfl; have hcz29_1 : w28.cell? ⟨gb112, 1, none⟩ = some (.slice A0_1 l0_1.length c0_1) := (blk_cell BK112.out 1).trans rfl; have hfz29_0 := blk_frozen BK112.out 0; have hfz29_1 := blk_frozen BK112.out 1) | ((with_reducible refine gate_callee (f := 15) rfl ?_); refine goesL_ (some 26) rfl rfl Try.func15 (by kernel_rfl) rfl #[.agg #[.int .i64 a0_0, .slice A0_1 l0_1.length c0_1]] rfl qm ?_; (with_reducible refine (laws_toNet.calls k a0_0 _ _ l0_1 t105 t117 _ ?side1 ?side2 A16.out).mono ?_); (case side1 => exact qc (Kd.C_below HR0_1.out HB.out)); (case side2 => exact HC0_1.out); rintro e w30 ⟨v125, rfl, ho0, hb⟩; refine ⟨_, rfl, ?_⟩; have n0_ := q0 (Kd.R_elder' (qr HO122.out) (Kd.R_base ho0) hb); have n1_ := q0 (Kd.R_elder' (qr HO124.out) (Kd.R_base ho0) hb); have n2_ := q0 (Kd.R_lower (Kd.R_new' (Kd.R_new' ho0 (Kd.R_lt (qr HO122.out))) (Kd.R_lt (qr HO124.out))) (below_size (qb HB.out))); have n3_ := q0 (kb BK112.out hb); have n4_ := q0 (below_step (qb HB.out) hb); clear HO122 HO124 BK112 HB; have HO122 := n0_; have HO124 := n1_; have HO126 := n2_; have BK112 := n3_; have HB := n4_; clear n0_ n1_ n2_ n3_ n4_; (try clear hb); (try clear hb2); (try clear hk); (try clear hi); (try clear ho0)) | ((with_reducible refine gate_dst (N := 7) rfl ?_); refine be 7 #[.int .i64 0, .slice none 0 0] 30 ?_; intro gb127 hg w31 hbox hb; have n0_ := q0 (Kd.R_below (qr HO122.out) hb); have n1_ := q0 (Kd.R_below (qr HO124.out) hb); have n2_ := q0 (Kd.R_below (qr HO126.out) hb); have n3_ := q0 (kb BK112.out hb); have n4_ := q0 (below_step (qb HB.out) hb); have n5_ := q0 (hbox); have n6_ := q0 ((bs HB.out hg : w.heap.size ≤ gb127)); have n7_ := q0 ((bs HB.out hg : w.heap.size ≤ gb127)); have n8_ := q0 ((bl BK112.out hg : gb112 ≠ gb127)); have n9_ := q0 ((bg BK112.out hg : gb127 ≠ gb112)); clear HO122 HO124 HO126 BK112 HB; have HO122 := n0_; have HO124 := n1_; have HO126 := n2_; have BK112 := n3_; have HB := n4_; have BK127 := n5_; have GW127 := n6_; have GE127 := n7_; have NB112_127 := n8_; have NB127_112 := n9_; clear n0_ n1_ n2_ n3_ n4_ n5_ n6_ n7_ n8_ n9_ hb hbox hg; have hnb32 := NB127_112.out; have hnc32 := NB112_127.out; have hcz33_0 : w31.cell? ⟨gb127, 0, none⟩ = some (.int .i64 0) := (blk_cell BK127.out 0).trans rfl; have hcz33_1 : w31.cell? ⟨gb127, 1, none⟩ = some (.slice none 0 0) := (blk_cell BK127.out 1).trans rfl; have hfz33_0 := blk_frozen BK127.out 0; have hfz33_1 := blk_frozen BK127.out 1; obtain ⟨Ao34, co34, eo34⟩ := Kd.R_slice HO126.out; subst eo34) | ((with_reducible refine gate_callee (f := 28) rfl ?_); refine goesL_ (some 28) rfl rfl Try.func28 (by kernel_rfl) rfl #[.slice A1 l1.length c1] rfl qm ?_; (with_reducible refine (laws_toTieS.calls k _ _ l1 t106 _ ?side1 ?side2 A17.out).mono ?_); (case side1 => exact Kd.C_below HR1.out (qb HB.out)); (case side2 => exact HC1.out); rintro e w35 ⟨v128, rfl, ho0, hb⟩; refine ⟨_, rfl, ?_⟩; have n0_ := q0 (Kd.R_elder' (by (with_reducible repeat (first | apply Kd.R_alloc | apply Kd.R_drewN | apply Kd.R_drew)); exact (Kd.R_mono (Kd.R_far (p := ⟨gb127, 1, none⟩) (Kd.R_far (p := ⟨gb127, 0, none⟩) (Kd.R_types HO122.out BK127.out (by decide)) (fun _ hk => hk.2) (.int .i64 t105)) (fun _ hk => hk.2) (.slice Ao34 t117.length co34)) (fun _ h_ => h_.1))) (Kd.R_base ho0) hb); have n1_ := q0 (Kd.R_elder' (by (with_reducible repeat (first | apply Kd.R_alloc | apply Kd.R_drewN | apply Kd.R_drew)); exact (Kd.R_mono (Kd.R_far (p := ⟨gb127, 1, none⟩) (Kd.R_far (p := ⟨gb127, 0, none⟩) (Kd.R_types HO124.out BK127.out (by decide)) (fun _ hk => hk.2) (.int .i64 t105)) (fun _ hk => hk.2) (.slice Ao34 t117.length co34)) (fun _ h_ => h_.1))) (Kd.R_base ho0) hb); have n2_ := q0 (Kd.R_elder' (by (with_reducible repeat (first | apply Kd.R_alloc | apply Kd.R_drewN | apply Kd.R_drew)); exact (Kd.R_mono (Kd.R_far (p := ⟨gb127, 1, none⟩) (Kd.R_far (p := ⟨gb127, 0, none⟩) (Kd.R_types HO126.out BK127.out (by decide)) (fun _ hk => hk.2) (.int .i64 t105)) (fun _ hk => hk.2) (.slice Ao34 t117.length co34)) (fun _ h_ => h_.1))) (Kd.R_base ho0) hb); have n3_ := q0 (Kd.R_lower (Kd.R_new' (Kd.R_new' (Kd.R_new' ho0 (Kd.R_lt (by (with_reducible repeat (first | apply Kd.R_alloc | apply Kd.R_drewN | apply Kd.R_drew)); exact (Kd.R_mono (Kd.R_far (p := ⟨gb127, 1, none⟩) (Kd.R_far (p := ⟨gb127, 0, none⟩) (Kd.R_types HO122.out BK127.out (by decide)) (fun _ hk => hk.2) (.int .i64 t105)) (fun _ hk => hk.2) (.slice Ao34 t117.length co34)) (fun _ h_ => h_.1))))) (Kd.R_lt (by (with_reducible repeat (first | apply Kd.R_alloc | apply Kd.R_drewN | apply Kd.R_drew)); exact (Kd.R_mono (Kd.R_far (p := ⟨gb127, 1, none⟩) (Kd.R_far (p := ⟨gb127, 0, none⟩) (Kd.R_types HO124.out BK127.out (by decide)) (fun _ hk => hk.2) (.int .i64 t105)) (fun _ hk => hk.2) (.slice Ao34 t117.length co34)) (fun _ h_ => h_.1))))) (Kd.R_lt (by (with_reducible repeat (first | apply Kd.R_alloc | apply Kd.R_drewN | apply Kd.R_drew)); exact (Kd.R_mono (Kd.R_far (p := ⟨gb127, 1, none⟩) (Kd.R_far (p := ⟨gb127, 0, none⟩) (Kd.R_types HO126.out BK127.out (by decide)) (fun _ hk => hk.2) (.int .i64 t105)) (fun _ hk => hk.2) (.slice Ao34 t117.length co34)) (fun _ h_ => h_.1))))) (below_size (qb HB.out))); have n4_ := q0 (blk_below (g := gb112) (o := .cells #[.int .i64 a0_0, .slice A0_1 l0_1.length c0_1] 24 (0, 0)) (qf BK112.out) hb); have n5_ := q0 (blk_below (g := gb127) (o := .cells #[.int .i64 t105, .slice Ao34 t117.length co34] 30 (0, 0)) (by (with_reducible repeat (first | refine blk_drewN ?_ _ | refine blk_drew ?_ | refine blk_alloc ?_ _)); refine blk_put (cs := #[.int .i64 t105, .slice none 0 0]) ?_ 1 _ rfl; (with_reducible repeat (first | refine blk_drewN ?_ _ | refine blk_drew ?_ | refine blk_alloc ?_ _)); refine blk_put (cs := #[.int .i64 0, .slice none 0 0]) ?_ 0 _ rfl; (with_reducible repeat (first | refine blk_drewN ?_ _ | refine blk_drew ?_ | refine blk_alloc ?_ _)); exact BK127.out) hb); have n6_ := q0 (below_step (qb HB.out) hb); clear HO122 HO124 HO126 BK112 BK127 HB; have HO122 := n0_; have HO124 := n1_; have HO126 := n2_; have HO129 := n3_; have BK112 := n4_; have BK127 := n5_; have HB := n6_; clear n0_ n1_ n2_ n3_ n4_ n5_ n6_; (try clear hb); (try clear hb2); (try clear hk); (try clear hi); (try clear ho0); have hcz36_0 : w35.cell? ⟨gb127, 0, none⟩ = some (.int .i64 t105) := (blk_cell BK127.out 0).trans rfl; have hcz36_1 : w35.cell? ⟨gb127, 1, none⟩ = some (.slice Ao34 t117.length co34) := (blk_cell BK127.out 1).trans rfl; have hfz36_0 := blk_frozen BK127.out 0; have hfz36_1 := blk_frozen BK127.out 1; obtain ⟨Ao37, co37, eo37⟩ := Kd.R_slice HO129.out; subst eo37) | ((with_reducible refine gate_callee (f := 29) rfl ?_); refine goesL_ (some 31) rfl rfl Try.func29 (by kernel_rfl) rfl #[.agg #[.int .i64 t105, .slice Ao34 t117.length co34], .slice Ao37 t106.length co37] rfl qm ?_; (with_reducible refine (impl_TreeOk.calls k t105 _ _ t117 _ _ t106 t107 _ ?side1 ?side2 ?side3 ?side4 A18.out).mono ?_); (case side1 => exact qc (Kd.R_reads' HO126.out).2.2); (case side2 => exact (Kd.R_reads' HO126.out).2.1); (case side3 => exact qc (Kd.R_reads' HO129.out).2.2); (case side4 => exact (Kd.R_reads' HO129.out).2.1); rintro e w38 ⟨rfl, hb⟩; refine ⟨_, rfl, ?_⟩; have n0_ := q0 (Kd.R_below (qr HO122.out) hb); have n1_ := q0 (Kd.R_below (qr HO124.out) hb); have n2_ := q0 (Kd.R_below (qr HO126.out) hb); have n3_ := q0 (Kd.R_below (qr HO129.out) hb); have n4_ := q0 (kb BK112.out hb); have n5_ := q0 (kb BK127.out hb); have n6_ := q0 (below_step (qb HB.out) hb); clear HO122 HO124 HO126 HO129 BK112 BK127 HB; have HO122 := n0_; have HO124 := n1_; have HO126 := n2_; have HO129 := n3_; have BK112 := n4_; have BK127 := n5_; have HB := n6_; clear n0_ n1_ n2_ n3_ n4_ n5_ n6_; (try clear hb); (try clear hb2); (try clear hk); (try clear hi)))
   go_ret
   exact ⟨qe, qb HB.out⟩
 rw [if_neg c19] at H
 have c19b0 : (t107 != t104) = false := by simpa using c19
 (try (have c19b1 : decide (t107 = t104) = true := by simpa using c19))
 (try (have c19b2 : (t107 == t104) = true := by simpa using c19))
 clear c19
 replace H := Option.bind_eq_some_iff.mp H
 obtain ⟨⟨t108, t130⟩, A131, H⟩ := H
 replace H : ((laws_eqNet.f k t105 t117 t108 t130).bind fun t109 => (if t109 = true then ((laws_toTieS.f k l1).bind fun t110 => ((laws_eqTieS.f k t106 t110).bind fun t111 => (if t111 = true then (some true) else (some false)))) else (some false))) = some r := H
 have A39 := Aside0.mk A131
 clear A131
 replace H := Option.bind_eq_some_iff.mp H
 obtain ⟨t109, A132, H⟩ := H
 replace H : (if t109 = true then ((laws_toTieS.f k l1).bind fun t110 => ((laws_eqTieS.f k t106 t110).bind fun t111 => (if t111 = true then (some true) else (some false)))) else (some false)) = some r := H
 have A40 := Aside0.mk A132
 clear A132
 by_cases c41 : t109 = true
 rotate_left
 · replace c41 := Bool.eq_false_iff.mpr c41
   subst c41
   have H1 : (some false) = some r := by rw [if_neg (show ¬ (false = true) by decide)] at H; exact H
   clear H
   have H := H1
   clear H1
   obtain rfl := Option.some.inj H
   go_enter Try.func6, Try.ntmps6
   try go_wp2_with (first | ((with_reducible refine gate_dst (N := 2) rfl ?_); refine be 2 #[.int .i64 a0_0, .slice A0_1 l0_1.length c0_1] 24 ?_; intro gb112 hg w97 hbox hb; have n0_ := q0 (below_step (qb HB.out) hb); have n1_ := q0 (hbox); have n2_ := q0 ((bs HB.out hg : w.heap.size ≤ gb112)); have n3_ := q0 ((bs HB.out hg : w.heap.size ≤ gb112)); clear HB; have HB := n0_; have BK112 := n1_; have GW112 := n2_; have GE112 := n3_; clear n0_ n1_ n2_ n3_ hb hbox hg; have hcz98_0 : w97.cell? ⟨gb112, 0, none⟩ = some (.int .i64 a0_0) := (blk_cell BK112.out 0).trans rfl; have hcz98_1 : w97.cell? ⟨gb112, 1, none⟩ = some (.slice A0_1 l0_1.length c0_1) := (blk_cell BK112.out 1).trans rfl; have hfz98_0 := blk_frozen BK112.out 0; have hfz98_1 := blk_frozen BK112.out 1) | ((with_reducible refine gate_callee (f := 13) rfl ?_); refine goesL_ (some 12) rfl rfl Try.func13 (by kernel_rfl) rfl #[.agg #[.int .i64 a0_0, .slice A0_1 l0_1.length c0_1], .int .i64 1048576] rfl qm ?_; (with_reducible refine (laws_szNet.calls a0_0 _ _ l0_1 1048576 t100 _ ?side1 ?side2 A3.out).mono ?_); (case side1 => exact qc (Kd.C_below HR0_1.out HB.out)); (case side2 => exact HC0_1.out); rintro e w99 ⟨rfl, hb⟩; refine ⟨_, rfl, ?_⟩; have n0_ := q0 (kb BK112.out hb); have n1_ := q0 (below_step (qb HB.out) hb); clear BK112 HB; have BK112 := n0_; have HB := n1_; clear n0_ n1_; (try clear hb); (try clear hb2); (try clear hk); (try clear hi)) | ((with_reducible refine gate_callee (f := 26) rfl ?_); refine goesL_ (some 17) rfl rfl Try.func26 (by kernel_rfl) rfl #[.slice A1 l1.length c1, .int .i64 t100] rfl qm ?_; (with_reducible refine (laws_szTieS.calls _ _ l1 t100 t101 _ ?side1 ?side2 A8.out).mono ?_); (case side1 => exact qc (Kd.C_below HR1.out HB.out)); (case side2 => exact HC1.out); rintro e w' ⟨rfl, ⟨nd, rfl⟩⟩; refine ⟨_, rfl, ?_⟩; (try (rw [drewN_self w99]; generalize hq_ : World.drewN w99 _ = w99; have n0_ : Aside0 (w99.heap[gb112]? = some (.cells #[.int .i64 a0_0, .slice A0_1 l0_1.length c0_1] 24 (0, 0))) := ⟨by rw [← hq_]; exact (qk BK112.out)⟩; have n1_ : Aside0 (Below w.heap.size w w99) := ⟨by rw [← hq_]; exact (qb HB.out)⟩; clear BK112 HB hq_; have BK112 := n0_; have HB := n1_; clear n0_ n1_)); have hcz139_0 : w99.cell? ⟨gb112, 0, none⟩ = some (.int .i64 a0_0) := (blk_cell BK112.out 0).trans rfl; have hcz139_1 : w99.cell? ⟨gb112, 1, none⟩ = some (.slice A0_1 l0_1.length c0_1) := (blk_cell BK112.out 1).trans rfl; have hfz139_0 := blk_frozen BK112.out 0; have hfz139_1 := blk_frozen BK112.out 1) | ((with_reducible refine gate_callee (f := 15) rfl ?_); refine goesL_ (some 21) rfl rfl Try.func15 (by kernel_rfl) rfl #[.agg #[.int .i64 a0_0, .slice A0_1 l0_1.length c0_1]] rfl qm ?_; (with_reducible refine (laws_toNet.calls k a0_0 _ _ l0_1 t102 t113 _ ?side1 ?side2 A13.out).mono ?_); (case side1 => exact qc (Kd.C_below HR0_1.out HB.out)); (case side2 => exact HC0_1.out); rintro e w140 ⟨v121, rfl, ho0, hb⟩; refine ⟨_, rfl, ?_⟩; have n0_ := q0 (Kd.R_lower ho0 (below_size (qb HB.out))); have n1_ := q0 (kb BK112.out hb); have n2_ := q0 (below_step (qb HB.out) hb); clear BK112 HB; have HO122 := n0_; have BK112 := n1_; have HB := n2_; clear n0_ n1_ n2_; (try clear hb); (try clear hb2); (try clear hk); (try clear hi); (try clear ho0)) | ((with_reducible refine gate_callee (f := 28) rfl ?_); refine goesL_ (some 23) rfl rfl Try.func28 (by kernel_rfl) rfl #[.slice A1 l1.length c1] rfl qm ?_; (with_reducible refine (laws_toTieS.calls k _ _ l1 t103 _ ?side1 ?side2 A14.out).mono ?_); (case side1 => exact qc (Kd.C_below HR1.out HB.out)); (case side2 => exact HC1.out); rintro e w141 ⟨v123, rfl, ho0, hb⟩; refine ⟨_, rfl, ?_⟩; have n0_ := q0 (Kd.R_elder' (qr HO122.out) (Kd.R_base ho0) hb); have n1_ := q0 (Kd.R_lower (Kd.R_new' ho0 (Kd.R_lt (qr HO122.out))) (below_size (qb HB.out))); have n2_ := q0 (kb BK112.out hb); have n3_ := q0 (below_step (qb HB.out) hb); clear HO122 BK112 HB; have HO122 := n0_; have HO124 := n1_; have BK112 := n2_; have HB := n3_; clear n0_ n1_ n2_ n3_; (try clear hb); (try clear hb2); (try clear hk); (try clear hi); (try clear ho0); obtain ⟨Ao142, co142, eo142⟩ := Kd.R_slice HO122.out; subst eo142; obtain ⟨Ao143, co143, eo143⟩ := Kd.R_slice HO124.out; subst eo143) | ((with_reducible refine gate_callee (f := 27) rfl ?_); refine goesL_ (some 24) rfl rfl Try.func27 (by kernel_rfl) rfl #[.agg #[.int .i64 t102, .slice Ao142 t113.length co142], .slice Ao143 t103.length co143] rfl qm ?_; (with_reducible refine (spec_TreeOk.calls k t102 _ _ t113 _ _ t103 t104 _ ?side1 ?side2 ?side3 ?side4 A15.out).mono ?_); (case side1 => exact qc (Kd.R_reads' HO122.out).2.2); (case side2 => exact (Kd.R_reads' HO122.out).2.1); (case side3 => exact qc (Kd.R_reads' HO124.out).2.2); (case side4 => exact (Kd.R_reads' HO124.out).2.1); rintro e w144 ⟨rfl, hb⟩; refine ⟨_, rfl, ?_⟩; have n0_ := q0 (Kd.R_below (qr HO122.out) hb); have n1_ := q0 (Kd.R_below (qr HO124.out) hb); have n2_ := q0 (kb BK112.out hb); have n3_ := q0 (below_step (qb HB.out) hb); clear HO122 HO124 BK112 HB; have HO122 := n0_; have HO124 := n1_; have BK112 := n2_; have HB := n3_; clear n0_ n1_ n2_ n3_; (try clear hb); (try clear hb2); (try clear hk); (try clear hi); have hcz145_0 : w144.cell? ⟨gb112, 0, none⟩ = some (.int .i64 a0_0) := (blk_cell BK112.out 0).trans rfl; have hcz145_1 : w144.cell? ⟨gb112, 1, none⟩ = some (.slice A0_1 l0_1.length c0_1) := (blk_cell BK112.out 1).trans rfl; have hfz145_0 := blk_frozen BK112.out 0; have hfz145_1 := blk_frozen BK112.out 1) | ((with_reducible refine gate_callee (f := 15) rfl ?_); refine goesL_ (some 26) rfl rfl Try.func15 (by kernel_rfl) rfl #[.agg #[.int .i64 a0_0, .slice A0_1 l0_1.length c0_1]] rfl qm ?_; (with_reducible refine (laws_toNet.calls k a0_0 _ _ l0_1 t105 t117 _ ?side1 ?side2 A16.out).mono ?_); (case side1 => exact qc (Kd.C_below HR0_1.out HB.out)); (case side2 => exact HC0_1.out); rintro e w146 ⟨v125, rfl, ho0, hb⟩; refine ⟨_, rfl, ?_⟩; have n0_ := q0 (Kd.R_elder' (qr HO122.out) (Kd.R_base ho0) hb); have n1_ := q0 (Kd.R_elder' (qr HO124.out) (Kd.R_base ho0) hb); have n2_ := q0 (Kd.R_lower (Kd.R_new' (Kd.R_new' ho0 (Kd.R_lt (qr HO122.out))) (Kd.R_lt (qr HO124.out))) (below_size (qb HB.out))); have n3_ := q0 (kb BK112.out hb); have n4_ := q0 (below_step (qb HB.out) hb); clear HO122 HO124 BK112 HB; have HO122 := n0_; have HO124 := n1_; have HO126 := n2_; have BK112 := n3_; have HB := n4_; clear n0_ n1_ n2_ n3_ n4_; (try clear hb); (try clear hb2); (try clear hk); (try clear hi); (try clear ho0)) | ((with_reducible refine gate_dst (N := 7) rfl ?_); refine be 7 #[.int .i64 0, .slice none 0 0] 30 ?_; intro gb127 hg w147 hbox hb; have n0_ := q0 (Kd.R_below (qr HO122.out) hb); have n1_ := q0 (Kd.R_below (qr HO124.out) hb); have n2_ := q0 (Kd.R_below (qr HO126.out) hb); have n3_ := q0 (kb BK112.out hb); have n4_ := q0 (below_step (qb HB.out) hb); have n5_ := q0 (hbox); have n6_ := q0 ((bs HB.out hg : w.heap.size ≤ gb127)); have n7_ := q0 ((bs HB.out hg : w.heap.size ≤ gb127)); have n8_ := q0 ((bl BK112.out hg : gb112 ≠ gb127)); have n9_ := q0 ((bg BK112.out hg : gb127 ≠ gb112)); clear HO122 HO124 HO126 BK112 HB; have HO122 := n0_; have HO124 := n1_; have HO126 := n2_; have BK112 := n3_; have HB := n4_; have BK127 := n5_; have GW127 := n6_; have GE127 := n7_; have NB112_127 := n8_; have NB127_112 := n9_; clear n0_ n1_ n2_ n3_ n4_ n5_ n6_ n7_ n8_ n9_ hb hbox hg; have hnb148 := NB127_112.out; have hnc148 := NB112_127.out; have hcz149_0 : w147.cell? ⟨gb127, 0, none⟩ = some (.int .i64 0) := (blk_cell BK127.out 0).trans rfl; have hcz149_1 : w147.cell? ⟨gb127, 1, none⟩ = some (.slice none 0 0) := (blk_cell BK127.out 1).trans rfl; have hfz149_0 := blk_frozen BK127.out 0; have hfz149_1 := blk_frozen BK127.out 1; obtain ⟨Ao150, co150, eo150⟩ := Kd.R_slice HO126.out; subst eo150) | ((with_reducible refine gate_callee (f := 28) rfl ?_); refine goesL_ (some 28) rfl rfl Try.func28 (by kernel_rfl) rfl #[.slice A1 l1.length c1] rfl qm ?_; (with_reducible refine (laws_toTieS.calls k _ _ l1 t106 _ ?side1 ?side2 A17.out).mono ?_); (case side1 => exact Kd.C_below HR1.out (qb HB.out)); (case side2 => exact HC1.out); rintro e w151 ⟨v128, rfl, ho0, hb⟩; refine ⟨_, rfl, ?_⟩; have n0_ := q0 (Kd.R_elder' (by (with_reducible repeat (first | apply Kd.R_alloc | apply Kd.R_drewN | apply Kd.R_drew)); exact (Kd.R_mono (Kd.R_far (p := ⟨gb127, 1, none⟩) (Kd.R_far (p := ⟨gb127, 0, none⟩) (Kd.R_types HO122.out BK127.out (by decide)) (fun _ hk => hk.2) (.int .i64 t105)) (fun _ hk => hk.2) (.slice Ao150 t117.length co150)) (fun _ h_ => h_.1))) (Kd.R_base ho0) hb); have n1_ := q0 (Kd.R_elder' (by (with_reducible repeat (first | apply Kd.R_alloc | apply Kd.R_drewN | apply Kd.R_drew)); exact (Kd.R_mono (Kd.R_far (p := ⟨gb127, 1, none⟩) (Kd.R_far (p := ⟨gb127, 0, none⟩) (Kd.R_types HO124.out BK127.out (by decide)) (fun _ hk => hk.2) (.int .i64 t105)) (fun _ hk => hk.2) (.slice Ao150 t117.length co150)) (fun _ h_ => h_.1))) (Kd.R_base ho0) hb); have n2_ := q0 (Kd.R_elder' (by (with_reducible repeat (first | apply Kd.R_alloc | apply Kd.R_drewN | apply Kd.R_drew)); exact (Kd.R_mono (Kd.R_far (p := ⟨gb127, 1, none⟩) (Kd.R_far (p := ⟨gb127, 0, none⟩) (Kd.R_types HO126.out BK127.out (by decide)) (fun _ hk => hk.2) (.int .i64 t105)) (fun _ hk => hk.2) (.slice Ao150 t117.length co150)) (fun _ h_ => h_.1))) (Kd.R_base ho0) hb); have n3_ := q0 (Kd.R_lower (Kd.R_new' (Kd.R_new' (Kd.R_new' ho0 (Kd.R_lt (by (with_reducible repeat (first | apply Kd.R_alloc | apply Kd.R_drewN | apply Kd.R_drew)); exact (Kd.R_mono (Kd.R_far (p := ⟨gb127, 1, none⟩) (Kd.R_far (p := ⟨gb127, 0, none⟩) (Kd.R_types HO122.out BK127.out (by decide)) (fun _ hk => hk.2) (.int .i64 t105)) (fun _ hk => hk.2) (.slice Ao150 t117.length co150)) (fun _ h_ => h_.1))))) (Kd.R_lt (by (with_reducible repeat (first | apply Kd.R_alloc | apply Kd.R_drewN | apply Kd.R_drew)); exact (Kd.R_mono (Kd.R_far (p := ⟨gb127, 1, none⟩) (Kd.R_far (p := ⟨gb127, 0, none⟩) (Kd.R_types HO124.out BK127.out (by decide)) (fun _ hk => hk.2) (.int .i64 t105)) (fun _ hk => hk.2) (.slice Ao150 t117.length co150)) (fun _ h_ => h_.1))))) (Kd.R_lt (by (with_reducible repeat (first | apply Kd.R_alloc | apply Kd.R_drewN | apply Kd.R_drew)); exact (Kd.R_mono (Kd.R_far (p := ⟨gb127, 1, none⟩) (Kd.R_far (p := ⟨gb127, 0, none⟩) (Kd.R_types HO126.out BK127.out (by decide)) (fun _ hk => hk.2) (.int .i64 t105)) (fun _ hk => hk.2) (.slice Ao150 t117.length co150)) (fun _ h_ => h_.1))))) (below_size (qb HB.out))); have n4_ := q0 (blk_below (g := gb112) (o := .cells #[.int .i64 a0_0, .slice A0_1 l0_1.length c0_1] 24 (0, 0)) (qf BK112.out) hb); have n5_ := q0 (blk_below (g := gb127) (o := .cells #[.int .i64 t105, .slice Ao150 t117.length co150] 30 (0, 0)) (by (with_reducible repeat (first | refine blk_drewN ?_ _ | refine blk_drew ?_ | refine blk_alloc ?_ _)); refine blk_put (cs := #[.int .i64 t105, .slice none 0 0]) ?_ 1 _ rfl; (with_reducible repeat (first | refine blk_drewN ?_ _ | refine blk_drew ?_ | refine blk_alloc ?_ _)); refine blk_put (cs := #[.int .i64 0, .slice none 0 0]) ?_ 0 _ rfl; (with_reducible repeat (first | refine blk_drewN ?_ _ | refine blk_drew ?_ | refine blk_alloc ?_ _)); exact BK127.out) hb); have n6_ := q0 (below_step (qb HB.out) hb); clear HO122 HO124 HO126 BK112 BK127 HB; have HO122 := n0_; have HO124 := n1_; have HO126 := n2_; have HO129 := n3_; have BK112 := n4_; have BK127 := n5_; have HB := n6_; clear n0_ n1_ n2_ n3_ n4_ n5_ n6_; (try clear hb); (try clear hb2); (try clear hk); (try clear hi); (try clear ho0); have hcz152_0 : w151.cell? ⟨gb127, 0, none⟩ = some (.int .i64 t105) := (blk_cell BK127.out 0).trans rfl; have hcz152_1 : w151.cell? ⟨gb127, 1, none⟩ = some (.slice Ao150 t117.length co150) := (blk_cell BK127.out 1).trans rfl; have hfz152_0 := blk_frozen BK127.out 0; have hfz152_1 := blk_frozen BK127.out 1; obtain ⟨Ao153, co153, eo153⟩ := Kd.R_slice HO129.out; subst eo153) | ((with_reducible refine gate_callee (f := 29) rfl ?_); refine goesL_ (some 31) rfl rfl Try.func29 (by kernel_rfl) rfl #[.agg #[.int .i64 t105, .slice Ao150 t117.length co150], .slice Ao153 t106.length co153] rfl qm ?_; (with_reducible refine (impl_TreeOk.calls k t105 _ _ t117 _ _ t106 t107 _ ?side1 ?side2 ?side3 ?side4 A18.out).mono ?_); (case side1 => exact qc (Kd.R_reads' HO126.out).2.2); (case side2 => exact (Kd.R_reads' HO126.out).2.1); (case side3 => exact qc (Kd.R_reads' HO129.out).2.2); (case side4 => exact (Kd.R_reads' HO129.out).2.1); rintro e w154 ⟨rfl, hb⟩; refine ⟨_, rfl, ?_⟩; have n0_ := q0 (Kd.R_below (qr HO122.out) hb); have n1_ := q0 (Kd.R_below (qr HO124.out) hb); have n2_ := q0 (Kd.R_below (qr HO126.out) hb); have n3_ := q0 (Kd.R_below (qr HO129.out) hb); have n4_ := q0 (kb BK112.out hb); have n5_ := q0 (kb BK127.out hb); have n6_ := q0 (below_step (qb HB.out) hb); clear HO122 HO124 HO126 HO129 BK112 BK127 HB; have HO122 := n0_; have HO124 := n1_; have HO126 := n2_; have HO129 := n3_; have BK112 := n4_; have BK127 := n5_; have HB := n6_; clear n0_ n1_ n2_ n3_ n4_ n5_ n6_; (try clear hb); (try clear hb2); (try clear hk); (try clear hi)))
   have n0_ := q0 (Kd.R_drew HO122.out)
   have n1_ := q0 (Kd.R_drew HO124.out)
   have n2_ := q0 (Kd.R_drew HO126.out)
   have n3_ := q0 (Kd.R_drew HO129.out)
   have n4_ := q0 (blk_drew BK112.out)
   have n5_ := q0 (blk_drew BK127.out)
   have n6_ := q0 (below_drew1 HB.out)
   clear HO122
   clear HO124
   clear HO126
   clear HO129
   clear BK112
   clear BK127
   clear HB
   have HO122 := n0_
   have HO124 := n1_
   have HO126 := n2_
   have HO129 := n3_
   have BK112 := n4_
   have BK127 := n5_
   have HB := n6_
   clear n0_ n1_ n2_ n3_ n4_ n5_ n6_
   refine start_ (n := 5) (S := fun w' => w'.cell? ⟨gb127, 0, none⟩ = some (.int .i64 t105) ∧ w'.cell? ⟨gb127, 1, none⟩ = some (.slice Ao150 t117.length co150) ∧ w'.cell? ⟨gb112, 0, none⟩ = some (.int .i64 a0_0) ∧ w'.cell? ⟨gb112, 1, none⟩ = some (.slice A0_1 l0_1.length c0_1)) (ds := []) (ba 5 0) (by kernel_rfl) rfl (by kernel_rfl) ⟨(blk_cell BK127.out 0).trans rfl, (blk_cell BK127.out 1).trans rfl, (blk_cell BK112.out 0).trans rfl, (blk_cell BK112.out 1).trans rfl⟩ (fun hHeld => ?_)
   generalize w154.drew = w155 at HO122 HO124 HO126 HO129 BK112 BK127 HB hHeld ⊢
   refine tw 0 (some 35) (ba 5 1) hHeld ?_
   refine tw 1 (some 36) (ba 5 3) hHeld ?_
   refine one_ (i := 2) (N := some 37) (ba 5 7) rfl rfl (by kernel_rfl) (by decide) (fun K hK => ?_)
   refine goes_ Try.func15 (by kernel_rfl) rfl #[.agg #[.int .i64 a0_0, .slice A0_1 l0_1.length c0_1]] (by rfl) rfl rfl qm ?_
   with_reducible refine (laws_toNet.calls k a0_0 _ _ l0_1 t108 t130 _ ?side1 ?side2 A39.out).mono ?_
   (case side1 => exact qc (Kd.C_below HR0_1.out HB.out))
   (case side2 => exact HC0_1.out)
   rintro e w156 ⟨v135, rfl, ho0, hb⟩
   refine ⟨_, rfl, ?_⟩
   have n0_ := q0 (Kd.R_elder' (qr HO122.out) (Kd.R_base ho0) hb)
   have n1_ := q0 (Kd.R_elder' (qr HO124.out) (Kd.R_base ho0) hb)
   have n2_ := q0 (Kd.R_elder' (qr HO126.out) (Kd.R_base ho0) hb)
   have n3_ := q0 (Kd.R_elder' (qr HO129.out) (Kd.R_base ho0) hb)
   have n4_ := q0 (Kd.R_lower (Kd.R_new' (Kd.R_new' (Kd.R_new' (Kd.R_new' ho0 (Kd.R_lt (qr HO122.out))) (Kd.R_lt (qr HO124.out))) (Kd.R_lt (qr HO126.out))) (Kd.R_lt (qr HO129.out))) (below_size (qb HB.out)))
   have n5_ := q0 (kb BK112.out hb)
   have n6_ := q0 (kb BK127.out hb)
   have n7_ := q0 (below_step (qb HB.out) hb)
   clear HO122
   clear HO124
   clear HO126
   clear HO129
   clear BK112
   clear BK127
   clear HB
   have HO122 := n0_
   have HO124 := n1_
   have HO126 := n2_
   have HO129 := n3_
   have HO136 := n4_
   have BK112 := n5_
   have BK127 := n6_
   have HB := n7_
   clear n0_ n1_ n2_ n3_ n4_ n5_ n6_ n7_
   (try clear hb)
   (try clear hb2)
   (try clear hk)
   (try clear hi)
   (try clear ho0)
   obtain ⟨Ao157, co157, eo157⟩ := Kd.R_slice HO136.out
   (first | subst eo157 | (injection eo157 with f1_ f2_ f3_; have f4_ := f1_.symm; have f5_ := f3_.symm; clear f1_ f2_ f3_; subst f4_; subst f5_))
   refine hK.out _ _ ⟨(blk_cell BK127.out 0).trans rfl, (blk_cell BK127.out 1).trans rfl, (blk_cell BK112.out 0).trans rfl, (blk_cell BK112.out 1).trans rfl⟩ (fun hHeld => ?_)
   clear hK K
   refine nu 37 ?_
   refine one_ (i := 3) (N := some 38) (ba 5 15) rfl rfl (by kernel_rfl) (by decide) (fun K hK => ?_)
   refine goes_ Try.func18 (by kernel_rfl) rfl #[.agg #[.int .i64 t105, .slice Ao150 t117.length co150], .agg #[.int .i64 t108, .slice Ao157 t130.length co157]] (by rfl) rfl rfl qm ?_
   with_reducible refine (laws_eqNet.calls k t105 _ _ t117 t108 _ _ t130 false _ ?side1 ?side2 ?side3 ?side4 A40.out).mono ?_
   (case side1 => exact qc (Kd.R_reads' HO126.out).2.2)
   (case side2 => exact (Kd.R_reads' HO126.out).2.1)
   (case side3 => exact qc (Kd.R_reads' HO136.out).2.2)
   (case side4 => exact (Kd.R_reads' HO136.out).2.1)
   rintro e w158 ⟨rfl, hb⟩
   refine ⟨_, rfl, ?_⟩
   have n0_ := q0 (Kd.R_below (qr HO122.out) hb)
   have n1_ := q0 (Kd.R_below (qr HO124.out) hb)
   have n2_ := q0 (Kd.R_below (qr HO126.out) hb)
   have n3_ := q0 (Kd.R_below (qr HO129.out) hb)
   have n4_ := q0 (Kd.R_below (qr HO136.out) hb)
   have n5_ := q0 (kb BK112.out hb)
   have n6_ := q0 (kb BK127.out hb)
   have n7_ := q0 (below_step (qb HB.out) hb)
   clear HO122
   clear HO124
   clear HO126
   clear HO129
   clear HO136
   clear BK112
   clear BK127
   clear HB
   have HO122 := n0_
   have HO124 := n1_
   have HO126 := n2_
   have HO129 := n3_
   have HO136 := n4_
   have BK112 := n5_
   have BK127 := n6_
   have HB := n7_
   clear n0_ n1_ n2_ n3_ n4_ n5_ n6_ n7_
   (try clear hb)
   (try clear hb2)
   (try clear hk)
   (try clear hi)
   refine hK.out _ _ ⟨(blk_cell BK127.out 0).trans rfl, (blk_cell BK127.out 1).trans rfl, (blk_cell BK112.out 0).trans rfl, (blk_cell BK112.out 1).trans rfl⟩ (fun hHeld => ?_)
   clear hK K
   refine nu 38 ?_
   refine pw 4 (some 39) (ba 5 31) ?_
   refine done_ (by kernel_rfl) ?_
   try go_wp2
   go_ret
   exact ⟨qe, qb HB.out⟩
 subst c41
 have H1 : ((laws_toTieS.f k l1).bind fun t110 => ((laws_eqTieS.f k t106 t110).bind fun t111 => (if t111 = true then (some true) else (some false)))) = some r := by rw [if_pos rfl] at H; exact H
 clear H
 have H := H1
 clear H1
 replace H := Option.bind_eq_some_iff.mp H
 obtain ⟨t110, A133, H⟩ := H
 replace H : ((laws_eqTieS.f k t106 t110).bind fun t111 => (if t111 = true then (some true) else (some false))) = some r := H
 have A42 := Aside0.mk A133
 clear A133
 replace H := Option.bind_eq_some_iff.mp H
 obtain ⟨t111, A134, H⟩ := H
 replace H : (if t111 = true then (some true) else (some false)) = some r := H
 have A43 := Aside0.mk A134
 clear A134
 by_cases c44 : t111 = true
 · subst c44
   have H1 : (some true) = some r := by rw [if_pos rfl] at H; exact H
   clear H
   have H := H1
   clear H1
   obtain rfl := Option.some.inj H
   go_enter Try.func6, Try.ntmps6
   try go_wp2_with (first | ((with_reducible refine gate_dst (N := 2) rfl ?_); refine be 2 #[.int .i64 a0_0, .slice A0_1 l0_1.length c0_1] 24 ?_; intro gb112 hg w45 hbox hb; have n0_ := q0 (below_step (qb HB.out) hb); have n1_ := q0 (hbox); have n2_ := q0 ((bs HB.out hg : w.heap.size ≤ gb112)); have n3_ := q0 ((bs HB.out hg : w.heap.size ≤ gb112)); clear HB; have HB := n0_; have BK112 := n1_; have GW112 := n2_; have GE112 := n3_; clear n0_ n1_ n2_ n3_ hb hbox hg; have hcz46_0 : w45.cell? ⟨gb112, 0, none⟩ = some (.int .i64 a0_0) := (blk_cell BK112.out 0).trans rfl; have hcz46_1 : w45.cell? ⟨gb112, 1, none⟩ = some (.slice A0_1 l0_1.length c0_1) := (blk_cell BK112.out 1).trans rfl; have hfz46_0 := blk_frozen BK112.out 0; have hfz46_1 := blk_frozen BK112.out 1) | ((with_reducible refine gate_callee (f := 13) rfl ?_); refine goesL_ (some 12) rfl rfl Try.func13 (by kernel_rfl) rfl #[.agg #[.int .i64 a0_0, .slice A0_1 l0_1.length c0_1], .int .i64 1048576] rfl qm ?_; (with_reducible refine (laws_szNet.calls a0_0 _ _ l0_1 1048576 t100 _ ?side1 ?side2 A3.out).mono ?_); (case side1 => exact qc (Kd.C_below HR0_1.out HB.out)); (case side2 => exact HC0_1.out); rintro e w47 ⟨rfl, hb⟩; refine ⟨_, rfl, ?_⟩; have n0_ := q0 (kb BK112.out hb); have n1_ := q0 (below_step (qb HB.out) hb); clear BK112 HB; have BK112 := n0_; have HB := n1_; clear n0_ n1_; (try clear hb); (try clear hb2); (try clear hk); (try clear hi)) | ((with_reducible refine gate_callee (f := 26) rfl ?_); refine goesL_ (some 17) rfl rfl Try.func26 (by kernel_rfl) rfl #[.slice A1 l1.length c1, .int .i64 t100] rfl qm ?_; (with_reducible refine (laws_szTieS.calls _ _ l1 t100 t101 _ ?side1 ?side2 A8.out).mono ?_); (case side1 => exact qc (Kd.C_below HR1.out HB.out)); (case side2 => exact HC1.out); rintro e w' ⟨rfl, ⟨nd, rfl⟩⟩; refine ⟨_, rfl, ?_⟩; (try (rw [drewN_self w47]; generalize hq_ : World.drewN w47 _ = w47; have n0_ : Aside0 (w47.heap[gb112]? = some (.cells #[.int .i64 a0_0, .slice A0_1 l0_1.length c0_1] 24 (0, 0))) := ⟨by rw [← hq_]; exact (qk BK112.out)⟩; have n1_ : Aside0 (Below w.heap.size w w47) := ⟨by rw [← hq_]; exact (qb HB.out)⟩; clear BK112 HB hq_; have BK112 := n0_; have HB := n1_; clear n0_ n1_)); have hcz48_0 : w47.cell? ⟨gb112, 0, none⟩ = some (.int .i64 a0_0) := (blk_cell BK112.out 0).trans rfl; have hcz48_1 : w47.cell? ⟨gb112, 1, none⟩ = some (.slice A0_1 l0_1.length c0_1) := (blk_cell BK112.out 1).trans rfl; have hfz48_0 := blk_frozen BK112.out 0; have hfz48_1 := blk_frozen BK112.out 1) | ((with_reducible refine gate_callee (f := 15) rfl ?_); refine goesL_ (some 21) rfl rfl Try.func15 (by kernel_rfl) rfl #[.agg #[.int .i64 a0_0, .slice A0_1 l0_1.length c0_1]] rfl qm ?_; (with_reducible refine (laws_toNet.calls k a0_0 _ _ l0_1 t102 t113 _ ?side1 ?side2 A13.out).mono ?_); (case side1 => exact qc (Kd.C_below HR0_1.out HB.out)); (case side2 => exact HC0_1.out); rintro e w49 ⟨v121, rfl, ho0, hb⟩; refine ⟨_, rfl, ?_⟩; have n0_ := q0 (Kd.R_lower ho0 (below_size (qb HB.out))); have n1_ := q0 (kb BK112.out hb); have n2_ := q0 (below_step (qb HB.out) hb); clear BK112 HB; have HO122 := n0_; have BK112 := n1_; have HB := n2_; clear n0_ n1_ n2_; (try clear hb); (try clear hb2); (try clear hk); (try clear hi); (try clear ho0)) | ((with_reducible refine gate_callee (f := 28) rfl ?_); refine goesL_ (some 23) rfl rfl Try.func28 (by kernel_rfl) rfl #[.slice A1 l1.length c1] rfl qm ?_; (with_reducible refine (laws_toTieS.calls k _ _ l1 t103 _ ?side1 ?side2 A14.out).mono ?_); (case side1 => exact qc (Kd.C_below HR1.out HB.out)); (case side2 => exact HC1.out); rintro e w50 ⟨v123, rfl, ho0, hb⟩; refine ⟨_, rfl, ?_⟩; have n0_ := q0 (Kd.R_elder' (qr HO122.out) (Kd.R_base ho0) hb); have n1_ := q0 (Kd.R_lower (Kd.R_new' ho0 (Kd.R_lt (qr HO122.out))) (below_size (qb HB.out))); have n2_ := q0 (kb BK112.out hb); have n3_ := q0 (below_step (qb HB.out) hb); clear HO122 BK112 HB; have HO122 := n0_; have HO124 := n1_; have BK112 := n2_; have HB := n3_; clear n0_ n1_ n2_ n3_; (try clear hb); (try clear hb2); (try clear hk); (try clear hi); (try clear ho0); obtain ⟨Ao51, co51, eo51⟩ := Kd.R_slice HO122.out; subst eo51; obtain ⟨Ao52, co52, eo52⟩ := Kd.R_slice HO124.out; subst eo52) | ((with_reducible refine gate_callee (f := 27) rfl ?_); refine goesL_ (some 24) rfl rfl Try.func27 (by kernel_rfl) rfl #[.agg #[.int .i64 t102, .slice Ao51 t113.length co51], .slice Ao52 t103.length co52] rfl qm ?_; (with_reducible refine (spec_TreeOk.calls k t102 _ _ t113 _ _ t103 t104 _ ?side1 ?side2 ?side3 ?side4 A15.out).mono ?_); (case side1 => exact qc (Kd.R_reads' HO122.out).2.2); (case side2 => exact (Kd.R_reads' HO122.out).2.1); (case side3 => exact qc (Kd.R_reads' HO124.out).2.2); (case side4 => exact (Kd.R_reads' HO124.out).2.1); rintro e w53 ⟨rfl, hb⟩; refine ⟨_, rfl, ?_⟩; have n0_ := q0 (Kd.R_below (qr HO122.out) hb); have n1_ := q0 (Kd.R_below (qr HO124.out) hb); have n2_ := q0 (kb BK112.out hb); have n3_ := q0 (below_step (qb HB.out) hb); clear HO122 HO124 BK112 HB; have HO122 := n0_; have HO124 := n1_; have BK112 := n2_; have HB := n3_; clear n0_ n1_ n2_ n3_; (try clear hb); (try clear hb2); (try clear hk); (try clear hi); have hcz54_0 : w53.cell? ⟨gb112, 0, none⟩ = some (.int .i64 a0_0) := (blk_cell BK112.out 0).trans rfl; have hcz54_1 : w53.cell? ⟨gb112, 1, none⟩ = some (.slice A0_1 l0_1.length c0_1) := (blk_cell BK112.out 1).trans rfl; have hfz54_0 := blk_frozen BK112.out 0; have hfz54_1 := blk_frozen BK112.out 1) | ((with_reducible refine gate_callee (f := 15) rfl ?_); refine goesL_ (some 26) rfl rfl Try.func15 (by kernel_rfl) rfl #[.agg #[.int .i64 a0_0, .slice A0_1 l0_1.length c0_1]] rfl qm ?_; (with_reducible refine (laws_toNet.calls k a0_0 _ _ l0_1 t105 t117 _ ?side1 ?side2 A16.out).mono ?_); (case side1 => exact qc (Kd.C_below HR0_1.out HB.out)); (case side2 => exact HC0_1.out); rintro e w55 ⟨v125, rfl, ho0, hb⟩; refine ⟨_, rfl, ?_⟩; have n0_ := q0 (Kd.R_elder' (qr HO122.out) (Kd.R_base ho0) hb); have n1_ := q0 (Kd.R_elder' (qr HO124.out) (Kd.R_base ho0) hb); have n2_ := q0 (Kd.R_lower (Kd.R_new' (Kd.R_new' ho0 (Kd.R_lt (qr HO122.out))) (Kd.R_lt (qr HO124.out))) (below_size (qb HB.out))); have n3_ := q0 (kb BK112.out hb); have n4_ := q0 (below_step (qb HB.out) hb); clear HO122 HO124 BK112 HB; have HO122 := n0_; have HO124 := n1_; have HO126 := n2_; have BK112 := n3_; have HB := n4_; clear n0_ n1_ n2_ n3_ n4_; (try clear hb); (try clear hb2); (try clear hk); (try clear hi); (try clear ho0)) | ((with_reducible refine gate_dst (N := 7) rfl ?_); refine be 7 #[.int .i64 0, .slice none 0 0] 30 ?_; intro gb127 hg w56 hbox hb; have n0_ := q0 (Kd.R_below (qr HO122.out) hb); have n1_ := q0 (Kd.R_below (qr HO124.out) hb); have n2_ := q0 (Kd.R_below (qr HO126.out) hb); have n3_ := q0 (kb BK112.out hb); have n4_ := q0 (below_step (qb HB.out) hb); have n5_ := q0 (hbox); have n6_ := q0 ((bs HB.out hg : w.heap.size ≤ gb127)); have n7_ := q0 ((bs HB.out hg : w.heap.size ≤ gb127)); have n8_ := q0 ((bl BK112.out hg : gb112 ≠ gb127)); have n9_ := q0 ((bg BK112.out hg : gb127 ≠ gb112)); clear HO122 HO124 HO126 BK112 HB; have HO122 := n0_; have HO124 := n1_; have HO126 := n2_; have BK112 := n3_; have HB := n4_; have BK127 := n5_; have GW127 := n6_; have GE127 := n7_; have NB112_127 := n8_; have NB127_112 := n9_; clear n0_ n1_ n2_ n3_ n4_ n5_ n6_ n7_ n8_ n9_ hb hbox hg; have hnb57 := NB127_112.out; have hnc57 := NB112_127.out; have hcz58_0 : w56.cell? ⟨gb127, 0, none⟩ = some (.int .i64 0) := (blk_cell BK127.out 0).trans rfl; have hcz58_1 : w56.cell? ⟨gb127, 1, none⟩ = some (.slice none 0 0) := (blk_cell BK127.out 1).trans rfl; have hfz58_0 := blk_frozen BK127.out 0; have hfz58_1 := blk_frozen BK127.out 1; obtain ⟨Ao59, co59, eo59⟩ := Kd.R_slice HO126.out; subst eo59) | ((with_reducible refine gate_callee (f := 28) rfl ?_); refine goesL_ (some 28) rfl rfl Try.func28 (by kernel_rfl) rfl #[.slice A1 l1.length c1] rfl qm ?_; (with_reducible refine (laws_toTieS.calls k _ _ l1 t106 _ ?side1 ?side2 A17.out).mono ?_); (case side1 => exact Kd.C_below HR1.out (qb HB.out)); (case side2 => exact HC1.out); rintro e w60 ⟨v128, rfl, ho0, hb⟩; refine ⟨_, rfl, ?_⟩; have n0_ := q0 (Kd.R_elder' (by (with_reducible repeat (first | apply Kd.R_alloc | apply Kd.R_drewN | apply Kd.R_drew)); exact (Kd.R_mono (Kd.R_far (p := ⟨gb127, 1, none⟩) (Kd.R_far (p := ⟨gb127, 0, none⟩) (Kd.R_types HO122.out BK127.out (by decide)) (fun _ hk => hk.2) (.int .i64 t105)) (fun _ hk => hk.2) (.slice Ao59 t117.length co59)) (fun _ h_ => h_.1))) (Kd.R_base ho0) hb); have n1_ := q0 (Kd.R_elder' (by (with_reducible repeat (first | apply Kd.R_alloc | apply Kd.R_drewN | apply Kd.R_drew)); exact (Kd.R_mono (Kd.R_far (p := ⟨gb127, 1, none⟩) (Kd.R_far (p := ⟨gb127, 0, none⟩) (Kd.R_types HO124.out BK127.out (by decide)) (fun _ hk => hk.2) (.int .i64 t105)) (fun _ hk => hk.2) (.slice Ao59 t117.length co59)) (fun _ h_ => h_.1))) (Kd.R_base ho0) hb); have n2_ := q0 (Kd.R_elder' (by (with_reducible repeat (first | apply Kd.R_alloc | apply Kd.R_drewN | apply Kd.R_drew)); exact (Kd.R_mono (Kd.R_far (p := ⟨gb127, 1, none⟩) (Kd.R_far (p := ⟨gb127, 0, none⟩) (Kd.R_types HO126.out BK127.out (by decide)) (fun _ hk => hk.2) (.int .i64 t105)) (fun _ hk => hk.2) (.slice Ao59 t117.length co59)) (fun _ h_ => h_.1))) (Kd.R_base ho0) hb); have n3_ := q0 (Kd.R_lower (Kd.R_new' (Kd.R_new' (Kd.R_new' ho0 (Kd.R_lt (by (with_reducible repeat (first | apply Kd.R_alloc | apply Kd.R_drewN | apply Kd.R_drew)); exact (Kd.R_mono (Kd.R_far (p := ⟨gb127, 1, none⟩) (Kd.R_far (p := ⟨gb127, 0, none⟩) (Kd.R_types HO122.out BK127.out (by decide)) (fun _ hk => hk.2) (.int .i64 t105)) (fun _ hk => hk.2) (.slice Ao59 t117.length co59)) (fun _ h_ => h_.1))))) (Kd.R_lt (by (with_reducible repeat (first | apply Kd.R_alloc | apply Kd.R_drewN | apply Kd.R_drew)); exact (Kd.R_mono (Kd.R_far (p := ⟨gb127, 1, none⟩) (Kd.R_far (p := ⟨gb127, 0, none⟩) (Kd.R_types HO124.out BK127.out (by decide)) (fun _ hk => hk.2) (.int .i64 t105)) (fun _ hk => hk.2) (.slice Ao59 t117.length co59)) (fun _ h_ => h_.1))))) (Kd.R_lt (by (with_reducible repeat (first | apply Kd.R_alloc | apply Kd.R_drewN | apply Kd.R_drew)); exact (Kd.R_mono (Kd.R_far (p := ⟨gb127, 1, none⟩) (Kd.R_far (p := ⟨gb127, 0, none⟩) (Kd.R_types HO126.out BK127.out (by decide)) (fun _ hk => hk.2) (.int .i64 t105)) (fun _ hk => hk.2) (.slice Ao59 t117.length co59)) (fun _ h_ => h_.1))))) (below_size (qb HB.out))); have n4_ := q0 (blk_below (g := gb112) (o := .cells #[.int .i64 a0_0, .slice A0_1 l0_1.length c0_1] 24 (0, 0)) (qf BK112.out) hb); have n5_ := q0 (blk_below (g := gb127) (o := .cells #[.int .i64 t105, .slice Ao59 t117.length co59] 30 (0, 0)) (by (with_reducible repeat (first | refine blk_drewN ?_ _ | refine blk_drew ?_ | refine blk_alloc ?_ _)); refine blk_put (cs := #[.int .i64 t105, .slice none 0 0]) ?_ 1 _ rfl; (with_reducible repeat (first | refine blk_drewN ?_ _ | refine blk_drew ?_ | refine blk_alloc ?_ _)); refine blk_put (cs := #[.int .i64 0, .slice none 0 0]) ?_ 0 _ rfl; (with_reducible repeat (first | refine blk_drewN ?_ _ | refine blk_drew ?_ | refine blk_alloc ?_ _)); exact BK127.out) hb); have n6_ := q0 (below_step (qb HB.out) hb); clear HO122 HO124 HO126 BK112 BK127 HB; have HO122 := n0_; have HO124 := n1_; have HO126 := n2_; have HO129 := n3_; have BK112 := n4_; have BK127 := n5_; have HB := n6_; clear n0_ n1_ n2_ n3_ n4_ n5_ n6_; (try clear hb); (try clear hb2); (try clear hk); (try clear hi); (try clear ho0); have hcz61_0 : w60.cell? ⟨gb127, 0, none⟩ = some (.int .i64 t105) := (blk_cell BK127.out 0).trans rfl; have hcz61_1 : w60.cell? ⟨gb127, 1, none⟩ = some (.slice Ao59 t117.length co59) := (blk_cell BK127.out 1).trans rfl; have hfz61_0 := blk_frozen BK127.out 0; have hfz61_1 := blk_frozen BK127.out 1; obtain ⟨Ao62, co62, eo62⟩ := Kd.R_slice HO129.out; subst eo62) | ((with_reducible refine gate_callee (f := 29) rfl ?_); refine goesL_ (some 31) rfl rfl Try.func29 (by kernel_rfl) rfl #[.agg #[.int .i64 t105, .slice Ao59 t117.length co59], .slice Ao62 t106.length co62] rfl qm ?_; (with_reducible refine (impl_TreeOk.calls k t105 _ _ t117 _ _ t106 t107 _ ?side1 ?side2 ?side3 ?side4 A18.out).mono ?_); (case side1 => exact qc (Kd.R_reads' HO126.out).2.2); (case side2 => exact (Kd.R_reads' HO126.out).2.1); (case side3 => exact qc (Kd.R_reads' HO129.out).2.2); (case side4 => exact (Kd.R_reads' HO129.out).2.1); rintro e w63 ⟨rfl, hb⟩; refine ⟨_, rfl, ?_⟩; have n0_ := q0 (Kd.R_below (qr HO122.out) hb); have n1_ := q0 (Kd.R_below (qr HO124.out) hb); have n2_ := q0 (Kd.R_below (qr HO126.out) hb); have n3_ := q0 (Kd.R_below (qr HO129.out) hb); have n4_ := q0 (kb BK112.out hb); have n5_ := q0 (kb BK127.out hb); have n6_ := q0 (below_step (qb HB.out) hb); clear HO122 HO124 HO126 HO129 BK112 BK127 HB; have HO122 := n0_; have HO124 := n1_; have HO126 := n2_; have HO129 := n3_; have BK112 := n4_; have BK127 := n5_; have HB := n6_; clear n0_ n1_ n2_ n3_ n4_ n5_ n6_; (try clear hb); (try clear hb2); (try clear hk); (try clear hi)))
   have n0_ := q0 (Kd.R_drew HO122.out)
   have n1_ := q0 (Kd.R_drew HO124.out)
   have n2_ := q0 (Kd.R_drew HO126.out)
   have n3_ := q0 (Kd.R_drew HO129.out)
   have n4_ := q0 (blk_drew BK112.out)
   have n5_ := q0 (blk_drew BK127.out)
   have n6_ := q0 (below_drew1 HB.out)
   clear HO122
   clear HO124
   clear HO126
   clear HO129
   clear BK112
   clear BK127
   clear HB
   have HO122 := n0_
   have HO124 := n1_
   have HO126 := n2_
   have HO129 := n3_
   have BK112 := n4_
   have BK127 := n5_
   have HB := n6_
   clear n0_ n1_ n2_ n3_ n4_ n5_ n6_
   refine start_ (n := 5) (S := fun w' => w'.cell? ⟨gb127, 0, none⟩ = some (.int .i64 t105) ∧ w'.cell? ⟨gb127, 1, none⟩ = some (.slice Ao59 t117.length co59) ∧ w'.cell? ⟨gb112, 0, none⟩ = some (.int .i64 a0_0) ∧ w'.cell? ⟨gb112, 1, none⟩ = some (.slice A0_1 l0_1.length c0_1)) (ds := []) (ba 5 0) (by kernel_rfl) rfl (by kernel_rfl) ⟨(blk_cell BK127.out 0).trans rfl, (blk_cell BK127.out 1).trans rfl, (blk_cell BK112.out 0).trans rfl, (blk_cell BK112.out 1).trans rfl⟩ (fun hHeld => ?_)
   generalize w63.drew = w64 at HO122 HO124 HO126 HO129 BK112 BK127 HB hHeld ⊢
   refine tw 0 (some 35) (ba 5 1) hHeld ?_
   refine tw 1 (some 36) (ba 5 3) hHeld ?_
   refine one_ (i := 2) (N := some 37) (ba 5 7) rfl rfl (by kernel_rfl) (by decide) (fun K hK => ?_)
   refine goes_ Try.func15 (by kernel_rfl) rfl #[.agg #[.int .i64 a0_0, .slice A0_1 l0_1.length c0_1]] (by rfl) rfl rfl qm ?_
   with_reducible refine (laws_toNet.calls k a0_0 _ _ l0_1 t108 t130 _ ?side1 ?side2 A39.out).mono ?_
   (case side1 => exact qc (Kd.C_below HR0_1.out HB.out))
   (case side2 => exact HC0_1.out)
   rintro e w65 ⟨v135, rfl, ho0, hb⟩
   refine ⟨_, rfl, ?_⟩
   have n0_ := q0 (Kd.R_elder' (qr HO122.out) (Kd.R_base ho0) hb)
   have n1_ := q0 (Kd.R_elder' (qr HO124.out) (Kd.R_base ho0) hb)
   have n2_ := q0 (Kd.R_elder' (qr HO126.out) (Kd.R_base ho0) hb)
   have n3_ := q0 (Kd.R_elder' (qr HO129.out) (Kd.R_base ho0) hb)
   have n4_ := q0 (Kd.R_lower (Kd.R_new' (Kd.R_new' (Kd.R_new' (Kd.R_new' ho0 (Kd.R_lt (qr HO122.out))) (Kd.R_lt (qr HO124.out))) (Kd.R_lt (qr HO126.out))) (Kd.R_lt (qr HO129.out))) (below_size (qb HB.out)))
   have n5_ := q0 (kb BK112.out hb)
   have n6_ := q0 (kb BK127.out hb)
   have n7_ := q0 (below_step (qb HB.out) hb)
   clear HO122
   clear HO124
   clear HO126
   clear HO129
   clear BK112
   clear BK127
   clear HB
   have HO122 := n0_
   have HO124 := n1_
   have HO126 := n2_
   have HO129 := n3_
   have HO136 := n4_
   have BK112 := n5_
   have BK127 := n6_
   have HB := n7_
   clear n0_ n1_ n2_ n3_ n4_ n5_ n6_ n7_
   (try clear hb)
   (try clear hb2)
   (try clear hk)
   (try clear hi)
   (try clear ho0)
   obtain ⟨Ao66, co66, eo66⟩ := Kd.R_slice HO136.out
   (first | subst eo66 | (injection eo66 with f1_ f2_ f3_; have f4_ := f1_.symm; have f5_ := f3_.symm; clear f1_ f2_ f3_; subst f4_; subst f5_))
   refine hK.out _ _ ⟨(blk_cell BK127.out 0).trans rfl, (blk_cell BK127.out 1).trans rfl, (blk_cell BK112.out 0).trans rfl, (blk_cell BK112.out 1).trans rfl⟩ (fun hHeld => ?_)
   clear hK K
   refine nu 37 ?_
   refine one_ (i := 3) (N := some 38) (ba 5 15) rfl rfl (by kernel_rfl) (by decide) (fun K hK => ?_)
   refine goes_ Try.func18 (by kernel_rfl) rfl #[.agg #[.int .i64 t105, .slice Ao59 t117.length co59], .agg #[.int .i64 t108, .slice Ao66 t130.length co66]] (by rfl) rfl rfl qm ?_
   with_reducible refine (laws_eqNet.calls k t105 _ _ t117 t108 _ _ t130 true _ ?side1 ?side2 ?side3 ?side4 A40.out).mono ?_
   (case side1 => exact qc (Kd.R_reads' HO126.out).2.2)
   (case side2 => exact (Kd.R_reads' HO126.out).2.1)
   (case side3 => exact qc (Kd.R_reads' HO136.out).2.2)
   (case side4 => exact (Kd.R_reads' HO136.out).2.1)
   rintro e w67 ⟨rfl, hb⟩
   refine ⟨_, rfl, ?_⟩
   have n0_ := q0 (Kd.R_below (qr HO122.out) hb)
   have n1_ := q0 (Kd.R_below (qr HO124.out) hb)
   have n2_ := q0 (Kd.R_below (qr HO126.out) hb)
   have n3_ := q0 (Kd.R_below (qr HO129.out) hb)
   have n4_ := q0 (Kd.R_below (qr HO136.out) hb)
   have n5_ := q0 (kb BK112.out hb)
   have n6_ := q0 (kb BK127.out hb)
   have n7_ := q0 (below_step (qb HB.out) hb)
   clear HO122
   clear HO124
   clear HO126
   clear HO129
   clear HO136
   clear BK112
   clear BK127
   clear HB
   have HO122 := n0_
   have HO124 := n1_
   have HO126 := n2_
   have HO129 := n3_
   have HO136 := n4_
   have BK112 := n5_
   have BK127 := n6_
   have HB := n7_
   clear n0_ n1_ n2_ n3_ n4_ n5_ n6_ n7_
   (try clear hb)
   (try clear hb2)
   (try clear hk)
   (try clear hi)
   refine hK.out _ _ ⟨(blk_cell BK127.out 0).trans rfl, (blk_cell BK127.out 1).trans rfl, (blk_cell BK112.out 0).trans rfl, (blk_cell BK112.out 1).trans rfl⟩ (fun hHeld => ?_)
   clear hK K
   refine nu 38 ?_
   refine pw 4 (some 39) (ba 5 31) ?_
   refine done_ (by kernel_rfl) ?_
   try go_wp2_with (first | ((with_reducible refine gate_callee (f := 28) rfl ?_); refine goesL_ (some 42) rfl rfl Try.func28 (by kernel_rfl) rfl #[.slice A1 l1.length c1] rfl qm ?_; (with_reducible refine (laws_toTieS.calls k _ _ l1 t110 _ ?side1 ?side2 A42.out).mono ?_); (case side1 => exact qc (Kd.C_below HR1.out HB.out)); (case side2 => exact HC1.out); rintro e w68 ⟨v137, rfl, ho0, hb⟩; refine ⟨_, rfl, ?_⟩; have n0_ := q0 (Kd.R_elder' (qr HO122.out) (Kd.R_base ho0) hb); have n1_ := q0 (Kd.R_elder' (qr HO124.out) (Kd.R_base ho0) hb); have n2_ := q0 (Kd.R_elder' (qr HO126.out) (Kd.R_base ho0) hb); have n3_ := q0 (Kd.R_elder' (qr HO129.out) (Kd.R_base ho0) hb); have n4_ := q0 (Kd.R_elder' (qr HO136.out) (Kd.R_base ho0) hb); have n5_ := q0 (Kd.R_lower (Kd.R_new' (Kd.R_new' (Kd.R_new' (Kd.R_new' (Kd.R_new' ho0 (Kd.R_lt (qr HO122.out))) (Kd.R_lt (qr HO124.out))) (Kd.R_lt (qr HO126.out))) (Kd.R_lt (qr HO129.out))) (Kd.R_lt (qr HO136.out))) (below_size (qb HB.out))); have n6_ := q0 (kb BK112.out hb); have n7_ := q0 (kb BK127.out hb); have n8_ := q0 (below_step (qb HB.out) hb); clear HO122 HO124 HO126 HO129 HO136 BK112 BK127 HB; have HO122 := n0_; have HO124 := n1_; have HO126 := n2_; have HO129 := n3_; have HO136 := n4_; have HO138 := n5_; have BK112 := n6_; have BK127 := n7_; have HB := n8_; clear n0_ n1_ n2_ n3_ n4_ n5_ n6_ n7_ n8_; (try clear hb); (try clear hb2); (try clear hk); (try clear hi); (try clear ho0); obtain ⟨Ao69, co69, eo69⟩ := Kd.R_slice HO138.out; subst eo69) | ((with_reducible refine gate_callee (f := 30) rfl ?_); refine goesL_ (some 43) rfl rfl Try.func30 (by kernel_rfl) rfl #[.slice Ao62 t106.length co62, .slice Ao69 t110.length co69] rfl qm ?_; (with_reducible refine (laws_eqTieS.calls k _ _ t106 _ _ t110 true _ ?side1 ?side2 ?side3 ?side4 A43.out).mono ?_); (case side1 => exact qc (Kd.R_reads' HO129.out).2.2); (case side2 => exact (Kd.R_reads' HO129.out).2.1); (case side3 => exact qc (Kd.R_reads' HO138.out).2.2); (case side4 => exact (Kd.R_reads' HO138.out).2.1); rintro e w70 ⟨rfl, hb⟩; refine ⟨_, rfl, ?_⟩; have n0_ := q0 (Kd.R_below (qr HO122.out) hb); have n1_ := q0 (Kd.R_below (qr HO124.out) hb); have n2_ := q0 (Kd.R_below (qr HO126.out) hb); have n3_ := q0 (Kd.R_below (qr HO129.out) hb); have n4_ := q0 (Kd.R_below (qr HO136.out) hb); have n5_ := q0 (Kd.R_below (qr HO138.out) hb); have n6_ := q0 (kb BK112.out hb); have n7_ := q0 (kb BK127.out hb); have n8_ := q0 (below_step (qb HB.out) hb); clear HO122 HO124 HO126 HO129 HO136 HO138 BK112 BK127 HB; have HO122 := n0_; have HO124 := n1_; have HO126 := n2_; have HO129 := n3_; have HO136 := n4_; have HO138 := n5_; have BK112 := n6_; have BK127 := n7_; have HB := n8_; clear n0_ n1_ n2_ n3_ n4_ n5_ n6_ n7_ n8_; (try clear hb); (try clear hb2); (try clear hk); (try clear hi)))
   go_ret
   exact ⟨qe, qb HB.out⟩
 replace c44 := Bool.eq_false_iff.mpr c44
 subst c44
 have H1 : (some false) = some r := by rw [if_neg (show ¬ (false = true) by decide)] at H; exact H
 clear H
 have H := H1
 clear H1
 obtain rfl := Option.some.inj H
 go_enter Try.func6, Try.ntmps6
 try go_wp2_with (first | ((with_reducible refine gate_dst (N := 2) rfl ?_); refine be 2 #[.int .i64 a0_0, .slice A0_1 l0_1.length c0_1] 24 ?_; intro gb112 hg w71 hbox hb; have n0_ := q0 (below_step (qb HB.out) hb); have n1_ := q0 (hbox); have n2_ := q0 ((bs HB.out hg : w.heap.size ≤ gb112)); have n3_ := q0 ((bs HB.out hg : w.heap.size ≤ gb112)); clear HB; have HB := n0_; have BK112 := n1_; have GW112 := n2_; have GE112 := n3_; clear n0_ n1_ n2_ n3_ hb hbox hg; have hcz72_0 : w71.cell? ⟨gb112, 0, none⟩ = some (.int .i64 a0_0) := (blk_cell BK112.out 0).trans rfl; have hcz72_1 : w71.cell? ⟨gb112, 1, none⟩ = some (.slice A0_1 l0_1.length c0_1) := (blk_cell BK112.out 1).trans rfl; have hfz72_0 := blk_frozen BK112.out 0; have hfz72_1 := blk_frozen BK112.out 1) | ((with_reducible refine gate_callee (f := 13) rfl ?_); refine goesL_ (some 12) rfl rfl Try.func13 (by kernel_rfl) rfl #[.agg #[.int .i64 a0_0, .slice A0_1 l0_1.length c0_1], .int .i64 1048576] rfl qm ?_; (with_reducible refine (laws_szNet.calls a0_0 _ _ l0_1 1048576 t100 _ ?side1 ?side2 A3.out).mono ?_); (case side1 => exact qc (Kd.C_below HR0_1.out HB.out)); (case side2 => exact HC0_1.out); rintro e w73 ⟨rfl, hb⟩; refine ⟨_, rfl, ?_⟩; have n0_ := q0 (kb BK112.out hb); have n1_ := q0 (below_step (qb HB.out) hb); clear BK112 HB; have BK112 := n0_; have HB := n1_; clear n0_ n1_; (try clear hb); (try clear hb2); (try clear hk); (try clear hi)) | ((with_reducible refine gate_callee (f := 26) rfl ?_); refine goesL_ (some 17) rfl rfl Try.func26 (by kernel_rfl) rfl #[.slice A1 l1.length c1, .int .i64 t100] rfl qm ?_; (with_reducible refine (laws_szTieS.calls _ _ l1 t100 t101 _ ?side1 ?side2 A8.out).mono ?_); (case side1 => exact qc (Kd.C_below HR1.out HB.out)); (case side2 => exact HC1.out); rintro e w' ⟨rfl, ⟨nd, rfl⟩⟩; refine ⟨_, rfl, ?_⟩; (try (rw [drewN_self w73]; generalize hq_ : World.drewN w73 _ = w73; have n0_ : Aside0 (w73.heap[gb112]? = some (.cells #[.int .i64 a0_0, .slice A0_1 l0_1.length c0_1] 24 (0, 0))) := ⟨by rw [← hq_]; exact (qk BK112.out)⟩; have n1_ : Aside0 (Below w.heap.size w w73) := ⟨by rw [← hq_]; exact (qb HB.out)⟩; clear BK112 HB hq_; have BK112 := n0_; have HB := n1_; clear n0_ n1_)); have hcz74_0 : w73.cell? ⟨gb112, 0, none⟩ = some (.int .i64 a0_0) := (blk_cell BK112.out 0).trans rfl; have hcz74_1 : w73.cell? ⟨gb112, 1, none⟩ = some (.slice A0_1 l0_1.length c0_1) := (blk_cell BK112.out 1).trans rfl; have hfz74_0 := blk_frozen BK112.out 0; have hfz74_1 := blk_frozen BK112.out 1) | ((with_reducible refine gate_callee (f := 15) rfl ?_); refine goesL_ (some 21) rfl rfl Try.func15 (by kernel_rfl) rfl #[.agg #[.int .i64 a0_0, .slice A0_1 l0_1.length c0_1]] rfl qm ?_; (with_reducible refine (laws_toNet.calls k a0_0 _ _ l0_1 t102 t113 _ ?side1 ?side2 A13.out).mono ?_); (case side1 => exact qc (Kd.C_below HR0_1.out HB.out)); (case side2 => exact HC0_1.out); rintro e w75 ⟨v121, rfl, ho0, hb⟩; refine ⟨_, rfl, ?_⟩; have n0_ := q0 (Kd.R_lower ho0 (below_size (qb HB.out))); have n1_ := q0 (kb BK112.out hb); have n2_ := q0 (below_step (qb HB.out) hb); clear BK112 HB; have HO122 := n0_; have BK112 := n1_; have HB := n2_; clear n0_ n1_ n2_; (try clear hb); (try clear hb2); (try clear hk); (try clear hi); (try clear ho0)) | ((with_reducible refine gate_callee (f := 28) rfl ?_); refine goesL_ (some 23) rfl rfl Try.func28 (by kernel_rfl) rfl #[.slice A1 l1.length c1] rfl qm ?_; (with_reducible refine (laws_toTieS.calls k _ _ l1 t103 _ ?side1 ?side2 A14.out).mono ?_); (case side1 => exact qc (Kd.C_below HR1.out HB.out)); (case side2 => exact HC1.out); rintro e w76 ⟨v123, rfl, ho0, hb⟩; refine ⟨_, rfl, ?_⟩; have n0_ := q0 (Kd.R_elder' (qr HO122.out) (Kd.R_base ho0) hb); have n1_ := q0 (Kd.R_lower (Kd.R_new' ho0 (Kd.R_lt (qr HO122.out))) (below_size (qb HB.out))); have n2_ := q0 (kb BK112.out hb); have n3_ := q0 (below_step (qb HB.out) hb); clear HO122 BK112 HB; have HO122 := n0_; have HO124 := n1_; have BK112 := n2_; have HB := n3_; clear n0_ n1_ n2_ n3_; (try clear hb); (try clear hb2); (try clear hk); (try clear hi); (try clear ho0); obtain ⟨Ao77, co77, eo77⟩ := Kd.R_slice HO122.out; subst eo77; obtain ⟨Ao78, co78, eo78⟩ := Kd.R_slice HO124.out; subst eo78) | ((with_reducible refine gate_callee (f := 27) rfl ?_); refine goesL_ (some 24) rfl rfl Try.func27 (by kernel_rfl) rfl #[.agg #[.int .i64 t102, .slice Ao77 t113.length co77], .slice Ao78 t103.length co78] rfl qm ?_; (with_reducible refine (spec_TreeOk.calls k t102 _ _ t113 _ _ t103 t104 _ ?side1 ?side2 ?side3 ?side4 A15.out).mono ?_); (case side1 => exact qc (Kd.R_reads' HO122.out).2.2); (case side2 => exact (Kd.R_reads' HO122.out).2.1); (case side3 => exact qc (Kd.R_reads' HO124.out).2.2); (case side4 => exact (Kd.R_reads' HO124.out).2.1); rintro e w79 ⟨rfl, hb⟩; refine ⟨_, rfl, ?_⟩; have n0_ := q0 (Kd.R_below (qr HO122.out) hb); have n1_ := q0 (Kd.R_below (qr HO124.out) hb); have n2_ := q0 (kb BK112.out hb); have n3_ := q0 (below_step (qb HB.out) hb); clear HO122 HO124 BK112 HB; have HO122 := n0_; have HO124 := n1_; have BK112 := n2_; have HB := n3_; clear n0_ n1_ n2_ n3_; (try clear hb); (try clear hb2); (try clear hk); (try clear hi); have hcz80_0 : w79.cell? ⟨gb112, 0, none⟩ = some (.int .i64 a0_0) := (blk_cell BK112.out 0).trans rfl; have hcz80_1 : w79.cell? ⟨gb112, 1, none⟩ = some (.slice A0_1 l0_1.length c0_1) := (blk_cell BK112.out 1).trans rfl; have hfz80_0 := blk_frozen BK112.out 0; have hfz80_1 := blk_frozen BK112.out 1) | ((with_reducible refine gate_callee (f := 15) rfl ?_); refine goesL_ (some 26) rfl rfl Try.func15 (by kernel_rfl) rfl #[.agg #[.int .i64 a0_0, .slice A0_1 l0_1.length c0_1]] rfl qm ?_; (with_reducible refine (laws_toNet.calls k a0_0 _ _ l0_1 t105 t117 _ ?side1 ?side2 A16.out).mono ?_); (case side1 => exact qc (Kd.C_below HR0_1.out HB.out)); (case side2 => exact HC0_1.out); rintro e w81 ⟨v125, rfl, ho0, hb⟩; refine ⟨_, rfl, ?_⟩; have n0_ := q0 (Kd.R_elder' (qr HO122.out) (Kd.R_base ho0) hb); have n1_ := q0 (Kd.R_elder' (qr HO124.out) (Kd.R_base ho0) hb); have n2_ := q0 (Kd.R_lower (Kd.R_new' (Kd.R_new' ho0 (Kd.R_lt (qr HO122.out))) (Kd.R_lt (qr HO124.out))) (below_size (qb HB.out))); have n3_ := q0 (kb BK112.out hb); have n4_ := q0 (below_step (qb HB.out) hb); clear HO122 HO124 BK112 HB; have HO122 := n0_; have HO124 := n1_; have HO126 := n2_; have BK112 := n3_; have HB := n4_; clear n0_ n1_ n2_ n3_ n4_; (try clear hb); (try clear hb2); (try clear hk); (try clear hi); (try clear ho0)) | ((with_reducible refine gate_dst (N := 7) rfl ?_); refine be 7 #[.int .i64 0, .slice none 0 0] 30 ?_; intro gb127 hg w82 hbox hb; have n0_ := q0 (Kd.R_below (qr HO122.out) hb); have n1_ := q0 (Kd.R_below (qr HO124.out) hb); have n2_ := q0 (Kd.R_below (qr HO126.out) hb); have n3_ := q0 (kb BK112.out hb); have n4_ := q0 (below_step (qb HB.out) hb); have n5_ := q0 (hbox); have n6_ := q0 ((bs HB.out hg : w.heap.size ≤ gb127)); have n7_ := q0 ((bs HB.out hg : w.heap.size ≤ gb127)); have n8_ := q0 ((bl BK112.out hg : gb112 ≠ gb127)); have n9_ := q0 ((bg BK112.out hg : gb127 ≠ gb112)); clear HO122 HO124 HO126 BK112 HB; have HO122 := n0_; have HO124 := n1_; have HO126 := n2_; have BK112 := n3_; have HB := n4_; have BK127 := n5_; have GW127 := n6_; have GE127 := n7_; have NB112_127 := n8_; have NB127_112 := n9_; clear n0_ n1_ n2_ n3_ n4_ n5_ n6_ n7_ n8_ n9_ hb hbox hg; have hnb83 := NB127_112.out; have hnc83 := NB112_127.out; have hcz84_0 : w82.cell? ⟨gb127, 0, none⟩ = some (.int .i64 0) := (blk_cell BK127.out 0).trans rfl; have hcz84_1 : w82.cell? ⟨gb127, 1, none⟩ = some (.slice none 0 0) := (blk_cell BK127.out 1).trans rfl; have hfz84_0 := blk_frozen BK127.out 0; have hfz84_1 := blk_frozen BK127.out 1; obtain ⟨Ao85, co85, eo85⟩ := Kd.R_slice HO126.out; subst eo85) | ((with_reducible refine gate_callee (f := 28) rfl ?_); refine goesL_ (some 28) rfl rfl Try.func28 (by kernel_rfl) rfl #[.slice A1 l1.length c1] rfl qm ?_; (with_reducible refine (laws_toTieS.calls k _ _ l1 t106 _ ?side1 ?side2 A17.out).mono ?_); (case side1 => exact Kd.C_below HR1.out (qb HB.out)); (case side2 => exact HC1.out); rintro e w86 ⟨v128, rfl, ho0, hb⟩; refine ⟨_, rfl, ?_⟩; have n0_ := q0 (Kd.R_elder' (by (with_reducible repeat (first | apply Kd.R_alloc | apply Kd.R_drewN | apply Kd.R_drew)); exact (Kd.R_mono (Kd.R_far (p := ⟨gb127, 1, none⟩) (Kd.R_far (p := ⟨gb127, 0, none⟩) (Kd.R_types HO122.out BK127.out (by decide)) (fun _ hk => hk.2) (.int .i64 t105)) (fun _ hk => hk.2) (.slice Ao85 t117.length co85)) (fun _ h_ => h_.1))) (Kd.R_base ho0) hb); have n1_ := q0 (Kd.R_elder' (by (with_reducible repeat (first | apply Kd.R_alloc | apply Kd.R_drewN | apply Kd.R_drew)); exact (Kd.R_mono (Kd.R_far (p := ⟨gb127, 1, none⟩) (Kd.R_far (p := ⟨gb127, 0, none⟩) (Kd.R_types HO124.out BK127.out (by decide)) (fun _ hk => hk.2) (.int .i64 t105)) (fun _ hk => hk.2) (.slice Ao85 t117.length co85)) (fun _ h_ => h_.1))) (Kd.R_base ho0) hb); have n2_ := q0 (Kd.R_elder' (by (with_reducible repeat (first | apply Kd.R_alloc | apply Kd.R_drewN | apply Kd.R_drew)); exact (Kd.R_mono (Kd.R_far (p := ⟨gb127, 1, none⟩) (Kd.R_far (p := ⟨gb127, 0, none⟩) (Kd.R_types HO126.out BK127.out (by decide)) (fun _ hk => hk.2) (.int .i64 t105)) (fun _ hk => hk.2) (.slice Ao85 t117.length co85)) (fun _ h_ => h_.1))) (Kd.R_base ho0) hb); have n3_ := q0 (Kd.R_lower (Kd.R_new' (Kd.R_new' (Kd.R_new' ho0 (Kd.R_lt (by (with_reducible repeat (first | apply Kd.R_alloc | apply Kd.R_drewN | apply Kd.R_drew)); exact (Kd.R_mono (Kd.R_far (p := ⟨gb127, 1, none⟩) (Kd.R_far (p := ⟨gb127, 0, none⟩) (Kd.R_types HO122.out BK127.out (by decide)) (fun _ hk => hk.2) (.int .i64 t105)) (fun _ hk => hk.2) (.slice Ao85 t117.length co85)) (fun _ h_ => h_.1))))) (Kd.R_lt (by (with_reducible repeat (first | apply Kd.R_alloc | apply Kd.R_drewN | apply Kd.R_drew)); exact (Kd.R_mono (Kd.R_far (p := ⟨gb127, 1, none⟩) (Kd.R_far (p := ⟨gb127, 0, none⟩) (Kd.R_types HO124.out BK127.out (by decide)) (fun _ hk => hk.2) (.int .i64 t105)) (fun _ hk => hk.2) (.slice Ao85 t117.length co85)) (fun _ h_ => h_.1))))) (Kd.R_lt (by (with_reducible repeat (first | apply Kd.R_alloc | apply Kd.R_drewN | apply Kd.R_drew)); exact (Kd.R_mono (Kd.R_far (p := ⟨gb127, 1, none⟩) (Kd.R_far (p := ⟨gb127, 0, none⟩) (Kd.R_types HO126.out BK127.out (by decide)) (fun _ hk => hk.2) (.int .i64 t105)) (fun _ hk => hk.2) (.slice Ao85 t117.length co85)) (fun _ h_ => h_.1))))) (below_size (qb HB.out))); have n4_ := q0 (blk_below (g := gb112) (o := .cells #[.int .i64 a0_0, .slice A0_1 l0_1.length c0_1] 24 (0, 0)) (qf BK112.out) hb); have n5_ := q0 (blk_below (g := gb127) (o := .cells #[.int .i64 t105, .slice Ao85 t117.length co85] 30 (0, 0)) (by (with_reducible repeat (first | refine blk_drewN ?_ _ | refine blk_drew ?_ | refine blk_alloc ?_ _)); refine blk_put (cs := #[.int .i64 t105, .slice none 0 0]) ?_ 1 _ rfl; (with_reducible repeat (first | refine blk_drewN ?_ _ | refine blk_drew ?_ | refine blk_alloc ?_ _)); refine blk_put (cs := #[.int .i64 0, .slice none 0 0]) ?_ 0 _ rfl; (with_reducible repeat (first | refine blk_drewN ?_ _ | refine blk_drew ?_ | refine blk_alloc ?_ _)); exact BK127.out) hb); have n6_ := q0 (below_step (qb HB.out) hb); clear HO122 HO124 HO126 BK112 BK127 HB; have HO122 := n0_; have HO124 := n1_; have HO126 := n2_; have HO129 := n3_; have BK112 := n4_; have BK127 := n5_; have HB := n6_; clear n0_ n1_ n2_ n3_ n4_ n5_ n6_; (try clear hb); (try clear hb2); (try clear hk); (try clear hi); (try clear ho0); have hcz87_0 : w86.cell? ⟨gb127, 0, none⟩ = some (.int .i64 t105) := (blk_cell BK127.out 0).trans rfl; have hcz87_1 : w86.cell? ⟨gb127, 1, none⟩ = some (.slice Ao85 t117.length co85) := (blk_cell BK127.out 1).trans rfl; have hfz87_0 := blk_frozen BK127.out 0; have hfz87_1 := blk_frozen BK127.out 1; obtain ⟨Ao88, co88, eo88⟩ := Kd.R_slice HO129.out; subst eo88) | ((with_reducible refine gate_callee (f := 29) rfl ?_); refine goesL_ (some 31) rfl rfl Try.func29 (by kernel_rfl) rfl #[.agg #[.int .i64 t105, .slice Ao85 t117.length co85], .slice Ao88 t106.length co88] rfl qm ?_; (with_reducible refine (impl_TreeOk.calls k t105 _ _ t117 _ _ t106 t107 _ ?side1 ?side2 ?side3 ?side4 A18.out).mono ?_); (case side1 => exact qc (Kd.R_reads' HO126.out).2.2); (case side2 => exact (Kd.R_reads' HO126.out).2.1); (case side3 => exact qc (Kd.R_reads' HO129.out).2.2); (case side4 => exact (Kd.R_reads' HO129.out).2.1); rintro e w89 ⟨rfl, hb⟩; refine ⟨_, rfl, ?_⟩; have n0_ := q0 (Kd.R_below (qr HO122.out) hb); have n1_ := q0 (Kd.R_below (qr HO124.out) hb); have n2_ := q0 (Kd.R_below (qr HO126.out) hb); have n3_ := q0 (Kd.R_below (qr HO129.out) hb); have n4_ := q0 (kb BK112.out hb); have n5_ := q0 (kb BK127.out hb); have n6_ := q0 (below_step (qb HB.out) hb); clear HO122 HO124 HO126 HO129 BK112 BK127 HB; have HO122 := n0_; have HO124 := n1_; have HO126 := n2_; have HO129 := n3_; have BK112 := n4_; have BK127 := n5_; have HB := n6_; clear n0_ n1_ n2_ n3_ n4_ n5_ n6_; (try clear hb); (try clear hb2); (try clear hk); (try clear hi)))
 have n0_ := q0 (Kd.R_drew HO122.out)
 have n1_ := q0 (Kd.R_drew HO124.out)
 have n2_ := q0 (Kd.R_drew HO126.out)
 have n3_ := q0 (Kd.R_drew HO129.out)
 have n4_ := q0 (blk_drew BK112.out)
 have n5_ := q0 (blk_drew BK127.out)
 have n6_ := q0 (below_drew1 HB.out)
 clear HO122
 clear HO124
 clear HO126
 clear HO129
 clear BK112
 clear BK127
 clear HB
 have HO122 := n0_
 have HO124 := n1_
 have HO126 := n2_
 have HO129 := n3_
 have BK112 := n4_
 have BK127 := n5_
 have HB := n6_
 clear n0_ n1_ n2_ n3_ n4_ n5_ n6_
 refine start_ (n := 5) (S := fun w' => w'.cell? ⟨gb127, 0, none⟩ = some (.int .i64 t105) ∧ w'.cell? ⟨gb127, 1, none⟩ = some (.slice Ao85 t117.length co85) ∧ w'.cell? ⟨gb112, 0, none⟩ = some (.int .i64 a0_0) ∧ w'.cell? ⟨gb112, 1, none⟩ = some (.slice A0_1 l0_1.length c0_1)) (ds := []) (ba 5 0) (by kernel_rfl) rfl (by kernel_rfl) ⟨(blk_cell BK127.out 0).trans rfl, (blk_cell BK127.out 1).trans rfl, (blk_cell BK112.out 0).trans rfl, (blk_cell BK112.out 1).trans rfl⟩ (fun hHeld => ?_)
 generalize w89.drew = w90 at HO122 HO124 HO126 HO129 BK112 BK127 HB hHeld ⊢
 refine tw 0 (some 35) (ba 5 1) hHeld ?_
 refine tw 1 (some 36) (ba 5 3) hHeld ?_
 refine one_ (i := 2) (N := some 37) (ba 5 7) rfl rfl (by kernel_rfl) (by decide) (fun K hK => ?_)
 refine goes_ Try.func15 (by kernel_rfl) rfl #[.agg #[.int .i64 a0_0, .slice A0_1 l0_1.length c0_1]] (by rfl) rfl rfl qm ?_
 with_reducible refine (laws_toNet.calls k a0_0 _ _ l0_1 t108 t130 _ ?side1 ?side2 A39.out).mono ?_
 (case side1 => exact qc (Kd.C_below HR0_1.out HB.out))
 (case side2 => exact HC0_1.out)
 rintro e w91 ⟨v135, rfl, ho0, hb⟩
 refine ⟨_, rfl, ?_⟩
 have n0_ := q0 (Kd.R_elder' (qr HO122.out) (Kd.R_base ho0) hb)
 have n1_ := q0 (Kd.R_elder' (qr HO124.out) (Kd.R_base ho0) hb)
 have n2_ := q0 (Kd.R_elder' (qr HO126.out) (Kd.R_base ho0) hb)
 have n3_ := q0 (Kd.R_elder' (qr HO129.out) (Kd.R_base ho0) hb)
 have n4_ := q0 (Kd.R_lower (Kd.R_new' (Kd.R_new' (Kd.R_new' (Kd.R_new' ho0 (Kd.R_lt (qr HO122.out))) (Kd.R_lt (qr HO124.out))) (Kd.R_lt (qr HO126.out))) (Kd.R_lt (qr HO129.out))) (below_size (qb HB.out)))
 have n5_ := q0 (kb BK112.out hb)
 have n6_ := q0 (kb BK127.out hb)
 have n7_ := q0 (below_step (qb HB.out) hb)
 clear HO122
 clear HO124
 clear HO126
 clear HO129
 clear BK112
 clear BK127
 clear HB
 have HO122 := n0_
 have HO124 := n1_
 have HO126 := n2_
 have HO129 := n3_
 have HO136 := n4_
 have BK112 := n5_
 have BK127 := n6_
 have HB := n7_
 clear n0_ n1_ n2_ n3_ n4_ n5_ n6_ n7_
 (try clear hb)
 (try clear hb2)
 (try clear hk)
 (try clear hi)
 (try clear ho0)
 obtain ⟨Ao92, co92, eo92⟩ := Kd.R_slice HO136.out
 (first | subst eo92 | (injection eo92 with f1_ f2_ f3_; have f4_ := f1_.symm; have f5_ := f3_.symm; clear f1_ f2_ f3_; subst f4_; subst f5_))
 refine hK.out _ _ ⟨(blk_cell BK127.out 0).trans rfl, (blk_cell BK127.out 1).trans rfl, (blk_cell BK112.out 0).trans rfl, (blk_cell BK112.out 1).trans rfl⟩ (fun hHeld => ?_)
 clear hK K
 refine nu 37 ?_
 refine one_ (i := 3) (N := some 38) (ba 5 15) rfl rfl (by kernel_rfl) (by decide) (fun K hK => ?_)
 refine goes_ Try.func18 (by kernel_rfl) rfl #[.agg #[.int .i64 t105, .slice Ao85 t117.length co85], .agg #[.int .i64 t108, .slice Ao92 t130.length co92]] (by rfl) rfl rfl qm ?_
 with_reducible refine (laws_eqNet.calls k t105 _ _ t117 t108 _ _ t130 true _ ?side1 ?side2 ?side3 ?side4 A40.out).mono ?_
 (case side1 => exact qc (Kd.R_reads' HO126.out).2.2)
 (case side2 => exact (Kd.R_reads' HO126.out).2.1)
 (case side3 => exact qc (Kd.R_reads' HO136.out).2.2)
 (case side4 => exact (Kd.R_reads' HO136.out).2.1)
 rintro e w93 ⟨rfl, hb⟩
 refine ⟨_, rfl, ?_⟩
 have n0_ := q0 (Kd.R_below (qr HO122.out) hb)
 have n1_ := q0 (Kd.R_below (qr HO124.out) hb)
 have n2_ := q0 (Kd.R_below (qr HO126.out) hb)
 have n3_ := q0 (Kd.R_below (qr HO129.out) hb)
 have n4_ := q0 (Kd.R_below (qr HO136.out) hb)
 have n5_ := q0 (kb BK112.out hb)
 have n6_ := q0 (kb BK127.out hb)
 have n7_ := q0 (below_step (qb HB.out) hb)
 clear HO122
 clear HO124
 clear HO126
 clear HO129
 clear HO136
 clear BK112
 clear BK127
 clear HB
 have HO122 := n0_
 have HO124 := n1_
 have HO126 := n2_
 have HO129 := n3_
 have HO136 := n4_
 have BK112 := n5_
 have BK127 := n6_
 have HB := n7_
 clear n0_ n1_ n2_ n3_ n4_ n5_ n6_ n7_
 (try clear hb)
 (try clear hb2)
 (try clear hk)
 (try clear hi)
 refine hK.out _ _ ⟨(blk_cell BK127.out 0).trans rfl, (blk_cell BK127.out 1).trans rfl, (blk_cell BK112.out 0).trans rfl, (blk_cell BK112.out 1).trans rfl⟩ (fun hHeld => ?_)
 clear hK K
 refine nu 38 ?_
 refine pw 4 (some 39) (ba 5 31) ?_
 refine done_ (by kernel_rfl) ?_
 try go_wp2_with (first | ((with_reducible refine gate_callee (f := 28) rfl ?_); refine goesL_ (some 42) rfl rfl Try.func28 (by kernel_rfl) rfl #[.slice A1 l1.length c1] rfl qm ?_; (with_reducible refine (laws_toTieS.calls k _ _ l1 t110 _ ?side1 ?side2 A42.out).mono ?_); (case side1 => exact qc (Kd.C_below HR1.out HB.out)); (case side2 => exact HC1.out); rintro e w94 ⟨v137, rfl, ho0, hb⟩; refine ⟨_, rfl, ?_⟩; have n0_ := q0 (Kd.R_elder' (qr HO122.out) (Kd.R_base ho0) hb); have n1_ := q0 (Kd.R_elder' (qr HO124.out) (Kd.R_base ho0) hb); have n2_ := q0 (Kd.R_elder' (qr HO126.out) (Kd.R_base ho0) hb); have n3_ := q0 (Kd.R_elder' (qr HO129.out) (Kd.R_base ho0) hb); have n4_ := q0 (Kd.R_elder' (qr HO136.out) (Kd.R_base ho0) hb); have n5_ := q0 (Kd.R_lower (Kd.R_new' (Kd.R_new' (Kd.R_new' (Kd.R_new' (Kd.R_new' ho0 (Kd.R_lt (qr HO122.out))) (Kd.R_lt (qr HO124.out))) (Kd.R_lt (qr HO126.out))) (Kd.R_lt (qr HO129.out))) (Kd.R_lt (qr HO136.out))) (below_size (qb HB.out))); have n6_ := q0 (kb BK112.out hb); have n7_ := q0 (kb BK127.out hb); have n8_ := q0 (below_step (qb HB.out) hb); clear HO122 HO124 HO126 HO129 HO136 BK112 BK127 HB; have HO122 := n0_; have HO124 := n1_; have HO126 := n2_; have HO129 := n3_; have HO136 := n4_; have HO138 := n5_; have BK112 := n6_; have BK127 := n7_; have HB := n8_; clear n0_ n1_ n2_ n3_ n4_ n5_ n6_ n7_ n8_; (try clear hb); (try clear hb2); (try clear hk); (try clear hi); (try clear ho0); obtain ⟨Ao95, co95, eo95⟩ := Kd.R_slice HO138.out; subst eo95) | ((with_reducible refine gate_callee (f := 30) rfl ?_); refine goesL_ (some 43) rfl rfl Try.func30 (by kernel_rfl) rfl #[.slice Ao88 t106.length co88, .slice Ao95 t110.length co95] rfl qm ?_; (with_reducible refine (laws_eqTieS.calls k _ _ t106 _ _ t110 false _ ?side1 ?side2 ?side3 ?side4 A43.out).mono ?_); (case side1 => exact qc (Kd.R_reads' HO129.out).2.2); (case side2 => exact (Kd.R_reads' HO129.out).2.1); (case side3 => exact qc (Kd.R_reads' HO138.out).2.2); (case side4 => exact (Kd.R_reads' HO138.out).2.1); rintro e w96 ⟨rfl, hb⟩; refine ⟨_, rfl, ?_⟩; have n0_ := q0 (Kd.R_below (qr HO122.out) hb); have n1_ := q0 (Kd.R_below (qr HO124.out) hb); have n2_ := q0 (Kd.R_below (qr HO126.out) hb); have n3_ := q0 (Kd.R_below (qr HO129.out) hb); have n4_ := q0 (Kd.R_below (qr HO136.out) hb); have n5_ := q0 (Kd.R_below (qr HO138.out) hb); have n6_ := q0 (kb BK112.out hb); have n7_ := q0 (kb BK127.out hb); have n8_ := q0 (below_step (qb HB.out) hb); clear HO122 HO124 HO126 HO129 HO136 HO138 BK112 BK127 HB; have HO122 := n0_; have HO124 := n1_; have HO126 := n2_; have HO129 := n3_; have HO136 := n4_; have HO138 := n5_; have BK112 := n6_; have BK127 := n7_; have HB := n8_; clear n0_ n1_ n2_ n3_ n4_ n5_ n6_ n7_ n8_; (try clear hb); (try clear hb2); (try clear hk); (try clear hi)))
 go_ret
 exact ⟨qe, qb HB.out⟩

end Go.Proofs.Ytheoebelhgbejaa.P
