import Derived.Test.YtgoembpmhlmafaaP0
import Derived.Test.YtgoembpmhlmafaaP1
import Derived.Test.YtgoembpmhlmafaaP4
import Derived.Test.YtgoembpmhlmafaaP5
import Derived.Test.YtgoembpmhlmafaaP9
import Derived.Test.YtgoembpmhlmafaaP12
import Derived.Test.YtgoembpmhlmafaaP13
namespace Go.Proofs.Ytgoembpmhlmafaa.P
open Go.RowKit Go.Proofs.YtgoembpmhlmafaaW.PrintWords Go.Proofs.YtgoembpmhlmafaaW.PrintLast Go.Proofs.YtgoembpmhlmafaaW.PrintMore
attribute [local go_sem] max2_int min2_int max_two min_two max_three min_three max_four min_four
set_option linter.unusedVariables false
set_option linter.unusedSimpArgs false
attribute [local go_sem high] eqATie
set_option maxHeartbeats 8000000 in
set_option maxRecDepth 100000 in
theorem impl_WayCount.calls (k : Nat) (a0_0 : Int) (A0_1 : Option Addr) (c0_1 : Nat) (l0_1 : List (STie)) (r : Int) (w : World) (hr0_1 : Kd.C kTie w A0_1 l0_1.length l0_1) (hc0_1 : l0_1.length ≤ c0_1) (h : impl_WayCount.f k a0_0 l0_1 = some r) :
    Calls Try.prog 41 #[.agg #[.int .i64 a0_0, .slice A0_1 l0_1.length c0_1]] w fun e w' => e = .returned (.int .i64 r) ∧ Below w.heap.size w w' := by
 have hu25 := Try.underlying25
 have HR0_1 := Aside0.mk hr0_1
 have HC0_1 := Aside0.mk hc0_1
 clear hr0_1 hc0_1
 have HB := q0 (Below.refl w.heap.size w)
 have H : ((impl_NetOk.f k a0_0 l0_1).bind fun t100 => (if t100 = true then ((impl_Net_count.f k a0_0 l0_1).bind fun t101 => (some t101)) else (some (-1)))) = some r := h
 clear h
 replace H := Option.bind_eq_some_iff.mp H
 obtain ⟨t100, A20, H⟩ := H
 have A2 := Aside0.mk A20
 clear A20
 by_cases c3 : t100 = true
 rotate_left
 · replace c3 := Bool.eq_false_iff.mpr c3
   subst c3
   rw [if_neg nf] at H
   obtain rfl := Option.some.inj H
   go_enter Try.func41, Try.ntmps41
   go_wp2_with (first | ((with_reducible refine gate_dst (N := 1) rfl ?_); refine be 1 #[.int .i64 a0_0, .slice A0_1 l0_1.length c0_1] 25 ?_; intro gb102 hg w10 hbox hb; have BK102 := q0 (hbox); have GW102 := q0 ((bs HB.out hg : w.heap.size ≤ gb102)); have GE102 := q0 ((bs HB.out hg : w.heap.size ≤ gb102)); replace HB := q0 (below_step (qb HB.out) hb); clear hb hbox hg; have hcz11_0 : w10.cell? ⟨gb102, 0, none⟩ = some (.int .i64 a0_0) := (blk_cell BK102.out 0).trans rfl; have hcz11_1 : w10.cell? ⟨gb102, 1, none⟩ = some (.slice A0_1 l0_1.length c0_1) := (blk_cell BK102.out 1).trans rfl; have hfz11_0 := blk_frozen BK102.out 0; have hfz11_1 := blk_frozen BK102.out 1) | ((with_reducible refine gate_callee (f := 37) rfl ?_); refine gl 4 Try.func37 #[.agg #[.int .i64 a0_0, .slice A0_1 l0_1.length c0_1]] ?_; (with_reducible refine (impl_NetOk.calls k a0_0 _ _ l0_1 false _ ?side1 ?side2 A2.out).mono ?_); (case side1 => exact qc (Kd.C_below HR0_1.out HB.out)); (case side2 => exact HC0_1.out); rintro e w12 ⟨rfl, hb⟩; refine ⟨_, rfl, ?_⟩; replace BK102 := q0 (kb BK102.out hb); replace HB := q0 (below_step (qb HB.out) hb); (try clear hb); (try clear hb2); (try clear hk); (try clear hi)))
   go_ret
   exact ⟨qe, qb HB.out⟩
 subst c3
 rw [if_pos rfl] at H
 replace H := Option.bind_eq_some_iff.mp H
 obtain ⟨t101, A40, H⟩ := H
 have A4 := Aside0.mk A40
 clear A40
 obtain rfl := Option.some.inj H
 go_enter Try.func41, Try.ntmps41
 go_wp2_with (first | ((with_reducible refine gate_dst (N := 1) rfl ?_); refine be 1 #[.int .i64 a0_0, .slice A0_1 l0_1.length c0_1] 25 ?_; intro gb102 hg w5 hbox hb; have BK102 := q0 (hbox); have GW102 := q0 ((bs HB.out hg : w.heap.size ≤ gb102)); have GE102 := q0 ((bs HB.out hg : w.heap.size ≤ gb102)); replace HB := q0 (below_step (qb HB.out) hb); clear hb hbox hg; have hcz6_0 : w5.cell? ⟨gb102, 0, none⟩ = some (.int .i64 a0_0) := (blk_cell BK102.out 0).trans rfl; have hcz6_1 : w5.cell? ⟨gb102, 1, none⟩ = some (.slice A0_1 l0_1.length c0_1) := (blk_cell BK102.out 1).trans rfl; have hfz6_0 := blk_frozen BK102.out 0; have hfz6_1 := blk_frozen BK102.out 1) | ((with_reducible refine gate_callee (f := 37) rfl ?_); refine gl 4 Try.func37 #[.agg #[.int .i64 a0_0, .slice A0_1 l0_1.length c0_1]] ?_; (with_reducible refine (impl_NetOk.calls k a0_0 _ _ l0_1 true _ ?side1 ?side2 A2.out).mono ?_); (case side1 => exact qc (Kd.C_below HR0_1.out HB.out)); (case side2 => exact HC0_1.out); rintro e w7 ⟨rfl, hb⟩; refine ⟨_, rfl, ?_⟩; replace BK102 := q0 (kb BK102.out hb); replace HB := q0 (below_step (qb HB.out) hb); (try clear hb); (try clear hb2); (try clear hk); (try clear hi); have hcz8_0 : w7.cell? ⟨gb102, 0, none⟩ = some (.int .i64 a0_0) := (blk_cell BK102.out 0).trans rfl; have hcz8_1 : w7.cell? ⟨gb102, 1, none⟩ = some (.slice A0_1 l0_1.length c0_1) := (blk_cell BK102.out 1).trans rfl; have hfz8_0 := blk_frozen BK102.out 0; have hfz8_1 := blk_frozen BK102.out 1) | ((with_reducible refine gate_callee (f := 61) rfl ?_); refine gl 7 Try.func61 #[.agg #[.int .i64 a0_0, .slice A0_1 l0_1.length c0_1]] ?_; (with_reducible refine (impl_Net_count.calls k a0_0 _ _ l0_1 t101 _ ?side1 ?side2 A4.out).mono ?_); (case side1 => exact qc (Kd.C_below HR0_1.out HB.out)); (case side2 => exact HC0_1.out); rintro e w9 ⟨rfl, hb⟩; refine ⟨_, rfl, ?_⟩; replace BK102 := q0 (kb BK102.out hb); replace HB := q0 (below_step (qb HB.out) hb); (try clear hb); (try clear hb2); (try clear hk); (try clear hi)))
 go_ret
 exact ⟨qe, qb HB.out⟩

def laws_FnWayTie.T11 : Bool × List (List Nat × List Nat) := (true, [([], []), ([0], [0]), ([], []), ([2, 1], [2]), ([], []), ([3, 4], [3, 4]), ([1, 5], [1, 5]), ([6, 3, 0, 1, 2, 3, 4, 5, 6], [6])])
def laws_FnWayTie.B11 : List Nat := [0, 1, 0, 7, 0, 31, 63, 127]
theorem laws_FnWayTie.tab11 : rtab .any (opsOf Try.f10 11) = laws_FnWayTie.T11 := by kernel_rfl
theorem laws_FnWayTie.bits11 : waitsOk laws_FnWayTie.T11.2 laws_FnWayTie.B11 = true := by kernel_rfl
set_option maxHeartbeats 8000000 in
set_option maxRecDepth 100000 in
theorem laws_FnWayTie.calls (k : Nat) (A0 : Option Addr) (c0 : Nat) (l0 : List Int) (r : Bool) (w : World) (hr0 : Kd.C (Kd.int .u8) w A0 l0.length l0) (hc0 : l0.length ≤ c0) (h : laws_FnWayTie.f k l0 = some r) :
    Calls Try.prog 10 #[.slice A0 l0.length c0] w fun e w' => e = .returned (.bool r) ∧ Below w.heap.size w w' := by
 have hu25 := Try.underlying25
 have HR0 := Aside0.mk hr0
 have HC0 := Aside0.mk hc0
 clear hr0 hc0
 have HB := q0 (Below.refl w.heap.size w)
 have H : (if (l0.length : Int) > 1048576 then (some true) else ((spec_DrawNetAdd.f k l0).bind fun bt109 => ((impl_NetAdd.f k bt109.1 bt109.2.1 bt109.2.2.1 bt109.2.2.2).bind fun bt100 => ((spec_NetAdd.f k bt109.1 bt109.2.1 bt109.2.2.1 bt109.2.2.2).bind fun bt101 => (if (bt100.2.2 != bt101.2.2) = true then (laws_FnWayTie.j0 k bt109.2.2.1 bt109.2.2.2 bt100.2.2 bt101.2.2 true bt109.1 bt109.2.1 bt100.1 bt100.2.1 bt101.1 bt101.2.1) else ((laws_loNet.f k bt100.1 bt100.2.1 bt101.1 bt101.2.1).bind fun t102 => (if t102 = true then (laws_FnWayTie.j0 k bt109.2.2.1 bt109.2.2.2 bt100.2.2 bt101.2.2 (!bt100.2.2) bt109.1 bt109.2.1 bt100.1 bt100.2.1 bt101.1 bt101.2.1) else (laws_FnWayTie.j0 k bt109.2.2.1 bt109.2.2.2 bt100.2.2 bt101.2.2 true bt109.1 bt109.2.1 bt100.1 bt100.2.1 bt101.1 bt101.2.1)))))))) = some r := h
 clear h
 by_cases c2 : (l0.length : Int) > 1048576
 · rw [if_pos c2] at H
   have c2b0 : decide (1048576 < (l0.length : Int)) = true := decide_eq_true c2
   have c2b1 : decide (1048576 < l0.length) = true := decide_eq_true (by omega)
   clear c2
   obtain rfl := Option.some.inj H
   go_enter Try.func10, Try.ntmps10
   go_wp2
   go_ret
   exact ⟨qe, qb HB.out⟩
 rw [if_neg c2] at H
 have c2b0 : decide (1048576 < (l0.length : Int)) = false := decide_eq_false c2
 have c2b1 : decide (1048576 < l0.length) = false := decide_eq_false (by omega)
 clear c2
 replace H := Option.bind_eq_some_iff.mp H
 obtain ⟨⟨t109, t110, t111, t112⟩, A30, H⟩ := H
 have A3 := Aside0.mk A30
 clear A30
 replace H := Option.bind_eq_some_iff.mp H
 obtain ⟨⟨t100, t113, t114⟩, A40, H⟩ := H
 have A4 := Aside0.mk A40
 clear A40
 replace H := Option.bind_eq_some_iff.mp H
 obtain ⟨⟨t101, t115, t116⟩, A50, H⟩ := H
 have A5 := Aside0.mk A50
 clear A50
 have HC6 := Aside0.mk H
 clear H
 go_enter Try.func10, Try.ntmps10
 go_upto_region 6 with (first | ((with_reducible refine gate_callee (f := 33) rfl ?_); refine gl 16 Try.func33 #[.slice A0 l0.length c0] ?_; (with_reducible refine (spec_DrawNetAdd.calls k _ _ l0 t109 t110 t111 t112 _ ?side1 ?side2 A3.out).mono ?_); (case side1 => repeat (first | exact HR0.out | (with_reducible refine Kd.C_alloc ?_ _) | (with_reducible refine Kd.C_drewN ?_ _) | (with_reducible refine Kd.C_drew ?_))); (case side2 => exact HC0.out); rintro e w7 ⟨v117, rfl, ho0, hb⟩; refine ⟨_, rfl, ?_⟩; have HO118 := q0 (Kd.R_lower ho0 (below_size (qb HB.out))); replace HB := q0 (below_step (qb HB.out) hb); (try clear hb); (try clear hb2); (try clear hk); (try clear hi); (try clear ho0)) | ((with_reducible refine gate_dst (N := 3) rfl ?_); refine be 3 #[.int .i64 0, .slice none 0 0] 25 ?_; intro gb119 hg w8 hbox hb; replace HO118 := q0 (Kd.R_below (qr HO118.out) hb); have BK119 := q0 (hbox); have GW119 := q0 ((bs HB.out hg : w.heap.size ≤ gb119)); have GE119 := q0 ((bs HB.out hg : w.heap.size ≤ gb119)); replace HB := q0 (below_step (qb HB.out) hb); clear hb hbox hg; have hcz9_0 : w8.cell? ⟨gb119, 0, none⟩ = some (.int .i64 0) := (blk_cell BK119.out 0).trans rfl; have hcz9_1 : w8.cell? ⟨gb119, 1, none⟩ = some (.slice none 0 0) := (blk_cell BK119.out 1).trans rfl; have hfz9_0 := blk_frozen BK119.out 0; have hfz9_1 := blk_frozen BK119.out 1; obtain ⟨Ao10, co10, eo10⟩ := Kd.R_slice HO118.out; subst eo10) | ((with_reducible refine gate_callee (f := 29) rfl ?_); refine gl 24 Try.func29 #[.agg #[.int .i64 t109, .slice Ao10 t110.length co10], .int .i64 t111, .int .i64 t112] ?_; (with_reducible refine (impl_NetAdd.calls k t109 _ _ t110 t111 t112 t100 t113 t114 _ ?side1 ?side2 A4.out).mono ?_); (case side1 => refine (Kd.R_reads' (e := 32) (base := w.heap.size) (ok := fun k_ => True) (n := t110.length) (c := co10) ?_).2.2; exact (by (with_reducible repeat (first | apply Kd.R_alloc | apply Kd.R_drewN | apply Kd.R_drew)); exact (rf2 HO118.out BK119.out (fun _ h_ => h_.1)))); (case side2 => exact (Kd.R_reads' HO118.out).2.1); rintro e w11 ⟨v120, rfl, ho0, hb⟩; refine ⟨_, rfl, ?_⟩; have HO121 := q0 (Kd.R_lower (Kd.R_new' ho0 (Kd.R_lt (by (with_reducible repeat (first | apply Kd.R_alloc | apply Kd.R_drewN | apply Kd.R_drew)); exact (rf2 HO118.out BK119.out (fun _ h_ => h_.1))))) (below_size (qb HB.out))); replace HO118 := q0 (Kd.R_elder' (by (with_reducible repeat (first | apply Kd.R_alloc | apply Kd.R_drewN | apply Kd.R_drew)); exact (rf2 HO118.out BK119.out (fun _ h_ => h_.1))) (Kd.R_base ho0) hb); replace BK119 := q0 (blk_below (g := gb119) (o := .cells #[.int .i64 t109, .slice Ao10 t110.length co10] 25 (0, 0)) (by (with_reducible repeat (first | refine blk_drewN ?_ _ | refine blk_drew ?_ | refine blk_alloc ?_ _)); refine blk_put (cs := #[.int .i64 t109, .slice none 0 0]) ?_ 1 _ rfl; (with_reducible repeat (first | refine blk_drewN ?_ _ | refine blk_drew ?_ | refine blk_alloc ?_ _)); refine blk_put (cs := #[.int .i64 0, .slice none 0 0]) ?_ 0 _ rfl; (with_reducible repeat (first | refine blk_drewN ?_ _ | refine blk_drew ?_ | refine blk_alloc ?_ _)); exact BK119.out) hb); replace HB := q0 (below_step (qb HB.out) hb); (try clear hb); (try clear hb2); (try clear hk); (try clear hi); (try clear ho0)) | ((with_reducible refine gate_dst (N := 6) rfl ?_); refine be 6 #[.int .i64 0, .slice none 0 0] 25 ?_; intro gb122 hg w12 hbox hb; replace HO118 := q0 (Kd.R_below (qr HO118.out) hb); replace HO121 := q0 (Kd.R_below (qr HO121.out) hb); have BK122 := q0 (hbox); have GW122 := q0 ((bs HB.out hg : w.heap.size ≤ gb122)); have GE122 := q0 ((bs HB.out hg : w.heap.size ≤ gb122)); replace HB := q0 (below_step (qb HB.out) hb); have NB119_122 := q0 ((bl BK119.out hg : gb119 ≠ gb122)); have NB122_119 := q0 ((bg BK119.out hg : gb122 ≠ gb119)); replace BK119 := q0 (kb BK119.out hb); clear hb hbox hg; have hnb13 := NB122_119.out; have hnc13 := NB119_122.out; have hcz14_0 : w12.cell? ⟨gb122, 0, none⟩ = some (.int .i64 0) := (blk_cell BK122.out 0).trans rfl; have hcz14_1 : w12.cell? ⟨gb122, 1, none⟩ = some (.slice none 0 0) := (blk_cell BK122.out 1).trans rfl; have hfz14_0 := blk_frozen BK122.out 0; have hfz14_1 := blk_frozen BK122.out 1; obtain ⟨Ao15, co15, eo15⟩ := Kd.R_slice HO121.out; subst eo15; have hcz16_0 : w12.cell? ⟨gb119, 0, none⟩ = some (.int .i64 t109) := (blk_cell BK119.out 0).trans rfl; have hcz16_1 : w12.cell? ⟨gb119, 1, none⟩ = some (.slice Ao10 t110.length co10) := (blk_cell BK119.out 1).trans rfl; have hfz16_0 := blk_frozen BK119.out 0; have hfz16_1 := blk_frozen BK119.out 1) | ((with_reducible refine gate_callee (f := 27) rfl ?_); refine gl 31 Try.func27 #[.agg #[.int .i64 t109, .slice Ao10 t110.length co10], .int .i64 t111, .int .i64 t112] ?_; (with_reducible refine (spec_NetAdd.calls k t109 _ _ t110 t111 t112 t101 t115 t116 _ ?side1 ?side2 A5.out).mono ?_); (case side1 => refine (Kd.R_reads' (e := 32) (base := w.heap.size) (ok := fun k_ => (True ∧ some k_ ≠ (.slice Ao15 t113.length co15 : Value).ownBlock)) (n := t110.length) (c := co10) ?_).2.2; exact (by (with_reducible repeat (first | apply Kd.R_alloc | apply Kd.R_drewN | apply Kd.R_drew)); exact (rf2 HO118.out BK122.out (fun _ h_ => h_.1)))); (case side2 => exact (Kd.R_reads' HO118.out).2.1); rintro e w17 ⟨v123, rfl, ho0, hb⟩; refine ⟨_, rfl, ?_⟩; have HO124 := q0 (Kd.R_lower (Kd.R_new' (Kd.R_new' ho0 (Kd.R_lt (by (with_reducible repeat (first | apply Kd.R_alloc | apply Kd.R_drewN | apply Kd.R_drew)); exact (rf2 HO118.out BK122.out (fun _ h_ => h_.1))))) (Kd.R_lt (by (with_reducible repeat (first | apply Kd.R_alloc | apply Kd.R_drewN | apply Kd.R_drew)); exact (rf2 HO121.out BK122.out (fun _ h_ => h_.1))))) (below_size (qb HB.out))); replace HO118 := q0 (Kd.R_elder' (by (with_reducible repeat (first | apply Kd.R_alloc | apply Kd.R_drewN | apply Kd.R_drew)); exact (rf2 HO118.out BK122.out (fun _ h_ => h_.1))) (Kd.R_base ho0) hb); replace HO121 := q0 (Kd.R_elder' (by (with_reducible repeat (first | apply Kd.R_alloc | apply Kd.R_drewN | apply Kd.R_drew)); exact (rf2 HO121.out BK122.out (fun _ h_ => h_.1))) (Kd.R_base ho0) hb); replace BK119 := q0 (kf BK119.out hb); replace BK122 := q0 (blk_below (g := gb122) (o := .cells #[.int .i64 t100, .slice Ao15 t113.length co15] 25 (0, 0)) (by (with_reducible repeat (first | refine blk_drewN ?_ _ | refine blk_drew ?_ | refine blk_alloc ?_ _)); refine blk_put (cs := #[.int .i64 t100, .slice none 0 0]) ?_ 1 _ rfl; (with_reducible repeat (first | refine blk_drewN ?_ _ | refine blk_drew ?_ | refine blk_alloc ?_ _)); refine blk_put (cs := #[.int .i64 0, .slice none 0 0]) ?_ 0 _ rfl; (with_reducible repeat (first | refine blk_drewN ?_ _ | refine blk_drew ?_ | refine blk_alloc ?_ _)); exact BK122.out) hb); replace HB := q0 (below_step (qb HB.out) hb); (try clear hb); (try clear hb2); (try clear hk); (try clear hi); (try clear ho0)) | ((with_reducible refine gate_dst (N := 8) rfl ?_); refine be 8 #[.int .i64 0, .slice none 0 0] 25 ?_; intro gb125 hg w18 hbox hb; replace HO118 := q0 (Kd.R_below (qr HO118.out) hb); replace HO121 := q0 (Kd.R_below (qr HO121.out) hb); replace HO124 := q0 (Kd.R_below (qr HO124.out) hb); have BK125 := q0 (hbox); have GW125 := q0 ((bs HB.out hg : w.heap.size ≤ gb125)); have GE125 := q0 ((bs HB.out hg : w.heap.size ≤ gb125)); replace HB := q0 (below_step (qb HB.out) hb); have NB119_125 := q0 ((bl BK119.out hg : gb119 ≠ gb125)); have NB125_119 := q0 ((bg BK119.out hg : gb125 ≠ gb119)); replace BK119 := q0 (kb BK119.out hb); have NB122_125 := q0 ((bl BK122.out hg : gb122 ≠ gb125)); have NB125_122 := q0 ((bg BK122.out hg : gb125 ≠ gb122)); replace BK122 := q0 (kb BK122.out hb); clear hb hbox hg; have hnb19 := NB125_119.out; have hnc19 := NB119_125.out; have hnb20 := NB125_122.out; have hnc20 := NB122_125.out; have hcz21_0 : w18.cell? ⟨gb125, 0, none⟩ = some (.int .i64 0) := (blk_cell BK125.out 0).trans rfl; have hcz21_1 : w18.cell? ⟨gb125, 1, none⟩ = some (.slice none 0 0) := (blk_cell BK125.out 1).trans rfl; have hfz21_0 := blk_frozen BK125.out 0; have hfz21_1 := blk_frozen BK125.out 1; obtain ⟨Ao22, co22, eo22⟩ := Kd.R_slice HO124.out; subst eo22))
 (try simp only [Act.put, List.setIfInBounds_toArray, List.set_cons_zero, List.set_cons_succ])
 go_cut [46] (fun v46 wc => ∃ (kq : Nat) (x46_5 : Bool), v46 = .bool x46_5 ∧ Aside0 (laws_FnWayTie.j0 kq t111 t112 t114 t116 x46_5 t109 t110 t100 t113 t101 t115 = some r) ∧ Aside0 (kq ≤ k) ∧ Aside0 (Kd.R kTie 32 wc w.heap.size (fun k_ => some k_ ≠ ((.slice Ao15 t113.length co15) : Value).ownBlock ∧ some k_ ≠ ((.slice Ao22 t115.length co22) : Value).ownBlock) (.slice Ao10 t110.length co10) t110) ∧ Aside0 (Kd.R kTie 32 wc w.heap.size (fun k_ => some k_ ≠ ((.slice Ao10 t110.length co10) : Value).ownBlock ∧ some k_ ≠ ((.slice Ao22 t115.length co22) : Value).ownBlock) (.slice Ao15 t113.length co15) t113) ∧ Aside0 (Kd.R kTie 32 wc w.heap.size (fun k_ => some k_ ≠ ((.slice Ao10 t110.length co10) : Value).ownBlock ∧ some k_ ≠ ((.slice Ao15 t113.length co15) : Value).ownBlock) (.slice Ao22 t115.length co22) t115) ∧ Aside0 (wc.heap[gb119]? = some (.cells #[.int .i64 t109, (.slice Ao10 t110.length co10)] 25 (0, 0))) ∧ Aside0 (wc.heap[gb122]? = some (.cells #[.int .i64 t100, (.slice Ao15 t113.length co15)] 25 (0, 0))) ∧ Aside0 (wc.heap[gb125]? = some (.cells #[.int .i64 t101, (.slice Ao22 t115.length co22)] 25 (0, 0))) ∧ Aside0 (Below w.heap.size w wc))
 case first =>
   have H := HC6.out
   clear HC6
   by_cases c23 : (t114 != t116) = true
   · rw [if_pos c23] at H
     have c23b0 : (t114 != t116) = true := c23
     (try (have c23b1 : decide (t114 = t116) = false := by simpa using c23))
     (try (have c23b2 : (t114 == t116) = false := by simpa using c23))
     (try (have c23b3 : ¬ (t114 = t116) := by simpa using c23))
     clear c23
     (first | rw [c23b0] | (simp only [i64_w, i32_w]; rw [c23b0]) | skip)
     have H' := Aside0.mk H
     clear H
     go_wp2
     go_meet
     case rel => exact ⟨_, (true), qs, H', ⟨by first | omega | exact Nat.le_refl _⟩, ⟨by (with_reducible repeat (first | apply Kd.R_alloc | apply Kd.R_drewN | apply Kd.R_drew)); exact rf2 HO118.out BK125.out (fun _ hk => ⟨hk.1.1.2, hk.1.2⟩)⟩, ⟨by (with_reducible repeat (first | apply Kd.R_alloc | apply Kd.R_drewN | apply Kd.R_drew)); exact rf2 HO121.out BK125.out (fun _ hk => ⟨hk.1.1.2, hk.1.2⟩)⟩, ⟨by (with_reducible repeat (first | apply Kd.R_alloc | apply Kd.R_drewN | apply Kd.R_drew)); exact rf2 HO124.out BK125.out (fun _ hk => ⟨hk.1.1.2, hk.1.2⟩)⟩, ⟨qf BK119.out⟩, ⟨qf BK122.out⟩, ⟨by (with_reducible repeat (first | refine blk_drewN ?_ _ | refine blk_drew ?_ | refine blk_alloc ?_ _)); refine blk_put (cs := #[.int .i64 t101, .slice none 0 0]) ?_ 1 _ rfl; (with_reducible repeat (first | refine blk_drewN ?_ _ | refine blk_drew ?_ | refine blk_alloc ?_ _)); refine blk_put (cs := #[.int .i64 0, .slice none 0 0]) ?_ 0 _ rfl; (with_reducible repeat (first | refine blk_drewN ?_ _ | refine blk_drew ?_ | refine blk_alloc ?_ _)); exact BK125.out⟩, ⟨qb HB.out⟩⟩
   rw [if_neg c23] at H
   have c23b0 : (t114 != t116) = false := by simpa using c23
   (try (have c23b1 : decide (t114 = t116) = true := by simpa using c23))
   (try (have c23b2 : (t114 == t116) = true := by simpa using c23))
   clear c23
   (first | rw [c23b0] | (simp only [i64_w, i32_w]; rw [c23b0]) | skip)
   replace H := Option.bind_eq_some_iff.mp H
   obtain ⟨t102, A126, H⟩ := H
   have A24 := Aside0.mk A126
   clear A126
   by_cases c25 : t102 = true
   · subst c25
     rw [if_pos rfl] at H
     have H' := Aside0.mk H
     clear H
     have hnb26 := NB122_119.out
     have hnc26 := NB119_122.out
     have hnb27 := NB122_125.out
     have hnc27 := NB125_122.out
     have hcz28_0 : w18.cell? ⟨gb122, 0, none⟩ = some (.int .i64 t100) := (blk_cell BK122.out 0).trans rfl
     have hcz28_1 : w18.cell? ⟨gb122, 1, none⟩ = some (.slice Ao15 t113.length co15) := (blk_cell BK122.out 1).trans rfl
     have hfz28_0 := blk_frozen BK122.out 0
     have hfz28_1 := blk_frozen BK122.out 1
     have hnb29 := NB125_119.out
     have hnc29 := NB119_125.out
     have hcz30_0 : w18.cell? ⟨gb125, 0, none⟩ = some (.int .i64 0) := (blk_cell BK125.out 0).trans rfl
     have hcz30_1 : w18.cell? ⟨gb125, 1, none⟩ = some (.slice none 0 0) := (blk_cell BK125.out 1).trans rfl
     have hfz30_0 := blk_frozen BK125.out 0
     have hfz30_1 := blk_frozen BK125.out 1
     go_wp2_with (first | (go_at_call 34; (with_reducible refine (laws_loNet.calls k t100 _ _ t113 t101 _ _ t115 true _ ?side1 ?side2 ?side3 ?side4 A24.out).mono ?_); (case side1 => refine (Kd.R_reads' (e := 32) (base := w.heap.size) (ok := fun k_ => ((True ∧ some k_ ≠ (.slice Ao10 t110.length co10 : Value).ownBlock) ∧ some k_ ≠ (.slice Ao22 t115.length co22 : Value).ownBlock)) (n := t113.length) (c := co15) ?_).2.2; exact (by (with_reducible repeat (first | apply Kd.R_alloc | apply Kd.R_drewN | apply Kd.R_drew)); exact (rf2 HO121.out BK125.out (fun _ h_ => h_.1)))); (case side2 => exact (Kd.R_reads' HO121.out).2.1); (case side3 => refine (Kd.R_reads' (e := 32) (base := w.heap.size) (ok := fun k_ => ((True ∧ some k_ ≠ (.slice Ao10 t110.length co10 : Value).ownBlock) ∧ some k_ ≠ (.slice Ao15 t113.length co15 : Value).ownBlock)) (n := t115.length) (c := co22) ?_).2.2; exact (by (with_reducible repeat (first | apply Kd.R_alloc | apply Kd.R_drewN | apply Kd.R_drew)); exact (rf2 HO124.out BK125.out (fun _ h_ => h_.1)))); (case side4 => exact (Kd.R_reads' HO124.out).2.1); rintro e w31 ⟨rfl, hb⟩; replace HO118 := q0 (Kd.R_below (by (with_reducible repeat (first | apply Kd.R_alloc | apply Kd.R_drewN | apply Kd.R_drew)); exact (rf2 HO118.out BK125.out (fun _ h_ => h_.1))) hb); replace HO121 := q0 (Kd.R_below (by (with_reducible repeat (first | apply Kd.R_alloc | apply Kd.R_drewN | apply Kd.R_drew)); exact (rf2 HO121.out BK125.out (fun _ h_ => h_.1))) hb); replace HO124 := q0 (Kd.R_below (by (with_reducible repeat (first | apply Kd.R_alloc | apply Kd.R_drewN | apply Kd.R_drew)); exact (rf2 HO124.out BK125.out (fun _ h_ => h_.1))) hb); replace BK119 := q0 (kf BK119.out hb); replace BK122 := q0 (kf BK122.out hb); replace BK125 := q0 (blk_below (g := gb125) (o := .cells #[.int .i64 t101, .slice Ao22 t115.length co22] 25 (0, 0)) (by (with_reducible repeat (first | refine blk_drewN ?_ _ | refine blk_drew ?_ | refine blk_alloc ?_ _)); refine blk_put (cs := #[.int .i64 t101, .slice none 0 0]) ?_ 1 _ rfl; (with_reducible repeat (first | refine blk_drewN ?_ _ | refine blk_drew ?_ | refine blk_alloc ?_ _)); refine blk_put (cs := #[.int .i64 0, .slice none 0 0]) ?_ 0 _ rfl; (with_reducible repeat (first | refine blk_drewN ?_ _ | refine blk_drew ?_ | refine blk_alloc ?_ _)); exact BK125.out) hb); replace HB := q0 (below_step (qb HB.out) hb); (try clear hb); (try clear hb2); (try clear hk); (try clear hi)))
     go_meet
     case rel => exact ⟨_, (!t114), qs, H', ⟨by first | omega | exact Nat.le_refl _⟩, ⟨by (with_reducible repeat (first | apply Kd.R_alloc | apply Kd.R_drewN | apply Kd.R_drew)); exact Kd.R_mono HO118.out (fun _ hk => ⟨hk.1.2, hk.2⟩)⟩, ⟨by (with_reducible repeat (first | apply Kd.R_alloc | apply Kd.R_drewN | apply Kd.R_drew)); exact Kd.R_mono HO121.out (fun _ hk => ⟨hk.1.2, hk.2⟩)⟩, ⟨by (with_reducible repeat (first | apply Kd.R_alloc | apply Kd.R_drewN | apply Kd.R_drew)); exact Kd.R_mono HO124.out (fun _ hk => ⟨hk.1.2, hk.2⟩)⟩, ⟨qk BK119.out⟩, ⟨qk BK122.out⟩, ⟨qk BK125.out⟩, ⟨qb HB.out⟩⟩
   replace c25 := Bool.eq_false_iff.mpr c25
   subst c25
   rw [if_neg nf] at H
   have H' := Aside0.mk H
   clear H
   have hnb32 := NB122_119.out
   have hnc32 := NB119_122.out
   have hnb33 := NB122_125.out
   have hnc33 := NB125_122.out
   have hcz34_0 : w18.cell? ⟨gb122, 0, none⟩ = some (.int .i64 t100) := (blk_cell BK122.out 0).trans rfl
   have hcz34_1 : w18.cell? ⟨gb122, 1, none⟩ = some (.slice Ao15 t113.length co15) := (blk_cell BK122.out 1).trans rfl
   have hfz34_0 := blk_frozen BK122.out 0
   have hfz34_1 := blk_frozen BK122.out 1
   have hnb35 := NB125_119.out
   have hnc35 := NB119_125.out
   have hcz36_0 : w18.cell? ⟨gb125, 0, none⟩ = some (.int .i64 0) := (blk_cell BK125.out 0).trans rfl
   have hcz36_1 : w18.cell? ⟨gb125, 1, none⟩ = some (.slice none 0 0) := (blk_cell BK125.out 1).trans rfl
   have hfz36_0 := blk_frozen BK125.out 0
   have hfz36_1 := blk_frozen BK125.out 1
   go_wp2_with (first | (go_at_call 34; (with_reducible refine (laws_loNet.calls k t100 _ _ t113 t101 _ _ t115 false _ ?side1 ?side2 ?side3 ?side4 A24.out).mono ?_); (case side1 => refine (Kd.R_reads' (e := 32) (base := w.heap.size) (ok := fun k_ => ((True ∧ some k_ ≠ (.slice Ao10 t110.length co10 : Value).ownBlock) ∧ some k_ ≠ (.slice Ao22 t115.length co22 : Value).ownBlock)) (n := t113.length) (c := co15) ?_).2.2; exact (by (with_reducible repeat (first | apply Kd.R_alloc | apply Kd.R_drewN | apply Kd.R_drew)); exact (rf2 HO121.out BK125.out (fun _ h_ => h_.1)))); (case side2 => exact (Kd.R_reads' HO121.out).2.1); (case side3 => refine (Kd.R_reads' (e := 32) (base := w.heap.size) (ok := fun k_ => ((True ∧ some k_ ≠ (.slice Ao10 t110.length co10 : Value).ownBlock) ∧ some k_ ≠ (.slice Ao15 t113.length co15 : Value).ownBlock)) (n := t115.length) (c := co22) ?_).2.2; exact (by (with_reducible repeat (first | apply Kd.R_alloc | apply Kd.R_drewN | apply Kd.R_drew)); exact (rf2 HO124.out BK125.out (fun _ h_ => h_.1)))); (case side4 => exact (Kd.R_reads' HO124.out).2.1); rintro e w37 ⟨rfl, hb⟩; replace HO118 := q0 (Kd.R_below (by (with_reducible repeat (first | apply Kd.R_alloc | apply Kd.R_drewN | apply Kd.R_drew)); exact (rf2 HO118.out BK125.out (fun _ h_ => h_.1))) hb); replace HO121 := q0 (Kd.R_below (by (with_reducible repeat (first | apply Kd.R_alloc | apply Kd.R_drewN | apply Kd.R_drew)); exact (rf2 HO121.out BK125.out (fun _ h_ => h_.1))) hb); replace HO124 := q0 (Kd.R_below (by (with_reducible repeat (first | apply Kd.R_alloc | apply Kd.R_drewN | apply Kd.R_drew)); exact (rf2 HO124.out BK125.out (fun _ h_ => h_.1))) hb); replace BK119 := q0 (kf BK119.out hb); replace BK122 := q0 (kf BK122.out hb); replace BK125 := q0 (blk_below (g := gb125) (o := .cells #[.int .i64 t101, .slice Ao22 t115.length co22] 25 (0, 0)) (by (with_reducible repeat (first | refine blk_drewN ?_ _ | refine blk_drew ?_ | refine blk_alloc ?_ _)); refine blk_put (cs := #[.int .i64 t101, .slice none 0 0]) ?_ 1 _ rfl; (with_reducible repeat (first | refine blk_drewN ?_ _ | refine blk_drew ?_ | refine blk_alloc ?_ _)); refine blk_put (cs := #[.int .i64 0, .slice none 0 0]) ?_ 0 _ rfl; (with_reducible repeat (first | refine blk_drewN ?_ _ | refine blk_drew ?_ | refine blk_alloc ?_ _)); exact BK125.out) hb); replace HB := q0 (below_step (qb HB.out) hb); (try clear hb); (try clear hb2); (try clear hk); (try clear hi)))
   go_meet
   case rel => exact ⟨_, (true), qs, H', ⟨by first | omega | exact Nat.le_refl _⟩, ⟨by (with_reducible repeat (first | apply Kd.R_alloc | apply Kd.R_drewN | apply Kd.R_drew)); exact Kd.R_mono HO118.out (fun _ hk => ⟨hk.1.2, hk.2⟩)⟩, ⟨by (with_reducible repeat (first | apply Kd.R_alloc | apply Kd.R_drewN | apply Kd.R_drew)); exact Kd.R_mono HO121.out (fun _ hk => ⟨hk.1.2, hk.2⟩)⟩, ⟨by (with_reducible repeat (first | apply Kd.R_alloc | apply Kd.R_drewN | apply Kd.R_drew)); exact Kd.R_mono HO124.out (fun _ hk => ⟨hk.1.2, hk.2⟩)⟩, ⟨qk BK119.out⟩, ⟨qk BK122.out⟩, ⟨qk BK125.out⟩, ⟨qb HB.out⟩⟩
 clear HC6
 try clear c1
 try clear c2
 try clear c2b0
 try clear c2b1
 try clear p2
 try clear c3
 try clear c10
 try clear c13
 try clear c19
 try clear c20
 try clear c23
 try clear c23b0
 try clear c23b1
 try clear c23b2
 try clear c25
 try clear c26
 try clear c27
 try clear c29
 try clear c32
 try clear c33
 try clear c35
 try clear hcz14_0
 try clear hcz14_1
 try clear hcz16_0
 try clear hcz16_1
 try clear hcz21_0
 try clear hcz21_1
 try clear hcz28_0
 try clear hcz28_1
 try clear hcz30_0
 try clear hcz30_1
 try clear hcz34_0
 try clear hcz34_1
 try clear hcz36_0
 try clear hcz36_1
 try clear hcz9_0
 try clear hcz9_1
 try clear hfz14_0
 try clear hfz14_1
 try clear hfz16_0
 try clear hfz16_1
 try clear hfz21_0
 try clear hfz21_1
 try clear hfz28_0
 try clear hfz28_1
 try clear hfz30_0
 try clear hfz30_1
 try clear hfz34_0
 try clear hfz34_1
 try clear hfz36_0
 try clear hfz36_1
 try clear hfz9_0
 try clear hfz9_1
 obtain ⟨kq, x46_5, rfl, HA, HJ5, HO_100001, HO_101001, HO_102001, BK119, BK122, BK125, HB⟩ := hcut
 rcases kq with _ | kj5
 · exact absurd HA.out (by simp [laws_FnWayTie.j0])
 have H := HA.out
 clear HA
 simp only [laws_FnWayTie.j0] at H
 by_cases c38 : x46_5 = true
 · subst c38
   rw [if_pos rfl] at H
   by_cases c39 : (t114 == t116) = true
   rotate_left
   · rw [if_neg c39] at H
     have c39b0 : (t114 == t116) = false := by simpa using c39
     (try (have c39b1 : decide (t114 = t116) = false := by simpa using c39))
     (try (have c39b2 : (t114 == t116) = false := by simpa using c39))
     (try (have c39b3 : ¬ (t114 = t116) := by simpa using c39))
     clear c39
     obtain rfl := Option.some.inj H
     go_wp2
     go_ret
     exact ⟨qe, qb HB.out⟩
   rw [if_pos c39] at H
   have c39b0 : (t114 == t116) = true := c39
   (try (have c39b1 : decide (t114 = t116) = true := by simpa using c39))
   (try (have c39b2 : (t114 == t116) = true := by simpa using c39))
   clear c39
   replace H := Option.bind_eq_some_iff.mp H
   obtain ⟨t103, A127, H⟩ := H
   have A40 := Aside0.mk A127
   clear A127
   obtain rfl := Option.some.inj H
   have hnb41 := NB122_119.out
   have hnc41 := NB119_122.out
   have hnb42 := NB122_125.out
   have hnc42 := NB125_122.out
   have hcz43_0 : wc.cell? ⟨gb122, 0, none⟩ = some (.int .i64 t100) := (blk_cell BK122.out 0).trans rfl
   have hcz43_1 : wc.cell? ⟨gb122, 1, none⟩ = some (.slice Ao15 t113.length co15) := (blk_cell BK122.out 1).trans rfl
   have hfz43_0 := blk_frozen BK122.out 0
   have hfz43_1 := blk_frozen BK122.out 1
   have hnb44 := NB125_119.out
   have hnc44 := NB119_125.out
   have hcz45_0 : wc.cell? ⟨gb125, 0, none⟩ = some (.int .i64 t101) := (blk_cell BK125.out 0).trans rfl
   have hcz45_1 : wc.cell? ⟨gb125, 1, none⟩ = some (.slice Ao22 t115.length co22) := (blk_cell BK125.out 1).trans rfl
   have hfz45_0 := blk_frozen BK125.out 0
   have hfz45_1 := blk_frozen BK125.out 1
   go_wp2_with (first | (go_at_call 34; (with_reducible refine (laws_loNet.calls kj5 t100 _ _ t113 t101 _ _ t115 t103 _ ?side1 ?side2 ?side3 ?side4 A40.out).mono ?_); (case side1 => exact qc (Kd.R_reads' HO_101001.out).2.2); (case side2 => exact (Kd.R_reads' HO_101001.out).2.1); (case side3 => exact qc (Kd.R_reads' HO_102001.out).2.2); (case side4 => exact (Kd.R_reads' HO_102001.out).2.1); rintro e w46 ⟨rfl, hb⟩; replace HO_100001 := q0 (Kd.R_below (qr HO_100001.out) hb); replace HO_101001 := q0 (Kd.R_below (qr HO_101001.out) hb); replace HO_102001 := q0 (Kd.R_below (qr HO_102001.out) hb); replace BK119 := q0 (kb BK119.out hb); replace BK122 := q0 (kb BK122.out hb); replace BK125 := q0 (kb BK125.out hb); replace HB := q0 (below_step (qb HB.out) hb); (try clear hb); (try clear hb2); (try clear hk); (try clear hi)))
   go_ret
   exact ⟨qe, qb HB.out⟩
 replace c38 := Bool.eq_false_iff.mpr c38
 subst c38
 rw [if_neg nf] at H
 replace H := Option.bind_eq_some_iff.mp H
 obtain ⟨t104, A128, H⟩ := H
 have A47 := Aside0.mk A128
 clear A128
 by_cases c48 : 0 ≤ t112
 rotate_left
 · rw [if_neg c48] at H
   exact absurd H (by simp)
 rw [if_pos c48] at H
 have c48b0 : decide (0 ≤ t112) = true := decide_eq_true c48
 clear c48
 by_cases c49 : t112 < (t104.length : Int)
 rotate_left
 · rw [if_neg c49] at H
   exact absurd H (by simp)
 rw [if_pos c49] at H
 have c49b0 : decide (t112 < (t104.length : Int)) = true := decide_eq_true c49
 clear c49
 obtain ⟨bq50, hbq50⟩ : ∃ b_ : Bool, b_ = (rdOf false t104 t112) := ⟨_, rfl⟩
 replace H : (if bq50 = true then ((impl_WayCount.f kj5 t100 t113).bind fun t105 => ((impl_WayCount.f kj5 t109 t110).bind fun t106 => (some (t105 == (wrap64 (t106 - 0)))))) else ((impl_WayCount.f kj5 t100 t113).bind fun t107 => ((impl_WayCount.f kj5 t109 t110).bind fun t108 => (some (t107 == (wrap64 (t108 - 1))))))) = some r := by rw [← hbq50] at H; exact H
 have Nbq50 := Aside0.mk hbq50
 clear hbq50
 by_cases c51 : bq50 = true
 · subst c51
   rw [if_pos rfl] at H
   replace H := Option.bind_eq_some_iff.mp H
   obtain ⟨t105, A129, H⟩ := H
   have A52 := Aside0.mk A129
   clear A129
   replace H := Option.bind_eq_some_iff.mp H
   obtain ⟨t106, A130, H⟩ := H
   have A53 := Aside0.mk A130
   clear A130
   obtain rfl := Option.some.inj H
   have hnb54 := NB119_122.out
   have hnc54 := NB122_119.out
   have hnb55 := NB119_125.out
   have hnc55 := NB125_119.out
   have hcz56_0 : wc.cell? ⟨gb119, 0, none⟩ = some (.int .i64 t109) := (blk_cell BK119.out 0).trans rfl
   have hcz56_1 : wc.cell? ⟨gb119, 1, none⟩ = some (.slice Ao10 t110.length co10) := (blk_cell BK119.out 1).trans rfl
   have hfz56_0 := blk_frozen BK119.out 0
   have hfz56_1 := blk_frozen BK119.out 1
   try go_wp2_with (first | ((with_reducible refine gate_callee (f := 19) rfl ?_); refine gl 57 Try.func19 #[.agg #[.int .i64 t109, .slice Ao10 t110.length co10], .int .i64 t111] ?_; (with_reducible refine (impl_WayReach.calls kj5 t109 _ _ t110 t111 t104 _ ?side1 ?side2 A47.out).mono ?_); (case side1 => exact qc (Kd.R_reads' HO_100001.out).2.2); (case side2 => exact (Kd.R_reads' HO_100001.out).2.1); rintro e w57 ⟨v131, rfl, ho0, hb⟩; refine ⟨_, rfl, ?_⟩; replace HO_100001 := q0 (Kd.R_below (qr HO_100001.out) hb); replace HO_101001 := q0 (Kd.R_below (qr HO_101001.out) hb); replace HO_102001 := q0 (Kd.R_below (qr HO_102001.out) hb); have HO132 := q0 (Kd.R_lower ho0 (below_size (qb HB.out))); replace BK119 := q0 (kb BK119.out hb); replace BK122 := q0 (kb BK122.out hb); replace BK125 := q0 (kb BK125.out hb); replace HB := q0 (below_step (qb HB.out) hb); (try clear hb); (try clear hb2); (try clear hk); (try clear hi); (try clear ho0); obtain ⟨Ao58, co58, eo58⟩ := Kd.R_slice HO132.out; subst eo58; have p133 : 0 ≤ (t112 : Int) := of_decide_eq_true qa; have q133 : t112 < (t104.length : Int) := of_decide_eq_true qa; obtain ⟨ad133, e133, hx133_0⟩ := Kd.at_bool (Kd.R_reads' HO132.out).2.2 t112 p133 q133; (try rw [← Nbq50.out] at hx133_0); cases e133; replace p133 := eq_true p133; replace q133 := eq_true q133))
   replace HO_100001 := q0 (Kd.R_drew HO_100001.out)
   replace HO_101001 := q0 (Kd.R_drew HO_101001.out)
   replace HO_102001 := q0 (Kd.R_drew HO_102001.out)
   replace HO132 := q0 (Kd.R_drew HO132.out)
   replace BK119 := q0 (blk_drew BK119.out)
   replace BK122 := q0 (blk_drew BK122.out)
   replace BK125 := q0 (blk_drew BK125.out)
   replace HB := q0 (below_drew1 HB.out)
   refine start_ (n := 8) (S := fun w' => w'.cell? ⟨gb122, 0, none⟩ = some (.int .i64 t100) ∧ w'.cell? ⟨gb122, 1, none⟩ = some (.slice Ao15 t113.length co15) ∧ w'.cell? ⟨gb119, 0, none⟩ = some (.int .i64 t109) ∧ w'.cell? ⟨gb119, 1, none⟩ = some (.slice Ao10 t110.length co10)) (ds := []) (ba 8 0) (by kernel_rfl) rfl (by kernel_rfl) ⟨(blk_cell BK122.out 0).trans rfl, (blk_cell BK122.out 1).trans rfl, (blk_cell BK119.out 0).trans rfl, (blk_cell BK119.out 1).trans rfl⟩ (fun hHeld => ?_); refine with_tabW laws_FnWayTie.tab11 laws_FnWayTie.bits11 (fun HT_ HW_ => ?_)
   generalize w57.drew = w59 at HO_100001 HO_101001 HO_102001 HO132 BK119 BK122 BK125 HB hHeld ⊢
   refine pu 4 (some 66) (ba 8 16) HT_.out ?_
   refine tu 0 (some 62) (ba 8 17) HT_.out HW_.out hHeld ?_
   refine tu 2 (some 64) (ba 8 21) HT_.out HW_.out hHeld ?_
   refine one_ (i := 1) (N := some 63) (ba 8 23) rfl rfl (one_of HT_.out (by kernel_rfl)) (by decide) (fun K hK => ?_)
   refine goes_ Try.func41 (by kernel_rfl) rfl #[.agg #[.int .i64 t100, .slice Ao15 t113.length co15]] (by rfl) rfl rfl qm ?_
   with_reducible refine (impl_WayCount.calls kj5 t100 _ _ t113 t105 _ ?side1 ?side2 A52.out).mono ?_
   (case side1 => exact qc (Kd.R_reads' HO_101001.out).2.2)
   (case side2 => exact (Kd.R_reads' HO_101001.out).2.1)
   rintro e w60 ⟨rfl, hb⟩
   refine ⟨_, rfl, ?_⟩
   replace HO_100001 := q0 (Kd.R_below (qr HO_100001.out) hb)
   replace HO_101001 := q0 (Kd.R_below (qr HO_101001.out) hb)
   replace HO_102001 := q0 (Kd.R_below (qr HO_102001.out) hb)
   replace HO132 := q0 (Kd.R_below (qr HO132.out) hb)
   replace BK119 := q0 (kb BK119.out hb)
   replace BK122 := q0 (kb BK122.out hb)
   replace BK125 := q0 (kb BK125.out hb)
   replace HB := q0 (below_step (qb HB.out) hb)
   (try clear hb)
   (try clear hb2)
   (try clear hk)
   (try clear hi)
   refine hK.out _ _ ⟨(blk_cell BK122.out 0).trans rfl, (blk_cell BK122.out 1).trans rfl, (blk_cell BK119.out 0).trans rfl, (blk_cell BK119.out 1).trans rfl⟩ (fun hHeld => ?_)
   clear hK K
   refine nu 63 ?_
   refine one_ (i := 3) (N := some 65) (ba 8 31) rfl rfl (one_of HT_.out (by kernel_rfl)) (by decide) (fun K hK => ?_)
   refine goes_ Try.func41 (by kernel_rfl) rfl #[.agg #[.int .i64 t109, .slice Ao10 t110.length co10]] (by rfl) rfl rfl qm ?_
   with_reducible refine (impl_WayCount.calls kj5 t109 _ _ t110 t106 _ ?side1 ?side2 A53.out).mono ?_
   (case side1 => exact qc (Kd.R_reads' HO_100001.out).2.2)
   (case side2 => exact (Kd.R_reads' HO_100001.out).2.1)
   rintro e w61 ⟨rfl, hb⟩
   refine ⟨_, rfl, ?_⟩
   replace HO_100001 := q0 (Kd.R_below (qr HO_100001.out) hb)
   replace HO_101001 := q0 (Kd.R_below (qr HO_101001.out) hb)
   replace HO_102001 := q0 (Kd.R_below (qr HO_102001.out) hb)
   replace HO132 := q0 (Kd.R_below (qr HO132.out) hb)
   replace BK119 := q0 (kb BK119.out hb)
   replace BK122 := q0 (kb BK122.out hb)
   replace BK125 := q0 (kb BK125.out hb)
   replace HB := q0 (below_step (qb HB.out) hb)
   (try clear hb)
   (try clear hb2)
   (try clear hk)
   (try clear hi)
   refine hK.out _ _ ⟨(blk_cell BK122.out 0).trans rfl, (blk_cell BK122.out 1).trans rfl, (blk_cell BK119.out 0).trans rfl, (blk_cell BK119.out 1).trans rfl⟩ (fun hHeld => ?_)
   clear hK K
   refine nu 65 ?_
   refine pu 5 (some 67) (ba 8 63) HT_.out ?_
   refine pu 6 (some 68) (ba 8 127) HT_.out ?_
   refine pu 7 (some 2) (ba 8 255) HT_.out ?_
   refine done_ (done_of HT_.out (by kernel_rfl)) ?_
   try go_wp2
   go_ret
   exact ⟨qe, qb HB.out⟩
 replace c51 := Bool.eq_false_iff.mpr c51
 subst c51
 rw [if_neg nf] at H
 replace H := Option.bind_eq_some_iff.mp H
 obtain ⟨t107, A134, H⟩ := H
 have A62 := Aside0.mk A134
 clear A134
 replace H := Option.bind_eq_some_iff.mp H
 obtain ⟨t108, A135, H⟩ := H
 have A63 := Aside0.mk A135
 clear A135
 obtain rfl := Option.some.inj H
 have hnb64 := NB119_122.out
 have hnc64 := NB122_119.out
 have hnb65 := NB119_125.out
 have hnc65 := NB125_119.out
 have hcz66_0 : wc.cell? ⟨gb119, 0, none⟩ = some (.int .i64 t109) := (blk_cell BK119.out 0).trans rfl
 have hcz66_1 : wc.cell? ⟨gb119, 1, none⟩ = some (.slice Ao10 t110.length co10) := (blk_cell BK119.out 1).trans rfl
 have hfz66_0 := blk_frozen BK119.out 0
 have hfz66_1 := blk_frozen BK119.out 1
 try go_wp2_with (first | ((with_reducible refine gate_callee (f := 19) rfl ?_); refine gl 57 Try.func19 #[.agg #[.int .i64 t109, .slice Ao10 t110.length co10], .int .i64 t111] ?_; (with_reducible refine (impl_WayReach.calls kj5 t109 _ _ t110 t111 t104 _ ?side1 ?side2 A47.out).mono ?_); (case side1 => exact qc (Kd.R_reads' HO_100001.out).2.2); (case side2 => exact (Kd.R_reads' HO_100001.out).2.1); rintro e w67 ⟨v131, rfl, ho0, hb⟩; refine ⟨_, rfl, ?_⟩; replace HO_100001 := q0 (Kd.R_below (qr HO_100001.out) hb); replace HO_101001 := q0 (Kd.R_below (qr HO_101001.out) hb); replace HO_102001 := q0 (Kd.R_below (qr HO_102001.out) hb); have HO132 := q0 (Kd.R_lower ho0 (below_size (qb HB.out))); replace BK119 := q0 (kb BK119.out hb); replace BK122 := q0 (kb BK122.out hb); replace BK125 := q0 (kb BK125.out hb); replace HB := q0 (below_step (qb HB.out) hb); (try clear hb); (try clear hb2); (try clear hk); (try clear hi); (try clear ho0); obtain ⟨Ao68, co68, eo68⟩ := Kd.R_slice HO132.out; subst eo68; have p133 : 0 ≤ (t112 : Int) := of_decide_eq_true qa; have q133 : t112 < (t104.length : Int) := of_decide_eq_true qa; obtain ⟨ad133, e133, hx133_0⟩ := Kd.at_bool (Kd.R_reads' HO132.out).2.2 t112 p133 q133; (try rw [← Nbq50.out] at hx133_0); cases e133; replace p133 := eq_true p133; replace q133 := eq_true q133))
 replace HO_100001 := q0 (Kd.R_drew HO_100001.out)
 replace HO_101001 := q0 (Kd.R_drew HO_101001.out)
 replace HO_102001 := q0 (Kd.R_drew HO_102001.out)
 replace HO132 := q0 (Kd.R_drew HO132.out)
 replace BK119 := q0 (blk_drew BK119.out)
 replace BK122 := q0 (blk_drew BK122.out)
 replace BK125 := q0 (blk_drew BK125.out)
 replace HB := q0 (below_drew1 HB.out)
 refine start_ (n := 8) (S := fun w' => w'.cell? ⟨gb122, 0, none⟩ = some (.int .i64 t100) ∧ w'.cell? ⟨gb122, 1, none⟩ = some (.slice Ao15 t113.length co15) ∧ w'.cell? ⟨gb119, 0, none⟩ = some (.int .i64 t109) ∧ w'.cell? ⟨gb119, 1, none⟩ = some (.slice Ao10 t110.length co10)) (ds := []) (ba 8 0) (by kernel_rfl) rfl (by kernel_rfl) ⟨(blk_cell BK122.out 0).trans rfl, (blk_cell BK122.out 1).trans rfl, (blk_cell BK119.out 0).trans rfl, (blk_cell BK119.out 1).trans rfl⟩ (fun hHeld => ?_); refine with_tabW laws_FnWayTie.tab11 laws_FnWayTie.bits11 (fun HT_ HW_ => ?_)
 generalize w67.drew = w69 at HO_100001 HO_101001 HO_102001 HO132 BK119 BK122 BK125 HB hHeld ⊢
 refine pu 4 (some 66) (ba 8 16) HT_.out ?_
 refine tu 0 (some 62) (ba 8 17) HT_.out HW_.out hHeld ?_
 refine tu 2 (some 64) (ba 8 21) HT_.out HW_.out hHeld ?_
 refine one_ (i := 1) (N := some 63) (ba 8 23) rfl rfl (one_of HT_.out (by kernel_rfl)) (by decide) (fun K hK => ?_)
 refine goes_ Try.func41 (by kernel_rfl) rfl #[.agg #[.int .i64 t100, .slice Ao15 t113.length co15]] (by rfl) rfl rfl qm ?_
 with_reducible refine (impl_WayCount.calls kj5 t100 _ _ t113 t107 _ ?side1 ?side2 A62.out).mono ?_
 (case side1 => exact qc (Kd.R_reads' HO_101001.out).2.2)
 (case side2 => exact (Kd.R_reads' HO_101001.out).2.1)
 rintro e w70 ⟨rfl, hb⟩
 refine ⟨_, rfl, ?_⟩
 replace HO_100001 := q0 (Kd.R_below (qr HO_100001.out) hb)
 replace HO_101001 := q0 (Kd.R_below (qr HO_101001.out) hb)
 replace HO_102001 := q0 (Kd.R_below (qr HO_102001.out) hb)
 replace HO132 := q0 (Kd.R_below (qr HO132.out) hb)
 replace BK119 := q0 (kb BK119.out hb)
 replace BK122 := q0 (kb BK122.out hb)
 replace BK125 := q0 (kb BK125.out hb)
 replace HB := q0 (below_step (qb HB.out) hb)
 (try clear hb)
 (try clear hb2)
 (try clear hk)
 (try clear hi)
 refine hK.out _ _ ⟨(blk_cell BK122.out 0).trans rfl, (blk_cell BK122.out 1).trans rfl, (blk_cell BK119.out 0).trans rfl, (blk_cell BK119.out 1).trans rfl⟩ (fun hHeld => ?_)
 clear hK K
 refine nu 63 ?_
 refine one_ (i := 3) (N := some 65) (ba 8 31) rfl rfl (one_of HT_.out (by kernel_rfl)) (by decide) (fun K hK => ?_)
 refine goes_ Try.func41 (by kernel_rfl) rfl #[.agg #[.int .i64 t109, .slice Ao10 t110.length co10]] (by rfl) rfl rfl qm ?_
 with_reducible refine (impl_WayCount.calls kj5 t109 _ _ t110 t108 _ ?side1 ?side2 A63.out).mono ?_
 (case side1 => exact qc (Kd.R_reads' HO_100001.out).2.2)
 (case side2 => exact (Kd.R_reads' HO_100001.out).2.1)
 rintro e w71 ⟨rfl, hb⟩
 refine ⟨_, rfl, ?_⟩
 replace HO_100001 := q0 (Kd.R_below (qr HO_100001.out) hb)
 replace HO_101001 := q0 (Kd.R_below (qr HO_101001.out) hb)
 replace HO_102001 := q0 (Kd.R_below (qr HO_102001.out) hb)
 replace HO132 := q0 (Kd.R_below (qr HO132.out) hb)
 replace BK119 := q0 (kb BK119.out hb)
 replace BK122 := q0 (kb BK122.out hb)
 replace BK125 := q0 (kb BK125.out hb)
 replace HB := q0 (below_step (qb HB.out) hb)
 (try clear hb)
 (try clear hb2)
 (try clear hk)
 (try clear hi)
 refine hK.out _ _ ⟨(blk_cell BK122.out 0).trans rfl, (blk_cell BK122.out 1).trans rfl, (blk_cell BK119.out 0).trans rfl, (blk_cell BK119.out 1).trans rfl⟩ (fun hHeld => ?_)
 clear hK K
 refine nu 65 ?_
 refine pu 5 (some 67) (ba 8 63) HT_.out ?_
 refine pu 6 (some 68) (ba 8 127) HT_.out ?_
 refine pu 7 (some 2) (ba 8 255) HT_.out ?_
 refine done_ (done_of HT_.out (by kernel_rfl)) ?_
 try go_wp2
 go_ret
 exact ⟨qe, qb HB.out⟩

theorem laws_FnWayTie.walk (P : laws_FnWayTie.Pure) (a0 : Option Addr) (len0 cap0 : Nat) (z0 : List Int) (w : World) (w0 : (a0 = none ∧ len0 = 0 ∧ cap0 = 0 ∧ z0 = []) ∨ ∃ x, a0 = some x ∧ len0 ≤ cap0 ∧ cap0 ≤ maxLen ∧ z0.length = cap0 ∧ (∀ i, i < z0.length → w.cell? (x.add i) = some (.int .u8 (z0.getD i 0))) ∧ ∀ n ∈ z0, (Lit.int .u8 n).wf = true) (y0 : len0 * 1 ≤ 140737488351232) :
    Calls Try.prog 10 #[.slice a0 len0 cap0] w fun e w' => e = .returned (.bool true) ∧ Below w.heap.size w w' := by
  obtain ⟨l0, rfl, hr0, hm0, hw0, hc0⟩ := ReadsInt.ofRowC w0
  obtain ⟨k, h⟩ := P l0 hm0 y0 hw0
  refine (laws_FnWayTie.calls k _ _ l0 true w (Kd.C_of_reads (d := (0 : Int)) (h1 := fun _ => rfl) hr0) hc0 h).mono ?_
  rintro e w' ⟨rfl, hd⟩
  exact ⟨rfl, hd⟩
end Go.Proofs.Ytgoembpmhlmafaa.P
