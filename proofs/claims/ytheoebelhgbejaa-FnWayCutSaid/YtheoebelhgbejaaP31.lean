import Derived.Test.YtheoebelhgbejaaP0
import Derived.Test.YtheoebelhgbejaaP12
import Derived.Test.YtheoebelhgbejaaP18
import Derived.Test.YtheoebelhgbejaaP20
import Derived.Test.YtheoebelhgbejaaP21
namespace Go.Proofs.Ytheoebelhgbejaa.P
open Go.RowKit Go.Proofs.YtheoebelhgbejaaW.PrintWords Go.Proofs.YtheoebelhgbejaaW.PrintLast Go.Proofs.YtheoebelhgbejaaW.PrintMore
attribute [local go_sem] max2_int min2_int max_two min_two max_three min_three max_four min_four
set_option linter.unusedVariables false
set_option linter.unusedSimpArgs false
attribute [local go_sem high] eqATie
def laws_FnWayCut.T11 : Bool × List (List Nat × List Nat) := (true, [([], []), ([0], [0]), ([], []), ([2, 1], [2]), ([], []), ([3, 4], [3, 4]), ([1, 5], [1, 5]), ([6, 3, 0, 1, 2, 3, 4, 5, 6], [6])])
def laws_FnWayCut.B11 : List Nat := [0, 1, 0, 7, 0, 31, 63, 127]
theorem laws_FnWayCut.tab11 : rtab .any (opsOf Try.f12 11) = laws_FnWayCut.T11 := by kernel_rfl
theorem laws_FnWayCut.bits11 : waitsOk laws_FnWayCut.T11.2 laws_FnWayCut.B11 = true := by kernel_rfl
set_option maxHeartbeats 8000000 in
set_option maxRecDepth 100000 in
theorem laws_FnWayCut.calls (k : Nat) (A0 : Option Addr) (c0 : Nat) (l0 : List Int) (r : Bool) (w : World) (hr0 : Kd.C (Kd.int .u8) w A0 l0.length l0) (hc0 : l0.length ≤ c0) (h : laws_FnWayCut.f k l0 = some r) :
    Calls Try.prog 12 #[.slice A0 l0.length c0] w fun e w' => e = .returned (.bool r) ∧ Below w.heap.size w w' := by
 have hu30 := Try.underlying30
 have HR0 := Aside0.mk hr0
 have HC0 := Aside0.mk hc0
 clear hr0 hc0
 have HB := q0 (Below.refl w.heap.size w)
 have H : (if (l0.length : Int) > 1048576 then (some true) else ((spec_DrawNetCut.f k l0).bind fun bt109 => ((impl_NetCut.f k bt109.1 bt109.2.1 bt109.2.2.1 bt109.2.2.2).bind fun bt100 => ((spec_NetCut.f k bt109.1 bt109.2.1 bt109.2.2.1 bt109.2.2.2).bind fun bt101 => (if (bt100.2.2 != bt101.2.2) = true then (laws_FnWayCut.j0 k bt109.2.2.1 bt109.2.2.2 bt100.2.2 bt101.2.2 true bt109.1 bt109.2.1 bt100.1 bt100.2.1 bt101.1 bt101.2.1) else ((laws_loNet.f k bt100.1 bt100.2.1 bt101.1 bt101.2.1).bind fun t102 => (if t102 = true then (laws_FnWayCut.j0 k bt109.2.2.1 bt109.2.2.2 bt100.2.2 bt101.2.2 (!bt100.2.2) bt109.1 bt109.2.1 bt100.1 bt100.2.1 bt101.1 bt101.2.1) else (laws_FnWayCut.j0 k bt109.2.2.1 bt109.2.2.2 bt100.2.2 bt101.2.2 true bt109.1 bt109.2.1 bt100.1 bt100.2.1 bt101.1 bt101.2.1)))))))) = some r := h
 clear h
 by_cases c2 : (l0.length : Int) > 1048576
 · rw [if_pos c2] at H
   have c2b0 : decide (1048576 < (l0.length : Int)) = true := decide_eq_true c2
   have c2b1 : decide (1048576 < l0.length) = true := decide_eq_true (by omega)
   clear c2
   obtain rfl := Option.some.inj H
   go_enter Try.func12, Try.ntmps12
   go_wp2
   go_ret
   exact ⟨qe, qb HB.out⟩
 rw [if_neg c2] at H
 have c2b0 : decide (1048576 < (l0.length : Int)) = false := decide_eq_false c2
 have c2b1 : decide (1048576 < l0.length) = false := decide_eq_false (by omega)
 clear c2
 replace H := Option.bind_eq_some_iff.mp H
 obtain ⟨⟨t109, t110, t111, t112⟩, A30, H⟩ := H
 replace H : ((impl_NetCut.f k t109 t110 t111 t112).bind fun bt100 => ((spec_NetCut.f k t109 t110 t111 t112).bind fun bt101 => (if (bt100.2.2 != bt101.2.2) = true then (laws_FnWayCut.j0 k t111 t112 bt100.2.2 bt101.2.2 true t109 t110 bt100.1 bt100.2.1 bt101.1 bt101.2.1) else ((laws_loNet.f k bt100.1 bt100.2.1 bt101.1 bt101.2.1).bind fun t102 => (if t102 = true then (laws_FnWayCut.j0 k t111 t112 bt100.2.2 bt101.2.2 (!bt100.2.2) t109 t110 bt100.1 bt100.2.1 bt101.1 bt101.2.1) else (laws_FnWayCut.j0 k t111 t112 bt100.2.2 bt101.2.2 true t109 t110 bt100.1 bt100.2.1 bt101.1 bt101.2.1)))))) = some r := H
 have A3 := Aside0.mk A30
 clear A30
 replace H := Option.bind_eq_some_iff.mp H
 obtain ⟨⟨t100, t113, t114⟩, A40, H⟩ := H
 replace H : ((spec_NetCut.f k t109 t110 t111 t112).bind fun bt101 => (if (t114 != bt101.2.2) = true then (laws_FnWayCut.j0 k t111 t112 t114 bt101.2.2 true t109 t110 t100 t113 bt101.1 bt101.2.1) else ((laws_loNet.f k t100 t113 bt101.1 bt101.2.1).bind fun t102 => (if t102 = true then (laws_FnWayCut.j0 k t111 t112 t114 bt101.2.2 (!t114) t109 t110 t100 t113 bt101.1 bt101.2.1) else (laws_FnWayCut.j0 k t111 t112 t114 bt101.2.2 true t109 t110 t100 t113 bt101.1 bt101.2.1))))) = some r := H
 have A4 := Aside0.mk A40
 clear A40
 replace H := Option.bind_eq_some_iff.mp H
 obtain ⟨⟨t101, t115, t116⟩, A50, H⟩ := H
 replace H : (if (t114 != t116) = true then (laws_FnWayCut.j0 k t111 t112 t114 t116 true t109 t110 t100 t113 t101 t115) else ((laws_loNet.f k t100 t113 t101 t115).bind fun t102 => (if t102 = true then (laws_FnWayCut.j0 k t111 t112 t114 t116 (!t114) t109 t110 t100 t113 t101 t115) else (laws_FnWayCut.j0 k t111 t112 t114 t116 true t109 t110 t100 t113 t101 t115)))) = some r := H
 have A5 := Aside0.mk A50
 clear A50
 have HC6 := Aside0.mk H
 clear H
 go_enter Try.func12, Try.ntmps12
 go_upto_region 6 with (first | ((with_reducible refine gate_callee (f := 33) rfl ?_); refine goesL_ (some 16) rfl rfl Try.func33 (by kernel_rfl) rfl #[.slice A0 l0.length c0] rfl qm ?_; (with_reducible refine (spec_DrawNetCut.calls k _ _ l0 t109 t110 t111 t112 _ ?side1 ?side2 A3.out).mono ?_); (case side1 => repeat (first | exact HR0.out | (with_reducible refine Kd.C_alloc ?_ _) | (with_reducible refine Kd.C_drewN ?_ _) | (with_reducible refine Kd.C_drew ?_))); (case side2 => exact HC0.out); rintro e w7 ⟨v117, rfl, ho0, hb⟩; refine ⟨_, rfl, ?_⟩; have n0_ := q0 (Kd.R_lower ho0 (below_size (qb HB.out))); have n1_ := q0 (below_step (qb HB.out) hb); clear HB; have HO118 := n0_; have HB := n1_; clear n0_ n1_; (try clear hb); (try clear hb2); (try clear hk); (try clear hi); (try clear ho0)) | ((with_reducible refine gate_dst (N := 3) rfl ?_); refine be 3 #[.int .i64 0, .slice none 0 0] 30 ?_; intro gb119 hg w8 hbox hb; have n0_ := q0 (Kd.R_below (qr HO118.out) hb); have n1_ := q0 (below_step (qb HB.out) hb); have n2_ := q0 (hbox); have n3_ := q0 ((bs HB.out hg : w.heap.size ≤ gb119)); have n4_ := q0 ((bs HB.out hg : w.heap.size ≤ gb119)); clear HO118 HB; have HO118 := n0_; have HB := n1_; have BK119 := n2_; have GW119 := n3_; have GE119 := n4_; clear n0_ n1_ n2_ n3_ n4_ hb hbox hg; have hcz9_0 : w8.cell? ⟨gb119, 0, none⟩ = some (.int .i64 0) := (blk_cell BK119.out 0).trans rfl; have hcz9_1 : w8.cell? ⟨gb119, 1, none⟩ = some (.slice none 0 0) := (blk_cell BK119.out 1).trans rfl; have hfz9_0 := blk_frozen BK119.out 0; have hfz9_1 := blk_frozen BK119.out 1; obtain ⟨Ao10, co10, eo10⟩ := Kd.R_slice HO118.out; subst eo10) | ((with_reducible refine gate_callee (f := 35) rfl ?_); refine goesL_ (some 24) rfl rfl Try.func35 (by kernel_rfl) rfl #[.agg #[.int .i64 t109, .slice Ao10 t110.length co10], .int .i64 t111, .int .i64 t112] rfl qm ?_; (with_reducible refine (impl_NetCut.calls k t109 _ _ t110 t111 t112 t100 t113 t114 _ ?side1 ?side2 A4.out).mono ?_); (case side1 => refine (Kd.R_reads' (e := 44) (base := w.heap.size) (ok := fun k_ => True) (n := t110.length) (c := co10) ?_).2.2; exact (by (with_reducible repeat (first | apply Kd.R_alloc | apply Kd.R_drewN | apply Kd.R_drew)); exact (Kd.R_mono (Kd.R_far (p := ⟨gb119, 1, none⟩) (Kd.R_far (p := ⟨gb119, 0, none⟩) (Kd.R_types HO118.out BK119.out (by decide)) (fun _ hk => hk.2) (.int .i64 t109)) (fun _ hk => hk.2) (.slice Ao10 t110.length co10)) (fun _ h_ => h_.1)))); (case side2 => exact (Kd.R_reads' HO118.out).2.1); rintro e w11 ⟨v120, rfl, ho0, hb⟩; refine ⟨_, rfl, ?_⟩; have n0_ := q0 (Kd.R_elder' (by (with_reducible repeat (first | apply Kd.R_alloc | apply Kd.R_drewN | apply Kd.R_drew)); exact (Kd.R_mono (Kd.R_far (p := ⟨gb119, 1, none⟩) (Kd.R_far (p := ⟨gb119, 0, none⟩) (Kd.R_types HO118.out BK119.out (by decide)) (fun _ hk => hk.2) (.int .i64 t109)) (fun _ hk => hk.2) (.slice Ao10 t110.length co10)) (fun _ h_ => h_.1))) (Kd.R_base ho0) hb); have n1_ := q0 (Kd.R_lower (Kd.R_new' ho0 (Kd.R_lt (by (with_reducible repeat (first | apply Kd.R_alloc | apply Kd.R_drewN | apply Kd.R_drew)); exact (Kd.R_mono (Kd.R_far (p := ⟨gb119, 1, none⟩) (Kd.R_far (p := ⟨gb119, 0, none⟩) (Kd.R_types HO118.out BK119.out (by decide)) (fun _ hk => hk.2) (.int .i64 t109)) (fun _ hk => hk.2) (.slice Ao10 t110.length co10)) (fun _ h_ => h_.1))))) (below_size (qb HB.out))); have n2_ := q0 (blk_below (g := gb119) (o := .cells #[.int .i64 t109, .slice Ao10 t110.length co10] 30 (0, 0)) (by (with_reducible repeat (first | refine blk_drewN ?_ _ | refine blk_drew ?_ | refine blk_alloc ?_ _)); refine blk_put (cs := #[.int .i64 t109, .slice none 0 0]) ?_ 1 _ rfl; (with_reducible repeat (first | refine blk_drewN ?_ _ | refine blk_drew ?_ | refine blk_alloc ?_ _)); refine blk_put (cs := #[.int .i64 0, .slice none 0 0]) ?_ 0 _ rfl; (with_reducible repeat (first | refine blk_drewN ?_ _ | refine blk_drew ?_ | refine blk_alloc ?_ _)); exact BK119.out) hb); have n3_ := q0 (below_step (qb HB.out) hb); clear HO118 BK119 HB; have HO118 := n0_; have HO121 := n1_; have BK119 := n2_; have HB := n3_; clear n0_ n1_ n2_ n3_; (try clear hb); (try clear hb2); (try clear hk); (try clear hi); (try clear ho0)) | ((with_reducible refine gate_dst (N := 6) rfl ?_); refine be 6 #[.int .i64 0, .slice none 0 0] 30 ?_; intro gb122 hg w12 hbox hb; have n0_ := q0 (Kd.R_below (qr HO118.out) hb); have n1_ := q0 (Kd.R_below (qr HO121.out) hb); have n2_ := q0 (kb BK119.out hb); have n3_ := q0 (below_step (qb HB.out) hb); have n4_ := q0 (hbox); have n5_ := q0 ((bs HB.out hg : w.heap.size ≤ gb122)); have n6_ := q0 ((bs HB.out hg : w.heap.size ≤ gb122)); have n7_ := q0 ((bl BK119.out hg : gb119 ≠ gb122)); have n8_ := q0 ((bg BK119.out hg : gb122 ≠ gb119)); clear HO118 HO121 BK119 HB; have HO118 := n0_; have HO121 := n1_; have BK119 := n2_; have HB := n3_; have BK122 := n4_; have GW122 := n5_; have GE122 := n6_; have NB119_122 := n7_; have NB122_119 := n8_; clear n0_ n1_ n2_ n3_ n4_ n5_ n6_ n7_ n8_ hb hbox hg; have hnb13 := NB122_119.out; have hnc13 := NB119_122.out; have hcz14_0 : w12.cell? ⟨gb122, 0, none⟩ = some (.int .i64 0) := (blk_cell BK122.out 0).trans rfl; have hcz14_1 : w12.cell? ⟨gb122, 1, none⟩ = some (.slice none 0 0) := (blk_cell BK122.out 1).trans rfl; have hfz14_0 := blk_frozen BK122.out 0; have hfz14_1 := blk_frozen BK122.out 1; obtain ⟨Ao15, co15, eo15⟩ := Kd.R_slice HO121.out; subst eo15; have hcz16_0 : w12.cell? ⟨gb119, 0, none⟩ = some (.int .i64 t109) := (blk_cell BK119.out 0).trans rfl; have hcz16_1 : w12.cell? ⟨gb119, 1, none⟩ = some (.slice Ao10 t110.length co10) := (blk_cell BK119.out 1).trans rfl; have hfz16_0 := blk_frozen BK119.out 0; have hfz16_1 := blk_frozen BK119.out 1) | ((with_reducible refine gate_callee (f := 34) rfl ?_); refine goesL_ (some 31) rfl rfl Try.func34 (by kernel_rfl) rfl #[.agg #[.int .i64 t109, .slice Ao10 t110.length co10], .int .i64 t111, .int .i64 t112] rfl qm ?_; (with_reducible refine (spec_NetCut.calls k t109 _ _ t110 t111 t112 t101 t115 t116 _ ?side1 ?side2 A5.out).mono ?_); (case side1 => refine (Kd.R_reads' (e := 44) (base := w.heap.size) (ok := fun k_ => (True ∧ some k_ ≠ (.slice Ao15 t113.length co15 : Value).ownBlock)) (n := t110.length) (c := co10) ?_).2.2; exact (by (with_reducible repeat (first | apply Kd.R_alloc | apply Kd.R_drewN | apply Kd.R_drew)); exact (Kd.R_mono (Kd.R_far (p := ⟨gb122, 1, none⟩) (Kd.R_far (p := ⟨gb122, 0, none⟩) (Kd.R_types HO118.out BK122.out (by decide)) (fun _ hk => hk.2) (.int .i64 t100)) (fun _ hk => hk.2) (.slice Ao15 t113.length co15)) (fun _ h_ => h_.1)))); (case side2 => exact (Kd.R_reads' HO118.out).2.1); rintro e w17 ⟨v123, rfl, ho0, hb⟩; refine ⟨_, rfl, ?_⟩; have n0_ := q0 (Kd.R_elder' (by (with_reducible repeat (first | apply Kd.R_alloc | apply Kd.R_drewN | apply Kd.R_drew)); exact (Kd.R_mono (Kd.R_far (p := ⟨gb122, 1, none⟩) (Kd.R_far (p := ⟨gb122, 0, none⟩) (Kd.R_types HO118.out BK122.out (by decide)) (fun _ hk => hk.2) (.int .i64 t100)) (fun _ hk => hk.2) (.slice Ao15 t113.length co15)) (fun _ h_ => h_.1))) (Kd.R_base ho0) hb); have n1_ := q0 (Kd.R_elder' (by (with_reducible repeat (first | apply Kd.R_alloc | apply Kd.R_drewN | apply Kd.R_drew)); exact (Kd.R_mono (Kd.R_far (p := ⟨gb122, 1, none⟩) (Kd.R_far (p := ⟨gb122, 0, none⟩) (Kd.R_types HO121.out BK122.out (by decide)) (fun _ hk => hk.2) (.int .i64 t100)) (fun _ hk => hk.2) (.slice Ao15 t113.length co15)) (fun _ h_ => h_.1))) (Kd.R_base ho0) hb); have n2_ := q0 (Kd.R_lower (Kd.R_new' (Kd.R_new' ho0 (Kd.R_lt (by (with_reducible repeat (first | apply Kd.R_alloc | apply Kd.R_drewN | apply Kd.R_drew)); exact (Kd.R_mono (Kd.R_far (p := ⟨gb122, 1, none⟩) (Kd.R_far (p := ⟨gb122, 0, none⟩) (Kd.R_types HO118.out BK122.out (by decide)) (fun _ hk => hk.2) (.int .i64 t100)) (fun _ hk => hk.2) (.slice Ao15 t113.length co15)) (fun _ h_ => h_.1))))) (Kd.R_lt (by (with_reducible repeat (first | apply Kd.R_alloc | apply Kd.R_drewN | apply Kd.R_drew)); exact (Kd.R_mono (Kd.R_far (p := ⟨gb122, 1, none⟩) (Kd.R_far (p := ⟨gb122, 0, none⟩) (Kd.R_types HO121.out BK122.out (by decide)) (fun _ hk => hk.2) (.int .i64 t100)) (fun _ hk => hk.2) (.slice Ao15 t113.length co15)) (fun _ h_ => h_.1))))) (below_size (qb HB.out))); have n3_ := q0 (blk_below (g := gb119) (o := .cells #[.int .i64 t109, .slice Ao10 t110.length co10] 30 (0, 0)) (qf BK119.out) hb); have n4_ := q0 (blk_below (g := gb122) (o := .cells #[.int .i64 t100, .slice Ao15 t113.length co15] 30 (0, 0)) (by (with_reducible repeat (first | refine blk_drewN ?_ _ | refine blk_drew ?_ | refine blk_alloc ?_ _)); refine blk_put (cs := #[.int .i64 t100, .slice none 0 0]) ?_ 1 _ rfl; (with_reducible repeat (first | refine blk_drewN ?_ _ | refine blk_drew ?_ | refine blk_alloc ?_ _)); refine blk_put (cs := #[.int .i64 0, .slice none 0 0]) ?_ 0 _ rfl; (with_reducible repeat (first | refine blk_drewN ?_ _ | refine blk_drew ?_ | refine blk_alloc ?_ _)); exact BK122.out) hb); have n5_ := q0 (below_step (qb HB.out) hb); clear HO118 HO121 BK119 BK122 HB; have HO118 := n0_; have HO121 := n1_; have HO124 := n2_; have BK119 := n3_; have BK122 := n4_; have HB := n5_; clear n0_ n1_ n2_ n3_ n4_ n5_; (try clear hb); (try clear hb2); (try clear hk); (try clear hi); (try clear ho0)) | ((with_reducible refine gate_dst (N := 8) rfl ?_); refine be 8 #[.int .i64 0, .slice none 0 0] 30 ?_; intro gb125 hg w18 hbox hb; have n0_ := q0 (Kd.R_below (qr HO118.out) hb); have n1_ := q0 (Kd.R_below (qr HO121.out) hb); have n2_ := q0 (Kd.R_below (qr HO124.out) hb); have n3_ := q0 (kb BK119.out hb); have n4_ := q0 (kb BK122.out hb); have n5_ := q0 (below_step (qb HB.out) hb); have n6_ := q0 (hbox); have n7_ := q0 ((bs HB.out hg : w.heap.size ≤ gb125)); have n8_ := q0 ((bs HB.out hg : w.heap.size ≤ gb125)); have n9_ := q0 ((bl BK119.out hg : gb119 ≠ gb125)); have n10_ := q0 ((bg BK119.out hg : gb125 ≠ gb119)); have n11_ := q0 ((bl BK122.out hg : gb122 ≠ gb125)); have n12_ := q0 ((bg BK122.out hg : gb125 ≠ gb122)); clear HO118 HO121 HO124 BK119 BK122 HB; have HO118 := n0_; have HO121 := n1_; have HO124 := n2_; have BK119 := n3_; have BK122 := n4_; have HB := n5_; have BK125 := n6_; have GW125 := n7_; have GE125 := n8_; have NB119_125 := n9_; have NB125_119 := n10_; have NB122_125 := n11_; have NB125_122 := n12_; clear n0_ n1_ n2_ n3_ n4_ n5_ n6_ n7_ n8_ n9_ n10_ n11_ n12_ hb hbox hg; have hnb19 := NB125_119.out; have hnc19 := NB119_125.out; have hnb20 := NB125_122.out; have hnc20 := NB122_125.out; have hcz21_0 : w18.cell? ⟨gb125, 0, none⟩ = some (.int .i64 0) := (blk_cell BK125.out 0).trans rfl; have hcz21_1 : w18.cell? ⟨gb125, 1, none⟩ = some (.slice none 0 0) := (blk_cell BK125.out 1).trans rfl; have hfz21_0 := blk_frozen BK125.out 0; have hfz21_1 := blk_frozen BK125.out 1; obtain ⟨Ao22, co22, eo22⟩ := Kd.R_slice HO124.out; subst eo22))
 (try simp only [Act.put, List.setIfInBounds_toArray, List.set_cons_zero, List.set_cons_succ])
 go_cut [46] (fun v46 wc => ∃ (kq : Nat) (x46_5 : Bool), v46 = .bool x46_5 ∧ Aside0 (laws_FnWayCut.j0 kq t111 t112 t114 t116 x46_5 t109 t110 t100 t113 t101 t115 = some r) ∧ Aside0 (kq ≤ k) ∧ Aside0 (Kd.R kTie 44 wc w.heap.size (fun k_ => some k_ ≠ ((.slice Ao15 t113.length co15) : Value).ownBlock ∧ some k_ ≠ ((.slice Ao22 t115.length co22) : Value).ownBlock) (.slice Ao10 t110.length co10) t110) ∧ Aside0 (Kd.R kTie 44 wc w.heap.size (fun k_ => some k_ ≠ ((.slice Ao10 t110.length co10) : Value).ownBlock ∧ some k_ ≠ ((.slice Ao22 t115.length co22) : Value).ownBlock) (.slice Ao15 t113.length co15) t113) ∧ Aside0 (Kd.R kTie 44 wc w.heap.size (fun k_ => some k_ ≠ ((.slice Ao10 t110.length co10) : Value).ownBlock ∧ some k_ ≠ ((.slice Ao15 t113.length co15) : Value).ownBlock) (.slice Ao22 t115.length co22) t115) ∧ Aside0 (wc.heap[gb119]? = some (.cells #[.int .i64 t109, (.slice Ao10 t110.length co10)] 30 (0, 0))) ∧ Aside0 (wc.heap[gb122]? = some (.cells #[.int .i64 t100, (.slice Ao15 t113.length co15)] 30 (0, 0))) ∧ Aside0 (wc.heap[gb125]? = some (.cells #[.int .i64 t101, (.slice Ao22 t115.length co22)] 30 (0, 0))) ∧ Aside0 (Below w.heap.size w wc))
 case first =>
   have H := HC6.out
   clear HC6
   by_cases c23 : (t114 != t116) = true
   · rw [if_pos c23] at H
     have c23b0 : (t114 != t116) = true := c23
     (try (have c23b1 : decide (t114 = t116) = false := by simpa using c23))
     (try (have c23b2 : (t114 == t116) = false := by simpa using c23))
     (try (have c23b3 : ¬ (t114 = t116) := by simpa using c23))
     clear c23
     (first | rw [c23b0] | (simp only [i64_w, i32_w]; rw [c23b0]) | skip)
     have H' := Aside0.mk H
     clear H
     go_wp2
     go_meet
     case rel => exact ⟨_, (true), qs, H', ⟨by first | omega | exact Nat.le_refl _⟩, ⟨by (with_reducible repeat (first | apply Kd.R_alloc | apply Kd.R_drewN | apply Kd.R_drew)); exact Kd.R_mono (Kd.R_far (p := ⟨gb125, 1, none⟩) (Kd.R_far (p := ⟨gb125, 0, none⟩) (Kd.R_types HO118.out BK125.out (by decide)) (fun _ hk => hk.2) (.int .i64 t101)) (fun _ hk => hk.2) (.slice Ao22 t115.length co22)) (fun _ hk => ⟨hk.1.1.2, hk.1.2⟩)⟩, ⟨by (with_reducible repeat (first | apply Kd.R_alloc | apply Kd.R_drewN | apply Kd.R_drew)); exact Kd.R_mono (Kd.R_far (p := ⟨gb125, 1, none⟩) (Kd.R_far (p := ⟨gb125, 0, none⟩) (Kd.R_types HO121.out BK125.out (by decide)) (fun _ hk => hk.2) (.int .i64 t101)) (fun _ hk => hk.2) (.slice Ao22 t115.length co22)) (fun _ hk => ⟨hk.1.1.2, hk.1.2⟩)⟩, ⟨by (with_reducible repeat (first | apply Kd.R_alloc | apply Kd.R_drewN | apply Kd.R_drew)); exact Kd.R_mono (Kd.R_far (p := ⟨gb125, 1, none⟩) (Kd.R_far (p := ⟨gb125, 0, none⟩) (Kd.R_types HO124.out BK125.out (by decide)) (fun _ hk => hk.2) (.int .i64 t101)) (fun _ hk => hk.2) (.slice Ao22 t115.length co22)) (fun _ hk => ⟨hk.1.1.2, hk.1.2⟩)⟩, ⟨qf BK119.out⟩, ⟨qf BK122.out⟩, ⟨by (with_reducible repeat (first | refine blk_drewN ?_ _ | refine blk_drew ?_ | refine blk_alloc ?_ _)); refine blk_put (cs := #[.int .i64 t101, .slice none 0 0]) ?_ 1 _ rfl; (with_reducible repeat (first | refine blk_drewN ?_ _ | refine blk_drew ?_ | refine blk_alloc ?_ _)); refine blk_put (cs := #[.int .i64 0, .slice none 0 0]) ?_ 0 _ rfl; (with_reducible repeat (first | refine blk_drewN ?_ _ | refine blk_drew ?_ | refine blk_alloc ?_ _)); exact BK125.out⟩, ⟨qb HB.out⟩⟩
   rw [if_neg c23] at H
   have c23b0 : (t114 != t116) = false := by simpa using c23
   (try (have c23b1 : decide (t114 = t116) = true := by simpa using c23))
   (try (have c23b2 : (t114 == t116) = true := by simpa using c23))
   clear c23
   (first | rw [c23b0] | (simp only [i64_w, i32_w]; rw [c23b0]) | skip)
   replace H := Option.bind_eq_some_iff.mp H
   obtain ⟨t102, A126, H⟩ := H
   replace H : (if t102 = true then (laws_FnWayCut.j0 k t111 t112 t114 t116 (!t114) t109 t110 t100 t113 t101 t115) else (laws_FnWayCut.j0 k t111 t112 t114 t116 true t109 t110 t100 t113 t101 t115)) = some r := H
   have A24 := Aside0.mk A126
   clear A126
   by_cases c25 : t102 = true
   · subst c25
     have H1 : (laws_FnWayCut.j0 k t111 t112 t114 t116 (!t114) t109 t110 t100 t113 t101 t115) = some r := by rw [if_pos rfl] at H; exact H
     clear H
     have H := H1
     clear H1
     have H' := Aside0.mk H
     clear H
     have hnb26 := NB122_119.out
     have hnc26 := NB119_122.out
     have hnb27 := NB122_125.out
     have hnc27 := NB125_122.out
     have hcz28_0 : w18.cell? ⟨gb122, 0, none⟩ = some (.int .i64 t100) := (blk_cell BK122.out 0).trans rfl
     have hcz28_1 : w18.cell? ⟨gb122, 1, none⟩ = some (.slice Ao15 t113.length co15) := (blk_cell BK122.out 1).trans rfl
     have hfz28_0 := blk_frozen BK122.out 0
     have hfz28_1 := blk_frozen BK122.out 1
     have hnb29 := NB125_119.out
     have hnc29 := NB119_125.out
     have hcz30_0 : w18.cell? ⟨gb125, 0, none⟩ = some (.int .i64 0) := (blk_cell BK125.out 0).trans rfl
     have hcz30_1 : w18.cell? ⟨gb125, 1, none⟩ = some (.slice none 0 0) := (blk_cell BK125.out 1).trans rfl
     have hfz30_0 := blk_frozen BK125.out 0
     have hfz30_1 := blk_frozen BK125.out 1
     go_wp2_with (first | (go_at_call 36; (with_reducible refine (laws_loNet.calls k t100 _ _ t113 t101 _ _ t115 true _ ?side1 ?side2 ?side3 ?side4 A24.out).mono ?_); (case side1 => refine (Kd.R_reads' (e := 44) (base := w.heap.size) (ok := fun k_ => ((True ∧ some k_ ≠ (.slice Ao10 t110.length co10 : Value).ownBlock) ∧ some k_ ≠ (.slice Ao22 t115.length co22 : Value).ownBlock)) (n := t113.length) (c := co15) ?_).2.2; exact (by (with_reducible repeat (first | apply Kd.R_alloc | apply Kd.R_drewN | apply Kd.R_drew)); exact (Kd.R_mono (Kd.R_far (p := ⟨gb125, 1, none⟩) (Kd.R_far (p := ⟨gb125, 0, none⟩) (Kd.R_types HO121.out BK125.out (by decide)) (fun _ hk => hk.2) (.int .i64 t101)) (fun _ hk => hk.2) (.slice Ao22 t115.length co22)) (fun _ h_ => h_.1)))); (case side2 => exact (Kd.R_reads' HO121.out).2.1); (case side3 => refine (Kd.R_reads' (e := 44) (base := w.heap.size) (ok := fun k_ => ((True ∧ some k_ ≠ (.slice Ao10 t110.length co10 : Value).ownBlock) ∧ some k_ ≠ (.slice Ao15 t113.length co15 : Value).ownBlock)) (n := t115.length) (c := co22) ?_).2.2; exact (by (with_reducible repeat (first | apply Kd.R_alloc | apply Kd.R_drewN | apply Kd.R_drew)); exact (Kd.R_mono (Kd.R_far (p := ⟨gb125, 1, none⟩) (Kd.R_far (p := ⟨gb125, 0, none⟩) (Kd.R_types HO124.out BK125.out (by decide)) (fun _ hk => hk.2) (.int .i64 t101)) (fun _ hk => hk.2) (.slice Ao22 t115.length co22)) (fun _ h_ => h_.1)))); (case side4 => exact (Kd.R_reads' HO124.out).2.1); rintro e w31 ⟨rfl, hb⟩; have n0_ := q0 (Kd.R_below (by (with_reducible repeat (first | apply Kd.R_alloc | apply Kd.R_drewN | apply Kd.R_drew)); exact (Kd.R_mono (Kd.R_far (p := ⟨gb125, 1, none⟩) (Kd.R_far (p := ⟨gb125, 0, none⟩) (Kd.R_types HO118.out BK125.out (by decide)) (fun _ hk => hk.2) (.int .i64 t101)) (fun _ hk => hk.2) (.slice Ao22 t115.length co22)) (fun _ h_ => h_.1))) hb); have n1_ := q0 (Kd.R_below (by (with_reducible repeat (first | apply Kd.R_alloc | apply Kd.R_drewN | apply Kd.R_drew)); exact (Kd.R_mono (Kd.R_far (p := ⟨gb125, 1, none⟩) (Kd.R_far (p := ⟨gb125, 0, none⟩) (Kd.R_types HO121.out BK125.out (by decide)) (fun _ hk => hk.2) (.int .i64 t101)) (fun _ hk => hk.2) (.slice Ao22 t115.length co22)) (fun _ h_ => h_.1))) hb); have n2_ := q0 (Kd.R_below (by (with_reducible repeat (first | apply Kd.R_alloc | apply Kd.R_drewN | apply Kd.R_drew)); exact (Kd.R_mono (Kd.R_far (p := ⟨gb125, 1, none⟩) (Kd.R_far (p := ⟨gb125, 0, none⟩) (Kd.R_types HO124.out BK125.out (by decide)) (fun _ hk => hk.2) (.int .i64 t101)) (fun _ hk => hk.2) (.slice Ao22 t115.length co22)) (fun _ h_ => h_.1))) hb); have n3_ := q0 (blk_below (g := gb119) (o := .cells #[.int .i64 t109, .slice Ao10 t110.length co10] 30 (0, 0)) (qf BK119.out) hb); have n4_ := q0 (blk_below (g := gb122) (o := .cells #[.int .i64 t100, .slice Ao15 t113.length co15] 30 (0, 0)) (qf BK122.out) hb); have n5_ := q0 (blk_below (g := gb125) (o := .cells #[.int .i64 t101, .slice Ao22 t115.length co22] 30 (0, 0)) (by (with_reducible repeat (first | refine blk_drewN ?_ _ | refine blk_drew ?_ | refine blk_alloc ?_ _)); refine blk_put (cs := #[.int .i64 t101, .slice none 0 0]) ?_ 1 _ rfl; (with_reducible repeat (first | refine blk_drewN ?_ _ | refine blk_drew ?_ | refine blk_alloc ?_ _)); refine blk_put (cs := #[.int .i64 0, .slice none 0 0]) ?_ 0 _ rfl; (with_reducible repeat (first | refine blk_drewN ?_ _ | refine blk_drew ?_ | refine blk_alloc ?_ _)); exact BK125.out) hb); have n6_ := q0 (below_step (qb HB.out) hb); clear HO118 HO121 HO124 BK119 BK122 BK125 HB; have HO118 := n0_; have HO121 := n1_; have HO124 := n2_; have BK119 := n3_; have BK122 := n4_; have BK125 := n5_; have HB := n6_; clear n0_ n1_ n2_ n3_ n4_ n5_ n6_; (try clear hb); (try clear hb2); (try clear hk); (try clear hi)))
     go_meet
     case rel => exact ⟨_, (!t114), qs, H', ⟨by first | omega | exact Nat.le_refl _⟩, ⟨by (with_reducible repeat (first | apply Kd.R_alloc | apply Kd.R_drewN | apply Kd.R_drew)); exact Kd.R_mono HO118.out (fun _ hk => ⟨hk.1.2, hk.2⟩)⟩, ⟨by (with_reducible repeat (first | apply Kd.R_alloc | apply Kd.R_drewN | apply Kd.R_drew)); exact Kd.R_mono HO121.out (fun _ hk => ⟨hk.1.2, hk.2⟩)⟩, ⟨by (with_reducible repeat (first | apply Kd.R_alloc | apply Kd.R_drewN | apply Kd.R_drew)); exact Kd.R_mono HO124.out (fun _ hk => ⟨hk.1.2, hk.2⟩)⟩, ⟨qk BK119.out⟩, ⟨qk BK122.out⟩, ⟨qk BK125.out⟩, ⟨qb HB.out⟩⟩
   replace c25 := Bool.eq_false_iff.mpr c25
   subst c25
   have H1 : (laws_FnWayCut.j0 k t111 t112 t114 t116 true t109 t110 t100 t113 t101 t115) = some r := by rw [if_neg (show ¬ (false = true) by decide)] at H; exact H
   clear H
   have H := H1
   clear H1
   have H' := Aside0.mk H
   clear H
   have hnb32 := NB122_119.out
   have hnc32 := NB119_122.out
   have hnb33 := NB122_125.out
   have hnc33 := NB125_122.out
   have hcz34_0 : w18.cell? ⟨gb122, 0, none⟩ = some (.int .i64 t100) := (blk_cell BK122.out 0).trans rfl
   have hcz34_1 : w18.cell? ⟨gb122, 1, none⟩ = some (.slice Ao15 t113.length co15) := (blk_cell BK122.out 1).trans rfl
   have hfz34_0 := blk_frozen BK122.out 0
   have hfz34_1 := blk_frozen BK122.out 1
   have hnb35 := NB125_119.out
   have hnc35 := NB119_125.out
   have hcz36_0 : w18.cell? ⟨gb125, 0, none⟩ = some (.int .i64 0) := (blk_cell BK125.out 0).trans rfl
   have hcz36_1 : w18.cell? ⟨gb125, 1, none⟩ = some (.slice none 0 0) := (blk_cell BK125.out 1).trans rfl
   have hfz36_0 := blk_frozen BK125.out 0
   have hfz36_1 := blk_frozen BK125.out 1
   go_wp2_with (first | (go_at_call 36; (with_reducible refine (laws_loNet.calls k t100 _ _ t113 t101 _ _ t115 false _ ?side1 ?side2 ?side3 ?side4 A24.out).mono ?_); (case side1 => refine (Kd.R_reads' (e := 44) (base := w.heap.size) (ok := fun k_ => ((True ∧ some k_ ≠ (.slice Ao10 t110.length co10 : Value).ownBlock) ∧ some k_ ≠ (.slice Ao22 t115.length co22 : Value).ownBlock)) (n := t113.length) (c := co15) ?_).2.2; exact (by (with_reducible repeat (first | apply Kd.R_alloc | apply Kd.R_drewN | apply Kd.R_drew)); exact (Kd.R_mono (Kd.R_far (p := ⟨gb125, 1, none⟩) (Kd.R_far (p := ⟨gb125, 0, none⟩) (Kd.R_types HO121.out BK125.out (by decide)) (fun _ hk => hk.2) (.int .i64 t101)) (fun _ hk => hk.2) (.slice Ao22 t115.length co22)) (fun _ h_ => h_.1)))); (case side2 => exact (Kd.R_reads' HO121.out).2.1); (case side3 => refine (Kd.R_reads' (e := 44) (base := w.heap.size) (ok := fun k_ => ((True ∧ some k_ ≠ (.slice Ao10 t110.length co10 : Value).ownBlock) ∧ some k_ ≠ (.slice Ao15 t113.length co15 : Value).ownBlock)) (n := t115.length) (c := co22) ?_).2.2; exact (by (with_reducible repeat (first | apply Kd.R_alloc | apply Kd.R_drewN | apply Kd.R_drew)); exact (Kd.R_mono (Kd.R_far (p := ⟨gb125, 1, none⟩) (Kd.R_far (p := ⟨gb125, 0, none⟩) (Kd.R_types HO124.out BK125.out (by decide)) (fun _ hk => hk.2) (.int .i64 t101)) (fun _ hk => hk.2) (.slice Ao22 t115.length co22)) (fun _ h_ => h_.1)))); (case side4 => exact (Kd.R_reads' HO124.out).2.1); rintro e w37 ⟨rfl, hb⟩; have n0_ := q0 (Kd.R_below (by (with_reducible repeat (first | apply Kd.R_alloc | apply Kd.R_drewN | apply Kd.R_drew)); exact (Kd.R_mono (Kd.R_far (p := ⟨gb125, 1, none⟩) (Kd.R_far (p := ⟨gb125, 0, none⟩) (Kd.R_types HO118.out BK125.out (by decide)) (fun _ hk => hk.2) (.int .i64 t101)) (fun _ hk => hk.2) (.slice Ao22 t115.length co22)) (fun _ h_ => h_.1))) hb); have n1_ := q0 (Kd.R_below (by (with_reducible repeat (first | apply Kd.R_alloc | apply Kd.R_drewN | apply Kd.R_drew)); exact (Kd.R_mono (Kd.R_far (p := ⟨gb125, 1, none⟩) (Kd.R_far (p := ⟨gb125, 0, none⟩) (Kd.R_types HO121.out BK125.out (by decide)) (fun _ hk => hk.2) (.int .i64 t101)) (fun _ hk => hk.2) (.slice Ao22 t115.length co22)) (fun _ h_ => h_.1))) hb); have n2_ := q0 (Kd.R_below (by (with_reducible repeat (first | apply Kd.R_alloc | apply Kd.R_drewN | apply Kd.R_drew)); exact (Kd.R_mono (Kd.R_far (p := ⟨gb125, 1, none⟩) (Kd.R_far (p := ⟨gb125, 0, none⟩) (Kd.R_types HO124.out BK125.out (by decide)) (fun _ hk => hk.2) (.int .i64 t101)) (fun _ hk => hk.2) (.slice Ao22 t115.length co22)) (fun _ h_ => h_.1))) hb); have n3_ := q0 (blk_below (g := gb119) (o := .cells #[.int .i64 t109, .slice Ao10 t110.length co10] 30 (0, 0)) (qf BK119.out) hb); have n4_ := q0 (blk_below (g := gb122) (o := .cells #[.int .i64 t100, .slice Ao15 t113.length co15] 30 (0, 0)) (qf BK122.out) hb); have n5_ := q0 (blk_below (g := gb125) (o := .cells #[.int .i64 t101, .slice Ao22 t115.length co22] 30 (0, 0)) (by (with_reducible repeat (first | refine blk_drewN ?_ _ | refine blk_drew ?_ | refine blk_alloc ?_ _)); refine blk_put (cs := #[.int .i64 t101, .slice none 0 0]) ?_ 1 _ rfl; (with_reducible repeat (first | refine blk_drewN ?_ _ | refine blk_drew ?_ | refine blk_alloc ?_ _)); refine blk_put (cs := #[.int .i64 0, .slice none 0 0]) ?_ 0 _ rfl; (with_reducible repeat (first | refine blk_drewN ?_ _ | refine blk_drew ?_ | refine blk_alloc ?_ _)); exact BK125.out) hb); have n6_ := q0 (below_step (qb HB.out) hb); clear HO118 HO121 HO124 BK119 BK122 BK125 HB; have HO118 := n0_; have HO121 := n1_; have HO124 := n2_; have BK119 := n3_; have BK122 := n4_; have BK125 := n5_; have HB := n6_; clear n0_ n1_ n2_ n3_ n4_ n5_ n6_; (try clear hb); (try clear hb2); (try clear hk); (try clear hi)))
   go_meet
   case rel => exact ⟨_, (true), qs, H', ⟨by first | omega | exact Nat.le_refl _⟩, ⟨by (with_reducible repeat (first | apply Kd.R_alloc | apply Kd.R_drewN | apply Kd.R_drew)); exact Kd.R_mono HO118.out (fun _ hk => ⟨hk.1.2, hk.2⟩)⟩, ⟨by (with_reducible repeat (first | apply Kd.R_alloc | apply Kd.R_drewN | apply Kd.R_drew)); exact Kd.R_mono HO121.out (fun _ hk => ⟨hk.1.2, hk.2⟩)⟩, ⟨by (with_reducible repeat (first | apply Kd.R_alloc | apply Kd.R_drewN | apply Kd.R_drew)); exact Kd.R_mono HO124.out (fun _ hk => ⟨hk.1.2, hk.2⟩)⟩, ⟨qk BK119.out⟩, ⟨qk BK122.out⟩, ⟨qk BK125.out⟩, ⟨qb HB.out⟩⟩
 clear HC6
 try clear c1
 try clear c2
 try clear c2b0
 try clear c2b1
 try clear p2
 try clear c3
 try clear c12
 try clear c13
 try clear c19
 try clear c20
 try clear c23
 try clear c23b0
 try clear c23b1
 try clear c23b2
 try clear c25
 try clear c26
 try clear c27
 try clear c29
 try clear c32
 try clear c33
 try clear c34
 try clear c35
 try clear hcz14_0
 try clear hcz14_1
 try clear hcz16_0
 try clear hcz16_1
 try clear hcz21_0
 try clear hcz21_1
 try clear hcz28_0
 try clear hcz28_1
 try clear hcz30_0
 try clear hcz30_1
 try clear hcz34_0
 try clear hcz34_1
 try clear hcz36_0
 try clear hcz36_1
 try clear hcz9_0
 try clear hcz9_1
 try clear hfz14_0
 try clear hfz14_1
 try clear hfz16_0
 try clear hfz16_1
 try clear hfz21_0
 try clear hfz21_1
 try clear hfz28_0
 try clear hfz28_1
 try clear hfz30_0
 try clear hfz30_1
 try clear hfz34_0
 try clear hfz34_1
 try clear hfz36_0
 try clear hfz36_1
 try clear hfz9_0
 try clear hfz9_1
 obtain ⟨kq, x46_5, rfl, HA, HJ5, HO_100001, HO_101001, HO_102001, BK119, BK122, BK125, HB⟩ := hcut
 rcases kq with _ | kj5
 · exact absurd HA.out (by simp [laws_FnWayCut.j0])
 have H := HA.out
 clear HA
 simp only [laws_FnWayCut.j0] at H
 by_cases c38 : x46_5 = true
 · subst c38
   have H1 : (if (t114 == t116) = true then ((laws_loNet.f kj5 t100 t113 t101 t115).bind fun t103 => (some t103)) else (some false)) = some r := by rw [if_pos rfl] at H; exact H
   clear H
   have H := H1
   clear H1
   by_cases c39 : (t114 == t116) = true
   rotate_left
   · rw [if_neg c39] at H
     have c39b0 : (t114 == t116) = false := by simpa using c39
     (try (have c39b1 : decide (t114 = t116) = false := by simpa using c39))
     (try (have c39b2 : (t114 == t116) = false := by simpa using c39))
     (try (have c39b3 : ¬ (t114 = t116) := by simpa using c39))
     clear c39
     obtain rfl := Option.some.inj H
     go_wp2
     go_ret
     exact ⟨qe, qb HB.out⟩
   rw [if_pos c39] at H
   have c39b0 : (t114 == t116) = true := c39
   (try (have c39b1 : decide (t114 = t116) = true := by simpa using c39))
   (try (have c39b2 : (t114 == t116) = true := by simpa using c39))
   clear c39
   replace H := Option.bind_eq_some_iff.mp H
   obtain ⟨t103, A127, H⟩ := H
   replace H : (some t103) = some r := H
   have A40 := Aside0.mk A127
   clear A127
   obtain rfl := Option.some.inj H
   have hnb41 := NB122_119.out
   have hnc41 := NB119_122.out
   have hnb42 := NB122_125.out
   have hnc42 := NB125_122.out
   have hcz43_0 : wc.cell? ⟨gb122, 0, none⟩ = some (.int .i64 t100) := (blk_cell BK122.out 0).trans rfl
   have hcz43_1 : wc.cell? ⟨gb122, 1, none⟩ = some (.slice Ao15 t113.length co15) := (blk_cell BK122.out 1).trans rfl
   have hfz43_0 := blk_frozen BK122.out 0
   have hfz43_1 := blk_frozen BK122.out 1
   have hnb44 := NB125_119.out
   have hnc44 := NB119_125.out
   have hcz45_0 : wc.cell? ⟨gb125, 0, none⟩ = some (.int .i64 t101) := (blk_cell BK125.out 0).trans rfl
   have hcz45_1 : wc.cell? ⟨gb125, 1, none⟩ = some (.slice Ao22 t115.length co22) := (blk_cell BK125.out 1).trans rfl
   have hfz45_0 := blk_frozen BK125.out 0
   have hfz45_1 := blk_frozen BK125.out 1
   go_wp2_with (first | (go_at_call 36; (with_reducible refine (laws_loNet.calls kj5 t100 _ _ t113 t101 _ _ t115 t103 _ ?side1 ?side2 ?side3 ?side4 A40.out).mono ?_); (case side1 => exact qc (Kd.R_reads' HO_101001.out).2.2); (case side2 => exact (Kd.R_reads' HO_101001.out).2.1); (case side3 => exact qc (Kd.R_reads' HO_102001.out).2.2); (case side4 => exact (Kd.R_reads' HO_102001.out).2.1); rintro e w46 ⟨rfl, hb⟩; have n0_ := q0 (Kd.R_below (qr HO_100001.out) hb); have n1_ := q0 (Kd.R_below (qr HO_101001.out) hb); have n2_ := q0 (Kd.R_below (qr HO_102001.out) hb); have n3_ := q0 (kb BK119.out hb); have n4_ := q0 (kb BK122.out hb); have n5_ := q0 (kb BK125.out hb); have n6_ := q0 (below_step (qb HB.out) hb); clear HO_100001 HO_101001 HO_102001 BK119 BK122 BK125 HB; have HO_100001 := n0_; have HO_101001 := n1_; have HO_102001 := n2_; have BK119 := n3_; have BK122 := n4_; have BK125 := n5_; have HB := n6_; clear n0_ n1_ n2_ n3_ n4_ n5_ n6_; (try clear hb); (try clear hb2); (try clear hk); (try clear hi)))
   go_ret
   exact ⟨qe, qb HB.out⟩
 replace c38 := Bool.eq_false_iff.mpr c38
 subst c38
 have H1 : ((impl_WayReach.f kj5 t100 t113 t111).bind fun t104 => (if 0 ≤ t112 then (if t112 < (t104.length : Int) then (if rdOf false t104 t112 = true then ((impl_WayCount.f kj5 t100 t113).bind fun t105 => ((impl_WayCount.f kj5 t109 t110).bind fun t106 => (some (t105 == (wrap64 (t106 + 0)))))) else ((impl_WayCount.f kj5 t100 t113).bind fun t107 => ((impl_WayCount.f kj5 t109 t110).bind fun t108 => (some (t107 == (wrap64 (t108 + 1))))))) else (none)) else (none))) = some r := by rw [if_neg (show ¬ (false = true) by decide)] at H; exact H
 clear H
 have H := H1
 clear H1
 replace H := Option.bind_eq_some_iff.mp H
 obtain ⟨t104, A128, H⟩ := H
 replace H : (if 0 ≤ t112 then (if t112 < (t104.length : Int) then (if rdOf false t104 t112 = true then ((impl_WayCount.f kj5 t100 t113).bind fun t105 => ((impl_WayCount.f kj5 t109 t110).bind fun t106 => (some (t105 == (wrap64 (t106 + 0)))))) else ((impl_WayCount.f kj5 t100 t113).bind fun t107 => ((impl_WayCount.f kj5 t109 t110).bind fun t108 => (some (t107 == (wrap64 (t108 + 1))))))) else (none)) else (none)) = some r := H
 have A47 := Aside0.mk A128
 clear A128
 by_cases c48 : 0 ≤ t112
 rotate_left
 · rw [if_neg c48] at H
   exact absurd H (by simp)
 rw [if_pos c48] at H
 have c48b0 : decide (0 ≤ t112) = true := decide_eq_true c48
 clear c48
 by_cases c49 : t112 < (t104.length : Int)
 rotate_left
 · rw [if_neg c49] at H
   exact absurd H (by simp)
 rw [if_pos c49] at H
 have c49b0 : decide (t112 < (t104.length : Int)) = true := decide_eq_true c49
 clear c49
 obtain ⟨bq50, hbq50⟩ : ∃ b_ : Bool, b_ = (rdOf false t104 t112) := ⟨_, rfl⟩
 replace H : (if bq50 = true then ((impl_WayCount.f kj5 t100 t113).bind fun t105 => ((impl_WayCount.f kj5 t109 t110).bind fun t106 => (some (t105 == (wrap64 (t106 + 0)))))) else ((impl_WayCount.f kj5 t100 t113).bind fun t107 => ((impl_WayCount.f kj5 t109 t110).bind fun t108 => (some (t107 == (wrap64 (t108 + 1))))))) = some r := by rw [← hbq50] at H; exact H
 have Nbq50 := Aside0.mk hbq50
 clear hbq50
 by_cases c51 : bq50 = true
 · subst c51
   have H1 : ((impl_WayCount.f kj5 t100 t113).bind fun t105 => ((impl_WayCount.f kj5 t109 t110).bind fun t106 => (some (t105 == (wrap64 (t106 + 0)))))) = some r := by rw [if_pos rfl] at H; exact H
   clear H
   have H := H1
   clear H1
   replace H := Option.bind_eq_some_iff.mp H
   obtain ⟨t105, A129, H⟩ := H
   replace H : ((impl_WayCount.f kj5 t109 t110).bind fun t106 => (some (t105 == (wrap64 (t106 + 0))))) = some r := H
   have A52 := Aside0.mk A129
   clear A129
   replace H := Option.bind_eq_some_iff.mp H
   obtain ⟨t106, A130, H⟩ := H
   replace H : (some (t105 == (wrap64 (t106 + 0)))) = some r := H
   have A53 := Aside0.mk A130
   clear A130
   obtain rfl := Option.some.inj H
   have hnb54 := NB122_119.out
   have hnc54 := NB119_122.out
   have hnb55 := NB122_125.out
   have hnc55 := NB125_122.out
   have hcz56_0 : wc.cell? ⟨gb122, 0, none⟩ = some (.int .i64 t100) := (blk_cell BK122.out 0).trans rfl
   have hcz56_1 : wc.cell? ⟨gb122, 1, none⟩ = some (.slice Ao15 t113.length co15) := (blk_cell BK122.out 1).trans rfl
   have hfz56_0 := blk_frozen BK122.out 0
   have hfz56_1 := blk_frozen BK122.out 1
   try go_wp2_with (first | ((with_reducible refine gate_callee (f := 24) rfl ?_); refine goesL_ (some 57) rfl rfl Try.func24 (by kernel_rfl) rfl #[.agg #[.int .i64 t100, .slice Ao15 t113.length co15], .int .i64 t111] rfl qm ?_; (with_reducible refine (impl_WayReach.calls kj5 t100 _ _ t113 t111 t104 _ ?side1 ?side2 A47.out).mono ?_); (case side1 => exact qc (Kd.R_reads' HO_101001.out).2.2); (case side2 => exact (Kd.R_reads' HO_101001.out).2.1); rintro e w57 ⟨v131, rfl, ho0, hb⟩; refine ⟨_, rfl, ?_⟩; have n0_ := q0 (Kd.R_below (qr HO_100001.out) hb); have n1_ := q0 (Kd.R_below (qr HO_101001.out) hb); have n2_ := q0 (Kd.R_below (qr HO_102001.out) hb); have n3_ := q0 (Kd.R_lower ho0 (below_size (qb HB.out))); have n4_ := q0 (kb BK119.out hb); have n5_ := q0 (kb BK122.out hb); have n6_ := q0 (kb BK125.out hb); have n7_ := q0 (below_step (qb HB.out) hb); clear HO_100001 HO_101001 HO_102001 BK119 BK122 BK125 HB; have HO_100001 := n0_; have HO_101001 := n1_; have HO_102001 := n2_; have HO132 := n3_; have BK119 := n4_; have BK122 := n5_; have BK125 := n6_; have HB := n7_; clear n0_ n1_ n2_ n3_ n4_ n5_ n6_ n7_; (try clear hb); (try clear hb2); (try clear hk); (try clear hi); (try clear ho0); obtain ⟨Ao58, co58, eo58⟩ := Kd.R_slice HO132.out; subst eo58; have p133 : 0 ≤ (t112 : Int) := of_decide_eq_true qa; have q133 : t112 < (t104.length : Int) := of_decide_eq_true qa; obtain ⟨ad133, e133, hx133_0⟩ := Kd.at_bool (Kd.R_reads' HO132.out).2.2 t112 p133 q133; (try rw [← Nbq50.out] at hx133_0); cases e133; replace p133 := eq_true p133; replace q133 := eq_true q133))
   have n0_ := q0 (Kd.R_drew HO_100001.out)
   have n1_ := q0 (Kd.R_drew HO_101001.out)
   have n2_ := q0 (Kd.R_drew HO_102001.out)
   have n3_ := q0 (Kd.R_drew HO132.out)
   have n4_ := q0 (blk_drew BK119.out)
   have n5_ := q0 (blk_drew BK122.out)
   have n6_ := q0 (blk_drew BK125.out)
   have n7_ := q0 (below_drew1 HB.out)
   clear HO_100001
   clear HO_101001
   clear HO_102001
   clear HO132
   clear BK119
   clear BK122
   clear BK125
   clear HB
   have HO_100001 := n0_
   have HO_101001 := n1_
   have HO_102001 := n2_
   have HO132 := n3_
   have BK119 := n4_
   have BK122 := n5_
   have BK125 := n6_
   have HB := n7_
   clear n0_ n1_ n2_ n3_ n4_ n5_ n6_ n7_
   refine start_ (n := 8) (S := fun w' => w'.cell? ⟨gb122, 0, none⟩ = some (.int .i64 t100) ∧ w'.cell? ⟨gb122, 1, none⟩ = some (.slice Ao15 t113.length co15) ∧ w'.cell? ⟨gb119, 0, none⟩ = some (.int .i64 t109) ∧ w'.cell? ⟨gb119, 1, none⟩ = some (.slice Ao10 t110.length co10)) (ds := []) (ba 8 0) (by kernel_rfl) rfl (by kernel_rfl) ⟨(blk_cell BK122.out 0).trans rfl, (blk_cell BK122.out 1).trans rfl, (blk_cell BK119.out 0).trans rfl, (blk_cell BK119.out 1).trans rfl⟩ (fun hHeld => ?_); refine with_tabW laws_FnWayCut.tab11 laws_FnWayCut.bits11 (fun HT_ HW_ => ?_)
   generalize w57.drew = w59 at HO_100001 HO_101001 HO_102001 HO132 BK119 BK122 BK125 HB hHeld ⊢
   refine pu 4 (some 66) (ba 8 16) HT_.out ?_
   refine tu 0 (some 62) (ba 8 17) HT_.out HW_.out hHeld ?_
   refine tu 2 (some 64) (ba 8 21) HT_.out HW_.out hHeld ?_
   refine one_ (i := 1) (N := some 63) (ba 8 23) rfl rfl (one_of HT_.out (by kernel_rfl)) (by decide) (fun K hK => ?_)
   refine goes_ Try.func41 (by kernel_rfl) rfl #[.agg #[.int .i64 t100, .slice Ao15 t113.length co15]] (by rfl) rfl rfl qm ?_
   with_reducible refine (impl_WayCount.calls kj5 t100 _ _ t113 t105 _ ?side1 ?side2 A52.out).mono ?_
   (case side1 => exact qc (Kd.R_reads' HO_101001.out).2.2)
   (case side2 => exact (Kd.R_reads' HO_101001.out).2.1)
   rintro e w60 ⟨rfl, hb⟩
   refine ⟨_, rfl, ?_⟩
   have n0_ := q0 (Kd.R_below (qr HO_100001.out) hb)
   have n1_ := q0 (Kd.R_below (qr HO_101001.out) hb)
   have n2_ := q0 (Kd.R_below (qr HO_102001.out) hb)
   have n3_ := q0 (Kd.R_below (qr HO132.out) hb)
   have n4_ := q0 (kb BK119.out hb)
   have n5_ := q0 (kb BK122.out hb)
   have n6_ := q0 (kb BK125.out hb)
   have n7_ := q0 (below_step (qb HB.out) hb)
   clear HO_100001
   clear HO_101001
   clear HO_102001
   clear HO132
   clear BK119
   clear BK122
   clear BK125
   clear HB
   have HO_100001 := n0_
   have HO_101001 := n1_
   have HO_102001 := n2_
   have HO132 := n3_
   have BK119 := n4_
   have BK122 := n5_
   have BK125 := n6_
   have HB := n7_
   clear n0_ n1_ n2_ n3_ n4_ n5_ n6_ n7_
   (try clear hb)
   (try clear hb2)
   (try clear hk)
   (try clear hi)
   refine hK.out _ _ ⟨(blk_cell BK122.out 0).trans rfl, (blk_cell BK122.out 1).trans rfl, (blk_cell BK119.out 0).trans rfl, (blk_cell BK119.out 1).trans rfl⟩ (fun hHeld => ?_)
   clear hK K
   refine nu 63 ?_
   refine one_ (i := 3) (N := some 65) (ba 8 31) rfl rfl (one_of HT_.out (by kernel_rfl)) (by decide) (fun K hK => ?_)
   refine goes_ Try.func41 (by kernel_rfl) rfl #[.agg #[.int .i64 t109, .slice Ao10 t110.length co10]] (by rfl) rfl rfl qm ?_
   with_reducible refine (impl_WayCount.calls kj5 t109 _ _ t110 t106 _ ?side1 ?side2 A53.out).mono ?_
   (case side1 => exact qc (Kd.R_reads' HO_100001.out).2.2)
   (case side2 => exact (Kd.R_reads' HO_100001.out).2.1)
   rintro e w61 ⟨rfl, hb⟩
   refine ⟨_, rfl, ?_⟩
   have n0_ := q0 (Kd.R_below (qr HO_100001.out) hb)
   have n1_ := q0 (Kd.R_below (qr HO_101001.out) hb)
   have n2_ := q0 (Kd.R_below (qr HO_102001.out) hb)
   have n3_ := q0 (Kd.R_below (qr HO132.out) hb)
   have n4_ := q0 (kb BK119.out hb)
   have n5_ := q0 (kb BK122.out hb)
   have n6_ := q0 (kb BK125.out hb)
   have n7_ := q0 (below_step (qb HB.out) hb)
   clear HO_100001
   clear HO_101001
   clear HO_102001
   clear HO132
   clear BK119
   clear BK122
   clear BK125
   clear HB
   have HO_100001 := n0_
   have HO_101001 := n1_
   have HO_102001 := n2_
   have HO132 := n3_
   have BK119 := n4_
   have BK122 := n5_
   have BK125 := n6_
   have HB := n7_
   clear n0_ n1_ n2_ n3_ n4_ n5_ n6_ n7_
   (try clear hb)
   (try clear hb2)
   (try clear hk)
   (try clear hi)
   refine hK.out _ _ ⟨(blk_cell BK122.out 0).trans rfl, (blk_cell BK122.out 1).trans rfl, (blk_cell BK119.out 0).trans rfl, (blk_cell BK119.out 1).trans rfl⟩ (fun hHeld => ?_)
   clear hK K
   refine nu 65 ?_
   refine pu 5 (some 67) (ba 8 63) HT_.out ?_
   refine pu 6 (some 68) (ba 8 127) HT_.out ?_
   refine pu 7 (some 2) (ba 8 255) HT_.out ?_
   refine done_ (done_of HT_.out (by kernel_rfl)) ?_
   try go_wp2
   go_ret
   exact ⟨qe, qb HB.out⟩
 replace c51 := Bool.eq_false_iff.mpr c51
 subst c51
 have H1 : ((impl_WayCount.f kj5 t100 t113).bind fun t107 => ((impl_WayCount.f kj5 t109 t110).bind fun t108 => (some (t107 == (wrap64 (t108 + 1)))))) = some r := by rw [if_neg (show ¬ (false = true) by decide)] at H; exact H
 clear H
 have H := H1
 clear H1
 replace H := Option.bind_eq_some_iff.mp H
 obtain ⟨t107, A134, H⟩ := H
 replace H : ((impl_WayCount.f kj5 t109 t110).bind fun t108 => (some (t107 == (wrap64 (t108 + 1))))) = some r := H
 have A62 := Aside0.mk A134
 clear A134
 replace H := Option.bind_eq_some_iff.mp H
 obtain ⟨t108, A135, H⟩ := H
 replace H : (some (t107 == (wrap64 (t108 + 1)))) = some r := H
 have A63 := Aside0.mk A135
 clear A135
 obtain rfl := Option.some.inj H
 have hnb64 := NB122_119.out
 have hnc64 := NB119_122.out
 have hnb65 := NB122_125.out
 have hnc65 := NB125_122.out
 have hcz66_0 : wc.cell? ⟨gb122, 0, none⟩ = some (.int .i64 t100) := (blk_cell BK122.out 0).trans rfl
 have hcz66_1 : wc.cell? ⟨gb122, 1, none⟩ = some (.slice Ao15 t113.length co15) := (blk_cell BK122.out 1).trans rfl
 have hfz66_0 := blk_frozen BK122.out 0
 have hfz66_1 := blk_frozen BK122.out 1
 try go_wp2_with (first | ((with_reducible refine gate_callee (f := 24) rfl ?_); refine goesL_ (some 57) rfl rfl Try.func24 (by kernel_rfl) rfl #[.agg #[.int .i64 t100, .slice Ao15 t113.length co15], .int .i64 t111] rfl qm ?_; (with_reducible refine (impl_WayReach.calls kj5 t100 _ _ t113 t111 t104 _ ?side1 ?side2 A47.out).mono ?_); (case side1 => exact qc (Kd.R_reads' HO_101001.out).2.2); (case side2 => exact (Kd.R_reads' HO_101001.out).2.1); rintro e w67 ⟨v131, rfl, ho0, hb⟩; refine ⟨_, rfl, ?_⟩; have n0_ := q0 (Kd.R_below (qr HO_100001.out) hb); have n1_ := q0 (Kd.R_below (qr HO_101001.out) hb); have n2_ := q0 (Kd.R_below (qr HO_102001.out) hb); have n3_ := q0 (Kd.R_lower ho0 (below_size (qb HB.out))); have n4_ := q0 (kb BK119.out hb); have n5_ := q0 (kb BK122.out hb); have n6_ := q0 (kb BK125.out hb); have n7_ := q0 (below_step (qb HB.out) hb); clear HO_100001 HO_101001 HO_102001 BK119 BK122 BK125 HB; have HO_100001 := n0_; have HO_101001 := n1_; have HO_102001 := n2_; have HO132 := n3_; have BK119 := n4_; have BK122 := n5_; have BK125 := n6_; have HB := n7_; clear n0_ n1_ n2_ n3_ n4_ n5_ n6_ n7_; (try clear hb); (try clear hb2); (try clear hk); (try clear hi); (try clear ho0); obtain ⟨Ao68, co68, eo68⟩ := Kd.R_slice HO132.out; subst eo68; have p133 : 0 ≤ (t112 : Int) := of_decide_eq_true qa; have q133 : t112 < (t104.length : Int) := of_decide_eq_true qa; obtain ⟨ad133, e133, hx133_0⟩ := Kd.at_bool (Kd.R_reads' HO132.out).2.2 t112 p133 q133; (try rw [← Nbq50.out] at hx133_0); cases e133; replace p133 := eq_true p133; replace q133 := eq_true q133))
 have n0_ := q0 (Kd.R_drew HO_100001.out)
 have n1_ := q0 (Kd.R_drew HO_101001.out)
 have n2_ := q0 (Kd.R_drew HO_102001.out)
 have n3_ := q0 (Kd.R_drew HO132.out)
 have n4_ := q0 (blk_drew BK119.out)
 have n5_ := q0 (blk_drew BK122.out)
 have n6_ := q0 (blk_drew BK125.out)
 have n7_ := q0 (below_drew1 HB.out)
 clear HO_100001
 clear HO_101001
 clear HO_102001
 clear HO132
 clear BK119
 clear BK122
 clear BK125
 clear HB
 have HO_100001 := n0_
 have HO_101001 := n1_
 have HO_102001 := n2_
 have HO132 := n3_
 have BK119 := n4_
 have BK122 := n5_
 have BK125 := n6_
 have HB := n7_
 clear n0_ n1_ n2_ n3_ n4_ n5_ n6_ n7_
 refine start_ (n := 8) (S := fun w' => w'.cell? ⟨gb122, 0, none⟩ = some (.int .i64 t100) ∧ w'.cell? ⟨gb122, 1, none⟩ = some (.slice Ao15 t113.length co15) ∧ w'.cell? ⟨gb119, 0, none⟩ = some (.int .i64 t109) ∧ w'.cell? ⟨gb119, 1, none⟩ = some (.slice Ao10 t110.length co10)) (ds := []) (ba 8 0) (by kernel_rfl) rfl (by kernel_rfl) ⟨(blk_cell BK122.out 0).trans rfl, (blk_cell BK122.out 1).trans rfl, (blk_cell BK119.out 0).trans rfl, (blk_cell BK119.out 1).trans rfl⟩ (fun hHeld => ?_); refine with_tabW laws_FnWayCut.tab11 laws_FnWayCut.bits11 (fun HT_ HW_ => ?_)
 generalize w67.drew = w69 at HO_100001 HO_101001 HO_102001 HO132 BK119 BK122 BK125 HB hHeld ⊢
 refine pu 4 (some 66) (ba 8 16) HT_.out ?_
 refine tu 0 (some 62) (ba 8 17) HT_.out HW_.out hHeld ?_
 refine tu 2 (some 64) (ba 8 21) HT_.out HW_.out hHeld ?_
 refine one_ (i := 1) (N := some 63) (ba 8 23) rfl rfl (one_of HT_.out (by kernel_rfl)) (by decide) (fun K hK => ?_)
 refine goes_ Try.func41 (by kernel_rfl) rfl #[.agg #[.int .i64 t100, .slice Ao15 t113.length co15]] (by rfl) rfl rfl qm ?_
 with_reducible refine (impl_WayCount.calls kj5 t100 _ _ t113 t107 _ ?side1 ?side2 A62.out).mono ?_
 (case side1 => exact qc (Kd.R_reads' HO_101001.out).2.2)
 (case side2 => exact (Kd.R_reads' HO_101001.out).2.1)
 rintro e w70 ⟨rfl, hb⟩
 refine ⟨_, rfl, ?_⟩
 have n0_ := q0 (Kd.R_below (qr HO_100001.out) hb)
 have n1_ := q0 (Kd.R_below (qr HO_101001.out) hb)
 have n2_ := q0 (Kd.R_below (qr HO_102001.out) hb)
 have n3_ := q0 (Kd.R_below (qr HO132.out) hb)
 have n4_ := q0 (kb BK119.out hb)
 have n5_ := q0 (kb BK122.out hb)
 have n6_ := q0 (kb BK125.out hb)
 have n7_ := q0 (below_step (qb HB.out) hb)
 clear HO_100001
 clear HO_101001
 clear HO_102001
 clear HO132
 clear BK119
 clear BK122
 clear BK125
 clear HB
 have HO_100001 := n0_
 have HO_101001 := n1_
 have HO_102001 := n2_
 have HO132 := n3_
 have BK119 := n4_
 have BK122 := n5_
 have BK125 := n6_
 have HB := n7_
 clear n0_ n1_ n2_ n3_ n4_ n5_ n6_ n7_
 (try clear hb)
 (try clear hb2)
 (try clear hk)
 (try clear hi)
 refine hK.out _ _ ⟨(blk_cell BK122.out 0).trans rfl, (blk_cell BK122.out 1).trans rfl, (blk_cell BK119.out 0).trans rfl, (blk_cell BK119.out 1).trans rfl⟩ (fun hHeld => ?_)
 clear hK K
 refine nu 63 ?_
 refine one_ (i := 3) (N := some 65) (ba 8 31) rfl rfl (one_of HT_.out (by kernel_rfl)) (by decide) (fun K hK => ?_)
 refine goes_ Try.func41 (by kernel_rfl) rfl #[.agg #[.int .i64 t109, .slice Ao10 t110.length co10]] (by rfl) rfl rfl qm ?_
 with_reducible refine (impl_WayCount.calls kj5 t109 _ _ t110 t108 _ ?side1 ?side2 A63.out).mono ?_
 (case side1 => exact qc (Kd.R_reads' HO_100001.out).2.2)
 (case side2 => exact (Kd.R_reads' HO_100001.out).2.1)
 rintro e w71 ⟨rfl, hb⟩
 refine ⟨_, rfl, ?_⟩
 have n0_ := q0 (Kd.R_below (qr HO_100001.out) hb)
 have n1_ := q0 (Kd.R_below (qr HO_101001.out) hb)
 have n2_ := q0 (Kd.R_below (qr HO_102001.out) hb)
 have n3_ := q0 (Kd.R_below (qr HO132.out) hb)
 have n4_ := q0 (kb BK119.out hb)
 have n5_ := q0 (kb BK122.out hb)
 have n6_ := q0 (kb BK125.out hb)
 have n7_ := q0 (below_step (qb HB.out) hb)
 clear HO_100001
 clear HO_101001
 clear HO_102001
 clear HO132
 clear BK119
 clear BK122
 clear BK125
 clear HB
 have HO_100001 := n0_
 have HO_101001 := n1_
 have HO_102001 := n2_
 have HO132 := n3_
 have BK119 := n4_
 have BK122 := n5_
 have BK125 := n6_
 have HB := n7_
 clear n0_ n1_ n2_ n3_ n4_ n5_ n6_ n7_
 (try clear hb)
 (try clear hb2)
 (try clear hk)
 (try clear hi)
 refine hK.out _ _ ⟨(blk_cell BK122.out 0).trans rfl, (blk_cell BK122.out 1).trans rfl, (blk_cell BK119.out 0).trans rfl, (blk_cell BK119.out 1).trans rfl⟩ (fun hHeld => ?_)
 clear hK K
 refine nu 65 ?_
 refine pu 5 (some 67) (ba 8 63) HT_.out ?_
 refine pu 6 (some 68) (ba 8 127) HT_.out ?_
 refine pu 7 (some 2) (ba 8 255) HT_.out ?_
 refine done_ (done_of HT_.out (by kernel_rfl)) ?_
 try go_wp2
 go_ret
 exact ⟨qe, qb HB.out⟩

theorem laws_FnWayCut.walk (P : laws_FnWayCut.Pure) (a0 : Option Addr) (len0 cap0 : Nat) (z0 : List Int) (w : World) (w0 : (a0 = none ∧ len0 = 0 ∧ cap0 = 0 ∧ z0 = []) ∨ ∃ x, a0 = some x ∧ len0 ≤ cap0 ∧ cap0 ≤ maxLen ∧ z0.length = cap0 ∧ (∀ i, i < z0.length → w.cell? (x.add i) = some (.int .u8 (z0.getD i 0))) ∧ ∀ n ∈ z0, (Lit.int .u8 n).wf = true) (y0 : len0 * 1 ≤ 140737488351232) :
    Calls Try.prog 12 #[.slice a0 len0 cap0] w fun e w' => e = .returned (.bool true) ∧ Below w.heap.size w w' := by
  obtain ⟨l0, rfl, hr0, hm0, hw0, hc0⟩ := ReadsInt.ofRowC w0
  obtain ⟨k, h⟩ := P l0 hm0 y0 hw0
  refine (laws_FnWayCut.calls k _ _ l0 true w (Kd.C_of_reads (d := (0 : Int)) (h1 := fun _ => rfl) hr0) hc0 h).mono ?_
  rintro e w' ⟨rfl, hd⟩
  exact ⟨rfl, hd⟩
end Go.Proofs.Ytheoebelhgbejaa.P
