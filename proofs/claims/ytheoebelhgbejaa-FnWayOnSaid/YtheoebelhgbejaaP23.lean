import Derived.Test.YtheoebelhgbejaaP0
import Derived.Test.YtheoebelhgbejaaP5
import Derived.Test.YtheoebelhgbejaaP12
import Derived.Test.YtheoebelhgbejaaP19
namespace Go.Proofs.Ytheoebelhgbejaa.P
open Go.RowKit Go.Proofs.YtheoebelhgbejaaW.PrintWords Go.Proofs.YtheoebelhgbejaaW.PrintLast Go.Proofs.YtheoebelhgbejaaW.PrintMore
attribute [local go_sem] max2_int min2_int max_two min_two max_three min_three max_four min_four
set_option linter.unusedVariables false
set_option linter.unusedSimpArgs false
attribute [local go_sem high] eqATie
set_option maxHeartbeats 8000000 in
set_option maxRecDepth 100000 in
theorem laws_FnWayOn.calls (k : Nat) (A0 : Option Addr) (c0 : Nat) (l0 : List Int) (r : Bool) (w : World) (hr0 : Kd.C (Kd.int .u8) w A0 l0.length l0) (hc0 : l0.length ≤ c0) (h : laws_FnWayOn.f k l0 = some r) :
    Calls Try.prog 4 #[.slice A0 l0.length c0] w fun e w' => e = .returned (.bool r) ∧ Below w.heap.size w w' := by
 have hu30 := Try.underlying30
 have HR0 := Aside0.mk hr0
 have HC0 := Aside0.mk hc0
 clear hr0 hc0
 have HB := q0 (Below.refl w.heap.size w)
 have H : (if (l0.length : Int) > 1048576 then (some true) else ((spec_DrawWayReach.f k l0).bind fun bt102 => ((spec_WayReach.f k bt102.1 bt102.2.1 bt102.2.2).bind fun t100 => ((impl_WayReach.f k bt102.1 bt102.2.1 bt102.2.2).bind fun t103 => ((laws_loBools.f k t103 t100).bind fun t104 => (if t104 = true then (laws_FnWayOn.j0 k t100 t103 ((t103.length : Int) == 0) bt102.1 bt102.2.1) else (laws_FnWayOn.j0 k t100 t103 true bt102.1 bt102.2.1))))))) = some r := h
 clear h
 by_cases c2 : (l0.length : Int) > 1048576
 · rw [if_pos c2] at H
   have c2b0 : decide (1048576 < (l0.length : Int)) = true := decide_eq_true c2
   have c2b1 : decide (1048576 < l0.length) = true := decide_eq_true (by omega)
   clear c2
   obtain rfl := Option.some.inj H
   go_enter Try.func4, Try.ntmps4
   go_wp2
   repeat (go_quiet (fail); try go_wp2)
   go_ret
   exact ⟨qe, qb HB.out⟩
 rw [if_neg c2] at H
 have c2b0 : decide (1048576 < (l0.length : Int)) = false := decide_eq_false c2
 have c2b1 : decide (1048576 < l0.length) = false := decide_eq_false (by omega)
 clear c2
 replace H := Option.bind_eq_some_iff.mp H
 obtain ⟨⟨t102, t105, t106⟩, A30, H⟩ := H
 replace H : ((spec_WayReach.f k t102 t105 t106).bind fun t100 => ((impl_WayReach.f k t102 t105 t106).bind fun t103 => ((laws_loBools.f k t103 t100).bind fun t104 => (if t104 = true then (laws_FnWayOn.j0 k t100 t103 ((t103.length : Int) == 0) t102 t105) else (laws_FnWayOn.j0 k t100 t103 true t102 t105))))) = some r := H
 have A3 := Aside0.mk A30
 clear A30
 replace H := Option.bind_eq_some_iff.mp H
 obtain ⟨t100, A40, H⟩ := H
 replace H : ((impl_WayReach.f k t102 t105 t106).bind fun t103 => ((laws_loBools.f k t103 t100).bind fun t104 => (if t104 = true then (laws_FnWayOn.j0 k t100 t103 ((t103.length : Int) == 0) t102 t105) else (laws_FnWayOn.j0 k t100 t103 true t102 t105)))) = some r := H
 have A4 := Aside0.mk A40
 clear A40
 replace H := Option.bind_eq_some_iff.mp H
 obtain ⟨t103, A50, H⟩ := H
 replace H : ((laws_loBools.f k t103 t100).bind fun t104 => (if t104 = true then (laws_FnWayOn.j0 k t100 t103 ((t103.length : Int) == 0) t102 t105) else (laws_FnWayOn.j0 k t100 t103 true t102 t105))) = some r := H
 have A5 := Aside0.mk A50
 clear A50
 have HC6 := Aside0.mk H
 clear H
 go_enter Try.func4, Try.ntmps4
 go_upto_region 6 with (first | (go_at_call 22; (with_reducible refine (spec_DrawWayReach.calls k _ _ l0 t102 t105 t106 _ ?side1 ?side2 A3.out).mono ?_); (case side1 => repeat (first | exact HR0.out | (with_reducible refine Kd.C_alloc ?_ _) | (with_reducible refine Kd.C_drewN ?_ _) | (with_reducible refine Kd.C_drew ?_))); (case side2 => exact HC0.out); rintro e w7 ⟨v107, rfl, ho0, hb⟩; have n0_ := q0 (Kd.R_lower ho0 (below_size (qb HB.out))); have n1_ := q0 (below_step (qb HB.out) hb); clear HB; have HO108 := n0_; have HB := n1_; clear n0_ n1_; (try clear hb); (try clear hb2); (try clear hk); (try clear hi); (try clear ho0)) | ((with_reducible refine gate_dst (N := 3) rfl ?_); (try (refine gate_guard (by rfl) ?_; dsimp only)); refine be 3 #[.int .i64 0, .slice none 0 0] 30 ?_; intro gb109 hg w8 hbox hb; have n0_ := q0 (Kd.R_below (qr HO108.out) hb); have n1_ := q0 (below_step (qb HB.out) hb); have n2_ := q0 (hbox); have n3_ := q0 ((bs HB.out hg : w.heap.size ≤ gb109)); have n4_ := q0 ((bs HB.out hg : w.heap.size ≤ gb109)); clear HO108 HB; have HO108 := n0_; have HB := n1_; have BK109 := n2_; have GW109 := n3_; have GE109 := n4_; clear n0_ n1_ n2_ n3_ n4_ hb hbox hg; have hcz9_0 : w8.cell? ⟨gb109, 0, none⟩ = some (.int .i64 0) := (blk_cell BK109.out 0).trans rfl; have hcz9_1 : w8.cell? ⟨gb109, 1, none⟩ = some (.slice none 0 0) := (blk_cell BK109.out 1).trans rfl; have hfz9_0 := blk_frozen BK109.out 0; have hfz9_1 := blk_frozen BK109.out 1; obtain ⟨Ao10, co10, eo10⟩ := Kd.R_slice HO108.out; subst eo10) | (go_at_call 23; (with_reducible refine (spec_WayReach.calls k t102 _ _ t105 t106 t100 _ ?side1 ?side2 A4.out).mono ?_); (case side1 => refine (Kd.R_reads' (e := 44) (base := w.heap.size) (ok := fun k_ => True) (n := t105.length) (c := co10) ?_).2.2; exact (by (with_reducible repeat (first | apply Kd.R_alloc | apply Kd.R_drewN | apply Kd.R_drew)); exact (Kd.R_mono (Kd.R_far (p := ⟨gb109, 1, none⟩) (Kd.R_far (p := ⟨gb109, 0, none⟩) (Kd.R_types HO108.out BK109.out (by decide)) (fun _ hk => hk.2) (.int .i64 t102)) (fun _ hk => hk.2) (.slice Ao10 t105.length co10)) (fun _ h_ => h_.1)))); (case side2 => exact (Kd.R_reads' HO108.out).2.1); rintro e w11 ⟨v110, rfl, ho0, hb⟩; have n0_ := q0 (Kd.R_below (by (with_reducible repeat (first | apply Kd.R_alloc | apply Kd.R_drewN | apply Kd.R_drew)); exact (Kd.R_mono (Kd.R_far (p := ⟨gb109, 1, none⟩) (Kd.R_far (p := ⟨gb109, 0, none⟩) (Kd.R_types HO108.out BK109.out (by decide)) (fun _ hk => hk.2) (.int .i64 t102)) (fun _ hk => hk.2) (.slice Ao10 t105.length co10)) (fun _ h_ => h_.1))) hb); have n1_ := q0 (Kd.R_lower ho0 (below_size (qb HB.out))); have n2_ := q0 (blk_below (g := gb109) (o := .cells #[.int .i64 t102, .slice Ao10 t105.length co10] 30 (0, 0)) (by (with_reducible repeat (first | refine blk_drewN ?_ _ | refine blk_drew ?_ | refine blk_alloc ?_ _)); refine blk_put (cs := #[.int .i64 t102, .slice none 0 0]) ?_ 1 _ rfl; (with_reducible repeat (first | refine blk_drewN ?_ _ | refine blk_drew ?_ | refine blk_alloc ?_ _)); refine blk_put (cs := #[.int .i64 0, .slice none 0 0]) ?_ 0 _ rfl; (with_reducible repeat (first | refine blk_drewN ?_ _ | refine blk_drew ?_ | refine blk_alloc ?_ _)); exact BK109.out) hb); have n3_ := q0 (below_step (qb HB.out) hb); clear HO108 BK109 HB; have HO108 := n0_; have HO111 := n1_; have BK109 := n2_; have HB := n3_; clear n0_ n1_ n2_ n3_; (try clear hb); (try clear hb2); (try clear hk); (try clear hi); (try clear ho0); have hcz12_0 : w11.cell? ⟨gb109, 0, none⟩ = some (.int .i64 t102) := (blk_cell BK109.out 0).trans rfl; have hcz12_1 : w11.cell? ⟨gb109, 1, none⟩ = some (.slice Ao10 t105.length co10) := (blk_cell BK109.out 1).trans rfl; have hfz12_0 := blk_frozen BK109.out 0; have hfz12_1 := blk_frozen BK109.out 1) | (go_at_call 24; (with_reducible refine (impl_WayReach.calls k t102 _ _ t105 t106 t103 _ ?side1 ?side2 A5.out).mono ?_); (case side1 => exact qc (Kd.R_reads' HO108.out).2.2); (case side2 => exact (Kd.R_reads' HO108.out).2.1); rintro e w13 ⟨v112, rfl, ho0, hb⟩; have n0_ := q0 (Kd.R_below (qr HO108.out) hb); have n1_ := q0 (Kd.R_elder' (qr HO111.out) (Kd.R_base ho0) hb); have n2_ := q0 (Kd.R_lower (Kd.R_new' ho0 (Kd.R_lt (qr HO111.out))) (below_size (qb HB.out))); have n3_ := q0 (kb BK109.out hb); have n4_ := q0 (below_step (qb HB.out) hb); clear HO108 HO111 BK109 HB; have HO108 := n0_; have HO111 := n1_; have HO113 := n2_; have BK109 := n3_; have HB := n4_; clear n0_ n1_ n2_ n3_ n4_; (try clear hb); (try clear hb2); (try clear hk); (try clear hi); (try clear ho0)))
 repeat (go_quiet (first | (go_at_call 22; (with_reducible refine (spec_DrawWayReach.calls k _ _ l0 t102 t105 t106 _ ?side1 ?side2 A3.out).mono ?_); (case side1 => repeat (first | exact HR0.out | (with_reducible refine Kd.C_alloc ?_ _) | (with_reducible refine Kd.C_drewN ?_ _) | (with_reducible refine Kd.C_drew ?_))); (case side2 => exact HC0.out); rintro e w7 ⟨v107, rfl, ho0, hb⟩; have n0_ := q0 (Kd.R_lower ho0 (below_size (qb HB.out))); have n1_ := q0 (below_step (qb HB.out) hb); clear HB; have HO108 := n0_; have HB := n1_; clear n0_ n1_; (try clear hb); (try clear hb2); (try clear hk); (try clear hi); (try clear ho0)) | ((with_reducible refine gate_dst (N := 3) rfl ?_); (try (refine gate_guard (by rfl) ?_; dsimp only)); refine be 3 #[.int .i64 0, .slice none 0 0] 30 ?_; intro gb109 hg w8 hbox hb; have n0_ := q0 (Kd.R_below (qr HO108.out) hb); have n1_ := q0 (below_step (qb HB.out) hb); have n2_ := q0 (hbox); have n3_ := q0 ((bs HB.out hg : w.heap.size ≤ gb109)); have n4_ := q0 ((bs HB.out hg : w.heap.size ≤ gb109)); clear HO108 HB; have HO108 := n0_; have HB := n1_; have BK109 := n2_; have GW109 := n3_; have GE109 := n4_; clear n0_ n1_ n2_ n3_ n4_ hb hbox hg; have hcz9_0 : w8.cell? ⟨gb109, 0, none⟩ = some (.int .i64 0) := (blk_cell BK109.out 0).trans rfl; have hcz9_1 : w8.cell? ⟨gb109, 1, none⟩ = some (.slice none 0 0) := (blk_cell BK109.out 1).trans rfl; have hfz9_0 := blk_frozen BK109.out 0; have hfz9_1 := blk_frozen BK109.out 1; obtain ⟨Ao10, co10, eo10⟩ := Kd.R_slice HO108.out; subst eo10) | (go_at_call 23; (with_reducible refine (spec_WayReach.calls k t102 _ _ t105 t106 t100 _ ?side1 ?side2 A4.out).mono ?_); (case side1 => refine (Kd.R_reads' (e := 44) (base := w.heap.size) (ok := fun k_ => True) (n := t105.length) (c := co10) ?_).2.2; exact (by (with_reducible repeat (first | apply Kd.R_alloc | apply Kd.R_drewN | apply Kd.R_drew)); exact (Kd.R_mono (Kd.R_far (p := ⟨gb109, 1, none⟩) (Kd.R_far (p := ⟨gb109, 0, none⟩) (Kd.R_types HO108.out BK109.out (by decide)) (fun _ hk => hk.2) (.int .i64 t102)) (fun _ hk => hk.2) (.slice Ao10 t105.length co10)) (fun _ h_ => h_.1)))); (case side2 => exact (Kd.R_reads' HO108.out).2.1); rintro e w11 ⟨v110, rfl, ho0, hb⟩; have n0_ := q0 (Kd.R_below (by (with_reducible repeat (first | apply Kd.R_alloc | apply Kd.R_drewN | apply Kd.R_drew)); exact (Kd.R_mono (Kd.R_far (p := ⟨gb109, 1, none⟩) (Kd.R_far (p := ⟨gb109, 0, none⟩) (Kd.R_types HO108.out BK109.out (by decide)) (fun _ hk => hk.2) (.int .i64 t102)) (fun _ hk => hk.2) (.slice Ao10 t105.length co10)) (fun _ h_ => h_.1))) hb); have n1_ := q0 (Kd.R_lower ho0 (below_size (qb HB.out))); have n2_ := q0 (blk_below (g := gb109) (o := .cells #[.int .i64 t102, .slice Ao10 t105.length co10] 30 (0, 0)) (by (with_reducible repeat (first | refine blk_drewN ?_ _ | refine blk_drew ?_ | refine blk_alloc ?_ _)); refine blk_put (cs := #[.int .i64 t102, .slice none 0 0]) ?_ 1 _ rfl; (with_reducible repeat (first | refine blk_drewN ?_ _ | refine blk_drew ?_ | refine blk_alloc ?_ _)); refine blk_put (cs := #[.int .i64 0, .slice none 0 0]) ?_ 0 _ rfl; (with_reducible repeat (first | refine blk_drewN ?_ _ | refine blk_drew ?_ | refine blk_alloc ?_ _)); exact BK109.out) hb); have n3_ := q0 (below_step (qb HB.out) hb); clear HO108 BK109 HB; have HO108 := n0_; have HO111 := n1_; have BK109 := n2_; have HB := n3_; clear n0_ n1_ n2_ n3_; (try clear hb); (try clear hb2); (try clear hk); (try clear hi); (try clear ho0); have hcz12_0 : w11.cell? ⟨gb109, 0, none⟩ = some (.int .i64 t102) := (blk_cell BK109.out 0).trans rfl; have hcz12_1 : w11.cell? ⟨gb109, 1, none⟩ = some (.slice Ao10 t105.length co10) := (blk_cell BK109.out 1).trans rfl; have hfz12_0 := blk_frozen BK109.out 0; have hfz12_1 := blk_frozen BK109.out 1) | (go_at_call 24; (with_reducible refine (impl_WayReach.calls k t102 _ _ t105 t106 t103 _ ?side1 ?side2 A5.out).mono ?_); (case side1 => exact qc (Kd.R_reads' HO108.out).2.2); (case side2 => exact (Kd.R_reads' HO108.out).2.1); rintro e w13 ⟨v112, rfl, ho0, hb⟩; have n0_ := q0 (Kd.R_below (qr HO108.out) hb); have n1_ := q0 (Kd.R_elder' (qr HO111.out) (Kd.R_base ho0) hb); have n2_ := q0 (Kd.R_lower (Kd.R_new' ho0 (Kd.R_lt (qr HO111.out))) (below_size (qb HB.out))); have n3_ := q0 (kb BK109.out hb); have n4_ := q0 (below_step (qb HB.out) hb); clear HO108 HO111 BK109 HB; have HO108 := n0_; have HO111 := n1_; have HO113 := n2_; have BK109 := n3_; have HB := n4_; clear n0_ n1_ n2_ n3_ n4_; (try clear hb); (try clear hb2); (try clear hk); (try clear hi); (try clear ho0))); go_upto_region 6 with (first | (go_at_call 22; (with_reducible refine (spec_DrawWayReach.calls k _ _ l0 t102 t105 t106 _ ?side1 ?side2 A3.out).mono ?_); (case side1 => repeat (first | exact HR0.out | (with_reducible refine Kd.C_alloc ?_ _) | (with_reducible refine Kd.C_drewN ?_ _) | (with_reducible refine Kd.C_drew ?_))); (case side2 => exact HC0.out); rintro e w7 ⟨v107, rfl, ho0, hb⟩; have n0_ := q0 (Kd.R_lower ho0 (below_size (qb HB.out))); have n1_ := q0 (below_step (qb HB.out) hb); clear HB; have HO108 := n0_; have HB := n1_; clear n0_ n1_; (try clear hb); (try clear hb2); (try clear hk); (try clear hi); (try clear ho0)) | ((with_reducible refine gate_dst (N := 3) rfl ?_); (try (refine gate_guard (by rfl) ?_; dsimp only)); refine be 3 #[.int .i64 0, .slice none 0 0] 30 ?_; intro gb109 hg w8 hbox hb; have n0_ := q0 (Kd.R_below (qr HO108.out) hb); have n1_ := q0 (below_step (qb HB.out) hb); have n2_ := q0 (hbox); have n3_ := q0 ((bs HB.out hg : w.heap.size ≤ gb109)); have n4_ := q0 ((bs HB.out hg : w.heap.size ≤ gb109)); clear HO108 HB; have HO108 := n0_; have HB := n1_; have BK109 := n2_; have GW109 := n3_; have GE109 := n4_; clear n0_ n1_ n2_ n3_ n4_ hb hbox hg; have hcz9_0 : w8.cell? ⟨gb109, 0, none⟩ = some (.int .i64 0) := (blk_cell BK109.out 0).trans rfl; have hcz9_1 : w8.cell? ⟨gb109, 1, none⟩ = some (.slice none 0 0) := (blk_cell BK109.out 1).trans rfl; have hfz9_0 := blk_frozen BK109.out 0; have hfz9_1 := blk_frozen BK109.out 1; obtain ⟨Ao10, co10, eo10⟩ := Kd.R_slice HO108.out; subst eo10) | (go_at_call 23; (with_reducible refine (spec_WayReach.calls k t102 _ _ t105 t106 t100 _ ?side1 ?side2 A4.out).mono ?_); (case side1 => refine (Kd.R_reads' (e := 44) (base := w.heap.size) (ok := fun k_ => True) (n := t105.length) (c := co10) ?_).2.2; exact (by (with_reducible repeat (first | apply Kd.R_alloc | apply Kd.R_drewN | apply Kd.R_drew)); exact (Kd.R_mono (Kd.R_far (p := ⟨gb109, 1, none⟩) (Kd.R_far (p := ⟨gb109, 0, none⟩) (Kd.R_types HO108.out BK109.out (by decide)) (fun _ hk => hk.2) (.int .i64 t102)) (fun _ hk => hk.2) (.slice Ao10 t105.length co10)) (fun _ h_ => h_.1)))); (case side2 => exact (Kd.R_reads' HO108.out).2.1); rintro e w11 ⟨v110, rfl, ho0, hb⟩; have n0_ := q0 (Kd.R_below (by (with_reducible repeat (first | apply Kd.R_alloc | apply Kd.R_drewN | apply Kd.R_drew)); exact (Kd.R_mono (Kd.R_far (p := ⟨gb109, 1, none⟩) (Kd.R_far (p := ⟨gb109, 0, none⟩) (Kd.R_types HO108.out BK109.out (by decide)) (fun _ hk => hk.2) (.int .i64 t102)) (fun _ hk => hk.2) (.slice Ao10 t105.length co10)) (fun _ h_ => h_.1))) hb); have n1_ := q0 (Kd.R_lower ho0 (below_size (qb HB.out))); have n2_ := q0 (blk_below (g := gb109) (o := .cells #[.int .i64 t102, .slice Ao10 t105.length co10] 30 (0, 0)) (by (with_reducible repeat (first | refine blk_drewN ?_ _ | refine blk_drew ?_ | refine blk_alloc ?_ _)); refine blk_put (cs := #[.int .i64 t102, .slice none 0 0]) ?_ 1 _ rfl; (with_reducible repeat (first | refine blk_drewN ?_ _ | refine blk_drew ?_ | refine blk_alloc ?_ _)); refine blk_put (cs := #[.int .i64 0, .slice none 0 0]) ?_ 0 _ rfl; (with_reducible repeat (first | refine blk_drewN ?_ _ | refine blk_drew ?_ | refine blk_alloc ?_ _)); exact BK109.out) hb); have n3_ := q0 (below_step (qb HB.out) hb); clear HO108 BK109 HB; have HO108 := n0_; have HO111 := n1_; have BK109 := n2_; have HB := n3_; clear n0_ n1_ n2_ n3_; (try clear hb); (try clear hb2); (try clear hk); (try clear hi); (try clear ho0); have hcz12_0 : w11.cell? ⟨gb109, 0, none⟩ = some (.int .i64 t102) := (blk_cell BK109.out 0).trans rfl; have hcz12_1 : w11.cell? ⟨gb109, 1, none⟩ = some (.slice Ao10 t105.length co10) := (blk_cell BK109.out 1).trans rfl; have hfz12_0 := blk_frozen BK109.out 0; have hfz12_1 := blk_frozen BK109.out 1) | (go_at_call 24; (with_reducible refine (impl_WayReach.calls k t102 _ _ t105 t106 t103 _ ?side1 ?side2 A5.out).mono ?_); (case side1 => exact qc (Kd.R_reads' HO108.out).2.2); (case side2 => exact (Kd.R_reads' HO108.out).2.1); rintro e w13 ⟨v112, rfl, ho0, hb⟩; have n0_ := q0 (Kd.R_below (qr HO108.out) hb); have n1_ := q0 (Kd.R_elder' (qr HO111.out) (Kd.R_base ho0) hb); have n2_ := q0 (Kd.R_lower (Kd.R_new' ho0 (Kd.R_lt (qr HO111.out))) (below_size (qb HB.out))); have n3_ := q0 (kb BK109.out hb); have n4_ := q0 (below_step (qb HB.out) hb); clear HO108 HO111 BK109 HB; have HO108 := n0_; have HO111 := n1_; have HO113 := n2_; have BK109 := n3_; have HB := n4_; clear n0_ n1_ n2_ n3_ n4_; (try clear hb); (try clear hb2); (try clear hk); (try clear hi); (try clear ho0))))
 (try simp only [Act.put, List.setIfInBounds_toArray, List.set_cons_zero, List.set_cons_succ])
 go_cut [30] (fun v30 wc => ∃ (kq : Nat) (x30_5 : Bool), v30 = .bool x30_5 ∧ Aside0 (laws_FnWayOn.j0 kq t100 t103 x30_5 t102 t105 = some r) ∧ Aside0 (kq ≤ k) ∧ Aside0 (Kd.R Kd.bool 4 wc w.heap.size (fun k_ => some k_ ≠ (v112 : Value).ownBlock) v110 t100) ∧ Aside0 (Kd.R Kd.bool 4 wc w.heap.size (fun k_ => some k_ ≠ (v110 : Value).ownBlock) v112 t103) ∧ Aside0 (Kd.R kTie 44 wc w.heap.size (fun _ => True) (.slice Ao10 t105.length co10) t105) ∧ Aside0 (wc.heap[gb109]? = some (.cells #[.int .i64 t102, (.slice Ao10 t105.length co10)] 30 (0, 0))) ∧ Aside0 (Below w.heap.size w wc))
 case first =>
   have H := HC6.out
   clear HC6
   replace H := Option.bind_eq_some_iff.mp H
   obtain ⟨t104, A114, H⟩ := H
   replace H : (if t104 = true then (laws_FnWayOn.j0 k t100 t103 ((t103.length : Int) == 0) t102 t105) else (laws_FnWayOn.j0 k t100 t103 true t102 t105)) = some r := H
   have A14 := Aside0.mk A114
   clear A114
   by_cases c15 : t104 = true
   · subst c15
     have H1 : (laws_FnWayOn.j0 k t100 t103 ((t103.length : Int) == 0) t102 t105) = some r := by rw [if_pos rfl] at H; exact H
     clear H
     have H := H1
     clear H1
     have H' := Aside0.mk H
     clear H
     obtain ⟨Ao16, co16, eo16⟩ := Kd.R_slice HO113.out
     subst eo16
     obtain ⟨Ao17, co17, eo17⟩ := Kd.R_slice HO111.out
     subst eo17
     go_wp2_with (first | (go_at_call 25; (with_reducible refine (laws_loBools.calls k _ _ t103 _ _ t100 true _ ?side1 ?side2 ?side3 ?side4 A14.out).mono ?_); (case side1 => exact qc (Kd.R_reads' HO113.out).2.2); (case side2 => exact (Kd.R_reads' HO113.out).2.1); (case side3 => exact qc (Kd.R_reads' HO111.out).2.2); (case side4 => exact (Kd.R_reads' HO111.out).2.1); rintro e w' ⟨rfl, ⟨nd, rfl⟩⟩; (try first | exact ⟨rfl, _, World.drewN_drewN _ _ _⟩ | exact ⟨rfl, _, Eq.trans (World.drewN_drewN _ _ _) (congrArg (World.drewN _) (Nat.add_assoc _ _ _))⟩)))
     repeat (go_quiet (first | (go_at_call 25; (with_reducible refine (laws_loBools.calls k _ _ t103 _ _ t100 true _ ?side1 ?side2 ?side3 ?side4 A14.out).mono ?_); (case side1 => exact qc (Kd.R_reads' HO113.out).2.2); (case side2 => exact (Kd.R_reads' HO113.out).2.1); (case side3 => exact qc (Kd.R_reads' HO111.out).2.2); (case side4 => exact (Kd.R_reads' HO111.out).2.1); rintro e w' ⟨rfl, ⟨nd, rfl⟩⟩; (try first | exact ⟨rfl, _, World.drewN_drewN _ _ _⟩ | exact ⟨rfl, _, Eq.trans (World.drewN_drewN _ _ _) (congrArg (World.drewN _) (Nat.add_assoc _ _ _))⟩))); try go_wp2_with (first | (go_at_call 25; (with_reducible refine (laws_loBools.calls k _ _ t103 _ _ t100 true _ ?side1 ?side2 ?side3 ?side4 A14.out).mono ?_); (case side1 => exact qc (Kd.R_reads' HO113.out).2.2); (case side2 => exact (Kd.R_reads' HO113.out).2.1); (case side3 => exact qc (Kd.R_reads' HO111.out).2.2); (case side4 => exact (Kd.R_reads' HO111.out).2.1); rintro e w' ⟨rfl, ⟨nd, rfl⟩⟩; (try first | exact ⟨rfl, _, World.drewN_drewN _ _ _⟩ | exact ⟨rfl, _, Eq.trans (World.drewN_drewN _ _ _) (congrArg (World.drewN _) (Nat.add_assoc _ _ _))⟩))))
     go_meet
     case rel => exact ⟨_, (((t103.length : Int) == 0)), qs, H', ⟨by first | omega | exact Nat.le_refl _⟩, ⟨by (with_reducible repeat (first | apply Kd.R_alloc | apply Kd.R_drewN | apply Kd.R_drew)); exact Kd.R_mono HO111.out (fun _ hk => hk.2)⟩, ⟨by (with_reducible repeat (first | apply Kd.R_alloc | apply Kd.R_drewN | apply Kd.R_drew)); exact Kd.R_mono HO113.out (fun _ hk => hk.2)⟩, ⟨qr HO108.out⟩, ⟨qk BK109.out⟩, ⟨qb HB.out⟩⟩
   replace c15 := Bool.eq_false_iff.mpr c15
   subst c15
   have H1 : (laws_FnWayOn.j0 k t100 t103 true t102 t105) = some r := by rw [if_neg (show ¬ (false = true) by decide)] at H; exact H
   clear H
   have H := H1
   clear H1
   have H' := Aside0.mk H
   clear H
   obtain ⟨Ao18, co18, eo18⟩ := Kd.R_slice HO113.out
   subst eo18
   obtain ⟨Ao19, co19, eo19⟩ := Kd.R_slice HO111.out
   subst eo19
   go_wp2_with (first | (go_at_call 25; (with_reducible refine (laws_loBools.calls k _ _ t103 _ _ t100 false _ ?side1 ?side2 ?side3 ?side4 A14.out).mono ?_); (case side1 => exact qc (Kd.R_reads' HO113.out).2.2); (case side2 => exact (Kd.R_reads' HO113.out).2.1); (case side3 => exact qc (Kd.R_reads' HO111.out).2.2); (case side4 => exact (Kd.R_reads' HO111.out).2.1); rintro e w' ⟨rfl, ⟨nd, rfl⟩⟩; (try first | exact ⟨rfl, _, World.drewN_drewN _ _ _⟩ | exact ⟨rfl, _, Eq.trans (World.drewN_drewN _ _ _) (congrArg (World.drewN _) (Nat.add_assoc _ _ _))⟩)))
   repeat (go_quiet (first | (go_at_call 25; (with_reducible refine (laws_loBools.calls k _ _ t103 _ _ t100 false _ ?side1 ?side2 ?side3 ?side4 A14.out).mono ?_); (case side1 => exact qc (Kd.R_reads' HO113.out).2.2); (case side2 => exact (Kd.R_reads' HO113.out).2.1); (case side3 => exact qc (Kd.R_reads' HO111.out).2.2); (case side4 => exact (Kd.R_reads' HO111.out).2.1); rintro e w' ⟨rfl, ⟨nd, rfl⟩⟩; (try first | exact ⟨rfl, _, World.drewN_drewN _ _ _⟩ | exact ⟨rfl, _, Eq.trans (World.drewN_drewN _ _ _) (congrArg (World.drewN _) (Nat.add_assoc _ _ _))⟩))); try go_wp2_with (first | (go_at_call 25; (with_reducible refine (laws_loBools.calls k _ _ t103 _ _ t100 false _ ?side1 ?side2 ?side3 ?side4 A14.out).mono ?_); (case side1 => exact qc (Kd.R_reads' HO113.out).2.2); (case side2 => exact (Kd.R_reads' HO113.out).2.1); (case side3 => exact qc (Kd.R_reads' HO111.out).2.2); (case side4 => exact (Kd.R_reads' HO111.out).2.1); rintro e w' ⟨rfl, ⟨nd, rfl⟩⟩; (try first | exact ⟨rfl, _, World.drewN_drewN _ _ _⟩ | exact ⟨rfl, _, Eq.trans (World.drewN_drewN _ _ _) (congrArg (World.drewN _) (Nat.add_assoc _ _ _))⟩))))
   go_meet
   case rel => exact ⟨_, (true), qs, H', ⟨by first | omega | exact Nat.le_refl _⟩, ⟨by (with_reducible repeat (first | apply Kd.R_alloc | apply Kd.R_drewN | apply Kd.R_drew)); exact Kd.R_mono HO111.out (fun _ hk => hk.2)⟩, ⟨by (with_reducible repeat (first | apply Kd.R_alloc | apply Kd.R_drewN | apply Kd.R_drew)); exact Kd.R_mono HO113.out (fun _ hk => hk.2)⟩, ⟨qr HO108.out⟩, ⟨qk BK109.out⟩, ⟨qb HB.out⟩⟩
 clear HC6
 try clear c1
 try clear c2
 try clear c2b0
 try clear c2b1
 try clear p2
 try clear c4
 try clear c15
 try clear hcz12_0
 try clear hcz12_1
 try clear hcz9_0
 try clear hcz9_1
 try clear hfz12_0
 try clear hfz12_1
 try clear hfz9_0
 try clear hfz9_1
 obtain ⟨kq, x30_5, rfl, HA, HJ5, HO_5, HO_6, HO_100001, BK109, HB⟩ := hcut
 rcases kq with _ | kj5
 · exact absurd HA.out (by simp [laws_FnWayOn.j0])
 have H := HA.out
 clear HA
 simp only [laws_FnWayOn.j0] at H
 by_cases c20 : x30_5 = true
 · subst c20
   have H1 : ((laws_loBools.f kj5 t103 t100).bind fun t101 => (some t101)) = some r := by rw [if_pos rfl] at H; exact H
   clear H
   have H := H1
   clear H1
   replace H := Option.bind_eq_some_iff.mp H
   obtain ⟨t101, A115, H⟩ := H
   replace H : (some t101) = some r := H
   have A21 := Aside0.mk A115
   clear A115
   obtain rfl := Option.some.inj H
   obtain ⟨Ao22, co22, eo22⟩ := Kd.R_slice HO_6.out
   subst eo22
   obtain ⟨Ao23, co23, eo23⟩ := Kd.R_slice HO_5.out
   subst eo23
   go_wp2_with (first | (go_at_call 25; (with_reducible refine (laws_loBools.calls kj5 _ _ t103 _ _ t100 t101 _ ?side1 ?side2 ?side3 ?side4 A21.out).mono ?_); (case side1 => exact qc (Kd.R_reads' HO_6.out).2.2); (case side2 => exact (Kd.R_reads' HO_6.out).2.1); (case side3 => exact qc (Kd.R_reads' HO_5.out).2.2); (case side4 => exact (Kd.R_reads' HO_5.out).2.1); rintro e w' ⟨rfl, ⟨nd, rfl⟩⟩; (try first | exact ⟨rfl, _, World.drewN_drewN _ _ _⟩ | exact ⟨rfl, _, Eq.trans (World.drewN_drewN _ _ _) (congrArg (World.drewN _) (Nat.add_assoc _ _ _))⟩)))
   repeat (go_quiet (first | (go_at_call 25; (with_reducible refine (laws_loBools.calls kj5 _ _ t103 _ _ t100 t101 _ ?side1 ?side2 ?side3 ?side4 A21.out).mono ?_); (case side1 => exact qc (Kd.R_reads' HO_6.out).2.2); (case side2 => exact (Kd.R_reads' HO_6.out).2.1); (case side3 => exact qc (Kd.R_reads' HO_5.out).2.2); (case side4 => exact (Kd.R_reads' HO_5.out).2.1); rintro e w' ⟨rfl, ⟨nd, rfl⟩⟩; (try first | exact ⟨rfl, _, World.drewN_drewN _ _ _⟩ | exact ⟨rfl, _, Eq.trans (World.drewN_drewN _ _ _) (congrArg (World.drewN _) (Nat.add_assoc _ _ _))⟩))); try go_wp2_with (first | (go_at_call 25; (with_reducible refine (laws_loBools.calls kj5 _ _ t103 _ _ t100 t101 _ ?side1 ?side2 ?side3 ?side4 A21.out).mono ?_); (case side1 => exact qc (Kd.R_reads' HO_6.out).2.2); (case side2 => exact (Kd.R_reads' HO_6.out).2.1); (case side3 => exact qc (Kd.R_reads' HO_5.out).2.2); (case side4 => exact (Kd.R_reads' HO_5.out).2.1); rintro e w' ⟨rfl, ⟨nd, rfl⟩⟩; (try first | exact ⟨rfl, _, World.drewN_drewN _ _ _⟩ | exact ⟨rfl, _, Eq.trans (World.drewN_drewN _ _ _) (congrArg (World.drewN _) (Nat.add_assoc _ _ _))⟩))))
   go_ret
   exact ⟨qe, qb HB.out⟩
 replace c20 := Bool.eq_false_iff.mpr c20
 subst c20
 have H1 : (laws_FnWayOn.l0 kj5 t103 0 t102 t105) = some r := by rw [if_neg (show ¬ (false = true) by decide)] at H; exact H
 clear H
 have H := H1
 clear H1
 have H' := Aside0.mk H
 clear H
 go_wp2
 repeat (go_quiet (fail); try go_wp2)
 go_loopg [7] kj5 (fun kq v7 w' => ∃ (x7_2 : Int), v7 = .int .i64 x7_2 ∧ Aside0 (laws_FnWayOn.l0 kq t103 x7_2 t102 t105 = some r) ∧ Aside0 (kq ≤ kj5) ∧ Aside0 (Kd.R Kd.bool 4 w' w.heap.size (fun _ => True) v112 t103) ∧ Aside0 (Kd.R kTie 44 w' w.heap.size (fun _ => True) (.slice Ao10 t105.length co10) t105) ∧ Aside0 (w'.heap[gb109]? = some (.cells #[.int .i64 t102, (.slice Ao10 t105.length co10)] 30 (0, 0))) ∧ Aside0 (Below w.heap.size w w'))
 case atStart => exact ⟨(0), qs, H', ⟨Nat.le_refl _⟩, ⟨by (with_reducible repeat (first | apply Kd.R_alloc | apply Kd.R_drewN | apply Kd.R_drew)); exact Kd.R_mono HO_6.out (fun _ hk => trivial)⟩, ⟨qr HO_100001.out⟩, ⟨qk BK109.out⟩, ⟨qb HB.out⟩⟩
 clear H'
 try clear c1
 try clear c2
 try clear c2b0
 try clear c2b1
 try clear p2
 try clear c4
 try clear c15
 try clear c20
 try clear hcz12_0
 try clear hcz12_1
 try clear hcz9_0
 try clear hcz9_1
 try clear hfz12_0
 try clear hfz12_1
 try clear hfz9_0
 try clear hfz9_1
 try clear p2
 obtain ⟨x7_2, rfl, HA, HK2, HO_6, HO_100001, BK109, HB⟩ := hrel
 rcases gk with _ | k2
 · exact absurd HA.out (by simp [laws_FnWayOn.l0])
 have H := HA.out
 clear HA
 simp only [laws_FnWayOn.l0] at H
 by_cases c24 : x7_2 < (t105.length : Int)
 rotate_left
 · rw [if_neg c24] at H
   have c24b0 : decide (x7_2 < (t105.length : Int)) = false := decide_eq_false c24
   clear c24
   obtain rfl := Option.some.inj H
   have hcz35_0 : wr.cell? ⟨gb109, 0, none⟩ = some (.int .i64 t102) := (blk_cell BK109.out 0).trans rfl
   have hcz35_1 : wr.cell? ⟨gb109, 1, none⟩ = some (.slice Ao10 t105.length co10) := (blk_cell BK109.out 1).trans rfl
   have hfz35_0 := blk_frozen BK109.out 0
   have hfz35_1 := blk_frozen BK109.out 1
   go_wp2
   repeat (go_quiet (fail); try go_wp2)
   go_ret
   exact ⟨qe, qb HB.out⟩
 rw [if_pos c24] at H
 have c24b0 : decide (x7_2 < (t105.length : Int)) = true := decide_eq_true c24
 clear c24
 by_cases c25 : 0 ≤ x7_2
 rotate_left
 · rw [if_neg c25] at H
   exact absurd H (by simp)
 rw [if_pos c25] at H
 have c25b0 : decide (0 ≤ x7_2) = true := decide_eq_true c25
 clear c25
 by_cases c26 : 0 ≤ ((rd_TTie t105 x7_2).f0)
 rotate_left
 · rw [if_neg c26] at H
   exact absurd H (by simp)
 rw [if_pos c26] at H
 have c26b0 : decide (0 ≤ ((rd_TTie t105 x7_2).f0)) = true := decide_eq_true c26
 clear c26
 by_cases c27 : ((rd_TTie t105 x7_2).f0) < (t103.length : Int)
 rotate_left
 · rw [if_neg c27] at H
   exact absurd H (by simp)
 rw [if_pos c27] at H
 have c27b0 : decide (((rd_TTie t105 x7_2).f0) < (t103.length : Int)) = true := decide_eq_true c27
 clear c27
 by_cases c28 : 0 ≤ ((rd_TTie t105 x7_2).f1)
 rotate_left
 · rw [if_neg c28] at H
   exact absurd H (by simp)
 rw [if_pos c28] at H
 have c28b0 : decide (0 ≤ ((rd_TTie t105 x7_2).f1)) = true := decide_eq_true c28
 clear c28
 by_cases c29 : ((rd_TTie t105 x7_2).f1) < (t103.length : Int)
 rotate_left
 · rw [if_neg c29] at H
   exact absurd H (by simp)
 rw [if_pos c29] at H
 have c29b0 : decide (((rd_TTie t105 x7_2).f1) < (t103.length : Int)) = true := decide_eq_true c29
 clear c29
 by_cases c30 : ((rdOf false t103 ((rd_TTie t105 x7_2).f0)) != (rdOf false t103 ((rd_TTie t105 x7_2).f1))) = true
 · rw [if_pos c30] at H
   have c30b0 : ((rdOf false t103 ((rd_TTie t105 x7_2).f0)) != (rdOf false t103 ((rd_TTie t105 x7_2).f1))) = true := c30
   (try (have c30b1 : decide ((rdOf false t103 ((rd_TTie t105 x7_2).f0)) = (rdOf false t103 ((rd_TTie t105 x7_2).f1))) = false := by simpa using c30))
   (try (have c30b2 : ((rdOf false t103 ((rd_TTie t105 x7_2).f0)) == (rdOf false t103 ((rd_TTie t105 x7_2).f1))) = false := by simpa using c30))
   (try (have c30b3 : ¬ ((rdOf false t103 ((rd_TTie t105 x7_2).f0)) = (rdOf false t103 ((rd_TTie t105 x7_2).f1))) := by simpa using c30))
   clear c30
   obtain rfl := Option.some.inj H
   have hcz31_0 : wr.cell? ⟨gb109, 0, none⟩ = some (.int .i64 t102) := (blk_cell BK109.out 0).trans rfl
   have hcz31_1 : wr.cell? ⟨gb109, 1, none⟩ = some (.slice Ao10 t105.length co10) := (blk_cell BK109.out 1).trans rfl
   have hfz31_0 := blk_frozen BK109.out 0
   have hfz31_1 := blk_frozen BK109.out 1
   have p116 : 0 ≤ (x7_2 : Int) := of_decide_eq_true qa
   have q116 : x7_2 < (t105.length : Int) := of_decide_eq_true qa
   obtain ⟨ad116, e116, hx116_0, hx116_1⟩ := at_TTie (Kd.R_reads' HO_100001.out).2.2 x7_2 p116 q116
   cases e116
   replace p116 := eq_true p116
   replace q116 := eq_true q116
   obtain ⟨Ao32, co32, eo32⟩ := Kd.R_slice HO_6.out
   subst eo32
   have p117 : 0 ≤ (((rd_TTie t105 x7_2).f0) : Int) := of_decide_eq_true qa
   have q117 : ((rd_TTie t105 x7_2).f0) < (t103.length : Int) := of_decide_eq_true qa
   obtain ⟨ad117, e117, hx117_0⟩ := Kd.at_bool (Kd.R_reads' HO_6.out).2.2 ((rd_TTie t105 x7_2).f0) p117 q117
   cases e117
   replace p117 := eq_true p117
   replace q117 := eq_true q117
   have p118 : 0 ≤ (x7_2 : Int) := of_decide_eq_true qa
   have q118 : x7_2 < (t105.length : Int) := of_decide_eq_true qa
   obtain ⟨ad118, e118, hx118_0, hx118_1⟩ := at_TTie (Kd.R_reads' HO_100001.out).2.2 x7_2 p118 q118
   obtain rfl : ad116 = ad118 := (by injection e118)
   replace p118 := eq_true p118
   replace q118 := eq_true q118
   have p119 : 0 ≤ (((rd_TTie t105 x7_2).f1) : Int) := of_decide_eq_true qa
   have q119 : ((rd_TTie t105 x7_2).f1) < (t103.length : Int) := of_decide_eq_true qa
   obtain ⟨ad119, e119, hx119_0⟩ := Kd.at_bool (Kd.R_reads' HO_6.out).2.2 ((rd_TTie t105 x7_2).f1) p119 q119
   obtain rfl : ad117 = ad119 := (by injection e119)
   replace p119 := eq_true p119
   replace q119 := eq_true q119
   go_wp2
   repeat (go_quiet (fail); try go_wp2)
   go_ret
   exact ⟨qe, qb HB.out⟩
 rw [if_neg c30] at H
 have c30b0 : ((rdOf false t103 ((rd_TTie t105 x7_2).f0)) != (rdOf false t103 ((rd_TTie t105 x7_2).f1))) = false := by simpa using c30
 (try (have c30b1 : decide ((rdOf false t103 ((rd_TTie t105 x7_2).f0)) = (rdOf false t103 ((rd_TTie t105 x7_2).f1))) = true := by simpa using c30))
 (try (have c30b2 : ((rdOf false t103 ((rd_TTie t105 x7_2).f0)) == (rdOf false t103 ((rd_TTie t105 x7_2).f1))) = true := by simpa using c30))
 clear c30
 have H' := Aside0.mk H
 clear H
 have hcz33_0 : wr.cell? ⟨gb109, 0, none⟩ = some (.int .i64 t102) := (blk_cell BK109.out 0).trans rfl
 have hcz33_1 : wr.cell? ⟨gb109, 1, none⟩ = some (.slice Ao10 t105.length co10) := (blk_cell BK109.out 1).trans rfl
 have hfz33_0 := blk_frozen BK109.out 0
 have hfz33_1 := blk_frozen BK109.out 1
 have p116 : 0 ≤ (x7_2 : Int) := of_decide_eq_true qa
 have q116 : x7_2 < (t105.length : Int) := of_decide_eq_true qa
 obtain ⟨ad116, e116, hx116_0, hx116_1⟩ := at_TTie (Kd.R_reads' HO_100001.out).2.2 x7_2 p116 q116
 cases e116
 replace p116 := eq_true p116
 replace q116 := eq_true q116
 obtain ⟨Ao34, co34, eo34⟩ := Kd.R_slice HO_6.out
 subst eo34
 have p117 : 0 ≤ (((rd_TTie t105 x7_2).f0) : Int) := of_decide_eq_true qa
 have q117 : ((rd_TTie t105 x7_2).f0) < (t103.length : Int) := of_decide_eq_true qa
 obtain ⟨ad117, e117, hx117_0⟩ := Kd.at_bool (Kd.R_reads' HO_6.out).2.2 ((rd_TTie t105 x7_2).f0) p117 q117
 cases e117
 replace p117 := eq_true p117
 replace q117 := eq_true q117
 have p118 : 0 ≤ (x7_2 : Int) := of_decide_eq_true qa
 have q118 : x7_2 < (t105.length : Int) := of_decide_eq_true qa
 obtain ⟨ad118, e118, hx118_0, hx118_1⟩ := at_TTie (Kd.R_reads' HO_100001.out).2.2 x7_2 p118 q118
 obtain rfl : ad116 = ad118 := (by injection e118)
 replace p118 := eq_true p118
 replace q118 := eq_true q118
 have p119 : 0 ≤ (((rd_TTie t105 x7_2).f1) : Int) := of_decide_eq_true qa
 have q119 : ((rd_TTie t105 x7_2).f1) < (t103.length : Int) := of_decide_eq_true qa
 obtain ⟨ad119, e119, hx119_0⟩ := Kd.at_bool (Kd.R_reads' HO_6.out).2.2 ((rd_TTie t105 x7_2).f1) p119 q119
 obtain rfl : ad117 = ad119 := (by injection e119)
 replace p119 := eq_true p119
 replace q119 := eq_true q119
 go_wp2
 repeat (go_quiet (fail); try go_wp2)
 go_roundg k2
 case measure => have := HJ5.out; have := HK2.out; omega
 case rel => exact ⟨(wrap64 (x7_2 + 1)), qs, H', ⟨by have := HJ5.out; have := HK2.out; omega⟩, ⟨qr HO_6.out⟩, ⟨qr HO_100001.out⟩, ⟨qk BK109.out⟩, ⟨qb HB.out⟩⟩

theorem laws_FnWayOn.walk (P : laws_FnWayOn.Pure) (a0 : Option Addr) (len0 cap0 : Nat) (z0 : List Int) (w : World) (w0 : (a0 = none ∧ len0 = 0 ∧ cap0 = 0 ∧ z0 = []) ∨ ∃ x, a0 = some x ∧ len0 ≤ cap0 ∧ cap0 ≤ maxLen ∧ z0.length = cap0 ∧ (∀ i, i < z0.length → w.cell? (x.add i) = some (.int .u8 (z0.getD i 0))) ∧ ∀ n ∈ z0, (Lit.int .u8 n).wf = true) (y0 : len0 * 1 ≤ 140737488351232) :
    Calls Try.prog 4 #[.slice a0 len0 cap0] w fun e w' => e = .returned (.bool true) ∧ Below w.heap.size w w' := by
  obtain ⟨l0, rfl, hr0, hm0, hw0, hc0⟩ := ReadsInt.ofRowC w0
  obtain ⟨k, h⟩ := P l0 hm0 y0 hw0
  refine (laws_FnWayOn.calls k _ _ l0 true w (Kd.C_of_reads (d := (0 : Int)) (h1 := fun _ => rfl) hr0) hc0 h).mono ?_
  rintro e w' ⟨rfl, hd⟩
  exact ⟨rfl, hd⟩
end Go.Proofs.Ytheoebelhgbejaa.P
