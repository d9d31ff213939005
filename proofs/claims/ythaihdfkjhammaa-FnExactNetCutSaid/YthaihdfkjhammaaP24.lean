import Derived.Test.YthaihdfkjhammaaP0
import Derived.Test.YthaihdfkjhammaaP2
import Derived.Test.YthaihdfkjhammaaP8
import Derived.Test.YthaihdfkjhammaaP12
import Derived.Test.YthaihdfkjhammaaP23
namespace Go.Proofs.Ythaihdfkjhammaa.P
open Go.RowKit Go.Proofs.YthaihdfkjhammaaW.PrintWords Go.Proofs.YthaihdfkjhammaaW.PrintLast Go.Proofs.YthaihdfkjhammaaW.PrintMore
attribute [local go_sem] max2_int min2_int max_two min_two max_three min_three max_four min_four
set_option linter.unusedVariables false
set_option linter.unusedSimpArgs false
attribute [local go_sem high] eqATie
set_option maxHeartbeats 8000000 in
set_option maxRecDepth 100000 in
theorem laws_FnExactNetCut.calls (k : Nat) (a0_0 : Int) (A0_1 : Option Addr) (c0_1 : Nat) (l0_1 : List (SLTie)) (a1 : Int) (a2 : Int) (r : Bool) (w : World) (hr0_1 : Kd.C kLTie w A0_1 l0_1.length l0_1) (hc0_1 : l0_1.length ≤ c0_1) (h : laws_FnExactNetCut.f k a0_0 l0_1 a1 a2 = some r) :
    Calls Try.prog 8 #[.agg #[.int .i64 a0_0, .slice A0_1 l0_1.length c0_1], .int .i64 a1, .int .i64 a2] w fun e w' => e = .returned (.bool r) ∧ Below w.heap.size w w' := by
 have hu25 := Try.underlying25
 have hu30 := Try.underlying30
 have HR0_1 := Aside0.mk hr0_1
 have HC0_1 := Aside0.mk hc0_1
 clear hr0_1 hc0_1
 have HB := Aside0.mk (Below.refl w.heap.size w)
 have H : ((laws_szNet.f a0_0 l0_1 1048576).bind fun t100 => (if t100 < 0 then (some true) else ((laws_toNet.f k a0_0 l0_1).bind fun bt114 => ((spec_NetCut.f k bt114.1 bt114.2 a1 a2).bind fun bt115 => ((laws_toNet.f k a0_0 l0_1).bind fun bt101 => ((impl_NetCut.f k bt101.1 bt101.2 a1 a2).bind fun bt102 => ((laws_eqNet.f k bt102.1 bt102.2.1 bt115.1 bt115.2.1).bind fun t103 => (if t103 = true then (laws_FnExactNetCut.j0 k a1 a2 bt115.2.2 bt102.2.2 (bt102.2.2 != bt115.2.2) a0_0 l0_1 bt115.1 bt115.2.1 bt101.1 bt101.2 bt102.1 bt102.2.1) else (laws_FnExactNetCut.j0 k a1 a2 bt115.2.2 bt102.2.2 true a0_0 l0_1 bt115.1 bt115.2.1 bt101.1 bt101.2 bt102.1 bt102.2.1))))))))) = some r := h
 clear h
 replace H := Option.bind_eq_some_iff.mp H
 obtain ⟨t100, A40, H⟩ := H
 replace H : (if t100 < 0 then (some true) else ((laws_toNet.f k a0_0 l0_1).bind fun bt114 => ((spec_NetCut.f k bt114.1 bt114.2 a1 a2).bind fun bt115 => ((laws_toNet.f k a0_0 l0_1).bind fun bt101 => ((impl_NetCut.f k bt101.1 bt101.2 a1 a2).bind fun bt102 => ((laws_eqNet.f k bt102.1 bt102.2.1 bt115.1 bt115.2.1).bind fun t103 => (if t103 = true then (laws_FnExactNetCut.j0 k a1 a2 bt115.2.2 bt102.2.2 (bt102.2.2 != bt115.2.2) a0_0 l0_1 bt115.1 bt115.2.1 bt101.1 bt101.2 bt102.1 bt102.2.1) else (laws_FnExactNetCut.j0 k a1 a2 bt115.2.2 bt102.2.2 true a0_0 l0_1 bt115.1 bt115.2.1 bt101.1 bt101.2 bt102.1 bt102.2.1)))))))) = some r := H
 have A4 := Aside0.mk A40
 clear A40
 by_cases c5 : t100 < 0
 · rw [if_pos c5] at H
   have c5b0 : decide (t100 < 0) = true := decide_eq_true c5
   clear c5
   obtain rfl := Option.some.inj H
   go_enter Try.func8, Try.ntmps8
   go_wp2_with (first | ((with_reducible refine gate_dst (N := 3) rfl ?_); refine box_event ?hg (N := 3) ?hd (cs := #[.int .i64 a0_0, .slice A0_1 l0_1.length c0_1]) (t := 25) ?hr ?_; (case hd => rfl); (case hg => rfl); (case hr => first | (go_simp; done) | (go_simp; rfl)); intro gb116 hg w6 hbox hb; have n0_ := Aside0.mk (below_step (by repeat (first | (with_reducible first | exact HB.out | apply below_alloc | apply pw_below_drewN | apply below_drew1) | exact HB.out)) hb); have n1_ := Aside0.mk (hbox); have n2_ := Aside0.mk ((by rw [hg]; exact (below_size (by repeat (first | (with_reducible first | exact HB.out | apply below_alloc | apply pw_below_drewN | apply below_drew1) | exact HB.out))) : w.heap.size ≤ gb116)); have n3_ := Aside0.mk ((by rw [hg]; exact (below_size (by repeat (first | (with_reducible first | exact HB.out | apply below_alloc | apply pw_below_drewN | apply below_drew1) | exact HB.out))) : w.heap.size ≤ gb116)); clear HB; have HB := n0_; have BK116 := n1_; have GW116 := n2_; have GE116 := n3_; clear n0_ n1_ n2_ n3_; clear hb hbox hg; have hcz7_0 : w6.cell? ⟨gb116, 0, none⟩ = some (.int .i64 a0_0) := (blk_cell BK116.out 0).trans rfl; have hcz7_1 : w6.cell? ⟨gb116, 1, none⟩ = some (.slice A0_1 l0_1.length c0_1) := (blk_cell BK116.out 1).trans rfl; have hfz7_0 := blk_frozen BK116.out 0; have hfz7_1 := blk_frozen BK116.out 1) | ((with_reducible refine gate_callee (f := 14) rfl ?_); refine goesL_ (some 20) rfl rfl Try.func14 (by kernel_rfl) rfl #[.agg #[.int .i64 a0_0, .slice A0_1 l0_1.length c0_1], .int .i64 1048576] rfl (by (try simp only [List.map_toArray, List.map_cons, List.map_nil]); first | done | rfl | (simp only [List.length_drop, List.length_take]; rfl)) ?_; (with_reducible refine (laws_szNet.calls a0_0 _ _ l0_1 1048576 t100 _ ?side1 ?side2 A4.out).mono ?_); (case side1 => repeat (first | exact (Kd.C_below HR0_1.out HB.out) | (with_reducible refine Kd.C_alloc ?_ _) | (with_reducible refine Kd.C_drewN ?_ _) | (with_reducible refine Kd.C_drew ?_))); (case side2 => exact HC0_1.out); rintro e w8 ⟨rfl, hb⟩; refine ⟨_, rfl, ?_⟩; have n0_ := Aside0.mk (blk_below (g := gb116) (o := .cells #[.int .i64 a0_0, .slice A0_1 l0_1.length c0_1] 25 (0, 0)) (by (with_reducible repeat (first | refine blk_drewN ?_ _ | refine blk_drew ?_ | refine blk_alloc ?_ _)); exact BK116.out) hb); have n1_ := Aside0.mk (below_step (by repeat (first | (with_reducible first | exact HB.out | apply below_alloc | apply pw_below_drewN | apply below_drew1 | refine below_set ?_ GE116.out) | exact HB.out)) hb); clear BK116; clear HB; have BK116 := n0_; have HB := n1_; clear n0_ n1_; (try clear hb); (try clear hb2); (try clear hk); (try clear hi)))
   go_ret
   exact ⟨by first | rfl | (simp [errW_none, errW_some] <;> rfl) | (simp [*, errW_none, errW_some] <;> rfl), by repeat (first | (with_reducible first | exact HB.out | apply below_alloc | apply pw_below_drewN | apply below_drew1 | refine below_set ?_ GE116.out) | exact HB.out)⟩
 rw [if_neg c5] at H
 have c5b0 : decide (t100 < 0) = false := decide_eq_false c5
 clear c5
 replace H := Option.bind_eq_some_iff.mp H
 obtain ⟨⟨t114, t117⟩, A90, H⟩ := H
 replace H : ((spec_NetCut.f k t114 t117 a1 a2).bind fun bt115 => ((laws_toNet.f k a0_0 l0_1).bind fun bt101 => ((impl_NetCut.f k bt101.1 bt101.2 a1 a2).bind fun bt102 => ((laws_eqNet.f k bt102.1 bt102.2.1 bt115.1 bt115.2.1).bind fun t103 => (if t103 = true then (laws_FnExactNetCut.j0 k a1 a2 bt115.2.2 bt102.2.2 (bt102.2.2 != bt115.2.2) a0_0 l0_1 bt115.1 bt115.2.1 bt101.1 bt101.2 bt102.1 bt102.2.1) else (laws_FnExactNetCut.j0 k a1 a2 bt115.2.2 bt102.2.2 true a0_0 l0_1 bt115.1 bt115.2.1 bt101.1 bt101.2 bt102.1 bt102.2.1)))))) = some r := H
 have A9 := Aside0.mk A90
 clear A90
 replace H := Option.bind_eq_some_iff.mp H
 obtain ⟨⟨t115, t118, t119⟩, A120, H⟩ := H
 replace H : ((laws_toNet.f k a0_0 l0_1).bind fun bt101 => ((impl_NetCut.f k bt101.1 bt101.2 a1 a2).bind fun bt102 => ((laws_eqNet.f k bt102.1 bt102.2.1 t115 t118).bind fun t103 => (if t103 = true then (laws_FnExactNetCut.j0 k a1 a2 t119 bt102.2.2 (bt102.2.2 != t119) a0_0 l0_1 t115 t118 bt101.1 bt101.2 bt102.1 bt102.2.1) else (laws_FnExactNetCut.j0 k a1 a2 t119 bt102.2.2 true a0_0 l0_1 t115 t118 bt101.1 bt101.2 bt102.1 bt102.2.1))))) = some r := H
 have A10 := Aside0.mk A120
 clear A120
 replace H := Option.bind_eq_some_iff.mp H
 obtain ⟨⟨t101, t121⟩, A122, H⟩ := H
 replace H : ((impl_NetCut.f k t101 t121 a1 a2).bind fun bt102 => ((laws_eqNet.f k bt102.1 bt102.2.1 t115 t118).bind fun t103 => (if t103 = true then (laws_FnExactNetCut.j0 k a1 a2 t119 bt102.2.2 (bt102.2.2 != t119) a0_0 l0_1 t115 t118 t101 t121 bt102.1 bt102.2.1) else (laws_FnExactNetCut.j0 k a1 a2 t119 bt102.2.2 true a0_0 l0_1 t115 t118 t101 t121 bt102.1 bt102.2.1)))) = some r := H
 have A11 := Aside0.mk A122
 clear A122
 replace H := Option.bind_eq_some_iff.mp H
 obtain ⟨⟨t102, t123, t124⟩, A125, H⟩ := H
 replace H : ((laws_eqNet.f k t102 t123 t115 t118).bind fun t103 => (if t103 = true then (laws_FnExactNetCut.j0 k a1 a2 t119 t124 (t124 != t119) a0_0 l0_1 t115 t118 t101 t121 t102 t123) else (laws_FnExactNetCut.j0 k a1 a2 t119 t124 true a0_0 l0_1 t115 t118 t101 t121 t102 t123))) = some r := H
 have A12 := Aside0.mk A125
 clear A125
 have HC13 := Aside0.mk H
 clear H
 go_enter Try.func8, Try.ntmps8
 go_upto_region 8 with (first | ((with_reducible refine gate_dst (N := 3) rfl ?_); refine box_event ?hg (N := 3) ?hd (cs := #[.int .i64 a0_0, .slice A0_1 l0_1.length c0_1]) (t := 25) ?hr ?_; (case hd => rfl); (case hg => rfl); (case hr => first | (go_simp; done) | (go_simp; rfl)); intro gb116 hg w14 hbox hb; have n0_ := Aside0.mk (below_step (by repeat (first | (with_reducible first | exact HB.out | apply below_alloc | apply pw_below_drewN | apply below_drew1) | exact HB.out)) hb); have n1_ := Aside0.mk (hbox); have n2_ := Aside0.mk ((by rw [hg]; exact (below_size (by repeat (first | (with_reducible first | exact HB.out | apply below_alloc | apply pw_below_drewN | apply below_drew1) | exact HB.out))) : w.heap.size ≤ gb116)); have n3_ := Aside0.mk ((by rw [hg]; exact (below_size (by repeat (first | (with_reducible first | exact HB.out | apply below_alloc | apply pw_below_drewN | apply below_drew1) | exact HB.out))) : w.heap.size ≤ gb116)); clear HB; have HB := n0_; have BK116 := n1_; have GW116 := n2_; have GE116 := n3_; clear n0_ n1_ n2_ n3_; clear hb hbox hg; have hcz15_0 : w14.cell? ⟨gb116, 0, none⟩ = some (.int .i64 a0_0) := (blk_cell BK116.out 0).trans rfl; have hcz15_1 : w14.cell? ⟨gb116, 1, none⟩ = some (.slice A0_1 l0_1.length c0_1) := (blk_cell BK116.out 1).trans rfl; have hfz15_0 := blk_frozen BK116.out 0; have hfz15_1 := blk_frozen BK116.out 1) | ((with_reducible refine gate_callee (f := 14) rfl ?_); refine goesL_ (some 20) rfl rfl Try.func14 (by kernel_rfl) rfl #[.agg #[.int .i64 a0_0, .slice A0_1 l0_1.length c0_1], .int .i64 1048576] rfl (by (try simp only [List.map_toArray, List.map_cons, List.map_nil]); first | done | rfl | (simp only [List.length_drop, List.length_take]; rfl)) ?_; (with_reducible refine (laws_szNet.calls a0_0 _ _ l0_1 1048576 t100 _ ?side1 ?side2 A4.out).mono ?_); (case side1 => repeat (first | exact (Kd.C_below HR0_1.out HB.out) | (with_reducible refine Kd.C_alloc ?_ _) | (with_reducible refine Kd.C_drewN ?_ _) | (with_reducible refine Kd.C_drew ?_))); (case side2 => exact HC0_1.out); rintro e w16 ⟨rfl, hb⟩; refine ⟨_, rfl, ?_⟩; have n0_ := Aside0.mk (blk_below (g := gb116) (o := .cells #[.int .i64 a0_0, .slice A0_1 l0_1.length c0_1] 25 (0, 0)) (by (with_reducible repeat (first | refine blk_drewN ?_ _ | refine blk_drew ?_ | refine blk_alloc ?_ _)); exact BK116.out) hb); have n1_ := Aside0.mk (below_step (by repeat (first | (with_reducible first | exact HB.out | apply below_alloc | apply pw_below_drewN | apply below_drew1 | refine below_set ?_ GE116.out) | exact HB.out)) hb); clear BK116; clear HB; have BK116 := n0_; have HB := n1_; clear n0_ n1_; (try clear hb); (try clear hb2); (try clear hk); (try clear hi); have hcz17_0 : w16.cell? ⟨gb116, 0, none⟩ = some (.int .i64 a0_0) := (blk_cell BK116.out 0).trans rfl; have hcz17_1 : w16.cell? ⟨gb116, 1, none⟩ = some (.slice A0_1 l0_1.length c0_1) := (blk_cell BK116.out 1).trans rfl; have hfz17_0 := blk_frozen BK116.out 0; have hfz17_1 := blk_frozen BK116.out 1) | ((with_reducible refine gate_callee (f := 16) rfl ?_); refine goesL_ (some 25) rfl rfl Try.func16 (by kernel_rfl) rfl #[.agg #[.int .i64 a0_0, .slice A0_1 l0_1.length c0_1]] rfl (by (try simp only [List.map_toArray, List.map_cons, List.map_nil]); first | done | rfl | (simp only [List.length_drop, List.length_take]; rfl)) ?_; (with_reducible refine (laws_toNet.calls k a0_0 _ _ l0_1 t114 t117 _ ?side1 ?side2 A9.out).mono ?_); (case side1 => repeat (first | exact (Kd.C_below HR0_1.out HB.out) | (with_reducible refine Kd.C_alloc ?_ _) | (with_reducible refine Kd.C_drewN ?_ _) | (with_reducible refine Kd.C_drew ?_))); (case side2 => exact HC0_1.out); rintro e w18 ⟨v126, rfl, ho0, hb⟩; refine ⟨_, rfl, ?_⟩; have n0_ := Aside0.mk (Kd.R_lower ho0 (below_size (by repeat (first | (with_reducible first | exact HB.out | apply below_alloc | apply pw_below_drewN | apply below_drew1 | refine below_set ?_ GE116.out) | exact HB.out)))); have n1_ := Aside0.mk (blk_below (g := gb116) (o := .cells #[.int .i64 a0_0, .slice A0_1 l0_1.length c0_1] 25 (0, 0)) (by (with_reducible repeat (first | refine blk_drewN ?_ _ | refine blk_drew ?_ | refine blk_alloc ?_ _)); exact BK116.out) hb); have n2_ := Aside0.mk (below_step (by repeat (first | (with_reducible first | exact HB.out | apply below_alloc | apply pw_below_drewN | apply below_drew1 | refine below_set ?_ GE116.out) | exact HB.out)) hb); clear BK116; clear HB; have HO127 := n0_; have BK116 := n1_; have HB := n2_; clear n0_ n1_ n2_; (try clear hb); (try clear hb2); (try clear hk); (try clear hi); (try clear ho0); obtain ⟨Ao19, co19, eo19⟩ := Kd.R_slice HO127.out; subst eo19) | ((with_reducible refine gate_callee (f := 29) rfl ?_); refine goesL_ (some 28) rfl rfl Try.func29 (by kernel_rfl) rfl #[.agg #[.int .i64 t114, .slice Ao19 t117.length co19], .int .i64 a1, .int .i64 a2] rfl (by (try simp only [List.map_toArray, List.map_cons, List.map_nil]); first | done | rfl | (simp only [List.length_drop, List.length_take]; rfl)) ?_; (with_reducible refine (spec_NetCut.calls k t114 _ _ t117 a1 a2 t115 t118 t119 _ ?side1 ?side2 A10.out).mono ?_); (case side1 => repeat (first | exact (Kd.R_reads' HO127.out).2.2 | (with_reducible refine Kd.C_alloc ?_ _) | (with_reducible refine Kd.C_drewN ?_ _) | (with_reducible refine Kd.C_drew ?_))); (case side2 => exact (Kd.R_reads' HO127.out).2.1); rintro e w20 ⟨v128, rfl, ho0, hb⟩; refine ⟨_, rfl, ?_⟩; have n0_ := Aside0.mk (Kd.R_elder' (by (with_reducible repeat (first | apply Kd.R_alloc | apply Kd.R_drewN | apply Kd.R_drew)); exact HO127.out) (Kd.R_base ho0) hb); have n1_ := Aside0.mk (Kd.R_lower (Kd.R_new' ho0 (Kd.R_lt (by (with_reducible repeat (first | apply Kd.R_alloc | apply Kd.R_drewN | apply Kd.R_drew)); exact HO127.out))) (below_size (by repeat (first | (with_reducible first | exact HB.out | apply below_alloc | apply pw_below_drewN | apply below_drew1 | refine below_set ?_ GE116.out) | exact HB.out)))); have n2_ := Aside0.mk (blk_below (g := gb116) (o := .cells #[.int .i64 a0_0, .slice A0_1 l0_1.length c0_1] 25 (0, 0)) (by (with_reducible repeat (first | refine blk_drewN ?_ _ | refine blk_drew ?_ | refine blk_alloc ?_ _)); exact BK116.out) hb); have n3_ := Aside0.mk (below_step (by repeat (first | (with_reducible first | exact HB.out | apply below_alloc | apply pw_below_drewN | apply below_drew1 | refine below_set ?_ GE116.out) | exact HB.out)) hb); clear HO127; clear BK116; clear HB; have HO127 := n0_; have HO129 := n1_; have BK116 := n2_; have HB := n3_; clear n0_ n1_ n2_ n3_; (try clear hb); (try clear hb2); (try clear hk); (try clear hi); (try clear ho0)) | ((with_reducible refine gate_dst (N := 8) rfl ?_); refine box_event ?hg (N := 8) ?hd (cs := #[.int .i64 0, .slice none 0 0]) (t := 30) ?hr ?_; (case hd => rfl); (case hg => rfl); (case hr => first | (go_simp; done) | (go_simp; rfl)); intro gb130 hg w21 hbox hb; have n0_ := Aside0.mk (Kd.R_below (by (with_reducible repeat (first | apply Kd.R_alloc | apply Kd.R_drewN | apply Kd.R_drew)); exact HO127.out) hb); have n1_ := Aside0.mk (Kd.R_below (by (with_reducible repeat (first | apply Kd.R_alloc | apply Kd.R_drewN | apply Kd.R_drew)); exact HO129.out) hb); have n2_ := Aside0.mk (blk_below (g := gb116) (o := .cells #[.int .i64 a0_0, .slice A0_1 l0_1.length c0_1] 25 (0, 0)) (by (with_reducible repeat (first | refine blk_drewN ?_ _ | refine blk_drew ?_ | refine blk_alloc ?_ _)); exact BK116.out) hb); have n3_ := Aside0.mk (below_step (by repeat (first | (with_reducible first | exact HB.out | apply below_alloc | apply pw_below_drewN | apply below_drew1 | refine below_set ?_ GE116.out) | exact HB.out)) hb); have n4_ := Aside0.mk (hbox); have n5_ := Aside0.mk ((by rw [hg]; exact (below_size (by repeat (first | (with_reducible first | exact HB.out | apply below_alloc | apply pw_below_drewN | apply below_drew1 | refine below_set ?_ GE116.out) | exact HB.out))) : w.heap.size ≤ gb130)); have n6_ := Aside0.mk ((by rw [hg]; exact (below_size (by repeat (first | (with_reducible first | exact HB.out | apply below_alloc | apply pw_below_drewN | apply below_drew1 | refine below_set ?_ GE116.out) | exact HB.out))) : w.heap.size ≤ gb130)); have n7_ := Aside0.mk ((by rw [hg]; exact Nat.ne_of_lt (blk_lt (g := gb116) (o := .cells #[.int .i64 a0_0, .slice A0_1 l0_1.length c0_1] 25 (0, 0)) (by (with_reducible repeat (first | refine blk_drewN ?_ _ | refine blk_drew ?_ | refine blk_alloc ?_ _)); exact BK116.out)) : gb116 ≠ gb130)); have n8_ := Aside0.mk ((by rw [hg]; exact Nat.ne_of_gt (blk_lt (g := gb116) (o := .cells #[.int .i64 a0_0, .slice A0_1 l0_1.length c0_1] 25 (0, 0)) (by (with_reducible repeat (first | refine blk_drewN ?_ _ | refine blk_drew ?_ | refine blk_alloc ?_ _)); exact BK116.out)) : gb130 ≠ gb116)); clear HO127; clear HO129; clear BK116; clear HB; have HO127 := n0_; have HO129 := n1_; have BK116 := n2_; have HB := n3_; have BK130 := n4_; have GW130 := n5_; have GE130 := n6_; have NB116_130 := n7_; have NB130_116 := n8_; clear n0_ n1_ n2_ n3_ n4_ n5_ n6_ n7_ n8_; clear hb hbox hg; have hnb22 := NB130_116.out; have hnc22 := NB116_130.out; have hcz23_0 : w21.cell? ⟨gb130, 0, none⟩ = some (.int .i64 0) := (blk_cell BK130.out 0).trans rfl; have hcz23_1 : w21.cell? ⟨gb130, 1, none⟩ = some (.slice none 0 0) := (blk_cell BK130.out 1).trans rfl; have hfz23_0 := blk_frozen BK130.out 0; have hfz23_1 := blk_frozen BK130.out 1; obtain ⟨Ao24, co24, eo24⟩ := Kd.R_slice HO129.out; subst eo24; have hcz25_0 : w21.cell? ⟨gb116, 0, none⟩ = some (.int .i64 a0_0) := (blk_cell BK116.out 0).trans rfl; have hcz25_1 : w21.cell? ⟨gb116, 1, none⟩ = some (.slice A0_1 l0_1.length c0_1) := (blk_cell BK116.out 1).trans rfl; have hfz25_0 := blk_frozen BK116.out 0; have hfz25_1 := blk_frozen BK116.out 1) | ((with_reducible refine gate_callee (f := 16) rfl ?_); refine goesL_ (some 32) rfl rfl Try.func16 (by kernel_rfl) rfl #[.agg #[.int .i64 a0_0, .slice A0_1 l0_1.length c0_1]] rfl (by (try simp only [List.map_toArray, List.map_cons, List.map_nil]); first | done | rfl | (simp only [List.length_drop, List.length_take]; rfl)) ?_; (with_reducible refine (laws_toNet.calls k a0_0 _ _ l0_1 t101 t121 _ ?side1 ?side2 A11.out).mono ?_); (case side1 => exact Kd.C_below HR0_1.out (by repeat (first | (with_reducible first | exact HB.out | apply below_alloc | apply pw_below_drewN | apply below_drew1 | refine below_set ?_ GE116.out | refine below_set ?_ GE130.out) | exact HB.out))); (case side2 => exact HC0_1.out); rintro e w26 ⟨v131, rfl, ho0, hb⟩; refine ⟨_, rfl, ?_⟩; have n0_ := Aside0.mk (Kd.R_elder' (by (with_reducible repeat (first | apply Kd.R_alloc | apply Kd.R_drewN | apply Kd.R_drew)); exact (Kd.R_mono (Kd.R_far (p := ⟨gb130, 1, none⟩) (Kd.R_far (p := ⟨gb130, 0, none⟩) (Kd.R_types HO127.out BK130.out (by decide)) (fun _ hk => hk.2) (.int .i64 t115)) (fun _ hk => hk.2) (.slice Ao24 t118.length co24)) (fun _ h_ => h_.1))) (Kd.R_base ho0) hb); have n1_ := Aside0.mk (Kd.R_elder' (by (with_reducible repeat (first | apply Kd.R_alloc | apply Kd.R_drewN | apply Kd.R_drew)); exact (Kd.R_mono (Kd.R_far (p := ⟨gb130, 1, none⟩) (Kd.R_far (p := ⟨gb130, 0, none⟩) (Kd.R_types HO129.out BK130.out (by decide)) (fun _ hk => hk.2) (.int .i64 t115)) (fun _ hk => hk.2) (.slice Ao24 t118.length co24)) (fun _ h_ => h_.1))) (Kd.R_base ho0) hb); have n2_ := Aside0.mk (Kd.R_lower (Kd.R_new' (Kd.R_new' ho0 (Kd.R_lt (by (with_reducible repeat (first | apply Kd.R_alloc | apply Kd.R_drewN | apply Kd.R_drew)); exact (Kd.R_mono (Kd.R_far (p := ⟨gb130, 1, none⟩) (Kd.R_far (p := ⟨gb130, 0, none⟩) (Kd.R_types HO127.out BK130.out (by decide)) (fun _ hk => hk.2) (.int .i64 t115)) (fun _ hk => hk.2) (.slice Ao24 t118.length co24)) (fun _ h_ => h_.1))))) (Kd.R_lt (by (with_reducible repeat (first | apply Kd.R_alloc | apply Kd.R_drewN | apply Kd.R_drew)); exact (Kd.R_mono (Kd.R_far (p := ⟨gb130, 1, none⟩) (Kd.R_far (p := ⟨gb130, 0, none⟩) (Kd.R_types HO129.out BK130.out (by decide)) (fun _ hk => hk.2) (.int .i64 t115)) (fun _ hk => hk.2) (.slice Ao24 t118.length co24)) (fun _ h_ => h_.1))))) (below_size (by repeat (first | (with_reducible first | exact HB.out | apply below_alloc | apply pw_below_drewN | apply below_drew1 | refine below_set ?_ GE116.out | refine below_set ?_ GE130.out) | exact HB.out)))); have n3_ := Aside0.mk (blk_below (g := gb116) (o := .cells #[.int .i64 a0_0, .slice A0_1 l0_1.length c0_1] 25 (0, 0)) (by (with_reducible repeat (first | refine blk_drewN ?_ _ | refine blk_drew ?_ | refine blk_alloc ?_ _)); refine blk_far ?_ NB116_130.out _; (with_reducible repeat (first | refine blk_drewN ?_ _ | refine blk_drew ?_ | refine blk_alloc ?_ _)); refine blk_far ?_ NB116_130.out _; (with_reducible repeat (first | refine blk_drewN ?_ _ | refine blk_drew ?_ | refine blk_alloc ?_ _)); exact BK116.out) hb); have n4_ := Aside0.mk (blk_below (g := gb130) (o := .cells #[.int .i64 t115, .slice Ao24 t118.length co24] 30 (0, 0)) (by (with_reducible repeat (first | refine blk_drewN ?_ _ | refine blk_drew ?_ | refine blk_alloc ?_ _)); refine blk_put (cs := #[.int .i64 t115, .slice none 0 0]) ?_ 1 _ rfl; (with_reducible repeat (first | refine blk_drewN ?_ _ | refine blk_drew ?_ | refine blk_alloc ?_ _)); refine blk_put (cs := #[.int .i64 0, .slice none 0 0]) ?_ 0 _ rfl; (with_reducible repeat (first | refine blk_drewN ?_ _ | refine blk_drew ?_ | refine blk_alloc ?_ _)); exact BK130.out) hb); have n5_ := Aside0.mk (below_step (by repeat (first | (with_reducible first | exact HB.out | apply below_alloc | apply pw_below_drewN | apply below_drew1 | refine below_set ?_ GE116.out | refine below_set ?_ GE130.out) | exact HB.out)) hb); clear HO127; clear HO129; clear BK116; clear BK130; clear HB; have HO127 := n0_; have HO129 := n1_; have HO132 := n2_; have BK116 := n3_; have BK130 := n4_; have HB := n5_; clear n0_ n1_ n2_ n3_ n4_ n5_; (try clear hb); (try clear hb2); (try clear hk); (try clear hi); (try clear ho0)) | ((with_reducible refine gate_dst (N := 10) rfl ?_); refine box_event ?hg (N := 10) ?hd (cs := #[.int .i64 0, .slice none 0 0]) (t := 30) ?hr ?_; (case hd => rfl); (case hg => rfl); (case hr => first | (go_simp; done) | (go_simp; rfl)); intro gb133 hg w27 hbox hb; have n0_ := Aside0.mk (Kd.R_below (by (with_reducible repeat (first | apply Kd.R_alloc | apply Kd.R_drewN | apply Kd.R_drew)); exact HO127.out) hb); have n1_ := Aside0.mk (Kd.R_below (by (with_reducible repeat (first | apply Kd.R_alloc | apply Kd.R_drewN | apply Kd.R_drew)); exact HO129.out) hb); have n2_ := Aside0.mk (Kd.R_below (by (with_reducible repeat (first | apply Kd.R_alloc | apply Kd.R_drewN | apply Kd.R_drew)); exact HO132.out) hb); have n3_ := Aside0.mk (blk_below (g := gb116) (o := .cells #[.int .i64 a0_0, .slice A0_1 l0_1.length c0_1] 25 (0, 0)) (by (with_reducible repeat (first | refine blk_drewN ?_ _ | refine blk_drew ?_ | refine blk_alloc ?_ _)); exact BK116.out) hb); have n4_ := Aside0.mk (blk_below (g := gb130) (o := .cells #[.int .i64 t115, .slice Ao24 t118.length co24] 30 (0, 0)) (by (with_reducible repeat (first | refine blk_drewN ?_ _ | refine blk_drew ?_ | refine blk_alloc ?_ _)); exact BK130.out) hb); have n5_ := Aside0.mk (below_step (by repeat (first | (with_reducible first | exact HB.out | apply below_alloc | apply pw_below_drewN | apply below_drew1 | refine below_set ?_ GE116.out | refine below_set ?_ GE130.out) | exact HB.out)) hb); have n6_ := Aside0.mk (hbox); have n7_ := Aside0.mk ((by rw [hg]; exact (below_size (by repeat (first | (with_reducible first | exact HB.out | apply below_alloc | apply pw_below_drewN | apply below_drew1 | refine below_set ?_ GE116.out | refine below_set ?_ GE130.out) | exact HB.out))) : w.heap.size ≤ gb133)); have n8_ := Aside0.mk ((by rw [hg]; exact (below_size (by repeat (first | (with_reducible first | exact HB.out | apply below_alloc | apply pw_below_drewN | apply below_drew1 | refine below_set ?_ GE116.out | refine below_set ?_ GE130.out) | exact HB.out))) : w.heap.size ≤ gb133)); have n9_ := Aside0.mk ((by rw [hg]; exact Nat.ne_of_lt (blk_lt (g := gb116) (o := .cells #[.int .i64 a0_0, .slice A0_1 l0_1.length c0_1] 25 (0, 0)) (by (with_reducible repeat (first | refine blk_drewN ?_ _ | refine blk_drew ?_ | refine blk_alloc ?_ _)); exact BK116.out)) : gb116 ≠ gb133)); have n10_ := Aside0.mk ((by rw [hg]; exact Nat.ne_of_gt (blk_lt (g := gb116) (o := .cells #[.int .i64 a0_0, .slice A0_1 l0_1.length c0_1] 25 (0, 0)) (by (with_reducible repeat (first | refine blk_drewN ?_ _ | refine blk_drew ?_ | refine blk_alloc ?_ _)); exact BK116.out)) : gb133 ≠ gb116)); have n11_ := Aside0.mk ((by rw [hg]; exact Nat.ne_of_lt (blk_lt (g := gb130) (o := .cells #[.int .i64 t115, .slice Ao24 t118.length co24] 30 (0, 0)) (by (with_reducible repeat (first | refine blk_drewN ?_ _ | refine blk_drew ?_ | refine blk_alloc ?_ _)); exact BK130.out)) : gb130 ≠ gb133)); have n12_ := Aside0.mk ((by rw [hg]; exact Nat.ne_of_gt (blk_lt (g := gb130) (o := .cells #[.int .i64 t115, .slice Ao24 t118.length co24] 30 (0, 0)) (by (with_reducible repeat (first | refine blk_drewN ?_ _ | refine blk_drew ?_ | refine blk_alloc ?_ _)); exact BK130.out)) : gb133 ≠ gb130)); clear HO127; clear HO129; clear HO132; clear BK116; clear BK130; clear HB; have HO127 := n0_; have HO129 := n1_; have HO132 := n2_; have BK116 := n3_; have BK130 := n4_; have HB := n5_; have BK133 := n6_; have GW133 := n7_; have GE133 := n8_; have NB116_133 := n9_; have NB133_116 := n10_; have NB130_133 := n11_; have NB133_130 := n12_; clear n0_ n1_ n2_ n3_ n4_ n5_ n6_ n7_ n8_ n9_ n10_ n11_ n12_; clear hb hbox hg; have hnb28 := NB133_116.out; have hnc28 := NB116_133.out; have hnb29 := NB133_130.out; have hnc29 := NB130_133.out; have hcz30_0 : w27.cell? ⟨gb133, 0, none⟩ = some (.int .i64 0) := (blk_cell BK133.out 0).trans rfl; have hcz30_1 : w27.cell? ⟨gb133, 1, none⟩ = some (.slice none 0 0) := (blk_cell BK133.out 1).trans rfl; have hfz30_0 := blk_frozen BK133.out 0; have hfz30_1 := blk_frozen BK133.out 1; obtain ⟨Ao31, co31, eo31⟩ := Kd.R_slice HO132.out; subst eo31) | ((with_reducible refine gate_callee (f := 30) rfl ?_); refine goesL_ (some 37) rfl rfl Try.func30 (by kernel_rfl) rfl #[.agg #[.int .i64 t101, .slice Ao31 t121.length co31], .int .i64 a1, .int .i64 a2] rfl (by (try simp only [List.map_toArray, List.map_cons, List.map_nil]); first | done | rfl | (simp only [List.length_drop, List.length_take]; rfl)) ?_; (with_reducible refine (impl_NetCut.calls k t101 _ _ t121 a1 a2 t102 t123 t124 _ ?side1 ?side2 A12.out).mono ?_); (case side1 => refine (Kd.R_reads' (e := 54) (base := w.heap.size) (ok := fun k_ => ((True ∧ some k_ ≠ (.slice Ao19 t117.length co19 : Value).ownBlock) ∧ some k_ ≠ (.slice Ao24 t118.length co24 : Value).ownBlock)) (n := t121.length) (c := co31) ?_).2.2; exact (by (with_reducible repeat (first | apply Kd.R_alloc | apply Kd.R_drewN | apply Kd.R_drew)); exact (Kd.R_mono (Kd.R_far (p := ⟨gb133, 1, none⟩) (Kd.R_far (p := ⟨gb133, 0, none⟩) (Kd.R_types HO132.out BK133.out (by decide)) (fun _ hk => hk.2) (.int .i64 t101)) (fun _ hk => hk.2) (.slice Ao31 t121.length co31)) (fun _ h_ => h_.1)))); (case side2 => exact (Kd.R_reads' HO132.out).2.1); rintro e w32 ⟨v134, rfl, ho0, hb⟩; refine ⟨_, rfl, ?_⟩; have n0_ := Aside0.mk (Kd.R_elder' (by (with_reducible repeat (first | apply Kd.R_alloc | apply Kd.R_drewN | apply Kd.R_drew)); exact (Kd.R_mono (Kd.R_far (p := ⟨gb133, 1, none⟩) (Kd.R_far (p := ⟨gb133, 0, none⟩) (Kd.R_types HO127.out BK133.out (by decide)) (fun _ hk => hk.2) (.int .i64 t101)) (fun _ hk => hk.2) (.slice Ao31 t121.length co31)) (fun _ h_ => h_.1))) (Kd.R_base ho0) hb); have n1_ := Aside0.mk (Kd.R_elder' (by (with_reducible repeat (first | apply Kd.R_alloc | apply Kd.R_drewN | apply Kd.R_drew)); exact (Kd.R_mono (Kd.R_far (p := ⟨gb133, 1, none⟩) (Kd.R_far (p := ⟨gb133, 0, none⟩) (Kd.R_types HO129.out BK133.out (by decide)) (fun _ hk => hk.2) (.int .i64 t101)) (fun _ hk => hk.2) (.slice Ao31 t121.length co31)) (fun _ h_ => h_.1))) (Kd.R_base ho0) hb); have n2_ := Aside0.mk (Kd.R_elder' (by (with_reducible repeat (first | apply Kd.R_alloc | apply Kd.R_drewN | apply Kd.R_drew)); exact (Kd.R_mono (Kd.R_far (p := ⟨gb133, 1, none⟩) (Kd.R_far (p := ⟨gb133, 0, none⟩) (Kd.R_types HO132.out BK133.out (by decide)) (fun _ hk => hk.2) (.int .i64 t101)) (fun _ hk => hk.2) (.slice Ao31 t121.length co31)) (fun _ h_ => h_.1))) (Kd.R_base ho0) hb); have n3_ := Aside0.mk (Kd.R_lower (Kd.R_new' (Kd.R_new' (Kd.R_new' ho0 (Kd.R_lt (by (with_reducible repeat (first | apply Kd.R_alloc | apply Kd.R_drewN | apply Kd.R_drew)); exact (Kd.R_mono (Kd.R_far (p := ⟨gb133, 1, none⟩) (Kd.R_far (p := ⟨gb133, 0, none⟩) (Kd.R_types HO127.out BK133.out (by decide)) (fun _ hk => hk.2) (.int .i64 t101)) (fun _ hk => hk.2) (.slice Ao31 t121.length co31)) (fun _ h_ => h_.1))))) (Kd.R_lt (by (with_reducible repeat (first | apply Kd.R_alloc | apply Kd.R_drewN | apply Kd.R_drew)); exact (Kd.R_mono (Kd.R_far (p := ⟨gb133, 1, none⟩) (Kd.R_far (p := ⟨gb133, 0, none⟩) (Kd.R_types HO129.out BK133.out (by decide)) (fun _ hk => hk.2) (.int .i64 t101)) (fun _ hk => hk.2) (.slice Ao31 t121.length co31)) (fun _ h_ => h_.1))))) (Kd.R_lt (by (with_reducible repeat (first | apply Kd.R_alloc | apply Kd.R_drewN | apply Kd.R_drew)); exact (Kd.R_mono (Kd.R_far (p := ⟨gb133, 1, none⟩) (Kd.R_far (p := ⟨gb133, 0, none⟩) (Kd.R_types HO132.out BK133.out (by decide)) (fun _ hk => hk.2) (.int .i64 t101)) (fun _ hk => hk.2) (.slice Ao31 t121.length co31)) (fun _ h_ => h_.1))))) (below_size (by repeat (first | (with_reducible first | exact HB.out | apply below_alloc | apply pw_below_drewN | apply below_drew1 | refine below_set ?_ GE116.out | refine below_set ?_ GE130.out | refine below_set ?_ GE133.out) | exact HB.out)))); have n4_ := Aside0.mk (blk_below (g := gb116) (o := .cells #[.int .i64 a0_0, .slice A0_1 l0_1.length c0_1] 25 (0, 0)) (by (with_reducible repeat (first | refine blk_drewN ?_ _ | refine blk_drew ?_ | refine blk_alloc ?_ _)); refine blk_far ?_ NB116_133.out _; (with_reducible repeat (first | refine blk_drewN ?_ _ | refine blk_drew ?_ | refine blk_alloc ?_ _)); refine blk_far ?_ NB116_133.out _; (with_reducible repeat (first | refine blk_drewN ?_ _ | refine blk_drew ?_ | refine blk_alloc ?_ _)); exact BK116.out) hb); have n5_ := Aside0.mk (blk_below (g := gb130) (o := .cells #[.int .i64 t115, .slice Ao24 t118.length co24] 30 (0, 0)) (by (with_reducible repeat (first | refine blk_drewN ?_ _ | refine blk_drew ?_ | refine blk_alloc ?_ _)); refine blk_far ?_ NB130_133.out _; (with_reducible repeat (first | refine blk_drewN ?_ _ | refine blk_drew ?_ | refine blk_alloc ?_ _)); refine blk_far ?_ NB130_133.out _; (with_reducible repeat (first | refine blk_drewN ?_ _ | refine blk_drew ?_ | refine blk_alloc ?_ _)); exact BK130.out) hb); have n6_ := Aside0.mk (blk_below (g := gb133) (o := .cells #[.int .i64 t101, .slice Ao31 t121.length co31] 30 (0, 0)) (by (with_reducible repeat (first | refine blk_drewN ?_ _ | refine blk_drew ?_ | refine blk_alloc ?_ _)); refine blk_put (cs := #[.int .i64 t101, .slice none 0 0]) ?_ 1 _ rfl; (with_reducible repeat (first | refine blk_drewN ?_ _ | refine blk_drew ?_ | refine blk_alloc ?_ _)); refine blk_put (cs := #[.int .i64 0, .slice none 0 0]) ?_ 0 _ rfl; (with_reducible repeat (first | refine blk_drewN ?_ _ | refine blk_drew ?_ | refine blk_alloc ?_ _)); exact BK133.out) hb); have n7_ := Aside0.mk (below_step (by repeat (first | (with_reducible first | exact HB.out | apply below_alloc | apply pw_below_drewN | apply below_drew1 | refine below_set ?_ GE116.out | refine below_set ?_ GE130.out | refine below_set ?_ GE133.out) | exact HB.out)) hb); clear HO127; clear HO129; clear HO132; clear BK116; clear BK130; clear BK133; clear HB; have HO127 := n0_; have HO129 := n1_; have HO132 := n2_; have HO135 := n3_; have BK116 := n4_; have BK130 := n5_; have BK133 := n6_; have HB := n7_; clear n0_ n1_ n2_ n3_ n4_ n5_ n6_ n7_; (try clear hb); (try clear hb2); (try clear hk); (try clear hi); (try clear ho0)) | ((with_reducible refine gate_dst (N := 11) rfl ?_); refine box_event ?hg (N := 11) ?hd (cs := #[.int .i64 0, .slice none 0 0]) (t := 30) ?hr ?_; (case hd => rfl); (case hg => rfl); (case hr => first | (go_simp; done) | (go_simp; rfl)); intro gb136 hg w33 hbox hb; have n0_ := Aside0.mk (Kd.R_below (by (with_reducible repeat (first | apply Kd.R_alloc | apply Kd.R_drewN | apply Kd.R_drew)); exact HO127.out) hb); have n1_ := Aside0.mk (Kd.R_below (by (with_reducible repeat (first | apply Kd.R_alloc | apply Kd.R_drewN | apply Kd.R_drew)); exact HO129.out) hb); have n2_ := Aside0.mk (Kd.R_below (by (with_reducible repeat (first | apply Kd.R_alloc | apply Kd.R_drewN | apply Kd.R_drew)); exact HO132.out) hb); have n3_ := Aside0.mk (Kd.R_below (by (with_reducible repeat (first | apply Kd.R_alloc | apply Kd.R_drewN | apply Kd.R_drew)); exact HO135.out) hb); have n4_ := Aside0.mk (blk_below (g := gb116) (o := .cells #[.int .i64 a0_0, .slice A0_1 l0_1.length c0_1] 25 (0, 0)) (by (with_reducible repeat (first | refine blk_drewN ?_ _ | refine blk_drew ?_ | refine blk_alloc ?_ _)); exact BK116.out) hb); have n5_ := Aside0.mk (blk_below (g := gb130) (o := .cells #[.int .i64 t115, .slice Ao24 t118.length co24] 30 (0, 0)) (by (with_reducible repeat (first | refine blk_drewN ?_ _ | refine blk_drew ?_ | refine blk_alloc ?_ _)); exact BK130.out) hb); have n6_ := Aside0.mk (blk_below (g := gb133) (o := .cells #[.int .i64 t101, .slice Ao31 t121.length co31] 30 (0, 0)) (by (with_reducible repeat (first | refine blk_drewN ?_ _ | refine blk_drew ?_ | refine blk_alloc ?_ _)); exact BK133.out) hb); have n7_ := Aside0.mk (below_step (by repeat (first | (with_reducible first | exact HB.out | apply below_alloc | apply pw_below_drewN | apply below_drew1 | refine below_set ?_ GE116.out | refine below_set ?_ GE130.out | refine below_set ?_ GE133.out) | exact HB.out)) hb); have n8_ := Aside0.mk (hbox); have n9_ := Aside0.mk ((by rw [hg]; exact (below_size (by repeat (first | (with_reducible first | exact HB.out | apply below_alloc | apply pw_below_drewN | apply below_drew1 | refine below_set ?_ GE116.out | refine below_set ?_ GE130.out | refine below_set ?_ GE133.out) | exact HB.out))) : w.heap.size ≤ gb136)); have n10_ := Aside0.mk ((by rw [hg]; exact (below_size (by repeat (first | (with_reducible first | exact HB.out | apply below_alloc | apply pw_below_drewN | apply below_drew1 | refine below_set ?_ GE116.out | refine below_set ?_ GE130.out | refine below_set ?_ GE133.out) | exact HB.out))) : w.heap.size ≤ gb136)); have n11_ := Aside0.mk ((by rw [hg]; exact Nat.ne_of_lt (blk_lt (g := gb116) (o := .cells #[.int .i64 a0_0, .slice A0_1 l0_1.length c0_1] 25 (0, 0)) (by (with_reducible repeat (first | refine blk_drewN ?_ _ | refine blk_drew ?_ | refine blk_alloc ?_ _)); exact BK116.out)) : gb116 ≠ gb136)); have n12_ := Aside0.mk ((by rw [hg]; exact Nat.ne_of_gt (blk_lt (g := gb116) (o := .cells #[.int .i64 a0_0, .slice A0_1 l0_1.length c0_1] 25 (0, 0)) (by (with_reducible repeat (first | refine blk_drewN ?_ _ | refine blk_drew ?_ | refine blk_alloc ?_ _)); exact BK116.out)) : gb136 ≠ gb116)); have n13_ := Aside0.mk ((by rw [hg]; exact Nat.ne_of_lt (blk_lt (g := gb130) (o := .cells #[.int .i64 t115, .slice Ao24 t118.length co24] 30 (0, 0)) (by (with_reducible repeat (first | refine blk_drewN ?_ _ | refine blk_drew ?_ | refine blk_alloc ?_ _)); exact BK130.out)) : gb130 ≠ gb136)); have n14_ := Aside0.mk ((by rw [hg]; exact Nat.ne_of_gt (blk_lt (g := gb130) (o := .cells #[.int .i64 t115, .slice Ao24 t118.length co24] 30 (0, 0)) (by (with_reducible repeat (first | refine blk_drewN ?_ _ | refine blk_drew ?_ | refine blk_alloc ?_ _)); exact BK130.out)) : gb136 ≠ gb130)); have n15_ := Aside0.mk ((by rw [hg]; exact Nat.ne_of_lt (blk_lt (g := gb133) (o := .cells #[.int .i64 t101, .slice Ao31 t121.length co31] 30 (0, 0)) (by (with_reducible repeat (first | refine blk_drewN ?_ _ | refine blk_drew ?_ | refine blk_alloc ?_ _)); exact BK133.out)) : gb133 ≠ gb136)); have n16_ := Aside0.mk ((by rw [hg]; exact Nat.ne_of_gt (blk_lt (g := gb133) (o := .cells #[.int .i64 t101, .slice Ao31 t121.length co31] 30 (0, 0)) (by (with_reducible repeat (first | refine blk_drewN ?_ _ | refine blk_drew ?_ | refine blk_alloc ?_ _)); exact BK133.out)) : gb136 ≠ gb133)); clear HO127; clear HO129; clear HO132; clear HO135; clear BK116; clear BK130; clear BK133; clear HB; have HO127 := n0_; have HO129 := n1_; have HO132 := n2_; have HO135 := n3_; have BK116 := n4_; have BK130 := n5_; have BK133 := n6_; have HB := n7_; have BK136 := n8_; have GW136 := n9_; have GE136 := n10_; have NB116_136 := n11_; have NB136_116 := n12_; have NB130_136 := n13_; have NB136_130 := n14_; have NB133_136 := n15_; have NB136_133 := n16_; clear n0_ n1_ n2_ n3_ n4_ n5_ n6_ n7_ n8_ n9_ n10_ n11_ n12_ n13_ n14_ n15_ n16_; clear hb hbox hg; have hnb34 := NB136_116.out; have hnc34 := NB116_136.out; have hnb35 := NB136_130.out; have hnc35 := NB130_136.out; have hnb36 := NB136_133.out; have hnc36 := NB133_136.out; have hcz37_0 : w33.cell? ⟨gb136, 0, none⟩ = some (.int .i64 0) := (blk_cell BK136.out 0).trans rfl; have hcz37_1 : w33.cell? ⟨gb136, 1, none⟩ = some (.slice none 0 0) := (blk_cell BK136.out 1).trans rfl; have hfz37_0 := blk_frozen BK136.out 0; have hfz37_1 := blk_frozen BK136.out 1; obtain ⟨Ao38, co38, eo38⟩ := Kd.R_slice HO135.out; subst eo38))
 (try simp only [Act.put, List.setIfInBounds_toArray, List.set_cons_zero, List.set_cons_succ])
 go_cut [48] (fun v48 wc => ∃ (kq : Nat) (x48_12 : Bool), v48 = .bool x48_12 ∧ Aside0 (laws_FnExactNetCut.j0 kq a1 a2 t119 t124 x48_12 a0_0 l0_1 t115 t118 t101 t121 t102 t123 = some r) ∧ Aside0 (kq ≤ k) ∧ Aside0 (Kd.R kTie 54 wc w.heap.size (fun k_ => some k_ ≠ ((.slice Ao31 t121.length co31) : Value).ownBlock ∧ some k_ ≠ ((.slice Ao38 t123.length co38) : Value).ownBlock) (.slice Ao24 t118.length co24) t118) ∧ Aside0 (Kd.R kTie 54 wc w.heap.size (fun k_ => some k_ ≠ ((.slice Ao24 t118.length co24) : Value).ownBlock ∧ some k_ ≠ ((.slice Ao38 t123.length co38) : Value).ownBlock) (.slice Ao31 t121.length co31) t121) ∧ Aside0 (Kd.R kTie 54 wc w.heap.size (fun k_ => some k_ ≠ ((.slice Ao24 t118.length co24) : Value).ownBlock ∧ some k_ ≠ ((.slice Ao31 t121.length co31) : Value).ownBlock) (.slice Ao38 t123.length co38) t123) ∧ Aside0 (wc.heap[gb116]? = some (.cells #[.int .i64 a0_0, (.slice A0_1 l0_1.length c0_1)] 25 (0, 0))) ∧ Aside0 (wc.heap[gb130]? = some (.cells #[.int .i64 t115, (.slice Ao24 t118.length co24)] 30 (0, 0))) ∧ Aside0 (wc.heap[gb133]? = some (.cells #[.int .i64 t101, (.slice Ao31 t121.length co31)] 30 (0, 0))) ∧ Aside0 (wc.heap[gb136]? = some (.cells #[.int .i64 t102, (.slice Ao38 t123.length co38)] 30 (0, 0))) ∧ Aside0 (Below w.heap.size w wc))
 case first =>
   have H := HC13.out
   clear HC13
   replace H := Option.bind_eq_some_iff.mp H
   obtain ⟨t103, A137, H⟩ := H
   replace H : (if t103 = true then (laws_FnExactNetCut.j0 k a1 a2 t119 t124 (t124 != t119) a0_0 l0_1 t115 t118 t101 t121 t102 t123) else (laws_FnExactNetCut.j0 k a1 a2 t119 t124 true a0_0 l0_1 t115 t118 t101 t121 t102 t123)) = some r := H
   have A39 := Aside0.mk A137
   clear A137
   by_cases c40 : t103 = true
   · subst c40
     have H1 : (laws_FnExactNetCut.j0 k a1 a2 t119 t124 (t124 != t119) a0_0 l0_1 t115 t118 t101 t121 t102 t123) = some r := by rw [if_pos rfl] at H; exact H
     clear H
     have H := H1
     clear H1
     have H' := Aside0.mk H
     clear H
     have hnb41 := NB136_116.out
     have hnc41 := NB116_136.out
     have hnb42 := NB136_130.out
     have hnc42 := NB130_136.out
     have hnb43 := NB136_133.out
     have hnc43 := NB133_136.out
     have hcz44_0 : w33.cell? ⟨gb136, 0, none⟩ = some (.int .i64 0) := (blk_cell BK136.out 0).trans rfl
     have hcz44_1 : w33.cell? ⟨gb136, 1, none⟩ = some (.slice none 0 0) := (blk_cell BK136.out 1).trans rfl
     have hfz44_0 := blk_frozen BK136.out 0
     have hfz44_1 := blk_frozen BK136.out 1
     have hnb45 := NB130_116.out
     have hnc45 := NB116_130.out
     have hnb46 := NB130_133.out
     have hnc46 := NB133_130.out
     have hcz47_0 : w33.cell? ⟨gb130, 0, none⟩ = some (.int .i64 t115) := (blk_cell BK130.out 0).trans rfl
     have hcz47_1 : w33.cell? ⟨gb130, 1, none⟩ = some (.slice Ao24 t118.length co24) := (blk_cell BK130.out 1).trans rfl
     have hfz47_0 := blk_frozen BK130.out 0
     have hfz47_1 := blk_frozen BK130.out 1
     go_wp2_with (first | ((with_reducible refine gate_callee (f := 18) rfl ?_); refine goesL_ (some 42) rfl rfl Try.func18 (by kernel_rfl) rfl #[.agg #[.int .i64 t102, .slice Ao38 t123.length co38], .agg #[.int .i64 t115, .slice Ao24 t118.length co24]] rfl (by (try simp only [List.map_toArray, List.map_cons, List.map_nil]); first | done | rfl | (simp only [List.length_drop, List.length_take]; rfl)) ?_; (with_reducible refine (laws_eqNet.calls k t102 _ _ t123 t115 _ _ t118 true _ ?side1 ?side2 ?side3 ?side4 A39.out).mono ?_); (case side1 => refine (Kd.R_reads' (e := 54) (base := w.heap.size) (ok := fun k_ => (((True ∧ some k_ ≠ (.slice Ao19 t117.length co19 : Value).ownBlock) ∧ some k_ ≠ (.slice Ao24 t118.length co24 : Value).ownBlock) ∧ some k_ ≠ (.slice Ao31 t121.length co31 : Value).ownBlock)) (n := t123.length) (c := co38) ?_).2.2; exact (by (with_reducible repeat (first | apply Kd.R_alloc | apply Kd.R_drewN | apply Kd.R_drew)); exact (Kd.R_mono (Kd.R_far (p := ⟨gb136, 1, none⟩) (Kd.R_far (p := ⟨gb136, 0, none⟩) (Kd.R_types HO135.out BK136.out (by decide)) (fun _ hk => hk.2) (.int .i64 t102)) (fun _ hk => hk.2) (.slice Ao38 t123.length co38)) (fun _ h_ => h_.1)))); (case side2 => exact (Kd.R_reads' HO135.out).2.1); (case side3 => refine (Kd.R_reads' (e := 54) (base := w.heap.size) (ok := fun k_ => (((True ∧ some k_ ≠ (.slice Ao19 t117.length co19 : Value).ownBlock) ∧ some k_ ≠ (.slice Ao31 t121.length co31 : Value).ownBlock) ∧ some k_ ≠ (.slice Ao38 t123.length co38 : Value).ownBlock)) (n := t118.length) (c := co24) ?_).2.2; exact (by (with_reducible repeat (first | apply Kd.R_alloc | apply Kd.R_drewN | apply Kd.R_drew)); exact (Kd.R_mono (Kd.R_far (p := ⟨gb136, 1, none⟩) (Kd.R_far (p := ⟨gb136, 0, none⟩) (Kd.R_types HO129.out BK136.out (by decide)) (fun _ hk => hk.2) (.int .i64 t102)) (fun _ hk => hk.2) (.slice Ao38 t123.length co38)) (fun _ h_ => h_.1)))); (case side4 => exact (Kd.R_reads' HO129.out).2.1); rintro e w48 ⟨rfl, hb⟩; refine ⟨_, rfl, ?_⟩; have n0_ := Aside0.mk (Kd.R_below (by (with_reducible repeat (first | apply Kd.R_alloc | apply Kd.R_drewN | apply Kd.R_drew)); exact (Kd.R_mono (Kd.R_far (p := ⟨gb136, 1, none⟩) (Kd.R_far (p := ⟨gb136, 0, none⟩) (Kd.R_types HO127.out BK136.out (by decide)) (fun _ hk => hk.2) (.int .i64 t102)) (fun _ hk => hk.2) (.slice Ao38 t123.length co38)) (fun _ h_ => h_.1))) hb); have n1_ := Aside0.mk (Kd.R_below (by (with_reducible repeat (first | apply Kd.R_alloc | apply Kd.R_drewN | apply Kd.R_drew)); exact (Kd.R_mono (Kd.R_far (p := ⟨gb136, 1, none⟩) (Kd.R_far (p := ⟨gb136, 0, none⟩) (Kd.R_types HO129.out BK136.out (by decide)) (fun _ hk => hk.2) (.int .i64 t102)) (fun _ hk => hk.2) (.slice Ao38 t123.length co38)) (fun _ h_ => h_.1))) hb); have n2_ := Aside0.mk (Kd.R_below (by (with_reducible repeat (first | apply Kd.R_alloc | apply Kd.R_drewN | apply Kd.R_drew)); exact (Kd.R_mono (Kd.R_far (p := ⟨gb136, 1, none⟩) (Kd.R_far (p := ⟨gb136, 0, none⟩) (Kd.R_types HO132.out BK136.out (by decide)) (fun _ hk => hk.2) (.int .i64 t102)) (fun _ hk => hk.2) (.slice Ao38 t123.length co38)) (fun _ h_ => h_.1))) hb); have n3_ := Aside0.mk (Kd.R_below (by (with_reducible repeat (first | apply Kd.R_alloc | apply Kd.R_drewN | apply Kd.R_drew)); exact (Kd.R_mono (Kd.R_far (p := ⟨gb136, 1, none⟩) (Kd.R_far (p := ⟨gb136, 0, none⟩) (Kd.R_types HO135.out BK136.out (by decide)) (fun _ hk => hk.2) (.int .i64 t102)) (fun _ hk => hk.2) (.slice Ao38 t123.length co38)) (fun _ h_ => h_.1))) hb); have n4_ := Aside0.mk (blk_below (g := gb116) (o := .cells #[.int .i64 a0_0, .slice A0_1 l0_1.length c0_1] 25 (0, 0)) (by (with_reducible repeat (first | refine blk_drewN ?_ _ | refine blk_drew ?_ | refine blk_alloc ?_ _)); refine blk_far ?_ NB116_136.out _; (with_reducible repeat (first | refine blk_drewN ?_ _ | refine blk_drew ?_ | refine blk_alloc ?_ _)); refine blk_far ?_ NB116_136.out _; (with_reducible repeat (first | refine blk_drewN ?_ _ | refine blk_drew ?_ | refine blk_alloc ?_ _)); exact BK116.out) hb); have n5_ := Aside0.mk (blk_below (g := gb130) (o := .cells #[.int .i64 t115, .slice Ao24 t118.length co24] 30 (0, 0)) (by (with_reducible repeat (first | refine blk_drewN ?_ _ | refine blk_drew ?_ | refine blk_alloc ?_ _)); refine blk_far ?_ NB130_136.out _; (with_reducible repeat (first | refine blk_drewN ?_ _ | refine blk_drew ?_ | refine blk_alloc ?_ _)); refine blk_far ?_ NB130_136.out _; (with_reducible repeat (first | refine blk_drewN ?_ _ | refine blk_drew ?_ | refine blk_alloc ?_ _)); exact BK130.out) hb); have n6_ := Aside0.mk (blk_below (g := gb133) (o := .cells #[.int .i64 t101, .slice Ao31 t121.length co31] 30 (0, 0)) (by (with_reducible repeat (first | refine blk_drewN ?_ _ | refine blk_drew ?_ | refine blk_alloc ?_ _)); refine blk_far ?_ NB133_136.out _; (with_reducible repeat (first | refine blk_drewN ?_ _ | refine blk_drew ?_ | refine blk_alloc ?_ _)); refine blk_far ?_ NB133_136.out _; (with_reducible repeat (first | refine blk_drewN ?_ _ | refine blk_drew ?_ | refine blk_alloc ?_ _)); exact BK133.out) hb); have n7_ := Aside0.mk (blk_below (g := gb136) (o := .cells #[.int .i64 t102, .slice Ao38 t123.length co38] 30 (0, 0)) (by (with_reducible repeat (first | refine blk_drewN ?_ _ | refine blk_drew ?_ | refine blk_alloc ?_ _)); refine blk_put (cs := #[.int .i64 t102, .slice none 0 0]) ?_ 1 _ rfl; (with_reducible repeat (first | refine blk_drewN ?_ _ | refine blk_drew ?_ | refine blk_alloc ?_ _)); refine blk_put (cs := #[.int .i64 0, .slice none 0 0]) ?_ 0 _ rfl; (with_reducible repeat (first | refine blk_drewN ?_ _ | refine blk_drew ?_ | refine blk_alloc ?_ _)); exact BK136.out) hb); have n8_ := Aside0.mk (below_step (by repeat (first | (with_reducible first | exact HB.out | apply below_alloc | apply pw_below_drewN | apply below_drew1 | refine below_set ?_ GE116.out | refine below_set ?_ GE130.out | refine below_set ?_ GE133.out | refine below_set ?_ GE136.out) | exact HB.out)) hb); clear HO127; clear HO129; clear HO132; clear HO135; clear BK116; clear BK130; clear BK133; clear BK136; clear HB; have HO127 := n0_; have HO129 := n1_; have HO132 := n2_; have HO135 := n3_; have BK116 := n4_; have BK130 := n5_; have BK133 := n6_; have BK136 := n7_; have HB := n8_; clear n0_ n1_ n2_ n3_ n4_ n5_ n6_ n7_ n8_; (try clear hb); (try clear hb2); (try clear hk); (try clear hi)))
     go_meet
     case rel => exact ⟨_, ((t124 != t119)), (by first | rfl | (simp; done) | (simp [*]; done)), H', ⟨by first | omega | exact Nat.le_refl _⟩, ⟨by (with_reducible repeat (first | apply Kd.R_alloc | apply Kd.R_drewN | apply Kd.R_drew)); exact Kd.R_mono HO129.out (fun _ hk => ⟨hk.1.2, hk.2⟩)⟩, ⟨by (with_reducible repeat (first | apply Kd.R_alloc | apply Kd.R_drewN | apply Kd.R_drew)); exact Kd.R_mono HO132.out (fun _ hk => ⟨hk.1.2, hk.2⟩)⟩, ⟨by (with_reducible repeat (first | apply Kd.R_alloc | apply Kd.R_drewN | apply Kd.R_drew)); exact Kd.R_mono HO135.out (fun _ hk => ⟨hk.1.2, hk.2⟩)⟩, ⟨by (with_reducible repeat (first | refine blk_drewN ?_ _ | refine blk_drew ?_ | refine blk_alloc ?_ _)); exact BK116.out⟩, ⟨by (with_reducible repeat (first | refine blk_drewN ?_ _ | refine blk_drew ?_ | refine blk_alloc ?_ _)); exact BK130.out⟩, ⟨by (with_reducible repeat (first | refine blk_drewN ?_ _ | refine blk_drew ?_ | refine blk_alloc ?_ _)); exact BK133.out⟩, ⟨by (with_reducible repeat (first | refine blk_drewN ?_ _ | refine blk_drew ?_ | refine blk_alloc ?_ _)); exact BK136.out⟩, ⟨by repeat (first | (with_reducible first | exact HB.out | apply below_alloc | apply pw_below_drewN | apply below_drew1 | refine below_set ?_ GE116.out | refine below_set ?_ GE130.out | refine below_set ?_ GE133.out | refine below_set ?_ GE136.out) | exact HB.out)⟩⟩
   replace c40 := Bool.eq_false_iff.mpr c40
   subst c40
   have H1 : (laws_FnExactNetCut.j0 k a1 a2 t119 t124 true a0_0 l0_1 t115 t118 t101 t121 t102 t123) = some r := by rw [if_neg (show ¬ (false = true) by decide)] at H; exact H
   clear H
   have H := H1
   clear H1
   have H' := Aside0.mk H
   clear H
   have hnb49 := NB136_116.out
   have hnc49 := NB116_136.out
   have hnb50 := NB136_130.out
   have hnc50 := NB130_136.out
   have hnb51 := NB136_133.out
   have hnc51 := NB133_136.out
   have hcz52_0 : w33.cell? ⟨gb136, 0, none⟩ = some (.int .i64 0) := (blk_cell BK136.out 0).trans rfl
   have hcz52_1 : w33.cell? ⟨gb136, 1, none⟩ = some (.slice none 0 0) := (blk_cell BK136.out 1).trans rfl
   have hfz52_0 := blk_frozen BK136.out 0
   have hfz52_1 := blk_frozen BK136.out 1
   have hnb53 := NB130_116.out
   have hnc53 := NB116_130.out
   have hnb54 := NB130_133.out
   have hnc54 := NB133_130.out
   have hcz55_0 : w33.cell? ⟨gb130, 0, none⟩ = some (.int .i64 t115) := (blk_cell BK130.out 0).trans rfl
   have hcz55_1 : w33.cell? ⟨gb130, 1, none⟩ = some (.slice Ao24 t118.length co24) := (blk_cell BK130.out 1).trans rfl
   have hfz55_0 := blk_frozen BK130.out 0
   have hfz55_1 := blk_frozen BK130.out 1
   go_wp2_with (first | ((with_reducible refine gate_callee (f := 18) rfl ?_); refine goesL_ (some 42) rfl rfl Try.func18 (by kernel_rfl) rfl #[.agg #[.int .i64 t102, .slice Ao38 t123.length co38], .agg #[.int .i64 t115, .slice Ao24 t118.length co24]] rfl (by (try simp only [List.map_toArray, List.map_cons, List.map_nil]); first | done | rfl | (simp only [List.length_drop, List.length_take]; rfl)) ?_; (with_reducible refine (laws_eqNet.calls k t102 _ _ t123 t115 _ _ t118 false _ ?side1 ?side2 ?side3 ?side4 A39.out).mono ?_); (case side1 => refine (Kd.R_reads' (e := 54) (base := w.heap.size) (ok := fun k_ => (((True ∧ some k_ ≠ (.slice Ao19 t117.length co19 : Value).ownBlock) ∧ some k_ ≠ (.slice Ao24 t118.length co24 : Value).ownBlock) ∧ some k_ ≠ (.slice Ao31 t121.length co31 : Value).ownBlock)) (n := t123.length) (c := co38) ?_).2.2; exact (by (with_reducible repeat (first | apply Kd.R_alloc | apply Kd.R_drewN | apply Kd.R_drew)); exact (Kd.R_mono (Kd.R_far (p := ⟨gb136, 1, none⟩) (Kd.R_far (p := ⟨gb136, 0, none⟩) (Kd.R_types HO135.out BK136.out (by decide)) (fun _ hk => hk.2) (.int .i64 t102)) (fun _ hk => hk.2) (.slice Ao38 t123.length co38)) (fun _ h_ => h_.1)))); (case side2 => exact (Kd.R_reads' HO135.out).2.1); (case side3 => refine (Kd.R_reads' (e := 54) (base := w.heap.size) (ok := fun k_ => (((True ∧ some k_ ≠ (.slice Ao19 t117.length co19 : Value).ownBlock) ∧ some k_ ≠ (.slice Ao31 t121.length co31 : Value).ownBlock) ∧ some k_ ≠ (.slice Ao38 t123.length co38 : Value).ownBlock)) (n := t118.length) (c := co24) ?_).2.2; exact (by (with_reducible repeat (first | apply Kd.R_alloc | apply Kd.R_drewN | apply Kd.R_drew)); exact (Kd.R_mono (Kd.R_far (p := ⟨gb136, 1, none⟩) (Kd.R_far (p := ⟨gb136, 0, none⟩) (Kd.R_types HO129.out BK136.out (by decide)) (fun _ hk => hk.2) (.int .i64 t102)) (fun _ hk => hk.2) (.slice Ao38 t123.length co38)) (fun _ h_ => h_.1)))); (case side4 => exact (Kd.R_reads' HO129.out).2.1); rintro e w56 ⟨rfl, hb⟩; refine ⟨_, rfl, ?_⟩; have n0_ := Aside0.mk (Kd.R_below (by (with_reducible repeat (first | apply Kd.R_alloc | apply Kd.R_drewN | apply Kd.R_drew)); exact (Kd.R_mono (Kd.R_far (p := ⟨gb136, 1, none⟩) (Kd.R_far (p := ⟨gb136, 0, none⟩) (Kd.R_types HO127.out BK136.out (by decide)) (fun _ hk => hk.2) (.int .i64 t102)) (fun _ hk => hk.2) (.slice Ao38 t123.length co38)) (fun _ h_ => h_.1))) hb); have n1_ := Aside0.mk (Kd.R_below (by (with_reducible repeat (first | apply Kd.R_alloc | apply Kd.R_drewN | apply Kd.R_drew)); exact (Kd.R_mono (Kd.R_far (p := ⟨gb136, 1, none⟩) (Kd.R_far (p := ⟨gb136, 0, none⟩) (Kd.R_types HO129.out BK136.out (by decide)) (fun _ hk => hk.2) (.int .i64 t102)) (fun _ hk => hk.2) (.slice Ao38 t123.length co38)) (fun _ h_ => h_.1))) hb); have n2_ := Aside0.mk (Kd.R_below (by (with_reducible repeat (first | apply Kd.R_alloc | apply Kd.R_drewN | apply Kd.R_drew)); exact (Kd.R_mono (Kd.R_far (p := ⟨gb136, 1, none⟩) (Kd.R_far (p := ⟨gb136, 0, none⟩) (Kd.R_types HO132.out BK136.out (by decide)) (fun _ hk => hk.2) (.int .i64 t102)) (fun _ hk => hk.2) (.slice Ao38 t123.length co38)) (fun _ h_ => h_.1))) hb); have n3_ := Aside0.mk (Kd.R_below (by (with_reducible repeat (first | apply Kd.R_alloc | apply Kd.R_drewN | apply Kd.R_drew)); exact (Kd.R_mono (Kd.R_far (p := ⟨gb136, 1, none⟩) (Kd.R_far (p := ⟨gb136, 0, none⟩) (Kd.R_types HO135.out BK136.out (by decide)) (fun _ hk => hk.2) (.int .i64 t102)) (fun _ hk => hk.2) (.slice Ao38 t123.length co38)) (fun _ h_ => h_.1))) hb); have n4_ := Aside0.mk (blk_below (g := gb116) (o := .cells #[.int .i64 a0_0, .slice A0_1 l0_1.length c0_1] 25 (0, 0)) (by (with_reducible repeat (first | refine blk_drewN ?_ _ | refine blk_drew ?_ | refine blk_alloc ?_ _)); refine blk_far ?_ NB116_136.out _; (with_reducible repeat (first | refine blk_drewN ?_ _ | refine blk_drew ?_ | refine blk_alloc ?_ _)); refine blk_far ?_ NB116_136.out _; (with_reducible repeat (first | refine blk_drewN ?_ _ | refine blk_drew ?_ | refine blk_alloc ?_ _)); exact BK116.out) hb); have n5_ := Aside0.mk (blk_below (g := gb130) (o := .cells #[.int .i64 t115, .slice Ao24 t118.length co24] 30 (0, 0)) (by (with_reducible repeat (first | refine blk_drewN ?_ _ | refine blk_drew ?_ | refine blk_alloc ?_ _)); refine blk_far ?_ NB130_136.out _; (with_reducible repeat (first | refine blk_drewN ?_ _ | refine blk_drew ?_ | refine blk_alloc ?_ _)); refine blk_far ?_ NB130_136.out _; (with_reducible repeat (first | refine blk_drewN ?_ _ | refine blk_drew ?_ | refine blk_alloc ?_ _)); exact BK130.out) hb); have n6_ := Aside0.mk (blk_below (g := gb133) (o := .cells #[.int .i64 t101, .slice Ao31 t121.length co31] 30 (0, 0)) (by (with_reducible repeat (first | refine blk_drewN ?_ _ | refine blk_drew ?_ | refine blk_alloc ?_ _)); refine blk_far ?_ NB133_136.out _; (with_reducible repeat (first | refine blk_drewN ?_ _ | refine blk_drew ?_ | refine blk_alloc ?_ _)); refine blk_far ?_ NB133_136.out _; (with_reducible repeat (first | refine blk_drewN ?_ _ | refine blk_drew ?_ | refine blk_alloc ?_ _)); exact BK133.out) hb); have n7_ := Aside0.mk (blk_below (g := gb136) (o := .cells #[.int .i64 t102, .slice Ao38 t123.length co38] 30 (0, 0)) (by (with_reducible repeat (first | refine blk_drewN ?_ _ | refine blk_drew ?_ | refine blk_alloc ?_ _)); refine blk_put (cs := #[.int .i64 t102, .slice none 0 0]) ?_ 1 _ rfl; (with_reducible repeat (first | refine blk_drewN ?_ _ | refine blk_drew ?_ | refine blk_alloc ?_ _)); refine blk_put (cs := #[.int .i64 0, .slice none 0 0]) ?_ 0 _ rfl; (with_reducible repeat (first | refine blk_drewN ?_ _ | refine blk_drew ?_ | refine blk_alloc ?_ _)); exact BK136.out) hb); have n8_ := Aside0.mk (below_step (by repeat (first | (with_reducible first | exact HB.out | apply below_alloc | apply pw_below_drewN | apply below_drew1 | refine below_set ?_ GE116.out | refine below_set ?_ GE130.out | refine below_set ?_ GE133.out | refine below_set ?_ GE136.out) | exact HB.out)) hb); clear HO127; clear HO129; clear HO132; clear HO135; clear BK116; clear BK130; clear BK133; clear BK136; clear HB; have HO127 := n0_; have HO129 := n1_; have HO132 := n2_; have HO135 := n3_; have BK116 := n4_; have BK130 := n5_; have BK133 := n6_; have BK136 := n7_; have HB := n8_; clear n0_ n1_ n2_ n3_ n4_ n5_ n6_ n7_ n8_; (try clear hb); (try clear hb2); (try clear hk); (try clear hi)))
   go_meet
   case rel => exact ⟨_, (true), (by first | rfl | (simp; done) | (simp [*]; done)), H', ⟨by first | omega | exact Nat.le_refl _⟩, ⟨by (with_reducible repeat (first | apply Kd.R_alloc | apply Kd.R_drewN | apply Kd.R_drew)); exact Kd.R_mono HO129.out (fun _ hk => ⟨hk.1.2, hk.2⟩)⟩, ⟨by (with_reducible repeat (first | apply Kd.R_alloc | apply Kd.R_drewN | apply Kd.R_drew)); exact Kd.R_mono HO132.out (fun _ hk => ⟨hk.1.2, hk.2⟩)⟩, ⟨by (with_reducible repeat (first | apply Kd.R_alloc | apply Kd.R_drewN | apply Kd.R_drew)); exact Kd.R_mono HO135.out (fun _ hk => ⟨hk.1.2, hk.2⟩)⟩, ⟨by (with_reducible repeat (first | refine blk_drewN ?_ _ | refine blk_drew ?_ | refine blk_alloc ?_ _)); exact BK116.out⟩, ⟨by (with_reducible repeat (first | refine blk_drewN ?_ _ | refine blk_drew ?_ | refine blk_alloc ?_ _)); exact BK130.out⟩, ⟨by (with_reducible repeat (first | refine blk_drewN ?_ _ | refine blk_drew ?_ | refine blk_alloc ?_ _)); exact BK133.out⟩, ⟨by (with_reducible repeat (first | refine blk_drewN ?_ _ | refine blk_drew ?_ | refine blk_alloc ?_ _)); exact BK136.out⟩, ⟨by repeat (first | (with_reducible first | exact HB.out | apply below_alloc | apply pw_below_drewN | apply below_drew1 | refine below_set ?_ GE116.out | refine below_set ?_ GE130.out | refine below_set ?_ GE133.out | refine below_set ?_ GE136.out) | exact HB.out)⟩⟩
 clear HC13
 try clear c1
 try clear c2
 try clear p2
 try clear c3
 try clear c4
 try clear c5
 try clear c5b0
 try clear c8
 try clear c14
 try clear c16
 try clear c18
 try clear c22
 try clear c28
 try clear c29
 try clear c30
 try clear c34
 try clear c35
 try clear c36
 try clear c40
 try clear c41
 try clear c42
 try clear c43
 try clear c45
 try clear c46
 try clear c49
 try clear c50
 try clear c51
 try clear c53
 try clear c54
 try clear hcz15_0
 try clear hcz15_1
 try clear hcz17_0
 try clear hcz17_1
 try clear hcz23_0
 try clear hcz23_1
 try clear hcz25_0
 try clear hcz25_1
 try clear hcz30_0
 try clear hcz30_1
 try clear hcz37_0
 try clear hcz37_1
 try clear hcz44_0
 try clear hcz44_1
 try clear hcz47_0
 try clear hcz47_1
 try clear hcz52_0
 try clear hcz52_1
 try clear hcz55_0
 try clear hcz55_1
 try clear hcz7_0
 try clear hcz7_1
 try clear hfz15_0
 try clear hfz15_1
 try clear hfz17_0
 try clear hfz17_1
 try clear hfz23_0
 try clear hfz23_1
 try clear hfz25_0
 try clear hfz25_1
 try clear hfz30_0
 try clear hfz30_1
 try clear hfz37_0
 try clear hfz37_1
 try clear hfz44_0
 try clear hfz44_1
 try clear hfz47_0
 try clear hfz47_1
 try clear hfz52_0
 try clear hfz52_1
 try clear hfz55_0
 try clear hfz55_1
 try clear hfz7_0
 try clear hfz7_1
 obtain ⟨kq, x48_12, rfl, HA, HJ12, HO_101001, HO_102001, HO_103001, BK116, BK130, BK133, BK136, HB⟩ := hcut
 rcases kq with _ | kj12
 · exact absurd HA.out (by simp [laws_FnExactNetCut.j0])
 have H := HA.out
 clear HA
 simp only [laws_FnExactNetCut.j0] at H
 by_cases c57 : x48_12 = true
 · subst c57
   have H1 : (some false) = some r := by rw [if_pos rfl] at H; exact H
   clear H
   have H := H1
   clear H1
   obtain rfl := Option.some.inj H
   go_wp2
   go_ret
   exact ⟨by first | rfl | (simp [errW_none, errW_some] <;> rfl) | (simp [*, errW_none, errW_some] <;> rfl), by repeat (first | (with_reducible first | exact HB.out | apply below_alloc | apply pw_below_drewN | apply below_drew1 | refine below_set ?_ GE116.out | refine below_set ?_ GE130.out | refine below_set ?_ GE133.out | refine below_set ?_ GE136.out) | exact HB.out)⟩
 replace c57 := Bool.eq_false_iff.mpr c57
 subst c57
 have H1 : ((laws_toNet.f kj12 a0_0 l0_1).bind fun bt104 => ((laws_eqNet.f kj12 t101 t121 bt104.1 bt104.2).bind fun t105 => (if t105 = true then ((laws_markNet.f kj12 t101 t121 1).bind fun bt106 => (if bt106.1 < 0 then (laws_FnExactNetCut.j1 kj12 a1 a2 t119 true a0_0 l0_1 t115 t118 t102 t123) else ((laws_eqNet.f kj12 t102 t123 t115 t118).bind fun t107 => (if t107 = true then (laws_FnExactNetCut.j1 kj12 a1 a2 t119 (t124 != t119) a0_0 l0_1 t115 t118 t102 t123) else (laws_FnExactNetCut.j1 kj12 a1 a2 t119 true a0_0 l0_1 t115 t118 t102 t123))))) else (some false)))) = some r := by rw [if_neg (show ¬ (false = true) by decide)] at H; exact H
 clear H
 have H := H1
 clear H1
 replace H := Option.bind_eq_some_iff.mp H
 obtain ⟨⟨t104, t138⟩, A139, H⟩ := H
 replace H : ((laws_eqNet.f kj12 t101 t121 t104 t138).bind fun t105 => (if t105 = true then ((laws_markNet.f kj12 t101 t121 1).bind fun bt106 => (if bt106.1 < 0 then (laws_FnExactNetCut.j1 kj12 a1 a2 t119 true a0_0 l0_1 t115 t118 t102 t123) else ((laws_eqNet.f kj12 t102 t123 t115 t118).bind fun t107 => (if t107 = true then (laws_FnExactNetCut.j1 kj12 a1 a2 t119 (t124 != t119) a0_0 l0_1 t115 t118 t102 t123) else (laws_FnExactNetCut.j1 kj12 a1 a2 t119 true a0_0 l0_1 t115 t118 t102 t123))))) else (some false))) = some r := H
 have A58 := Aside0.mk A139
 clear A139
 replace H := Option.bind_eq_some_iff.mp H
 obtain ⟨t105, A140, H⟩ := H
 replace H : (if t105 = true then ((laws_markNet.f kj12 t101 t121 1).bind fun bt106 => (if bt106.1 < 0 then (laws_FnExactNetCut.j1 kj12 a1 a2 t119 true a0_0 l0_1 t115 t118 t102 t123) else ((laws_eqNet.f kj12 t102 t123 t115 t118).bind fun t107 => (if t107 = true then (laws_FnExactNetCut.j1 kj12 a1 a2 t119 (t124 != t119) a0_0 l0_1 t115 t118 t102 t123) else (laws_FnExactNetCut.j1 kj12 a1 a2 t119 true a0_0 l0_1 t115 t118 t102 t123))))) else (some false)) = some r := H
 have A59 := Aside0.mk A140
 clear A140
 by_cases c60 : t105 = true
 rotate_left
 · replace c60 := Bool.eq_false_iff.mpr c60
   subst c60
   have H1 : (some false) = some r := by rw [if_neg (show ¬ (false = true) by decide)] at H; exact H
   clear H
   have H := H1
   clear H1
   obtain rfl := Option.some.inj H
   try go_wp2
   have n0_ := Aside0.mk (Kd.R_drew HO_101001.out)
   have n1_ := Aside0.mk (Kd.R_drew HO_102001.out)
   have n2_ := Aside0.mk (Kd.R_drew HO_103001.out)
   have n3_ := Aside0.mk (blk_drew BK116.out)
   have n4_ := Aside0.mk (blk_drew BK130.out)
   have n5_ := Aside0.mk (blk_drew BK133.out)
   have n6_ := Aside0.mk (blk_drew BK136.out)
   have n7_ := Aside0.mk (below_drew1 HB.out)
   clear HO_101001
   clear HO_102001
   clear HO_103001
   clear BK116
   clear BK130
   clear BK133
   clear BK136
   clear HB
   have HO_101001 := n0_
   have HO_102001 := n1_
   have HO_103001 := n2_
   have BK116 := n3_
   have BK130 := n4_
   have BK133 := n5_
   have BK136 := n6_
   have HB := n7_
   clear n0_ n1_ n2_ n3_ n4_ n5_ n6_ n7_
   refine start_ (n := 5) (S := fun w' => w'.cell? ⟨gb133, 0, none⟩ = some (.int .i64 t101) ∧ w'.cell? ⟨gb133, 1, none⟩ = some (.slice Ao31 t121.length co31) ∧ w'.cell? ⟨gb116, 0, none⟩ = some (.int .i64 a0_0) ∧ w'.cell? ⟨gb116, 1, none⟩ = some (.slice A0_1 l0_1.length c0_1)) (ds := []) #[false, false, false, false, false] (by kernel_rfl) rfl rfl ⟨(blk_cell BK133.out 0).trans rfl, (blk_cell BK133.out 1).trans rfl, (blk_cell BK116.out 0).trans rfl, (blk_cell BK116.out 1).trans rfl⟩ (fun hHeld => ?_)
   generalize wc.drew = w235 at HO_101001 HO_102001 HO_103001 BK116 BK130 BK133 BK136 HB hHeld ⊢
   refine take_ (i := 0) (N := some 49) (v := ?_) (a' := ?_) #[true, false, false, false, false] rfl rfl (by kernel_rfl) (fun _ _ _ h => h) (Or.inl ⟨by rfl, ?_⟩) hHeld ?_ ?_
   rotate_left
   · rintro w' ⟨s0, s1, s2, s3⟩
     go_simp
     with_reducible rfl
   rotate_left
   · simp only [Act.put, List.setIfInBounds_toArray, List.set_cons_zero, List.set_cons_succ, i64_w, i32_w]
     rfl
   refine take_ (i := 1) (N := some 50) (v := ?_) (a' := ?_) #[true, true, false, false, false] rfl rfl (by kernel_rfl) (fun _ _ _ h => h) (Or.inl ⟨by rfl, ?_⟩) hHeld ?_ ?_
   rotate_left
   · rintro w' ⟨s0, s1, s2, s3⟩
     go_simp
     with_reducible rfl
   rotate_left
   · simp only [Act.put, List.setIfInBounds_toArray, List.set_cons_zero, List.set_cons_succ, i64_w, i32_w]
     rfl
   refine one_ (i := 2) (N := some 51) #[true, true, true, false, false] rfl rfl (by kernel_rfl) (by decide) (fun K hK => ?_)
   refine goes_ Try.func16 (by kernel_rfl) rfl #[.agg #[.int .i64 a0_0, .slice A0_1 l0_1.length c0_1]] (by rfl) rfl rfl (by (try simp only [List.map_toArray, List.map_cons, List.map_nil]); first | done | rfl | (simp only [List.length_drop, List.length_take]; rfl)) ?_
   with_reducible refine (laws_toNet.calls kj12 a0_0 _ _ l0_1 t104 t138 _ ?side1 ?side2 A58.out).mono ?_
   (case side1 => repeat (first | exact (Kd.C_below HR0_1.out HB.out) | (with_reducible refine Kd.C_alloc ?_ _) | (with_reducible refine Kd.C_drewN ?_ _) | (with_reducible refine Kd.C_drew ?_)))
   (case side2 => exact HC0_1.out)
   rintro e w236 ⟨v143, rfl, ho0, hb⟩
   refine ⟨_, rfl, ?_⟩
   have n0_ := Aside0.mk (Kd.R_elder' (by (with_reducible repeat (first | apply Kd.R_alloc | apply Kd.R_drewN | apply Kd.R_drew)); exact HO_101001.out) (Kd.R_base ho0) hb)
   have n1_ := Aside0.mk (Kd.R_elder' (by (with_reducible repeat (first | apply Kd.R_alloc | apply Kd.R_drewN | apply Kd.R_drew)); exact HO_102001.out) (Kd.R_base ho0) hb)
   have n2_ := Aside0.mk (Kd.R_elder' (by (with_reducible repeat (first | apply Kd.R_alloc | apply Kd.R_drewN | apply Kd.R_drew)); exact HO_103001.out) (Kd.R_base ho0) hb)
   have n3_ := Aside0.mk (Kd.R_lower (Kd.R_new' (Kd.R_new' (Kd.R_new' ho0 (Kd.R_lt (by (with_reducible repeat (first | apply Kd.R_alloc | apply Kd.R_drewN | apply Kd.R_drew)); exact HO_101001.out))) (Kd.R_lt (by (with_reducible repeat (first | apply Kd.R_alloc | apply Kd.R_drewN | apply Kd.R_drew)); exact HO_102001.out))) (Kd.R_lt (by (with_reducible repeat (first | apply Kd.R_alloc | apply Kd.R_drewN | apply Kd.R_drew)); exact HO_103001.out))) (below_size (by repeat (first | (with_reducible first | exact HB.out | apply below_alloc | apply pw_below_drewN | apply below_drew1 | refine below_set ?_ GE116.out | refine below_set ?_ GE130.out | refine below_set ?_ GE133.out | refine below_set ?_ GE136.out) | exact HB.out))))
   have n4_ := Aside0.mk (blk_below (g := gb116) (o := .cells #[.int .i64 a0_0, .slice A0_1 l0_1.length c0_1] 25 (0, 0)) (by (with_reducible repeat (first | refine blk_drewN ?_ _ | refine blk_drew ?_ | refine blk_alloc ?_ _)); exact BK116.out) hb)
   have n5_ := Aside0.mk (blk_below (g := gb130) (o := .cells #[.int .i64 t115, .slice Ao24 t118.length co24] 30 (0, 0)) (by (with_reducible repeat (first | refine blk_drewN ?_ _ | refine blk_drew ?_ | refine blk_alloc ?_ _)); exact BK130.out) hb)
   have n6_ := Aside0.mk (blk_below (g := gb133) (o := .cells #[.int .i64 t101, .slice Ao31 t121.length co31] 30 (0, 0)) (by (with_reducible repeat (first | refine blk_drewN ?_ _ | refine blk_drew ?_ | refine blk_alloc ?_ _)); exact BK133.out) hb)
   have n7_ := Aside0.mk (blk_below (g := gb136) (o := .cells #[.int .i64 t102, .slice Ao38 t123.length co38] 30 (0, 0)) (by (with_reducible repeat (first | refine blk_drewN ?_ _ | refine blk_drew ?_ | refine blk_alloc ?_ _)); exact BK136.out) hb)
   have n8_ := Aside0.mk (below_step (by repeat (first | (with_reducible first | exact HB.out | apply below_alloc | apply pw_below_drewN | apply below_drew1 | refine below_set ?_ GE116.out | refine below_set ?_ GE130.out | refine below_set ?_ GE133.out | refine below_set ?_ GE136.out) | exact HB.out)) hb)
   clear HO_101001
   clear HO_102001
   clear HO_103001
   clear BK116
   clear BK130
   clear BK133
   clear BK136
   clear HB
   have HO_101001 := n0_
   have HO_102001 := n1_
   have HO_103001 := n2_
   have HO144 := n3_
   have BK116 := n4_
   have BK130 := n5_
   have BK133 := n6_
   have BK136 := n7_
   have HB := n8_
   clear n0_ n1_ n2_ n3_ n4_ n5_ n6_ n7_ n8_
   (try clear hb)
   (try clear hb2)
   (try clear hk)
   (try clear hi)
   (try clear ho0)
   obtain ⟨Ao237, co237, eo237⟩ := Kd.R_slice HO144.out
   (first | subst eo237 | (injection eo237 with f1_ f2_ f3_; have f4_ := f1_.symm; have f5_ := f3_.symm; clear f1_ f2_ f3_; subst f4_; subst f5_))
   refine hK.out _ _ ⟨(blk_cell BK133.out 0).trans rfl, (blk_cell BK133.out 1).trans rfl, (blk_cell BK116.out 0).trans rfl, (blk_cell BK116.out 1).trans rfl⟩ (fun hHeld => ?_)
   clear hK K
   refine norm_ (a' := ?_) ?_ ?_
   rotate_left
   · show Act.put _ (some 51) _ = _
     simp only [Act.put, List.setIfInBounds_toArray, List.set_cons_zero, List.set_cons_succ, i64_w, i32_w]
     rfl
   refine one_ (i := 3) (N := some 52) #[true, true, true, true, false] rfl rfl (by kernel_rfl) (by decide) (fun K hK => ?_)
   refine goes_ Try.func18 (by kernel_rfl) rfl #[.agg #[.int .i64 t101, .slice Ao31 t121.length co31], .agg #[.int .i64 t104, .slice Ao237 t138.length co237]] (by rfl) rfl rfl (by (try simp only [List.map_toArray, List.map_cons, List.map_nil]); first | done | rfl | (simp only [List.length_drop, List.length_take]; rfl)) ?_
   with_reducible refine (laws_eqNet.calls kj12 t101 _ _ t121 t104 _ _ t138 false _ ?side1 ?side2 ?side3 ?side4 A59.out).mono ?_
   (case side1 => repeat (first | exact (Kd.R_reads' HO_102001.out).2.2 | (with_reducible refine Kd.C_alloc ?_ _) | (with_reducible refine Kd.C_drewN ?_ _) | (with_reducible refine Kd.C_drew ?_)))
   (case side2 => exact (Kd.R_reads' HO_102001.out).2.1)
   (case side3 => repeat (first | exact (Kd.R_reads' HO144.out).2.2 | (with_reducible refine Kd.C_alloc ?_ _) | (with_reducible refine Kd.C_drewN ?_ _) | (with_reducible refine Kd.C_drew ?_)))
   (case side4 => exact (Kd.R_reads' HO144.out).2.1)
   rintro e w238 ⟨rfl, hb⟩
   refine ⟨_, rfl, ?_⟩
   have n0_ := Aside0.mk (Kd.R_below (by (with_reducible repeat (first | apply Kd.R_alloc | apply Kd.R_drewN | apply Kd.R_drew)); exact HO_101001.out) hb)
   have n1_ := Aside0.mk (Kd.R_below (by (with_reducible repeat (first | apply Kd.R_alloc | apply Kd.R_drewN | apply Kd.R_drew)); exact HO_102001.out) hb)
   have n2_ := Aside0.mk (Kd.R_below (by (with_reducible repeat (first | apply Kd.R_alloc | apply Kd.R_drewN | apply Kd.R_drew)); exact HO_103001.out) hb)
   have n3_ := Aside0.mk (Kd.R_below (by (with_reducible repeat (first | apply Kd.R_alloc | apply Kd.R_drewN | apply Kd.R_drew)); exact HO144.out) hb)
   have n4_ := Aside0.mk (blk_below (g := gb116) (o := .cells #[.int .i64 a0_0, .slice A0_1 l0_1.length c0_1] 25 (0, 0)) (by (with_reducible repeat (first | refine blk_drewN ?_ _ | refine blk_drew ?_ | refine blk_alloc ?_ _)); exact BK116.out) hb)
   have n5_ := Aside0.mk (blk_below (g := gb130) (o := .cells #[.int .i64 t115, .slice Ao24 t118.length co24] 30 (0, 0)) (by (with_reducible repeat (first | refine blk_drewN ?_ _ | refine blk_drew ?_ | refine blk_alloc ?_ _)); exact BK130.out) hb)
   have n6_ := Aside0.mk (blk_below (g := gb133) (o := .cells #[.int .i64 t101, .slice Ao31 t121.length co31] 30 (0, 0)) (by (with_reducible repeat (first | refine blk_drewN ?_ _ | refine blk_drew ?_ | refine blk_alloc ?_ _)); exact BK133.out) hb)
   have n7_ := Aside0.mk (blk_below (g := gb136) (o := .cells #[.int .i64 t102, .slice Ao38 t123.length co38] 30 (0, 0)) (by (with_reducible repeat (first | refine blk_drewN ?_ _ | refine blk_drew ?_ | refine blk_alloc ?_ _)); exact BK136.out) hb)
   have n8_ := Aside0.mk (below_step (by repeat (first | (with_reducible first | exact HB.out | apply below_alloc | apply pw_below_drewN | apply below_drew1 | refine below_set ?_ GE116.out | refine below_set ?_ GE130.out | refine below_set ?_ GE133.out | refine below_set ?_ GE136.out) | exact HB.out)) hb)
   clear HO_101001
   clear HO_102001
   clear HO_103001
   clear HO144
   clear BK116
   clear BK130
   clear BK133
   clear BK136
   clear HB
   have HO_101001 := n0_
   have HO_102001 := n1_
   have HO_103001 := n2_
   have HO144 := n3_
   have BK116 := n4_
   have BK130 := n5_
   have BK133 := n6_
   have BK136 := n7_
   have HB := n8_
   clear n0_ n1_ n2_ n3_ n4_ n5_ n6_ n7_ n8_
   (try clear hb)
   (try clear hb2)
   (try clear hk)
   (try clear hi)
   refine hK.out _ _ ⟨(blk_cell BK133.out 0).trans rfl, (blk_cell BK133.out 1).trans rfl, (blk_cell BK116.out 0).trans rfl, (blk_cell BK116.out 1).trans rfl⟩ (fun hHeld => ?_)
   clear hK K
   refine norm_ (a' := ?_) ?_ ?_
   rotate_left
   · show Act.put _ (some 52) _ = _
     simp only [Act.put, List.setIfInBounds_toArray, List.set_cons_zero, List.set_cons_succ, i64_w, i32_w]
     rfl
   refine pure_ (i := 4) (N := some 53) (v := ?_) (a' := ?_) #[true, true, true, true, true] rfl rfl (by kernel_rfl) (fun _ _ _ h => h) (Or.inl ⟨by rfl, ?_⟩) ?_ ?_
   rotate_left
   · intro w'
     go_simp
     with_reducible rfl
   rotate_left
   · simp only [Act.put, List.setIfInBounds_toArray, List.set_cons_zero, List.set_cons_succ, i64_w, i32_w]
     rfl
   refine done_ (by kernel_rfl) ?_
   try go_wp2
   go_ret
   exact ⟨by first | rfl | (simp [errW_none, errW_some] <;> rfl) | (simp [*, errW_none, errW_some] <;> rfl), by repeat (first | (with_reducible first | exact HB.out | apply below_alloc | apply pw_below_drewN | apply below_drew1 | refine below_set ?_ GE116.out | refine below_set ?_ GE130.out | refine below_set ?_ GE133.out | refine below_set ?_ GE136.out) | exact HB.out)⟩
 subst c60
 have H1 : ((laws_markNet.f kj12 t101 t121 1).bind fun bt106 => (if bt106.1 < 0 then (laws_FnExactNetCut.j1 kj12 a1 a2 t119 true a0_0 l0_1 t115 t118 t102 t123) else ((laws_eqNet.f kj12 t102 t123 t115 t118).bind fun t107 => (if t107 = true then (laws_FnExactNetCut.j1 kj12 a1 a2 t119 (t124 != t119) a0_0 l0_1 t115 t118 t102 t123) else (laws_FnExactNetCut.j1 kj12 a1 a2 t119 true a0_0 l0_1 t115 t118 t102 t123))))) = some r := by rw [if_pos rfl] at H; exact H
 clear H
 have H := H1
 clear H1
 replace H := Option.bind_eq_some_iff.mp H
 obtain ⟨⟨t106, t141⟩, A142, H⟩ := H
 replace H : (if t106 < 0 then (laws_FnExactNetCut.j1 kj12 a1 a2 t119 true a0_0 l0_1 t115 t118 t102 t123) else ((laws_eqNet.f kj12 t102 t123 t115 t118).bind fun t107 => (if t107 = true then (laws_FnExactNetCut.j1 kj12 a1 a2 t119 (t124 != t119) a0_0 l0_1 t115 t118 t102 t123) else (laws_FnExactNetCut.j1 kj12 a1 a2 t119 true a0_0 l0_1 t115 t118 t102 t123)))) = some r := H
 have A61 := Aside0.mk A142
 clear A142
 have HC62 := Aside0.mk H
 clear H
 try go_wp2
 have n0_ := Aside0.mk (Kd.R_drew HO_101001.out)
 have n1_ := Aside0.mk (Kd.R_drew HO_102001.out)
 have n2_ := Aside0.mk (Kd.R_drew HO_103001.out)
 have n3_ := Aside0.mk (blk_drew BK116.out)
 have n4_ := Aside0.mk (blk_drew BK130.out)
 have n5_ := Aside0.mk (blk_drew BK133.out)
 have n6_ := Aside0.mk (blk_drew BK136.out)
 have n7_ := Aside0.mk (below_drew1 HB.out)
 clear HO_101001
 clear HO_102001
 clear HO_103001
 clear BK116
 clear BK130
 clear BK133
 clear BK136
 clear HB
 have HO_101001 := n0_
 have HO_102001 := n1_
 have HO_103001 := n2_
 have BK116 := n3_
 have BK130 := n4_
 have BK133 := n5_
 have BK136 := n6_
 have HB := n7_
 clear n0_ n1_ n2_ n3_ n4_ n5_ n6_ n7_
 refine start_ (n := 5) (S := fun w' => w'.cell? ⟨gb133, 0, none⟩ = some (.int .i64 t101) ∧ w'.cell? ⟨gb133, 1, none⟩ = some (.slice Ao31 t121.length co31) ∧ w'.cell? ⟨gb116, 0, none⟩ = some (.int .i64 a0_0) ∧ w'.cell? ⟨gb116, 1, none⟩ = some (.slice A0_1 l0_1.length c0_1)) (ds := []) #[false, false, false, false, false] (by kernel_rfl) rfl rfl ⟨(blk_cell BK133.out 0).trans rfl, (blk_cell BK133.out 1).trans rfl, (blk_cell BK116.out 0).trans rfl, (blk_cell BK116.out 1).trans rfl⟩ (fun hHeld => ?_)
 generalize wc.drew = w63 at HO_101001 HO_102001 HO_103001 BK116 BK130 BK133 BK136 HB hHeld ⊢
 refine take_ (i := 0) (N := some 49) (v := ?_) (a' := ?_) #[true, false, false, false, false] rfl rfl (by kernel_rfl) (fun _ _ _ h => h) (Or.inl ⟨by rfl, ?_⟩) hHeld ?_ ?_
 rotate_left
 · rintro w' ⟨s0, s1, s2, s3⟩
   go_simp
   with_reducible rfl
 rotate_left
 · simp only [Act.put, List.setIfInBounds_toArray, List.set_cons_zero, List.set_cons_succ, i64_w, i32_w]
   rfl
 refine take_ (i := 1) (N := some 50) (v := ?_) (a' := ?_) #[true, true, false, false, false] rfl rfl (by kernel_rfl) (fun _ _ _ h => h) (Or.inl ⟨by rfl, ?_⟩) hHeld ?_ ?_
 rotate_left
 · rintro w' ⟨s0, s1, s2, s3⟩
   go_simp
   with_reducible rfl
 rotate_left
 · simp only [Act.put, List.setIfInBounds_toArray, List.set_cons_zero, List.set_cons_succ, i64_w, i32_w]
   rfl
 refine one_ (i := 2) (N := some 51) #[true, true, true, false, false] rfl rfl (by kernel_rfl) (by decide) (fun K hK => ?_)
 refine goes_ Try.func16 (by kernel_rfl) rfl #[.agg #[.int .i64 a0_0, .slice A0_1 l0_1.length c0_1]] (by rfl) rfl rfl (by (try simp only [List.map_toArray, List.map_cons, List.map_nil]); first | done | rfl | (simp only [List.length_drop, List.length_take]; rfl)) ?_
 with_reducible refine (laws_toNet.calls kj12 a0_0 _ _ l0_1 t104 t138 _ ?side1 ?side2 A58.out).mono ?_
 (case side1 => repeat (first | exact (Kd.C_below HR0_1.out HB.out) | (with_reducible refine Kd.C_alloc ?_ _) | (with_reducible refine Kd.C_drewN ?_ _) | (with_reducible refine Kd.C_drew ?_)))
 (case side2 => exact HC0_1.out)
 rintro e w64 ⟨v143, rfl, ho0, hb⟩
 refine ⟨_, rfl, ?_⟩
 have n0_ := Aside0.mk (Kd.R_elder' (by (with_reducible repeat (first | apply Kd.R_alloc | apply Kd.R_drewN | apply Kd.R_drew)); exact HO_101001.out) (Kd.R_base ho0) hb)
 have n1_ := Aside0.mk (Kd.R_elder' (by (with_reducible repeat (first | apply Kd.R_alloc | apply Kd.R_drewN | apply Kd.R_drew)); exact HO_102001.out) (Kd.R_base ho0) hb)
 have n2_ := Aside0.mk (Kd.R_elder' (by (with_reducible repeat (first | apply Kd.R_alloc | apply Kd.R_drewN | apply Kd.R_drew)); exact HO_103001.out) (Kd.R_base ho0) hb)
 have n3_ := Aside0.mk (Kd.R_lower (Kd.R_new' (Kd.R_new' (Kd.R_new' ho0 (Kd.R_lt (by (with_reducible repeat (first | apply Kd.R_alloc | apply Kd.R_drewN | apply Kd.R_drew)); exact HO_101001.out))) (Kd.R_lt (by (with_reducible repeat (first | apply Kd.R_alloc | apply Kd.R_drewN | apply Kd.R_drew)); exact HO_102001.out))) (Kd.R_lt (by (with_reducible repeat (first | apply Kd.R_alloc | apply Kd.R_drewN | apply Kd.R_drew)); exact HO_103001.out))) (below_size (by repeat (first | (with_reducible first | exact HB.out | apply below_alloc | apply pw_below_drewN | apply below_drew1 | refine below_set ?_ GE116.out | refine below_set ?_ GE130.out | refine below_set ?_ GE133.out | refine below_set ?_ GE136.out) | exact HB.out))))
 have n4_ := Aside0.mk (blk_below (g := gb116) (o := .cells #[.int .i64 a0_0, .slice A0_1 l0_1.length c0_1] 25 (0, 0)) (by (with_reducible repeat (first | refine blk_drewN ?_ _ | refine blk_drew ?_ | refine blk_alloc ?_ _)); exact BK116.out) hb)
 have n5_ := Aside0.mk (blk_below (g := gb130) (o := .cells #[.int .i64 t115, .slice Ao24 t118.length co24] 30 (0, 0)) (by (with_reducible repeat (first | refine blk_drewN ?_ _ | refine blk_drew ?_ | refine blk_alloc ?_ _)); exact BK130.out) hb)
 have n6_ := Aside0.mk (blk_below (g := gb133) (o := .cells #[.int .i64 t101, .slice Ao31 t121.length co31] 30 (0, 0)) (by (with_reducible repeat (first | refine blk_drewN ?_ _ | refine blk_drew ?_ | refine blk_alloc ?_ _)); exact BK133.out) hb)
 have n7_ := Aside0.mk (blk_below (g := gb136) (o := .cells #[.int .i64 t102, .slice Ao38 t123.length co38] 30 (0, 0)) (by (with_reducible repeat (first | refine blk_drewN ?_ _ | refine blk_drew ?_ | refine blk_alloc ?_ _)); exact BK136.out) hb)
 have n8_ := Aside0.mk (below_step (by repeat (first | (with_reducible first | exact HB.out | apply below_alloc | apply pw_below_drewN | apply below_drew1 | refine below_set ?_ GE116.out | refine below_set ?_ GE130.out | refine below_set ?_ GE133.out | refine below_set ?_ GE136.out) | exact HB.out)) hb)
 clear HO_101001
 clear HO_102001
 clear HO_103001
 clear BK116
 clear BK130
 clear BK133
 clear BK136
 clear HB
 have HO_101001 := n0_
 have HO_102001 := n1_
 have HO_103001 := n2_
 have HO144 := n3_
 have BK116 := n4_
 have BK130 := n5_
 have BK133 := n6_
 have BK136 := n7_
 have HB := n8_
 clear n0_ n1_ n2_ n3_ n4_ n5_ n6_ n7_ n8_
 (try clear hb)
 (try clear hb2)
 (try clear hk)
 (try clear hi)
 (try clear ho0)
 obtain ⟨Ao65, co65, eo65⟩ := Kd.R_slice HO144.out
 (first | subst eo65 | (injection eo65 with f1_ f2_ f3_; have f4_ := f1_.symm; have f5_ := f3_.symm; clear f1_ f2_ f3_; subst f4_; subst f5_))
 refine hK.out _ _ ⟨(blk_cell BK133.out 0).trans rfl, (blk_cell BK133.out 1).trans rfl, (blk_cell BK116.out 0).trans rfl, (blk_cell BK116.out 1).trans rfl⟩ (fun hHeld => ?_)
 clear hK K
 refine norm_ (a' := ?_) ?_ ?_
 rotate_left
 · show Act.put _ (some 51) _ = _
   simp only [Act.put, List.setIfInBounds_toArray, List.set_cons_zero, List.set_cons_succ, i64_w, i32_w]
   rfl
 refine one_ (i := 3) (N := some 52) #[true, true, true, true, false] rfl rfl (by kernel_rfl) (by decide) (fun K hK => ?_)
 refine goes_ Try.func18 (by kernel_rfl) rfl #[.agg #[.int .i64 t101, .slice Ao31 t121.length co31], .agg #[.int .i64 t104, .slice Ao65 t138.length co65]] (by rfl) rfl rfl (by (try simp only [List.map_toArray, List.map_cons, List.map_nil]); first | done | rfl | (simp only [List.length_drop, List.length_take]; rfl)) ?_
 with_reducible refine (laws_eqNet.calls kj12 t101 _ _ t121 t104 _ _ t138 true _ ?side1 ?side2 ?side3 ?side4 A59.out).mono ?_
 (case side1 => repeat (first | exact (Kd.R_reads' HO_102001.out).2.2 | (with_reducible refine Kd.C_alloc ?_ _) | (with_reducible refine Kd.C_drewN ?_ _) | (with_reducible refine Kd.C_drew ?_)))
 (case side2 => exact (Kd.R_reads' HO_102001.out).2.1)
 (case side3 => repeat (first | exact (Kd.R_reads' HO144.out).2.2 | (with_reducible refine Kd.C_alloc ?_ _) | (with_reducible refine Kd.C_drewN ?_ _) | (with_reducible refine Kd.C_drew ?_)))
 (case side4 => exact (Kd.R_reads' HO144.out).2.1)
 rintro e w66 ⟨rfl, hb⟩
 refine ⟨_, rfl, ?_⟩
 have n0_ := Aside0.mk (Kd.R_below (by (with_reducible repeat (first | apply Kd.R_alloc | apply Kd.R_drewN | apply Kd.R_drew)); exact HO_101001.out) hb)
 have n1_ := Aside0.mk (Kd.R_below (by (with_reducible repeat (first | apply Kd.R_alloc | apply Kd.R_drewN | apply Kd.R_drew)); exact HO_102001.out) hb)
 have n2_ := Aside0.mk (Kd.R_below (by (with_reducible repeat (first | apply Kd.R_alloc | apply Kd.R_drewN | apply Kd.R_drew)); exact HO_103001.out) hb)
 have n3_ := Aside0.mk (Kd.R_below (by (with_reducible repeat (first | apply Kd.R_alloc | apply Kd.R_drewN | apply Kd.R_drew)); exact HO144.out) hb)
 have n4_ := Aside0.mk (blk_below (g := gb116) (o := .cells #[.int .i64 a0_0, .slice A0_1 l0_1.length c0_1] 25 (0, 0)) (by (with_reducible repeat (first | refine blk_drewN ?_ _ | refine blk_drew ?_ | refine blk_alloc ?_ _)); exact BK116.out) hb)
 have n5_ := Aside0.mk (blk_below (g := gb130) (o := .cells #[.int .i64 t115, .slice Ao24 t118.length co24] 30 (0, 0)) (by (with_reducible repeat (first | refine blk_drewN ?_ _ | refine blk_drew ?_ | refine blk_alloc ?_ _)); exact BK130.out) hb)
 have n6_ := Aside0.mk (blk_below (g := gb133) (o := .cells #[.int .i64 t101, .slice Ao31 t121.length co31] 30 (0, 0)) (by (with_reducible repeat (first | refine blk_drewN ?_ _ | refine blk_drew ?_ | refine blk_alloc ?_ _)); exact BK133.out) hb)
 have n7_ := Aside0.mk (blk_below (g := gb136) (o := .cells #[.int .i64 t102, .slice Ao38 t123.length co38] 30 (0, 0)) (by (with_reducible repeat (first | refine blk_drewN ?_ _ | refine blk_drew ?_ | refine blk_alloc ?_ _)); exact BK136.out) hb)
 have n8_ := Aside0.mk (below_step (by repeat (first | (with_reducible first | exact HB.out | apply below_alloc | apply pw_below_drewN | apply below_drew1 | refine below_set ?_ GE116.out | refine below_set ?_ GE130.out | refine below_set ?_ GE133.out | refine below_set ?_ GE136.out) | exact HB.out)) hb)
 clear HO_101001
 clear HO_102001
 clear HO_103001
 clear HO144
 clear BK116
 clear BK130
 clear BK133
 clear BK136
 clear HB
 have HO_101001 := n0_
 have HO_102001 := n1_
 have HO_103001 := n2_
 have HO144 := n3_
 have BK116 := n4_
 have BK130 := n5_
 have BK133 := n6_
 have BK136 := n7_
 have HB := n8_
 clear n0_ n1_ n2_ n3_ n4_ n5_ n6_ n7_ n8_
 (try clear hb)
 (try clear hb2)
 (try clear hk)
 (try clear hi)
 refine hK.out _ _ ⟨(blk_cell BK133.out 0).trans rfl, (blk_cell BK133.out 1).trans rfl, (blk_cell BK116.out 0).trans rfl, (blk_cell BK116.out 1).trans rfl⟩ (fun hHeld => ?_)
 clear hK K
 refine norm_ (a' := ?_) ?_ ?_
 rotate_left
 · show Act.put _ (some 52) _ = _
   simp only [Act.put, List.setIfInBounds_toArray, List.set_cons_zero, List.set_cons_succ, i64_w, i32_w]
   rfl
 refine pure_ (i := 4) (N := some 53) (v := ?_) (a' := ?_) #[true, true, true, true, true] rfl rfl (by kernel_rfl) (fun _ _ _ h => h) (Or.inl ⟨by rfl, ?_⟩) ?_ ?_
 rotate_left
 · intro w'
   go_simp
   with_reducible rfl
 rotate_left
 · simp only [Act.put, List.setIfInBounds_toArray, List.set_cons_zero, List.set_cons_succ, i64_w, i32_w]
   rfl
 refine done_ (by kernel_rfl) ?_
 have hnb67 := NB133_116.out
 have hnc67 := NB116_133.out
 have hnb68 := NB133_130.out
 have hnc68 := NB130_133.out
 have hnb69 := NB133_136.out
 have hnc69 := NB136_133.out
 have hcz70_0 : w66.cell? ⟨gb133, 0, none⟩ = some (.int .i64 t101) := (blk_cell BK133.out 0).trans rfl
 have hcz70_1 : w66.cell? ⟨gb133, 1, none⟩ = some (.slice Ao31 t121.length co31) := (blk_cell BK133.out 1).trans rfl
 have hfz70_0 := blk_frozen BK133.out 0
 have hfz70_1 := blk_frozen BK133.out 1
 go_upto_region 14 with (first | ((with_reducible refine gate_callee (f := 23) rfl ?_); refine goesL_ (some 56) rfl rfl Try.func23 (by kernel_rfl) rfl #[.agg #[.int .i64 t101, .slice Ao31 t121.length co31], .int .i64 1] rfl (by (try simp only [List.map_toArray, List.map_cons, List.map_nil]); first | done | rfl | (simp only [List.length_drop, List.length_take]; rfl)) ?_; (with_reducible refine (laws_markNet.calls kj12 t101 (fun k_ => some k_ = (.slice Ao31 t121.length co31 : Value).ownBlock) (.slice Ao31 t121.length co31) t121 1 t106 t141 w _ ?side1 ?side2 A61.out).mono ?_); (case side1 => repeat (first | (with_reducible first | exact HB.out | apply below_alloc | apply pw_below_drewN | apply below_drew1 | refine below_set ?_ GE116.out | refine below_set ?_ GE130.out | refine below_set ?_ GE133.out | refine below_set ?_ GE136.out) | exact HB.out)); (case side2 => exact Kd.R_tight rfl HO_102001.out); rintro e w71 ⟨rfl, hy0, hb, hkp⟩; refine ⟨_, rfl, ?_⟩; have n0_ := Aside0.mk (Kd.R_mono (ok' := fun k_ => some k_ ≠ (.slice Ao31 t121.length co31 : Value).ownBlock ∧ some k_ ≠ (.slice Ao38 t123.length co38 : Value).ownBlock ∧ some k_ ≠ (.slice Ao65 t138.length co65 : Value).ownBlock) (Kd.R_keptB (HO_101001.out) hkp (fun k_ hk_ hs_ => (hk_.1.1) hs_)) (fun k_ hk_ => ⟨hk_.1.1.1, hk_.1.1.2, hk_.1.2⟩)); have n1_ := Aside0.mk (Kd.R_reok rfl hy0 (fun k_ e_ => HO_102001.out.1 k_ e_)); have n2_ := Aside0.mk (Kd.R_mono (ok' := fun k_ => some k_ ≠ (.slice Ao24 t118.length co24 : Value).ownBlock ∧ some k_ ≠ (.slice Ao31 t121.length co31 : Value).ownBlock ∧ some k_ ≠ (.slice Ao65 t138.length co65 : Value).ownBlock) (Kd.R_keptB (HO_103001.out) hkp (fun k_ hk_ hs_ => (hk_.1.2) hs_)) (fun k_ hk_ => ⟨hk_.1.1.1, hk_.1.1.2, hk_.1.2⟩)); have n3_ := Aside0.mk (blk_kept (by (with_reducible repeat (first | refine blk_drewN ?_ _ | refine blk_drew ?_ | refine blk_alloc ?_ _)); exact BK116.out) hkp (fun hs_ => (fun e_ => (Kd.R_ne HO_102001.out BK116.out (by decide)) e_) hs_)); have n4_ := Aside0.mk (blk_kept (by (with_reducible repeat (first | refine blk_drewN ?_ _ | refine blk_drew ?_ | refine blk_alloc ?_ _)); exact BK130.out) hkp (fun hs_ => (fun e_ => (Kd.R_ne HO_102001.out BK130.out (by decide)) e_) hs_)); have n5_ := Aside0.mk (blk_kept (by (with_reducible repeat (first | refine blk_drewN ?_ _ | refine blk_drew ?_ | refine blk_alloc ?_ _)); exact BK133.out) hkp (fun hs_ => (fun e_ => (Kd.R_ne HO_102001.out BK133.out (by decide)) e_) hs_)); have n6_ := Aside0.mk (blk_kept (by (with_reducible repeat (first | refine blk_drewN ?_ _ | refine blk_drew ?_ | refine blk_alloc ?_ _)); exact BK136.out) hkp (fun hs_ => (fun e_ => (Kd.R_ne HO_102001.out BK136.out (by decide)) e_) hs_)); have n7_ := Aside0.mk (Kd.R_mono (ok' := fun k_ => some k_ ≠ (.slice Ao24 t118.length co24 : Value).ownBlock ∧ some k_ ≠ (.slice Ao31 t121.length co31 : Value).ownBlock ∧ some k_ ≠ (.slice Ao38 t123.length co38 : Value).ownBlock) (Kd.R_keptB (HO144.out) hkp (fun k_ hk_ hs_ => (hk_.1.2) hs_)) (fun k_ hk_ => ⟨hk_.1.1.1.2, hk_.1.1.2, hk_.1.2⟩)); have n8_ := Aside0.mk (hb); clear HO_101001; clear HO_102001; clear HO_103001; clear BK116; clear BK130; clear BK133; clear BK136; clear HO144; clear HB; have HO_101001 := n0_; have HO_102001 := n1_; have HO_103001 := n2_; have BK116 := n3_; have BK130 := n4_; have BK133 := n5_; have BK136 := n6_; have HO144 := n7_; have HB := n8_; clear n0_ n1_ n2_ n3_ n4_ n5_ n6_ n7_ n8_; (try clear hb); (try clear hkp); (try clear hy0)))
 (try simp only [Act.put, List.setIfInBounds_toArray, List.set_cons_zero, List.set_cons_succ])
 go_cut [69] (fun v69 wc => ∃ (kq : Nat) (x69_61 : Bool), v69 = .bool x69_61 ∧ Aside0 (laws_FnExactNetCut.j1 kq a1 a2 t119 x69_61 a0_0 l0_1 t115 t118 t102 t123 = some r) ∧ Aside0 (kq ≤ kj12) ∧ Aside0 (Kd.R kTie 54 wc w.heap.size (fun k_ => some k_ ≠ ((.slice Ao31 t121.length co31) : Value).ownBlock ∧ some k_ ≠ ((.slice Ao38 t123.length co38) : Value).ownBlock) (.slice Ao24 t118.length co24) t118) ∧ Aside0 (Kd.R kTie 54 wc w.heap.size (fun k_ => some k_ ≠ ((.slice Ao24 t118.length co24) : Value).ownBlock ∧ some k_ ≠ ((.slice Ao38 t123.length co38) : Value).ownBlock) (.slice Ao31 t121.length co31) t141) ∧ Aside0 (Kd.R kTie 54 wc w.heap.size (fun k_ => some k_ ≠ ((.slice Ao24 t118.length co24) : Value).ownBlock ∧ some k_ ≠ ((.slice Ao31 t121.length co31) : Value).ownBlock) (.slice Ao38 t123.length co38) t123) ∧ Aside0 (wc.heap[gb116]? = some (.cells #[.int .i64 a0_0, (.slice A0_1 l0_1.length c0_1)] 25 (0, 0))) ∧ Aside0 (wc.heap[gb130]? = some (.cells #[.int .i64 t115, (.slice Ao24 t118.length co24)] 30 (0, 0))) ∧ Aside0 (wc.heap[gb133]? = some (.cells #[.int .i64 t101, (.slice Ao31 t121.length co31)] 30 (0, 0))) ∧ Aside0 (wc.heap[gb136]? = some (.cells #[.int .i64 t102, (.slice Ao38 t123.length co38)] 30 (0, 0))) ∧ Aside0 (Below w.heap.size w wc))
 case first =>
   have H := HC62.out
   clear HC62
   by_cases c72 : t106 < 0
   · rw [if_pos c72] at H
     have c72b0 : decide (t106 < 0) = true := decide_eq_true c72
     clear c72
     (first | rw [c72b0] | (simp only [i64_w, i32_w]; rw [c72b0]) | skip)
     have H' := Aside0.mk H
     clear H
     go_wp2
     go_meet
     case rel => exact ⟨_, (true), (by first | rfl | (simp; done) | (simp [*]; done)), H', ⟨by have := HJ12.out; first | omega | exact Nat.le_refl _⟩, ⟨by (with_reducible repeat (first | apply Kd.R_alloc | apply Kd.R_drewN | apply Kd.R_drew)); exact Kd.R_mono HO_101001.out (fun _ hk => ⟨hk.1, hk.2.1⟩)⟩, ⟨by (with_reducible repeat (first | apply Kd.R_alloc | apply Kd.R_drewN | apply Kd.R_drew)); exact Kd.R_mono HO_102001.out (fun _ hk => ⟨hk.1.1, hk.1.2⟩)⟩, ⟨by (with_reducible repeat (first | apply Kd.R_alloc | apply Kd.R_drewN | apply Kd.R_drew)); exact Kd.R_mono HO_103001.out (fun _ hk => ⟨hk.1, hk.2.1⟩)⟩, ⟨by (with_reducible repeat (first | refine blk_drewN ?_ _ | refine blk_drew ?_ | refine blk_alloc ?_ _)); exact BK116.out⟩, ⟨by (with_reducible repeat (first | refine blk_drewN ?_ _ | refine blk_drew ?_ | refine blk_alloc ?_ _)); exact BK130.out⟩, ⟨by (with_reducible repeat (first | refine blk_drewN ?_ _ | refine blk_drew ?_ | refine blk_alloc ?_ _)); exact BK133.out⟩, ⟨by (with_reducible repeat (first | refine blk_drewN ?_ _ | refine blk_drew ?_ | refine blk_alloc ?_ _)); exact BK136.out⟩, ⟨by repeat (first | (with_reducible first | exact HB.out | apply below_alloc | apply pw_below_drewN | apply below_drew1 | refine below_set ?_ GE116.out | refine below_set ?_ GE130.out | refine below_set ?_ GE133.out | refine below_set ?_ GE136.out) | exact HB.out)⟩⟩
   rw [if_neg c72] at H
   have c72b0 : decide (t106 < 0) = false := decide_eq_false c72
   clear c72
   (first | rw [c72b0] | (simp only [i64_w, i32_w]; rw [c72b0]) | skip)
   replace H := Option.bind_eq_some_iff.mp H
   obtain ⟨t107, A145, H⟩ := H
   replace H : (if t107 = true then (laws_FnExactNetCut.j1 kj12 a1 a2 t119 (t124 != t119) a0_0 l0_1 t115 t118 t102 t123) else (laws_FnExactNetCut.j1 kj12 a1 a2 t119 true a0_0 l0_1 t115 t118 t102 t123)) = some r := H
   have A73 := Aside0.mk A145
   clear A145
   by_cases c74 : t107 = true
   · subst c74
     have H1 : (laws_FnExactNetCut.j1 kj12 a1 a2 t119 (t124 != t119) a0_0 l0_1 t115 t118 t102 t123) = some r := by rw [if_pos rfl] at H; exact H
     clear H
     have H := H1
     clear H1
     have H' := Aside0.mk H
     clear H
     have hnb75 := NB136_116.out
     have hnc75 := NB116_136.out
     have hnb76 := NB136_130.out
     have hnc76 := NB130_136.out
     have hnb77 := NB136_133.out
     have hnc77 := NB133_136.out
     have hcz78_0 : w71.cell? ⟨gb136, 0, none⟩ = some (.int .i64 t102) := (blk_cell BK136.out 0).trans rfl
     have hcz78_1 : w71.cell? ⟨gb136, 1, none⟩ = some (.slice Ao38 t123.length co38) := (blk_cell BK136.out 1).trans rfl
     have hfz78_0 := blk_frozen BK136.out 0
     have hfz78_1 := blk_frozen BK136.out 1
     have hnb79 := NB130_116.out
     have hnc79 := NB116_130.out
     have hnb80 := NB130_133.out
     have hnc80 := NB133_130.out
     have hcz81_0 : w71.cell? ⟨gb130, 0, none⟩ = some (.int .i64 t115) := (blk_cell BK130.out 0).trans rfl
     have hcz81_1 : w71.cell? ⟨gb130, 1, none⟩ = some (.slice Ao24 t118.length co24) := (blk_cell BK130.out 1).trans rfl
     have hfz81_0 := blk_frozen BK130.out 0
     have hfz81_1 := blk_frozen BK130.out 1
     go_wp2_with (first | (go_at_call 18; (with_reducible refine (laws_eqNet.calls kj12 t102 _ _ t123 t115 _ _ t118 true _ ?side1 ?side2 ?side3 ?side4 A73.out).mono ?_); (case side1 => repeat (first | exact (Kd.R_reads' HO_103001.out).2.2 | (with_reducible refine Kd.C_alloc ?_ _) | (with_reducible refine Kd.C_drewN ?_ _) | (with_reducible refine Kd.C_drew ?_))); (case side2 => exact (Kd.R_reads' HO_103001.out).2.1); (case side3 => repeat (first | exact (Kd.R_reads' HO_101001.out).2.2 | (with_reducible refine Kd.C_alloc ?_ _) | (with_reducible refine Kd.C_drewN ?_ _) | (with_reducible refine Kd.C_drew ?_))); (case side4 => exact (Kd.R_reads' HO_101001.out).2.1); rintro e w82 ⟨rfl, hb⟩; have n0_ := Aside0.mk (Kd.R_below (by (with_reducible repeat (first | apply Kd.R_alloc | apply Kd.R_drewN | apply Kd.R_drew)); exact HO_101001.out) hb); have n1_ := Aside0.mk (Kd.R_below (by (with_reducible repeat (first | apply Kd.R_alloc | apply Kd.R_drewN | apply Kd.R_drew)); exact HO_102001.out) hb); have n2_ := Aside0.mk (Kd.R_below (by (with_reducible repeat (first | apply Kd.R_alloc | apply Kd.R_drewN | apply Kd.R_drew)); exact HO_103001.out) hb); have n3_ := Aside0.mk (Kd.R_below (by (with_reducible repeat (first | apply Kd.R_alloc | apply Kd.R_drewN | apply Kd.R_drew)); exact HO144.out) hb); have n4_ := Aside0.mk (blk_below (g := gb116) (o := .cells #[.int .i64 a0_0, .slice A0_1 l0_1.length c0_1] 25 (0, 0)) (by (with_reducible repeat (first | refine blk_drewN ?_ _ | refine blk_drew ?_ | refine blk_alloc ?_ _)); exact BK116.out) hb); have n5_ := Aside0.mk (blk_below (g := gb130) (o := .cells #[.int .i64 t115, .slice Ao24 t118.length co24] 30 (0, 0)) (by (with_reducible repeat (first | refine blk_drewN ?_ _ | refine blk_drew ?_ | refine blk_alloc ?_ _)); exact BK130.out) hb); have n6_ := Aside0.mk (blk_below (g := gb133) (o := .cells #[.int .i64 t101, .slice Ao31 t121.length co31] 30 (0, 0)) (by (with_reducible repeat (first | refine blk_drewN ?_ _ | refine blk_drew ?_ | refine blk_alloc ?_ _)); exact BK133.out) hb); have n7_ := Aside0.mk (blk_below (g := gb136) (o := .cells #[.int .i64 t102, .slice Ao38 t123.length co38] 30 (0, 0)) (by (with_reducible repeat (first | refine blk_drewN ?_ _ | refine blk_drew ?_ | refine blk_alloc ?_ _)); exact BK136.out) hb); have n8_ := Aside0.mk (below_step (by repeat (first | (with_reducible first | exact HB.out | apply below_alloc | apply pw_below_drewN | apply below_drew1 | refine below_set ?_ GE116.out | refine below_set ?_ GE130.out | refine below_set ?_ GE133.out | refine below_set ?_ GE136.out) | exact HB.out)) hb); clear HO_101001; clear HO_102001; clear HO_103001; clear HO144; clear BK116; clear BK130; clear BK133; clear BK136; clear HB; have HO_101001 := n0_; have HO_102001 := n1_; have HO_103001 := n2_; have HO144 := n3_; have BK116 := n4_; have BK130 := n5_; have BK133 := n6_; have BK136 := n7_; have HB := n8_; clear n0_ n1_ n2_ n3_ n4_ n5_ n6_ n7_ n8_; (try clear hb); (try clear hb2); (try clear hk); (try clear hi)))
     go_meet
     case rel => exact ⟨_, ((t124 != t119)), (by first | rfl | (simp; done) | (simp [*]; done)), H', ⟨by have := HJ12.out; first | omega | exact Nat.le_refl _⟩, ⟨by (with_reducible repeat (first | apply Kd.R_alloc | apply Kd.R_drewN | apply Kd.R_drew)); exact Kd.R_mono HO_101001.out (fun _ hk => ⟨hk.1, hk.2.1⟩)⟩, ⟨by (with_reducible repeat (first | apply Kd.R_alloc | apply Kd.R_drewN | apply Kd.R_drew)); exact Kd.R_mono HO_102001.out (fun _ hk => ⟨hk.1.1, hk.1.2⟩)⟩, ⟨by (with_reducible repeat (first | apply Kd.R_alloc | apply Kd.R_drewN | apply Kd.R_drew)); exact Kd.R_mono HO_103001.out (fun _ hk => ⟨hk.1, hk.2.1⟩)⟩, ⟨by (with_reducible repeat (first | refine blk_drewN ?_ _ | refine blk_drew ?_ | refine blk_alloc ?_ _)); exact BK116.out⟩, ⟨by (with_reducible repeat (first | refine blk_drewN ?_ _ | refine blk_drew ?_ | refine blk_alloc ?_ _)); exact BK130.out⟩, ⟨by (with_reducible repeat (first | refine blk_drewN ?_ _ | refine blk_drew ?_ | refine blk_alloc ?_ _)); exact BK133.out⟩, ⟨by (with_reducible repeat (first | refine blk_drewN ?_ _ | refine blk_drew ?_ | refine blk_alloc ?_ _)); exact BK136.out⟩, ⟨by repeat (first | (with_reducible first | exact HB.out | apply below_alloc | apply pw_below_drewN | apply below_drew1 | refine below_set ?_ GE116.out | refine below_set ?_ GE130.out | refine below_set ?_ GE133.out | refine below_set ?_ GE136.out) | exact HB.out)⟩⟩
   replace c74 := Bool.eq_false_iff.mpr c74
   subst c74
   have H1 : (laws_FnExactNetCut.j1 kj12 a1 a2 t119 true a0_0 l0_1 t115 t118 t102 t123) = some r := by rw [if_neg (show ¬ (false = true) by decide)] at H; exact H
   clear H
   have H := H1
   clear H1
   have H' := Aside0.mk H
   clear H
   have hnb83 := NB136_116.out
   have hnc83 := NB116_136.out
   have hnb84 := NB136_130.out
   have hnc84 := NB130_136.out
   have hnb85 := NB136_133.out
   have hnc85 := NB133_136.out
   have hcz86_0 : w71.cell? ⟨gb136, 0, none⟩ = some (.int .i64 t102) := (blk_cell BK136.out 0).trans rfl
   have hcz86_1 : w71.cell? ⟨gb136, 1, none⟩ = some (.slice Ao38 t123.length co38) := (blk_cell BK136.out 1).trans rfl
   have hfz86_0 := blk_frozen BK136.out 0
   have hfz86_1 := blk_frozen BK136.out 1
   have hnb87 := NB130_116.out
   have hnc87 := NB116_130.out
   have hnb88 := NB130_133.out
   have hnc88 := NB133_130.out
   have hcz89_0 : w71.cell? ⟨gb130, 0, none⟩ = some (.int .i64 t115) := (blk_cell BK130.out 0).trans rfl
   have hcz89_1 : w71.cell? ⟨gb130, 1, none⟩ = some (.slice Ao24 t118.length co24) := (blk_cell BK130.out 1).trans rfl
   have hfz89_0 := blk_frozen BK130.out 0
   have hfz89_1 := blk_frozen BK130.out 1
   go_wp2_with (first | (go_at_call 18; (with_reducible refine (laws_eqNet.calls kj12 t102 _ _ t123 t115 _ _ t118 false _ ?side1 ?side2 ?side3 ?side4 A73.out).mono ?_); (case side1 => repeat (first | exact (Kd.R_reads' HO_103001.out).2.2 | (with_reducible refine Kd.C_alloc ?_ _) | (with_reducible refine Kd.C_drewN ?_ _) | (with_reducible refine Kd.C_drew ?_))); (case side2 => exact (Kd.R_reads' HO_103001.out).2.1); (case side3 => repeat (first | exact (Kd.R_reads' HO_101001.out).2.2 | (with_reducible refine Kd.C_alloc ?_ _) | (with_reducible refine Kd.C_drewN ?_ _) | (with_reducible refine Kd.C_drew ?_))); (case side4 => exact (Kd.R_reads' HO_101001.out).2.1); rintro e w90 ⟨rfl, hb⟩; have n0_ := Aside0.mk (Kd.R_below (by (with_reducible repeat (first | apply Kd.R_alloc | apply Kd.R_drewN | apply Kd.R_drew)); exact HO_101001.out) hb); have n1_ := Aside0.mk (Kd.R_below (by (with_reducible repeat (first | apply Kd.R_alloc | apply Kd.R_drewN | apply Kd.R_drew)); exact HO_102001.out) hb); have n2_ := Aside0.mk (Kd.R_below (by (with_reducible repeat (first | apply Kd.R_alloc | apply Kd.R_drewN | apply Kd.R_drew)); exact HO_103001.out) hb); have n3_ := Aside0.mk (Kd.R_below (by (with_reducible repeat (first | apply Kd.R_alloc | apply Kd.R_drewN | apply Kd.R_drew)); exact HO144.out) hb); have n4_ := Aside0.mk (blk_below (g := gb116) (o := .cells #[.int .i64 a0_0, .slice A0_1 l0_1.length c0_1] 25 (0, 0)) (by (with_reducible repeat (first | refine blk_drewN ?_ _ | refine blk_drew ?_ | refine blk_alloc ?_ _)); exact BK116.out) hb); have n5_ := Aside0.mk (blk_below (g := gb130) (o := .cells #[.int .i64 t115, .slice Ao24 t118.length co24] 30 (0, 0)) (by (with_reducible repeat (first | refine blk_drewN ?_ _ | refine blk_drew ?_ | refine blk_alloc ?_ _)); exact BK130.out) hb); have n6_ := Aside0.mk (blk_below (g := gb133) (o := .cells #[.int .i64 t101, .slice Ao31 t121.length co31] 30 (0, 0)) (by (with_reducible repeat (first | refine blk_drewN ?_ _ | refine blk_drew ?_ | refine blk_alloc ?_ _)); exact BK133.out) hb); have n7_ := Aside0.mk (blk_below (g := gb136) (o := .cells #[.int .i64 t102, .slice Ao38 t123.length co38] 30 (0, 0)) (by (with_reducible repeat (first | refine blk_drewN ?_ _ | refine blk_drew ?_ | refine blk_alloc ?_ _)); exact BK136.out) hb); have n8_ := Aside0.mk (below_step (by repeat (first | (with_reducible first | exact HB.out | apply below_alloc | apply pw_below_drewN | apply below_drew1 | refine below_set ?_ GE116.out | refine below_set ?_ GE130.out | refine below_set ?_ GE133.out | refine below_set ?_ GE136.out) | exact HB.out)) hb); clear HO_101001; clear HO_102001; clear HO_103001; clear HO144; clear BK116; clear BK130; clear BK133; clear BK136; clear HB; have HO_101001 := n0_; have HO_102001 := n1_; have HO_103001 := n2_; have HO144 := n3_; have BK116 := n4_; have BK130 := n5_; have BK133 := n6_; have BK136 := n7_; have HB := n8_; clear n0_ n1_ n2_ n3_ n4_ n5_ n6_ n7_ n8_; (try clear hb); (try clear hb2); (try clear hk); (try clear hi)))
   go_meet
   case rel => exact ⟨_, (true), (by first | rfl | (simp; done) | (simp [*]; done)), H', ⟨by have := HJ12.out; first | omega | exact Nat.le_refl _⟩, ⟨by (with_reducible repeat (first | apply Kd.R_alloc | apply Kd.R_drewN | apply Kd.R_drew)); exact Kd.R_mono HO_101001.out (fun _ hk => ⟨hk.1, hk.2.1⟩)⟩, ⟨by (with_reducible repeat (first | apply Kd.R_alloc | apply Kd.R_drewN | apply Kd.R_drew)); exact Kd.R_mono HO_102001.out (fun _ hk => ⟨hk.1.1, hk.1.2⟩)⟩, ⟨by (with_reducible repeat (first | apply Kd.R_alloc | apply Kd.R_drewN | apply Kd.R_drew)); exact Kd.R_mono HO_103001.out (fun _ hk => ⟨hk.1, hk.2.1⟩)⟩, ⟨by (with_reducible repeat (first | refine blk_drewN ?_ _ | refine blk_drew ?_ | refine blk_alloc ?_ _)); exact BK116.out⟩, ⟨by (with_reducible repeat (first | refine blk_drewN ?_ _ | refine blk_drew ?_ | refine blk_alloc ?_ _)); exact BK130.out⟩, ⟨by (with_reducible repeat (first | refine blk_drewN ?_ _ | refine blk_drew ?_ | refine blk_alloc ?_ _)); exact BK133.out⟩, ⟨by (with_reducible repeat (first | refine blk_drewN ?_ _ | refine blk_drew ?_ | refine blk_alloc ?_ _)); exact BK136.out⟩, ⟨by repeat (first | (with_reducible first | exact HB.out | apply below_alloc | apply pw_below_drewN | apply below_drew1 | refine below_set ?_ GE116.out | refine below_set ?_ GE130.out | refine below_set ?_ GE133.out | refine below_set ?_ GE136.out) | exact HB.out)⟩⟩
 clear HC62
 try clear c1
 try clear c2
 try clear p2
 try clear c3
 try clear c4
 try clear c5
 try clear c5b0
 try clear c6
 try clear c7
 try clear c8
 try clear c14
 try clear c16
 try clear c18
 try clear c22
 try clear c23
 try clear c28
 try clear c29
 try clear c30
 try clear c34
 try clear c35
 try clear c36
 try clear c40
 try clear c41
 try clear c42
 try clear c43
 try clear c45
 try clear c46
 try clear c49
 try clear c50
 try clear c51
 try clear c53
 try clear c54
 try clear c57
 try clear c60
 try clear c67
 try clear c68
 try clear c69
 try clear c72
 try clear c72b0
 try clear c74
 try clear c75
 try clear c76
 try clear c77
 try clear c79
 try clear c80
 try clear c83
 try clear c84
 try clear c85
 try clear c87
 try clear c88
 try clear hcz15_0
 try clear hcz15_1
 try clear hcz17_0
 try clear hcz17_1
 try clear hcz23_0
 try clear hcz23_1
 try clear hcz25_0
 try clear hcz25_1
 try clear hcz30_0
 try clear hcz30_1
 try clear hcz37_0
 try clear hcz37_1
 try clear hcz44_0
 try clear hcz44_1
 try clear hcz47_0
 try clear hcz47_1
 try clear hcz52_0
 try clear hcz52_1
 try clear hcz55_0
 try clear hcz55_1
 try clear hcz70_0
 try clear hcz70_1
 try clear hcz78_0
 try clear hcz78_1
 try clear hcz7_0
 try clear hcz7_1
 try clear hcz81_0
 try clear hcz81_1
 try clear hcz86_0
 try clear hcz86_1
 try clear hcz89_0
 try clear hcz89_1
 try clear hfz15_0
 try clear hfz15_1
 try clear hfz17_0
 try clear hfz17_1
 try clear hfz23_0
 try clear hfz23_1
 try clear hfz25_0
 try clear hfz25_1
 try clear hfz30_0
 try clear hfz30_1
 try clear hfz37_0
 try clear hfz37_1
 try clear hfz44_0
 try clear hfz44_1
 try clear hfz47_0
 try clear hfz47_1
 try clear hfz52_0
 try clear hfz52_1
 try clear hfz55_0
 try clear hfz55_1
 try clear hfz70_0
 try clear hfz70_1
 try clear hfz78_0
 try clear hfz78_1
 try clear hfz7_0
 try clear hfz7_1
 try clear hfz81_0
 try clear hfz81_1
 try clear hfz86_0
 try clear hfz86_1
 try clear hfz89_0
 try clear hfz89_1
 try clear p2
 obtain ⟨kq, x69_61, rfl, HA, HJ61, HO_101001, HO_102001, HO_103001, BK116, BK130, BK133, BK136, HB⟩ := hcut
 have hl102001_61 := (Kd.R_reads' HO_102001.out).1
 rw [hl102001_61] at HO_102001
 (try simp only [hl102001_61])
 (try simp only [hl102001_61] at BK116)
 (try simp only [hl102001_61] at BK130)
 (try simp only [hl102001_61] at BK133)
 (try simp only [hl102001_61] at BK136)
 (try simp only [hl102001_61] at HO_101001)
 (try simp only [hl102001_61] at HO_103001)
 rcases kq with _ | kj61
 · exact absurd HA.out (by simp [laws_FnExactNetCut.j1])
 have H := HA.out
 clear HA
 simp only [laws_FnExactNetCut.j1] at H
 by_cases c91 : x69_61 = true
 · subst c91
   have H1 : (some false) = some r := by rw [if_pos rfl] at H; exact H
   clear H
   have H := H1
   clear H1
   obtain rfl := Option.some.inj H
   go_wp2
   go_ret
   exact ⟨by first | rfl | (simp [errW_none, errW_some] <;> rfl) | (simp [*, errW_none, errW_some] <;> rfl), by repeat (first | (with_reducible first | exact HB.out | apply below_alloc | apply pw_below_drewN | apply below_drew1 | refine below_set ?_ GE116.out | refine below_set ?_ GE130.out | refine below_set ?_ GE133.out | refine below_set ?_ GE136.out) | exact HB.out)⟩
 replace c91 := Bool.eq_false_iff.mpr c91
 subst c91
 have H1 : ((laws_markNet.f kj61 t102 t123 1).bind fun bt108 => ((laws_heldNet.f kj61 t102 bt108.2 1).bind fun t109 => (if t109 < 0 then (some false) else (if t109 = bt108.1 then ((laws_toNet.f kj61 a0_0 l0_1).bind fun bt110 => ((impl_NetCut.f kj61 bt110.1 bt110.2 a1 a2).bind fun bt111 => ((laws_eqNet.f kj61 bt111.1 bt111.2.1 t115 t118).bind fun t112 => (if t112 = true then (laws_FnExactNetCut.j2 kj61 bt108.1 (bt111.2.2 != t119) t102 bt108.2) else (laws_FnExactNetCut.j2 kj61 bt108.1 true t102 bt108.2))))) else (some false))))) = some r := by rw [if_neg (show ¬ (false = true) by decide)] at H; exact H
 clear H
 have H := H1
 clear H1
 replace H := Option.bind_eq_some_iff.mp H
 obtain ⟨⟨t108, t146⟩, A147, H⟩ := H
 replace H : ((laws_heldNet.f kj61 t102 t146 1).bind fun t109 => (if t109 < 0 then (some false) else (if t109 = t108 then ((laws_toNet.f kj61 a0_0 l0_1).bind fun bt110 => ((impl_NetCut.f kj61 bt110.1 bt110.2 a1 a2).bind fun bt111 => ((laws_eqNet.f kj61 bt111.1 bt111.2.1 t115 t118).bind fun t112 => (if t112 = true then (laws_FnExactNetCut.j2 kj61 t108 (bt111.2.2 != t119) t102 t146) else (laws_FnExactNetCut.j2 kj61 t108 true t102 t146))))) else (some false)))) = some r := H
 have A92 := Aside0.mk A147
 clear A147
 replace H := Option.bind_eq_some_iff.mp H
 obtain ⟨t109, A148, H⟩ := H
 replace H : (if t109 < 0 then (some false) else (if t109 = t108 then ((laws_toNet.f kj61 a0_0 l0_1).bind fun bt110 => ((impl_NetCut.f kj61 bt110.1 bt110.2 a1 a2).bind fun bt111 => ((laws_eqNet.f kj61 bt111.1 bt111.2.1 t115 t118).bind fun t112 => (if t112 = true then (laws_FnExactNetCut.j2 kj61 t108 (bt111.2.2 != t119) t102 t146) else (laws_FnExactNetCut.j2 kj61 t108 true t102 t146))))) else (some false))) = some r := H
 have A93 := Aside0.mk A148
 clear A148
 by_cases c94 : t109 < 0
 · rw [if_pos c94] at H
   have c94b0 : decide (t109 < 0) = true := decide_eq_true c94
   clear c94
   obtain rfl := Option.some.inj H
   have hnb95 := NB136_116.out
   have hnc95 := NB116_136.out
   have hnb96 := NB136_130.out
   have hnc96 := NB130_136.out
   have hnb97 := NB136_133.out
   have hnc97 := NB133_136.out
   have hcz98_0 : wc.cell? ⟨gb136, 0, none⟩ = some (.int .i64 t102) := (blk_cell BK136.out 0).trans rfl
   have hcz98_1 : wc.cell? ⟨gb136, 1, none⟩ = some (.slice Ao38 t123.length co38) := (blk_cell BK136.out 1).trans rfl
   have hfz98_0 := blk_frozen BK136.out 0
   have hfz98_1 := blk_frozen BK136.out 1
   go_wp2_with (first | ((with_reducible refine gate_callee (f := 23) rfl ?_); refine goesL_ (some 72) rfl rfl Try.func23 (by kernel_rfl) rfl #[.agg #[.int .i64 t102, .slice Ao38 t123.length co38], .int .i64 1] rfl (by (try simp only [List.map_toArray, List.map_cons, List.map_nil]); first | done | rfl | (simp only [List.length_drop, List.length_take]; rfl)) ?_; (with_reducible refine (laws_markNet.calls kj61 t102 (fun k_ => some k_ = (.slice Ao38 t123.length co38 : Value).ownBlock) (.slice Ao38 t123.length co38) t123 1 t108 t146 w _ ?side1 ?side2 A92.out).mono ?_); (case side1 => repeat (first | (with_reducible first | exact HB.out | apply below_alloc | apply pw_below_drewN | apply below_drew1 | refine below_set ?_ GE116.out | refine below_set ?_ GE130.out | refine below_set ?_ GE133.out | refine below_set ?_ GE136.out) | exact HB.out)); (case side2 => exact Kd.R_tight rfl HO_103001.out); rintro e w99 ⟨rfl, hy0, hb, hkp⟩; refine ⟨_, rfl, ?_⟩; have n0_ := Aside0.mk (Kd.R_mono (ok' := fun k_ => some k_ ≠ (.slice Ao31 t141.length co31 : Value).ownBlock ∧ some k_ ≠ (.slice Ao38 t123.length co38 : Value).ownBlock) (Kd.R_keptB (HO_101001.out) hkp (fun k_ hk_ hs_ => (hk_.2) hs_)) (fun k_ hk_ => ⟨hk_.1.1, hk_.1.2⟩)); have n1_ := Aside0.mk (Kd.R_mono (ok' := fun k_ => some k_ ≠ (.slice Ao24 t118.length co24 : Value).ownBlock ∧ some k_ ≠ (.slice Ao38 t123.length co38 : Value).ownBlock) (Kd.R_keptB (HO_102001.out) hkp (fun k_ hk_ hs_ => (hk_.2) hs_)) (fun k_ hk_ => ⟨hk_.1.1, hk_.1.2⟩)); have n2_ := Aside0.mk (Kd.R_reok rfl hy0 (fun k_ e_ => HO_103001.out.1 k_ e_)); have n3_ := Aside0.mk (blk_kept (by (with_reducible repeat (first | refine blk_drewN ?_ _ | refine blk_drew ?_ | refine blk_alloc ?_ _)); exact BK116.out) hkp (fun hs_ => (fun e_ => (Kd.R_ne HO_103001.out BK116.out (by decide)) e_) hs_)); have n4_ := Aside0.mk (blk_kept (by (with_reducible repeat (first | refine blk_drewN ?_ _ | refine blk_drew ?_ | refine blk_alloc ?_ _)); exact BK130.out) hkp (fun hs_ => (fun e_ => (Kd.R_ne HO_103001.out BK130.out (by decide)) e_) hs_)); have n5_ := Aside0.mk (blk_kept (by (with_reducible repeat (first | refine blk_drewN ?_ _ | refine blk_drew ?_ | refine blk_alloc ?_ _)); exact BK133.out) hkp (fun hs_ => (fun e_ => (Kd.R_ne HO_103001.out BK133.out (by decide)) e_) hs_)); have n6_ := Aside0.mk (blk_kept (by (with_reducible repeat (first | refine blk_drewN ?_ _ | refine blk_drew ?_ | refine blk_alloc ?_ _)); exact BK136.out) hkp (fun hs_ => (fun e_ => (Kd.R_ne HO_103001.out BK136.out (by decide)) e_) hs_)); have n7_ := Aside0.mk (hb); clear HO_101001; clear HO_102001; clear HO_103001; clear BK116; clear BK130; clear BK133; clear BK136; clear HB; have HO_101001 := n0_; have HO_102001 := n1_; have HO_103001 := n2_; have BK116 := n3_; have BK130 := n4_; have BK133 := n5_; have BK136 := n6_; have HB := n7_; clear n0_ n1_ n2_ n3_ n4_ n5_ n6_ n7_; (try clear hb); (try clear hkp); (try clear hy0); have hcz120_0 : w99.cell? ⟨gb136, 0, none⟩ = some (.int .i64 t102) := (blk_cell BK136.out 0).trans rfl; have hcz120_1 : w99.cell? ⟨gb136, 1, none⟩ = some (.slice Ao38 t123.length co38) := (blk_cell BK136.out 1).trans rfl; have hfz120_0 := blk_frozen BK136.out 0; have hfz120_1 := blk_frozen BK136.out 1) | ((with_reducible refine gate_callee (f := 24) rfl ?_); refine goesL_ (some 75) rfl rfl Try.func24 (by kernel_rfl) rfl #[.agg #[.int .i64 t102, .slice Ao38 t146.length co38], .int .i64 1] rfl (by (try simp only [List.map_toArray, List.map_cons, List.map_nil]); first | done | (rw [show t146.length = t123.length from (Kd.R_reads' HO_103001.out).1.symm] <;> rfl) | rfl | (simp only [List.length_drop, List.length_take]; rfl)) ?_; (with_reducible refine (laws_heldNet.calls kj61 t102 _ _ t146 1 t109 _ ?side1 ?side2 A93.out).mono ?_); (case side1 => repeat (first | exact (Kd.R_reads' HO_103001.out).2.2 | (with_reducible refine Kd.C_alloc ?_ _) | (with_reducible refine Kd.C_drewN ?_ _) | (with_reducible refine Kd.C_drew ?_))); (case side2 => rw [show t146.length = t123.length from (Kd.R_reads' HO_103001.out).1.symm]; exact (Kd.R_reads' HO_103001.out).2.1); rintro e w149 ⟨rfl, hb⟩; refine ⟨_, rfl, ?_⟩; have n0_ := Aside0.mk (Kd.R_below (by (with_reducible repeat (first | apply Kd.R_alloc | apply Kd.R_drewN | apply Kd.R_drew)); exact HO_101001.out) hb); have n1_ := Aside0.mk (Kd.R_below (by (with_reducible repeat (first | apply Kd.R_alloc | apply Kd.R_drewN | apply Kd.R_drew)); exact HO_102001.out) hb); have n2_ := Aside0.mk (Kd.R_below (by (with_reducible repeat (first | apply Kd.R_alloc | apply Kd.R_drewN | apply Kd.R_drew)); exact HO_103001.out) hb); have n3_ := Aside0.mk (blk_below (g := gb116) (o := .cells #[.int .i64 a0_0, .slice A0_1 l0_1.length c0_1] 25 (0, 0)) (by (with_reducible repeat (first | refine blk_drewN ?_ _ | refine blk_drew ?_ | refine blk_alloc ?_ _)); exact BK116.out) hb); have n4_ := Aside0.mk (blk_below (g := gb130) (o := .cells #[.int .i64 t115, .slice Ao24 t118.length co24] 30 (0, 0)) (by (with_reducible repeat (first | refine blk_drewN ?_ _ | refine blk_drew ?_ | refine blk_alloc ?_ _)); exact BK130.out) hb); have n5_ := Aside0.mk (blk_below (g := gb133) (o := .cells #[.int .i64 t101, .slice Ao31 t141.length co31] 30 (0, 0)) (by (with_reducible repeat (first | refine blk_drewN ?_ _ | refine blk_drew ?_ | refine blk_alloc ?_ _)); exact BK133.out) hb); have n6_ := Aside0.mk (blk_below (g := gb136) (o := .cells #[.int .i64 t102, .slice Ao38 t123.length co38] 30 (0, 0)) (by (with_reducible repeat (first | refine blk_drewN ?_ _ | refine blk_drew ?_ | refine blk_alloc ?_ _)); exact BK136.out) hb); have n7_ := Aside0.mk (below_step (by repeat (first | (with_reducible first | exact HB.out | apply below_alloc | apply pw_below_drewN | apply below_drew1 | refine below_set ?_ GE116.out | refine below_set ?_ GE130.out | refine below_set ?_ GE133.out | refine below_set ?_ GE136.out) | exact HB.out)) hb); clear HO_101001; clear HO_102001; clear HO_103001; clear BK116; clear BK130; clear BK133; clear BK136; clear HB; have HO_101001 := n0_; have HO_102001 := n1_; have HO_103001 := n2_; have BK116 := n3_; have BK130 := n4_; have BK133 := n5_; have BK136 := n6_; have HB := n7_; clear n0_ n1_ n2_ n3_ n4_ n5_ n6_ n7_; (try clear hb); (try clear hb2); (try clear hk); (try clear hi)))
   go_ret
   exact ⟨by first | rfl | (simp [errW_none, errW_some] <;> rfl) | (simp [*, errW_none, errW_some] <;> rfl), by repeat (first | (with_reducible first | exact HB.out | apply below_alloc | apply pw_below_drewN | apply below_drew1 | refine below_set ?_ GE116.out | refine below_set ?_ GE130.out | refine below_set ?_ GE133.out | refine below_set ?_ GE136.out) | exact HB.out)⟩
 rw [if_neg c94] at H
 have c94b0 : decide (t109 < 0) = false := decide_eq_false c94
 clear c94
 by_cases c150 : t109 = t108
 rotate_left
 · rw [if_neg c150] at H
   have c150b0 : (t109 == t108) = false := beq_eq_false_iff_ne.mpr c150
   have c150b1 : (t109 != t108) = true := bne_iff_ne.mpr c150
   obtain rfl := Option.some.inj H
   have hnb228 := NB136_116.out
   have hnc228 := NB116_136.out
   have hnb229 := NB136_130.out
   have hnc229 := NB130_136.out
   have hnb230 := NB136_133.out
   have hnc230 := NB133_136.out
   have hcz231_0 : wc.cell? ⟨gb136, 0, none⟩ = some (.int .i64 t102) := (blk_cell BK136.out 0).trans rfl
   have hcz231_1 : wc.cell? ⟨gb136, 1, none⟩ = some (.slice Ao38 t123.length co38) := (blk_cell BK136.out 1).trans rfl
   have hfz231_0 := blk_frozen BK136.out 0
   have hfz231_1 := blk_frozen BK136.out 1
   go_wp2_with (first | ((with_reducible refine gate_callee (f := 23) rfl ?_); refine goesL_ (some 72) rfl rfl Try.func23 (by kernel_rfl) rfl #[.agg #[.int .i64 t102, .slice Ao38 t123.length co38], .int .i64 1] rfl (by (try simp only [List.map_toArray, List.map_cons, List.map_nil]); first | done | rfl | (simp only [List.length_drop, List.length_take]; rfl)) ?_; (with_reducible refine (laws_markNet.calls kj61 t102 (fun k_ => some k_ = (.slice Ao38 t123.length co38 : Value).ownBlock) (.slice Ao38 t123.length co38) t123 1 t108 t146 w _ ?side1 ?side2 A92.out).mono ?_); (case side1 => repeat (first | (with_reducible first | exact HB.out | apply below_alloc | apply pw_below_drewN | apply below_drew1 | refine below_set ?_ GE116.out | refine below_set ?_ GE130.out | refine below_set ?_ GE133.out | refine below_set ?_ GE136.out) | exact HB.out)); (case side2 => exact Kd.R_tight rfl HO_103001.out); rintro e w232 ⟨rfl, hy0, hb, hkp⟩; refine ⟨_, rfl, ?_⟩; have n0_ := Aside0.mk (Kd.R_mono (ok' := fun k_ => some k_ ≠ (.slice Ao31 t141.length co31 : Value).ownBlock ∧ some k_ ≠ (.slice Ao38 t123.length co38 : Value).ownBlock) (Kd.R_keptB (HO_101001.out) hkp (fun k_ hk_ hs_ => (hk_.2) hs_)) (fun k_ hk_ => ⟨hk_.1.1, hk_.1.2⟩)); have n1_ := Aside0.mk (Kd.R_mono (ok' := fun k_ => some k_ ≠ (.slice Ao24 t118.length co24 : Value).ownBlock ∧ some k_ ≠ (.slice Ao38 t123.length co38 : Value).ownBlock) (Kd.R_keptB (HO_102001.out) hkp (fun k_ hk_ hs_ => (hk_.2) hs_)) (fun k_ hk_ => ⟨hk_.1.1, hk_.1.2⟩)); have n2_ := Aside0.mk (Kd.R_reok rfl hy0 (fun k_ e_ => HO_103001.out.1 k_ e_)); have n3_ := Aside0.mk (blk_kept (by (with_reducible repeat (first | refine blk_drewN ?_ _ | refine blk_drew ?_ | refine blk_alloc ?_ _)); exact BK116.out) hkp (fun hs_ => (fun e_ => (Kd.R_ne HO_103001.out BK116.out (by decide)) e_) hs_)); have n4_ := Aside0.mk (blk_kept (by (with_reducible repeat (first | refine blk_drewN ?_ _ | refine blk_drew ?_ | refine blk_alloc ?_ _)); exact BK130.out) hkp (fun hs_ => (fun e_ => (Kd.R_ne HO_103001.out BK130.out (by decide)) e_) hs_)); have n5_ := Aside0.mk (blk_kept (by (with_reducible repeat (first | refine blk_drewN ?_ _ | refine blk_drew ?_ | refine blk_alloc ?_ _)); exact BK133.out) hkp (fun hs_ => (fun e_ => (Kd.R_ne HO_103001.out BK133.out (by decide)) e_) hs_)); have n6_ := Aside0.mk (blk_kept (by (with_reducible repeat (first | refine blk_drewN ?_ _ | refine blk_drew ?_ | refine blk_alloc ?_ _)); exact BK136.out) hkp (fun hs_ => (fun e_ => (Kd.R_ne HO_103001.out BK136.out (by decide)) e_) hs_)); have n7_ := Aside0.mk (hb); clear HO_101001; clear HO_102001; clear HO_103001; clear BK116; clear BK130; clear BK133; clear BK136; clear HB; have HO_101001 := n0_; have HO_102001 := n1_; have HO_103001 := n2_; have BK116 := n3_; have BK130 := n4_; have BK133 := n5_; have BK136 := n6_; have HB := n7_; clear n0_ n1_ n2_ n3_ n4_ n5_ n6_ n7_; (try clear hb); (try clear hkp); (try clear hy0); have hcz233_0 : w232.cell? ⟨gb136, 0, none⟩ = some (.int .i64 t102) := (blk_cell BK136.out 0).trans rfl; have hcz233_1 : w232.cell? ⟨gb136, 1, none⟩ = some (.slice Ao38 t123.length co38) := (blk_cell BK136.out 1).trans rfl; have hfz233_0 := blk_frozen BK136.out 0; have hfz233_1 := blk_frozen BK136.out 1) | ((with_reducible refine gate_callee (f := 24) rfl ?_); refine goesL_ (some 75) rfl rfl Try.func24 (by kernel_rfl) rfl #[.agg #[.int .i64 t102, .slice Ao38 t146.length co38], .int .i64 1] rfl (by (try simp only [List.map_toArray, List.map_cons, List.map_nil]); first | done | (rw [show t146.length = t123.length from (Kd.R_reads' HO_103001.out).1.symm] <;> rfl) | rfl | (simp only [List.length_drop, List.length_take]; rfl)) ?_; (with_reducible refine (laws_heldNet.calls kj61 t102 _ _ t146 1 t109 _ ?side1 ?side2 A93.out).mono ?_); (case side1 => repeat (first | exact (Kd.R_reads' HO_103001.out).2.2 | (with_reducible refine Kd.C_alloc ?_ _) | (with_reducible refine Kd.C_drewN ?_ _) | (with_reducible refine Kd.C_drew ?_))); (case side2 => rw [show t146.length = t123.length from (Kd.R_reads' HO_103001.out).1.symm]; exact (Kd.R_reads' HO_103001.out).2.1); rintro e w234 ⟨rfl, hb⟩; refine ⟨_, rfl, ?_⟩; have n0_ := Aside0.mk (Kd.R_below (by (with_reducible repeat (first | apply Kd.R_alloc | apply Kd.R_drewN | apply Kd.R_drew)); exact HO_101001.out) hb); have n1_ := Aside0.mk (Kd.R_below (by (with_reducible repeat (first | apply Kd.R_alloc | apply Kd.R_drewN | apply Kd.R_drew)); exact HO_102001.out) hb); have n2_ := Aside0.mk (Kd.R_below (by (with_reducible repeat (first | apply Kd.R_alloc | apply Kd.R_drewN | apply Kd.R_drew)); exact HO_103001.out) hb); have n3_ := Aside0.mk (blk_below (g := gb116) (o := .cells #[.int .i64 a0_0, .slice A0_1 l0_1.length c0_1] 25 (0, 0)) (by (with_reducible repeat (first | refine blk_drewN ?_ _ | refine blk_drew ?_ | refine blk_alloc ?_ _)); exact BK116.out) hb); have n4_ := Aside0.mk (blk_below (g := gb130) (o := .cells #[.int .i64 t115, .slice Ao24 t118.length co24] 30 (0, 0)) (by (with_reducible repeat (first | refine blk_drewN ?_ _ | refine blk_drew ?_ | refine blk_alloc ?_ _)); exact BK130.out) hb); have n5_ := Aside0.mk (blk_below (g := gb133) (o := .cells #[.int .i64 t101, .slice Ao31 t141.length co31] 30 (0, 0)) (by (with_reducible repeat (first | refine blk_drewN ?_ _ | refine blk_drew ?_ | refine blk_alloc ?_ _)); exact BK133.out) hb); have n6_ := Aside0.mk (blk_below (g := gb136) (o := .cells #[.int .i64 t102, .slice Ao38 t123.length co38] 30 (0, 0)) (by (with_reducible repeat (first | refine blk_drewN ?_ _ | refine blk_drew ?_ | refine blk_alloc ?_ _)); exact BK136.out) hb); have n7_ := Aside0.mk (below_step (by repeat (first | (with_reducible first | exact HB.out | apply below_alloc | apply pw_below_drewN | apply below_drew1 | refine below_set ?_ GE116.out | refine below_set ?_ GE130.out | refine below_set ?_ GE133.out | refine below_set ?_ GE136.out) | exact HB.out)) hb); clear HO_101001; clear HO_102001; clear HO_103001; clear BK116; clear BK130; clear BK133; clear BK136; clear HB; have HO_101001 := n0_; have HO_102001 := n1_; have HO_103001 := n2_; have BK116 := n3_; have BK130 := n4_; have BK133 := n5_; have BK136 := n6_; have HB := n7_; clear n0_ n1_ n2_ n3_ n4_ n5_ n6_ n7_; (try clear hb); (try clear hb2); (try clear hk); (try clear hi)))
   go_ret
   exact ⟨by first | rfl | (simp [errW_none, errW_some] <;> rfl) | (simp [*, errW_none, errW_some] <;> rfl), by repeat (first | (with_reducible first | exact HB.out | apply below_alloc | apply pw_below_drewN | apply below_drew1 | refine below_set ?_ GE116.out | refine below_set ?_ GE130.out | refine below_set ?_ GE133.out | refine below_set ?_ GE136.out) | exact HB.out)⟩
 rw [if_pos c150] at H
 have c150b0 : (t109 == t108) = true := beq_iff_eq.mpr c150
 have c150b1 : (t109 != t108) = false := bne_eq_false_iff_eq.mpr c150
 clear c150
 replace H := Option.bind_eq_some_iff.mp H
 obtain ⟨⟨t110, t151⟩, A152, H⟩ := H
 replace H : ((impl_NetCut.f kj61 t110 t151 a1 a2).bind fun bt111 => ((laws_eqNet.f kj61 bt111.1 bt111.2.1 t115 t118).bind fun t112 => (if t112 = true then (laws_FnExactNetCut.j2 kj61 t108 (bt111.2.2 != t119) t102 t146) else (laws_FnExactNetCut.j2 kj61 t108 true t102 t146)))) = some r := H
 have A153 := Aside0.mk A152
 clear A152
 replace H := Option.bind_eq_some_iff.mp H
 obtain ⟨⟨t111, t154, t155⟩, A156, H⟩ := H
 replace H : ((laws_eqNet.f kj61 t111 t154 t115 t118).bind fun t112 => (if t112 = true then (laws_FnExactNetCut.j2 kj61 t108 (t155 != t119) t102 t146) else (laws_FnExactNetCut.j2 kj61 t108 true t102 t146))) = some r := H
 have A157 := Aside0.mk A156
 clear A156
 have HC158 := Aside0.mk H
 clear H
 have hnb159 := NB136_116.out
 have hnc159 := NB116_136.out
 have hnb160 := NB136_130.out
 have hnc160 := NB130_136.out
 have hnb161 := NB136_133.out
 have hnc161 := NB133_136.out
 have hcz162_0 : wc.cell? ⟨gb136, 0, none⟩ = some (.int .i64 t102) := (blk_cell BK136.out 0).trans rfl
 have hcz162_1 : wc.cell? ⟨gb136, 1, none⟩ = some (.slice Ao38 t123.length co38) := (blk_cell BK136.out 1).trans rfl
 have hfz162_0 := blk_frozen BK136.out 0
 have hfz162_1 := blk_frozen BK136.out 1
 go_upto_region 25 with (first | ((with_reducible refine gate_callee (f := 23) rfl ?_); refine goesL_ (some 72) rfl rfl Try.func23 (by kernel_rfl) rfl #[.agg #[.int .i64 t102, .slice Ao38 t123.length co38], .int .i64 1] rfl (by (try simp only [List.map_toArray, List.map_cons, List.map_nil]); first | done | rfl | (simp only [List.length_drop, List.length_take]; rfl)) ?_; (with_reducible refine (laws_markNet.calls kj61 t102 (fun k_ => some k_ = (.slice Ao38 t123.length co38 : Value).ownBlock) (.slice Ao38 t123.length co38) t123 1 t108 t146 w _ ?side1 ?side2 A92.out).mono ?_); (case side1 => repeat (first | (with_reducible first | exact HB.out | apply below_alloc | apply pw_below_drewN | apply below_drew1 | refine below_set ?_ GE116.out | refine below_set ?_ GE130.out | refine below_set ?_ GE133.out | refine below_set ?_ GE136.out) | exact HB.out)); (case side2 => exact Kd.R_tight rfl HO_103001.out); rintro e w122 ⟨rfl, hy0, hb, hkp⟩; refine ⟨_, rfl, ?_⟩; have n0_ := Aside0.mk (Kd.R_mono (ok' := fun k_ => some k_ ≠ (.slice Ao31 t141.length co31 : Value).ownBlock ∧ some k_ ≠ (.slice Ao38 t123.length co38 : Value).ownBlock) (Kd.R_keptB (HO_101001.out) hkp (fun k_ hk_ hs_ => (hk_.2) hs_)) (fun k_ hk_ => ⟨hk_.1.1, hk_.1.2⟩)); have n1_ := Aside0.mk (Kd.R_mono (ok' := fun k_ => some k_ ≠ (.slice Ao24 t118.length co24 : Value).ownBlock ∧ some k_ ≠ (.slice Ao38 t123.length co38 : Value).ownBlock) (Kd.R_keptB (HO_102001.out) hkp (fun k_ hk_ hs_ => (hk_.2) hs_)) (fun k_ hk_ => ⟨hk_.1.1, hk_.1.2⟩)); have n2_ := Aside0.mk (Kd.R_reok rfl hy0 (fun k_ e_ => HO_103001.out.1 k_ e_)); have n3_ := Aside0.mk (blk_kept (by (with_reducible repeat (first | refine blk_drewN ?_ _ | refine blk_drew ?_ | refine blk_alloc ?_ _)); exact BK116.out) hkp (fun hs_ => (fun e_ => (Kd.R_ne HO_103001.out BK116.out (by decide)) e_) hs_)); have n4_ := Aside0.mk (blk_kept (by (with_reducible repeat (first | refine blk_drewN ?_ _ | refine blk_drew ?_ | refine blk_alloc ?_ _)); exact BK130.out) hkp (fun hs_ => (fun e_ => (Kd.R_ne HO_103001.out BK130.out (by decide)) e_) hs_)); have n5_ := Aside0.mk (blk_kept (by (with_reducible repeat (first | refine blk_drewN ?_ _ | refine blk_drew ?_ | refine blk_alloc ?_ _)); exact BK133.out) hkp (fun hs_ => (fun e_ => (Kd.R_ne HO_103001.out BK133.out (by decide)) e_) hs_)); have n6_ := Aside0.mk (blk_kept (by (with_reducible repeat (first | refine blk_drewN ?_ _ | refine blk_drew ?_ | refine blk_alloc ?_ _)); exact BK136.out) hkp (fun hs_ => (fun e_ => (Kd.R_ne HO_103001.out BK136.out (by decide)) e_) hs_)); have n7_ := Aside0.mk (hb); clear HO_101001; clear HO_102001; clear HO_103001; clear BK116; clear BK130; clear BK133; clear BK136; clear HB; have HO_101001 := n0_; have HO_102001 := n1_; have HO_103001 := n2_; have BK116 := n3_; have BK130 := n4_; have BK133 := n5_; have BK136 := n6_; have HB := n7_; clear n0_ n1_ n2_ n3_ n4_ n5_ n6_ n7_; (try clear hb); (try clear hkp); (try clear hy0); have hcz163_0 : w122.cell? ⟨gb136, 0, none⟩ = some (.int .i64 t102) := (blk_cell BK136.out 0).trans rfl; have hcz163_1 : w122.cell? ⟨gb136, 1, none⟩ = some (.slice Ao38 t123.length co38) := (blk_cell BK136.out 1).trans rfl; have hfz163_0 := blk_frozen BK136.out 0; have hfz163_1 := blk_frozen BK136.out 1) | ((with_reducible refine gate_callee (f := 24) rfl ?_); refine goesL_ (some 75) rfl rfl Try.func24 (by kernel_rfl) rfl #[.agg #[.int .i64 t102, .slice Ao38 t146.length co38], .int .i64 1] rfl (by (try simp only [List.map_toArray, List.map_cons, List.map_nil]); first | done | (rw [show t146.length = t123.length from (Kd.R_reads' HO_103001.out).1.symm] <;> rfl) | rfl | (simp only [List.length_drop, List.length_take]; rfl)) ?_; (with_reducible refine (laws_heldNet.calls kj61 t102 _ _ t146 1 t109 _ ?side1 ?side2 A93.out).mono ?_); (case side1 => repeat (first | exact (Kd.R_reads' HO_103001.out).2.2 | (with_reducible refine Kd.C_alloc ?_ _) | (with_reducible refine Kd.C_drewN ?_ _) | (with_reducible refine Kd.C_drew ?_))); (case side2 => rw [show t146.length = t123.length from (Kd.R_reads' HO_103001.out).1.symm]; exact (Kd.R_reads' HO_103001.out).2.1); rintro e w164 ⟨rfl, hb⟩; refine ⟨_, rfl, ?_⟩; have n0_ := Aside0.mk (Kd.R_below (by (with_reducible repeat (first | apply Kd.R_alloc | apply Kd.R_drewN | apply Kd.R_drew)); exact HO_101001.out) hb); have n1_ := Aside0.mk (Kd.R_below (by (with_reducible repeat (first | apply Kd.R_alloc | apply Kd.R_drewN | apply Kd.R_drew)); exact HO_102001.out) hb); have n2_ := Aside0.mk (Kd.R_below (by (with_reducible repeat (first | apply Kd.R_alloc | apply Kd.R_drewN | apply Kd.R_drew)); exact HO_103001.out) hb); have n3_ := Aside0.mk (blk_below (g := gb116) (o := .cells #[.int .i64 a0_0, .slice A0_1 l0_1.length c0_1] 25 (0, 0)) (by (with_reducible repeat (first | refine blk_drewN ?_ _ | refine blk_drew ?_ | refine blk_alloc ?_ _)); exact BK116.out) hb); have n4_ := Aside0.mk (blk_below (g := gb130) (o := .cells #[.int .i64 t115, .slice Ao24 t118.length co24] 30 (0, 0)) (by (with_reducible repeat (first | refine blk_drewN ?_ _ | refine blk_drew ?_ | refine blk_alloc ?_ _)); exact BK130.out) hb); have n5_ := Aside0.mk (blk_below (g := gb133) (o := .cells #[.int .i64 t101, .slice Ao31 t141.length co31] 30 (0, 0)) (by (with_reducible repeat (first | refine blk_drewN ?_ _ | refine blk_drew ?_ | refine blk_alloc ?_ _)); exact BK133.out) hb); have n6_ := Aside0.mk (blk_below (g := gb136) (o := .cells #[.int .i64 t102, .slice Ao38 t123.length co38] 30 (0, 0)) (by (with_reducible repeat (first | refine blk_drewN ?_ _ | refine blk_drew ?_ | refine blk_alloc ?_ _)); exact BK136.out) hb); have n7_ := Aside0.mk (below_step (by repeat (first | (with_reducible first | exact HB.out | apply below_alloc | apply pw_below_drewN | apply below_drew1 | refine below_set ?_ GE116.out | refine below_set ?_ GE130.out | refine below_set ?_ GE133.out | refine below_set ?_ GE136.out) | exact HB.out)) hb); clear HO_101001; clear HO_102001; clear HO_103001; clear BK116; clear BK130; clear BK133; clear BK136; clear HB; have HO_101001 := n0_; have HO_102001 := n1_; have HO_103001 := n2_; have BK116 := n3_; have BK130 := n4_; have BK133 := n5_; have BK136 := n6_; have HB := n7_; clear n0_ n1_ n2_ n3_ n4_ n5_ n6_ n7_; (try clear hb); (try clear hb2); (try clear hk); (try clear hi); have hnb165 := NB116_130.out; have hnc165 := NB130_116.out; have hnb166 := NB116_133.out; have hnc166 := NB133_116.out; have hcz167_0 : w164.cell? ⟨gb116, 0, none⟩ = some (.int .i64 a0_0) := (blk_cell BK116.out 0).trans rfl; have hcz167_1 : w164.cell? ⟨gb116, 1, none⟩ = some (.slice A0_1 l0_1.length c0_1) := (blk_cell BK116.out 1).trans rfl; have hfz167_0 := blk_frozen BK116.out 0; have hfz167_1 := blk_frozen BK116.out 1) | ((with_reducible refine gate_callee (f := 16) rfl ?_); refine goesL_ (some 83) rfl rfl Try.func16 (by kernel_rfl) rfl #[.agg #[.int .i64 a0_0, .slice A0_1 l0_1.length c0_1]] rfl (by (try simp only [List.map_toArray, List.map_cons, List.map_nil]); first | done | rfl | (simp only [List.length_drop, List.length_take]; rfl)) ?_; (with_reducible refine (laws_toNet.calls kj61 a0_0 _ _ l0_1 t110 t151 _ ?side1 ?side2 A153.out).mono ?_); (case side1 => repeat (first | exact (Kd.C_below HR0_1.out HB.out) | (with_reducible refine Kd.C_alloc ?_ _) | (with_reducible refine Kd.C_drewN ?_ _) | (with_reducible refine Kd.C_drew ?_))); (case side2 => exact HC0_1.out); rintro e w168 ⟨v169, rfl, ho0, hb⟩; refine ⟨_, rfl, ?_⟩; have n0_ := Aside0.mk (Kd.R_elder' (by (with_reducible repeat (first | apply Kd.R_alloc | apply Kd.R_drewN | apply Kd.R_drew)); exact HO_101001.out) (Kd.R_base ho0) hb); have n1_ := Aside0.mk (Kd.R_elder' (by (with_reducible repeat (first | apply Kd.R_alloc | apply Kd.R_drewN | apply Kd.R_drew)); exact HO_102001.out) (Kd.R_base ho0) hb); have n2_ := Aside0.mk (Kd.R_elder' (by (with_reducible repeat (first | apply Kd.R_alloc | apply Kd.R_drewN | apply Kd.R_drew)); exact HO_103001.out) (Kd.R_base ho0) hb); have n3_ := Aside0.mk (Kd.R_lower (Kd.R_new' (Kd.R_new' (Kd.R_new' ho0 (Kd.R_lt (by (with_reducible repeat (first | apply Kd.R_alloc | apply Kd.R_drewN | apply Kd.R_drew)); exact HO_101001.out))) (Kd.R_lt (by (with_reducible repeat (first | apply Kd.R_alloc | apply Kd.R_drewN | apply Kd.R_drew)); exact HO_102001.out))) (Kd.R_lt (by (with_reducible repeat (first | apply Kd.R_alloc | apply Kd.R_drewN | apply Kd.R_drew)); exact HO_103001.out))) (below_size (by repeat (first | (with_reducible first | exact HB.out | apply below_alloc | apply pw_below_drewN | apply below_drew1 | refine below_set ?_ GE116.out | refine below_set ?_ GE130.out | refine below_set ?_ GE133.out | refine below_set ?_ GE136.out) | exact HB.out)))); have n4_ := Aside0.mk (blk_below (g := gb116) (o := .cells #[.int .i64 a0_0, .slice A0_1 l0_1.length c0_1] 25 (0, 0)) (by (with_reducible repeat (first | refine blk_drewN ?_ _ | refine blk_drew ?_ | refine blk_alloc ?_ _)); exact BK116.out) hb); have n5_ := Aside0.mk (blk_below (g := gb130) (o := .cells #[.int .i64 t115, .slice Ao24 t118.length co24] 30 (0, 0)) (by (with_reducible repeat (first | refine blk_drewN ?_ _ | refine blk_drew ?_ | refine blk_alloc ?_ _)); exact BK130.out) hb); have n6_ := Aside0.mk (blk_below (g := gb133) (o := .cells #[.int .i64 t101, .slice Ao31 t141.length co31] 30 (0, 0)) (by (with_reducible repeat (first | refine blk_drewN ?_ _ | refine blk_drew ?_ | refine blk_alloc ?_ _)); exact BK133.out) hb); have n7_ := Aside0.mk (blk_below (g := gb136) (o := .cells #[.int .i64 t102, .slice Ao38 t123.length co38] 30 (0, 0)) (by (with_reducible repeat (first | refine blk_drewN ?_ _ | refine blk_drew ?_ | refine blk_alloc ?_ _)); exact BK136.out) hb); have n8_ := Aside0.mk (below_step (by repeat (first | (with_reducible first | exact HB.out | apply below_alloc | apply pw_below_drewN | apply below_drew1 | refine below_set ?_ GE116.out | refine below_set ?_ GE130.out | refine below_set ?_ GE133.out | refine below_set ?_ GE136.out) | exact HB.out)) hb); clear HO_101001; clear HO_102001; clear HO_103001; clear BK116; clear BK130; clear BK133; clear BK136; clear HB; have HO_101001 := n0_; have HO_102001 := n1_; have HO_103001 := n2_; have HO170 := n3_; have BK116 := n4_; have BK130 := n5_; have BK133 := n6_; have BK136 := n7_; have HB := n8_; clear n0_ n1_ n2_ n3_ n4_ n5_ n6_ n7_ n8_; (try clear hb); (try clear hb2); (try clear hk); (try clear hi); (try clear ho0); obtain ⟨Ao171, co171, eo171⟩ := Kd.R_slice HO170.out; subst eo171) | ((with_reducible refine gate_callee (f := 30) rfl ?_); refine goesL_ (some 86) rfl rfl Try.func30 (by kernel_rfl) rfl #[.agg #[.int .i64 t110, .slice Ao171 t151.length co171], .int .i64 a1, .int .i64 a2] rfl (by (try simp only [List.map_toArray, List.map_cons, List.map_nil]); first | done | rfl | (simp only [List.length_drop, List.length_take]; rfl)) ?_; (with_reducible refine (impl_NetCut.calls kj61 t110 _ _ t151 a1 a2 t111 t154 t155 _ ?side1 ?side2 A157.out).mono ?_); (case side1 => repeat (first | exact (Kd.R_reads' HO170.out).2.2 | (with_reducible refine Kd.C_alloc ?_ _) | (with_reducible refine Kd.C_drewN ?_ _) | (with_reducible refine Kd.C_drew ?_))); (case side2 => exact (Kd.R_reads' HO170.out).2.1); rintro e w172 ⟨v173, rfl, ho0, hb⟩; refine ⟨_, rfl, ?_⟩; have n0_ := Aside0.mk (Kd.R_elder' (by (with_reducible repeat (first | apply Kd.R_alloc | apply Kd.R_drewN | apply Kd.R_drew)); exact HO_101001.out) (Kd.R_base ho0) hb); have n1_ := Aside0.mk (Kd.R_elder' (by (with_reducible repeat (first | apply Kd.R_alloc | apply Kd.R_drewN | apply Kd.R_drew)); exact HO_102001.out) (Kd.R_base ho0) hb); have n2_ := Aside0.mk (Kd.R_elder' (by (with_reducible repeat (first | apply Kd.R_alloc | apply Kd.R_drewN | apply Kd.R_drew)); exact HO_103001.out) (Kd.R_base ho0) hb); have n3_ := Aside0.mk (Kd.R_elder' (by (with_reducible repeat (first | apply Kd.R_alloc | apply Kd.R_drewN | apply Kd.R_drew)); exact HO170.out) (Kd.R_base ho0) hb); have n4_ := Aside0.mk (Kd.R_lower (Kd.R_new' (Kd.R_new' (Kd.R_new' (Kd.R_new' ho0 (Kd.R_lt (by (with_reducible repeat (first | apply Kd.R_alloc | apply Kd.R_drewN | apply Kd.R_drew)); exact HO_101001.out))) (Kd.R_lt (by (with_reducible repeat (first | apply Kd.R_alloc | apply Kd.R_drewN | apply Kd.R_drew)); exact HO_102001.out))) (Kd.R_lt (by (with_reducible repeat (first | apply Kd.R_alloc | apply Kd.R_drewN | apply Kd.R_drew)); exact HO_103001.out))) (Kd.R_lt (by (with_reducible repeat (first | apply Kd.R_alloc | apply Kd.R_drewN | apply Kd.R_drew)); exact HO170.out))) (below_size (by repeat (first | (with_reducible first | exact HB.out | apply below_alloc | apply pw_below_drewN | apply below_drew1 | refine below_set ?_ GE116.out | refine below_set ?_ GE130.out | refine below_set ?_ GE133.out | refine below_set ?_ GE136.out) | exact HB.out)))); have n5_ := Aside0.mk (blk_below (g := gb116) (o := .cells #[.int .i64 a0_0, .slice A0_1 l0_1.length c0_1] 25 (0, 0)) (by (with_reducible repeat (first | refine blk_drewN ?_ _ | refine blk_drew ?_ | refine blk_alloc ?_ _)); exact BK116.out) hb); have n6_ := Aside0.mk (blk_below (g := gb130) (o := .cells #[.int .i64 t115, .slice Ao24 t118.length co24] 30 (0, 0)) (by (with_reducible repeat (first | refine blk_drewN ?_ _ | refine blk_drew ?_ | refine blk_alloc ?_ _)); exact BK130.out) hb); have n7_ := Aside0.mk (blk_below (g := gb133) (o := .cells #[.int .i64 t101, .slice Ao31 t141.length co31] 30 (0, 0)) (by (with_reducible repeat (first | refine blk_drewN ?_ _ | refine blk_drew ?_ | refine blk_alloc ?_ _)); exact BK133.out) hb); have n8_ := Aside0.mk (blk_below (g := gb136) (o := .cells #[.int .i64 t102, .slice Ao38 t123.length co38] 30 (0, 0)) (by (with_reducible repeat (first | refine blk_drewN ?_ _ | refine blk_drew ?_ | refine blk_alloc ?_ _)); exact BK136.out) hb); have n9_ := Aside0.mk (below_step (by repeat (first | (with_reducible first | exact HB.out | apply below_alloc | apply pw_below_drewN | apply below_drew1 | refine below_set ?_ GE116.out | refine below_set ?_ GE130.out | refine below_set ?_ GE133.out | refine below_set ?_ GE136.out) | exact HB.out)) hb); clear HO_101001; clear HO_102001; clear HO_103001; clear HO170; clear BK116; clear BK130; clear BK133; clear BK136; clear HB; have HO_101001 := n0_; have HO_102001 := n1_; have HO_103001 := n2_; have HO170 := n3_; have HO174 := n4_; have BK116 := n5_; have BK130 := n6_; have BK133 := n7_; have BK136 := n8_; have HB := n9_; clear n0_ n1_ n2_ n3_ n4_ n5_ n6_ n7_ n8_ n9_; (try clear hb); (try clear hb2); (try clear hk); (try clear hi); (try clear ho0)) | ((with_reducible refine gate_dst (N := 16) rfl ?_); refine box_event ?hg (N := 16) ?hd (cs := #[.int .i64 0, .slice none 0 0]) (t := 30) ?hr ?_; (case hd => rfl); (case hg => rfl); (case hr => first | (go_simp; done) | (go_simp; rfl)); intro gb175 hg w176 hbox hb; have n0_ := Aside0.mk (Kd.R_below (by (with_reducible repeat (first | apply Kd.R_alloc | apply Kd.R_drewN | apply Kd.R_drew)); exact HO_101001.out) hb); have n1_ := Aside0.mk (Kd.R_below (by (with_reducible repeat (first | apply Kd.R_alloc | apply Kd.R_drewN | apply Kd.R_drew)); exact HO_102001.out) hb); have n2_ := Aside0.mk (Kd.R_below (by (with_reducible repeat (first | apply Kd.R_alloc | apply Kd.R_drewN | apply Kd.R_drew)); exact HO_103001.out) hb); have n3_ := Aside0.mk (Kd.R_below (by (with_reducible repeat (first | apply Kd.R_alloc | apply Kd.R_drewN | apply Kd.R_drew)); exact HO170.out) hb); have n4_ := Aside0.mk (Kd.R_below (by (with_reducible repeat (first | apply Kd.R_alloc | apply Kd.R_drewN | apply Kd.R_drew)); exact HO174.out) hb); have n5_ := Aside0.mk (blk_below (g := gb116) (o := .cells #[.int .i64 a0_0, .slice A0_1 l0_1.length c0_1] 25 (0, 0)) (by (with_reducible repeat (first | refine blk_drewN ?_ _ | refine blk_drew ?_ | refine blk_alloc ?_ _)); exact BK116.out) hb); have n6_ := Aside0.mk (blk_below (g := gb130) (o := .cells #[.int .i64 t115, .slice Ao24 t118.length co24] 30 (0, 0)) (by (with_reducible repeat (first | refine blk_drewN ?_ _ | refine blk_drew ?_ | refine blk_alloc ?_ _)); exact BK130.out) hb); have n7_ := Aside0.mk (blk_below (g := gb133) (o := .cells #[.int .i64 t101, .slice Ao31 t141.length co31] 30 (0, 0)) (by (with_reducible repeat (first | refine blk_drewN ?_ _ | refine blk_drew ?_ | refine blk_alloc ?_ _)); exact BK133.out) hb); have n8_ := Aside0.mk (blk_below (g := gb136) (o := .cells #[.int .i64 t102, .slice Ao38 t123.length co38] 30 (0, 0)) (by (with_reducible repeat (first | refine blk_drewN ?_ _ | refine blk_drew ?_ | refine blk_alloc ?_ _)); exact BK136.out) hb); have n9_ := Aside0.mk (below_step (by repeat (first | (with_reducible first | exact HB.out | apply below_alloc | apply pw_below_drewN | apply below_drew1 | refine below_set ?_ GE116.out | refine below_set ?_ GE130.out | refine below_set ?_ GE133.out | refine below_set ?_ GE136.out) | exact HB.out)) hb); have n10_ := Aside0.mk (hbox); have n11_ := Aside0.mk ((by rw [hg]; exact (below_size (by repeat (first | (with_reducible first | exact HB.out | apply below_alloc | apply pw_below_drewN | apply below_drew1 | refine below_set ?_ GE116.out | refine below_set ?_ GE130.out | refine below_set ?_ GE133.out | refine below_set ?_ GE136.out) | exact HB.out))) : w.heap.size ≤ gb175)); have n12_ := Aside0.mk ((by rw [hg]; exact (below_size (by repeat (first | (with_reducible first | exact HB.out | apply below_alloc | apply pw_below_drewN | apply below_drew1 | refine below_set ?_ GE116.out | refine below_set ?_ GE130.out | refine below_set ?_ GE133.out | refine below_set ?_ GE136.out) | exact HB.out))) : w.heap.size ≤ gb175)); have n13_ := Aside0.mk ((by rw [hg]; exact Nat.ne_of_lt (blk_lt (g := gb116) (o := .cells #[.int .i64 a0_0, .slice A0_1 l0_1.length c0_1] 25 (0, 0)) (by (with_reducible repeat (first | refine blk_drewN ?_ _ | refine blk_drew ?_ | refine blk_alloc ?_ _)); exact BK116.out)) : gb116 ≠ gb175)); have n14_ := Aside0.mk ((by rw [hg]; exact Nat.ne_of_gt (blk_lt (g := gb116) (o := .cells #[.int .i64 a0_0, .slice A0_1 l0_1.length c0_1] 25 (0, 0)) (by (with_reducible repeat (first | refine blk_drewN ?_ _ | refine blk_drew ?_ | refine blk_alloc ?_ _)); exact BK116.out)) : gb175 ≠ gb116)); have n15_ := Aside0.mk ((by rw [hg]; exact Nat.ne_of_lt (blk_lt (g := gb130) (o := .cells #[.int .i64 t115, .slice Ao24 t118.length co24] 30 (0, 0)) (by (with_reducible repeat (first | refine blk_drewN ?_ _ | refine blk_drew ?_ | refine blk_alloc ?_ _)); exact BK130.out)) : gb130 ≠ gb175)); have n16_ := Aside0.mk ((by rw [hg]; exact Nat.ne_of_gt (blk_lt (g := gb130) (o := .cells #[.int .i64 t115, .slice Ao24 t118.length co24] 30 (0, 0)) (by (with_reducible repeat (first | refine blk_drewN ?_ _ | refine blk_drew ?_ | refine blk_alloc ?_ _)); exact BK130.out)) : gb175 ≠ gb130)); have n17_ := Aside0.mk ((by rw [hg]; exact Nat.ne_of_lt (blk_lt (g := gb133) (o := .cells #[.int .i64 t101, .slice Ao31 t141.length co31] 30 (0, 0)) (by (with_reducible repeat (first | refine blk_drewN ?_ _ | refine blk_drew ?_ | refine blk_alloc ?_ _)); exact BK133.out)) : gb133 ≠ gb175)); have n18_ := Aside0.mk ((by rw [hg]; exact Nat.ne_of_gt (blk_lt (g := gb133) (o := .cells #[.int .i64 t101, .slice Ao31 t141.length co31] 30 (0, 0)) (by (with_reducible repeat (first | refine blk_drewN ?_ _ | refine blk_drew ?_ | refine blk_alloc ?_ _)); exact BK133.out)) : gb175 ≠ gb133)); have n19_ := Aside0.mk ((by rw [hg]; exact Nat.ne_of_lt (blk_lt (g := gb136) (o := .cells #[.int .i64 t102, .slice Ao38 t123.length co38] 30 (0, 0)) (by (with_reducible repeat (first | refine blk_drewN ?_ _ | refine blk_drew ?_ | refine blk_alloc ?_ _)); exact BK136.out)) : gb136 ≠ gb175)); have n20_ := Aside0.mk ((by rw [hg]; exact Nat.ne_of_gt (blk_lt (g := gb136) (o := .cells #[.int .i64 t102, .slice Ao38 t123.length co38] 30 (0, 0)) (by (with_reducible repeat (first | refine blk_drewN ?_ _ | refine blk_drew ?_ | refine blk_alloc ?_ _)); exact BK136.out)) : gb175 ≠ gb136)); clear HO_101001; clear HO_102001; clear HO_103001; clear HO170; clear HO174; clear BK116; clear BK130; clear BK133; clear BK136; clear HB; have HO_101001 := n0_; have HO_102001 := n1_; have HO_103001 := n2_; have HO170 := n3_; have HO174 := n4_; have BK116 := n5_; have BK130 := n6_; have BK133 := n7_; have BK136 := n8_; have HB := n9_; have BK175 := n10_; have GW175 := n11_; have GE175 := n12_; have NB116_175 := n13_; have NB175_116 := n14_; have NB130_175 := n15_; have NB175_130 := n16_; have NB133_175 := n17_; have NB175_133 := n18_; have NB136_175 := n19_; have NB175_136 := n20_; clear n0_ n1_ n2_ n3_ n4_ n5_ n6_ n7_ n8_ n9_ n10_ n11_ n12_ n13_ n14_ n15_ n16_ n17_ n18_ n19_ n20_; clear hb hbox hg; have hnb125 := NB175_116.out; have hnc125 := NB116_175.out; have hnb177 := NB175_130.out; have hnc177 := NB130_175.out; have hnb178 := NB175_133.out; have hnc178 := NB133_175.out; have hnb179 := NB175_136.out; have hnc179 := NB136_175.out; have hcz180_0 : w176.cell? ⟨gb175, 0, none⟩ = some (.int .i64 0) := (blk_cell BK175.out 0).trans rfl; have hcz180_1 : w176.cell? ⟨gb175, 1, none⟩ = some (.slice none 0 0) := (blk_cell BK175.out 1).trans rfl; have hfz180_0 := blk_frozen BK175.out 0; have hfz180_1 := blk_frozen BK175.out 1; obtain ⟨Ao181, co181, eo181⟩ := Kd.R_slice HO174.out; subst eo181))
 (try simp only [Act.put, List.setIfInBounds_toArray, List.set_cons_zero, List.set_cons_succ])
 go_cut [97] (fun v97 wc => ∃ (kq : Nat) (x97_157 : Bool), v97 = .bool x97_157 ∧ Aside0 (laws_FnExactNetCut.j2 kq t108 x97_157 t102 t146 = some r) ∧ Aside0 (kq ≤ kj61) ∧ Aside0 (Kd.R kTie 54 wc w.heap.size (fun k_ => some k_ ≠ ((.slice Ao31 t141.length co31) : Value).ownBlock ∧ some k_ ≠ ((.slice Ao38 t123.length co38) : Value).ownBlock ∧ some k_ ≠ ((.slice Ao181 t154.length co181) : Value).ownBlock) (.slice Ao24 t118.length co24) t118) ∧ Aside0 (Kd.R kTie 54 wc w.heap.size (fun k_ => some k_ ≠ ((.slice Ao24 t118.length co24) : Value).ownBlock ∧ some k_ ≠ ((.slice Ao38 t123.length co38) : Value).ownBlock ∧ some k_ ≠ ((.slice Ao181 t154.length co181) : Value).ownBlock) (.slice Ao31 t141.length co31) t141) ∧ Aside0 (Kd.R kTie 54 wc w.heap.size (fun k_ => some k_ ≠ ((.slice Ao24 t118.length co24) : Value).ownBlock ∧ some k_ ≠ ((.slice Ao31 t141.length co31) : Value).ownBlock ∧ some k_ ≠ ((.slice Ao181 t154.length co181) : Value).ownBlock) (.slice Ao38 t123.length co38) t146) ∧ Aside0 (Kd.R kTie 54 wc w.heap.size (fun k_ => some k_ ≠ ((.slice Ao24 t118.length co24) : Value).ownBlock ∧ some k_ ≠ ((.slice Ao31 t141.length co31) : Value).ownBlock ∧ some k_ ≠ ((.slice Ao38 t123.length co38) : Value).ownBlock) (.slice Ao181 t154.length co181) t154) ∧ Aside0 (wc.heap[gb116]? = some (.cells #[.int .i64 a0_0, (.slice A0_1 l0_1.length c0_1)] 25 (0, 0))) ∧ Aside0 (wc.heap[gb130]? = some (.cells #[.int .i64 t115, (.slice Ao24 t118.length co24)] 30 (0, 0))) ∧ Aside0 (wc.heap[gb133]? = some (.cells #[.int .i64 t101, (.slice Ao31 t141.length co31)] 30 (0, 0))) ∧ Aside0 (wc.heap[gb136]? = some (.cells #[.int .i64 t102, (.slice Ao38 t123.length co38)] 30 (0, 0))) ∧ Aside0 (wc.heap[gb175]? = some (.cells #[.int .i64 t111, (.slice Ao181 t154.length co181)] 30 (0, 0))) ∧ Aside0 (Below w.heap.size w wc))
 case first =>
   have H := HC158.out
   clear HC158
   replace H := Option.bind_eq_some_iff.mp H
   obtain ⟨t112, A182, H⟩ := H
   replace H : (if t112 = true then (laws_FnExactNetCut.j2 kj61 t108 (t155 != t119) t102 t146) else (laws_FnExactNetCut.j2 kj61 t108 true t102 t146)) = some r := H
   have A183 := Aside0.mk A182
   clear A182
   by_cases c184 : t112 = true
   · subst c184
     have H1 : (laws_FnExactNetCut.j2 kj61 t108 (t155 != t119) t102 t146) = some r := by rw [if_pos rfl] at H; exact H
     clear H
     have H := H1
     clear H1
     have H' := Aside0.mk H
     clear H
     have hnb185 := NB175_116.out
     have hnc185 := NB116_175.out
     have hnb186 := NB175_130.out
     have hnc186 := NB130_175.out
     have hnb187 := NB175_133.out
     have hnc187 := NB133_175.out
     have hnb188 := NB175_136.out
     have hnc188 := NB136_175.out
     have hcz189_0 : w176.cell? ⟨gb175, 0, none⟩ = some (.int .i64 0) := (blk_cell BK175.out 0).trans rfl
     have hcz189_1 : w176.cell? ⟨gb175, 1, none⟩ = some (.slice none 0 0) := (blk_cell BK175.out 1).trans rfl
     have hfz189_0 := blk_frozen BK175.out 0
     have hfz189_1 := blk_frozen BK175.out 1
     have hnb190 := NB130_116.out
     have hnc190 := NB116_130.out
     have hnb191 := NB130_133.out
     have hnc191 := NB133_130.out
     have hnb192 := NB130_136.out
     have hnc192 := NB136_130.out
     have hcz193_0 : w176.cell? ⟨gb130, 0, none⟩ = some (.int .i64 t115) := (blk_cell BK130.out 0).trans rfl
     have hcz193_1 : w176.cell? ⟨gb130, 1, none⟩ = some (.slice Ao24 t118.length co24) := (blk_cell BK130.out 1).trans rfl
     have hfz193_0 := blk_frozen BK130.out 0
     have hfz193_1 := blk_frozen BK130.out 1
     go_wp2_with (first | ((with_reducible refine gate_callee (f := 18) rfl ?_); refine goesL_ (some 91) rfl rfl Try.func18 (by kernel_rfl) rfl #[.agg #[.int .i64 t111, .slice Ao181 t154.length co181], .agg #[.int .i64 t115, .slice Ao24 t118.length co24]] rfl (by (try simp only [List.map_toArray, List.map_cons, List.map_nil]); first | done | rfl | (simp only [List.length_drop, List.length_take]; rfl)) ?_; (with_reducible refine (laws_eqNet.calls kj61 t111 _ _ t154 t115 _ _ t118 true _ ?side1 ?side2 ?side3 ?side4 A183.out).mono ?_); (case side1 => refine (Kd.R_reads' (e := 54) (base := w.heap.size) (ok := fun k_ => ((((True ∧ some k_ ≠ (.slice Ao24 t118.length co24 : Value).ownBlock) ∧ some k_ ≠ (.slice Ao31 t141.length co31 : Value).ownBlock) ∧ some k_ ≠ (.slice Ao38 t123.length co38 : Value).ownBlock) ∧ some k_ ≠ (.slice Ao171 t151.length co171 : Value).ownBlock)) (n := t154.length) (c := co181) ?_).2.2; exact (by (with_reducible repeat (first | apply Kd.R_alloc | apply Kd.R_drewN | apply Kd.R_drew)); exact (Kd.R_mono (Kd.R_far (p := ⟨gb175, 1, none⟩) (Kd.R_far (p := ⟨gb175, 0, none⟩) (Kd.R_types HO174.out BK175.out (by decide)) (fun _ hk => hk.2) (.int .i64 t111)) (fun _ hk => hk.2) (.slice Ao181 t154.length co181)) (fun _ h_ => h_.1)))); (case side2 => exact (Kd.R_reads' HO174.out).2.1); (case side3 => refine (Kd.R_reads' (e := 54) (base := w.heap.size) (ok := fun k_ => (((some k_ ≠ (.slice Ao31 t141.length co31 : Value).ownBlock ∧ some k_ ≠ (.slice Ao38 t123.length co38 : Value).ownBlock) ∧ some k_ ≠ (.slice Ao171 t151.length co171 : Value).ownBlock) ∧ some k_ ≠ (.slice Ao181 t154.length co181 : Value).ownBlock)) (n := t118.length) (c := co24) ?_).2.2; exact (by (with_reducible repeat (first | apply Kd.R_alloc | apply Kd.R_drewN | apply Kd.R_drew)); exact (Kd.R_mono (Kd.R_far (p := ⟨gb175, 1, none⟩) (Kd.R_far (p := ⟨gb175, 0, none⟩) (Kd.R_types HO_101001.out BK175.out (by decide)) (fun _ hk => hk.2) (.int .i64 t111)) (fun _ hk => hk.2) (.slice Ao181 t154.length co181)) (fun _ h_ => h_.1)))); (case side4 => exact (Kd.R_reads' HO_101001.out).2.1); rintro e w194 ⟨rfl, hb⟩; refine ⟨_, rfl, ?_⟩; have n0_ := Aside0.mk (Kd.R_below (by (with_reducible repeat (first | apply Kd.R_alloc | apply Kd.R_drewN | apply Kd.R_drew)); exact (Kd.R_mono (Kd.R_far (p := ⟨gb175, 1, none⟩) (Kd.R_far (p := ⟨gb175, 0, none⟩) (Kd.R_types HO_101001.out BK175.out (by decide)) (fun _ hk => hk.2) (.int .i64 t111)) (fun _ hk => hk.2) (.slice Ao181 t154.length co181)) (fun _ h_ => h_.1))) hb); have n1_ := Aside0.mk (Kd.R_below (by (with_reducible repeat (first | apply Kd.R_alloc | apply Kd.R_drewN | apply Kd.R_drew)); exact (Kd.R_mono (Kd.R_far (p := ⟨gb175, 1, none⟩) (Kd.R_far (p := ⟨gb175, 0, none⟩) (Kd.R_types HO_102001.out BK175.out (by decide)) (fun _ hk => hk.2) (.int .i64 t111)) (fun _ hk => hk.2) (.slice Ao181 t154.length co181)) (fun _ h_ => h_.1))) hb); have n2_ := Aside0.mk (Kd.R_below (by (with_reducible repeat (first | apply Kd.R_alloc | apply Kd.R_drewN | apply Kd.R_drew)); exact (Kd.R_mono (Kd.R_far (p := ⟨gb175, 1, none⟩) (Kd.R_far (p := ⟨gb175, 0, none⟩) (Kd.R_types HO_103001.out BK175.out (by decide)) (fun _ hk => hk.2) (.int .i64 t111)) (fun _ hk => hk.2) (.slice Ao181 t154.length co181)) (fun _ h_ => h_.1))) hb); have n3_ := Aside0.mk (Kd.R_below (by (with_reducible repeat (first | apply Kd.R_alloc | apply Kd.R_drewN | apply Kd.R_drew)); exact (Kd.R_mono (Kd.R_far (p := ⟨gb175, 1, none⟩) (Kd.R_far (p := ⟨gb175, 0, none⟩) (Kd.R_types HO170.out BK175.out (by decide)) (fun _ hk => hk.2) (.int .i64 t111)) (fun _ hk => hk.2) (.slice Ao181 t154.length co181)) (fun _ h_ => h_.1))) hb); have n4_ := Aside0.mk (Kd.R_below (by (with_reducible repeat (first | apply Kd.R_alloc | apply Kd.R_drewN | apply Kd.R_drew)); exact (Kd.R_mono (Kd.R_far (p := ⟨gb175, 1, none⟩) (Kd.R_far (p := ⟨gb175, 0, none⟩) (Kd.R_types HO174.out BK175.out (by decide)) (fun _ hk => hk.2) (.int .i64 t111)) (fun _ hk => hk.2) (.slice Ao181 t154.length co181)) (fun _ h_ => h_.1))) hb); have n5_ := Aside0.mk (blk_below (g := gb116) (o := .cells #[.int .i64 a0_0, .slice A0_1 l0_1.length c0_1] 25 (0, 0)) (by (with_reducible repeat (first | refine blk_drewN ?_ _ | refine blk_drew ?_ | refine blk_alloc ?_ _)); refine blk_far ?_ NB116_175.out _; (with_reducible repeat (first | refine blk_drewN ?_ _ | refine blk_drew ?_ | refine blk_alloc ?_ _)); refine blk_far ?_ NB116_175.out _; (with_reducible repeat (first | refine blk_drewN ?_ _ | refine blk_drew ?_ | refine blk_alloc ?_ _)); exact BK116.out) hb); have n6_ := Aside0.mk (blk_below (g := gb130) (o := .cells #[.int .i64 t115, .slice Ao24 t118.length co24] 30 (0, 0)) (by (with_reducible repeat (first | refine blk_drewN ?_ _ | refine blk_drew ?_ | refine blk_alloc ?_ _)); refine blk_far ?_ NB130_175.out _; (with_reducible repeat (first | refine blk_drewN ?_ _ | refine blk_drew ?_ | refine blk_alloc ?_ _)); refine blk_far ?_ NB130_175.out _; (with_reducible repeat (first | refine blk_drewN ?_ _ | refine blk_drew ?_ | refine blk_alloc ?_ _)); exact BK130.out) hb); have n7_ := Aside0.mk (blk_below (g := gb133) (o := .cells #[.int .i64 t101, .slice Ao31 t141.length co31] 30 (0, 0)) (by (with_reducible repeat (first | refine blk_drewN ?_ _ | refine blk_drew ?_ | refine blk_alloc ?_ _)); refine blk_far ?_ NB133_175.out _; (with_reducible repeat (first | refine blk_drewN ?_ _ | refine blk_drew ?_ | refine blk_alloc ?_ _)); refine blk_far ?_ NB133_175.out _; (with_reducible repeat (first | refine blk_drewN ?_ _ | refine blk_drew ?_ | refine blk_alloc ?_ _)); exact BK133.out) hb); have n8_ := Aside0.mk (blk_below (g := gb136) (o := .cells #[.int .i64 t102, .slice Ao38 t123.length co38] 30 (0, 0)) (by (with_reducible repeat (first | refine blk_drewN ?_ _ | refine blk_drew ?_ | refine blk_alloc ?_ _)); refine blk_far ?_ NB136_175.out _; (with_reducible repeat (first | refine blk_drewN ?_ _ | refine blk_drew ?_ | refine blk_alloc ?_ _)); refine blk_far ?_ NB136_175.out _; (with_reducible repeat (first | refine blk_drewN ?_ _ | refine blk_drew ?_ | refine blk_alloc ?_ _)); exact BK136.out) hb); have n9_ := Aside0.mk (blk_below (g := gb175) (o := .cells #[.int .i64 t111, .slice Ao181 t154.length co181] 30 (0, 0)) (by (with_reducible repeat (first | refine blk_drewN ?_ _ | refine blk_drew ?_ | refine blk_alloc ?_ _)); refine blk_put (cs := #[.int .i64 t111, .slice none 0 0]) ?_ 1 _ rfl; (with_reducible repeat (first | refine blk_drewN ?_ _ | refine blk_drew ?_ | refine blk_alloc ?_ _)); refine blk_put (cs := #[.int .i64 0, .slice none 0 0]) ?_ 0 _ rfl; (with_reducible repeat (first | refine blk_drewN ?_ _ | refine blk_drew ?_ | refine blk_alloc ?_ _)); exact BK175.out) hb); have n10_ := Aside0.mk (below_step (by repeat (first | (with_reducible first | exact HB.out | apply below_alloc | apply pw_below_drewN | apply below_drew1 | refine below_set ?_ GE116.out | refine below_set ?_ GE130.out | refine below_set ?_ GE133.out | refine below_set ?_ GE136.out | refine below_set ?_ GE175.out) | exact HB.out)) hb); clear HO_101001; clear HO_102001; clear HO_103001; clear HO170; clear HO174; clear BK116; clear BK130; clear BK133; clear BK136; clear BK175; clear HB; have HO_101001 := n0_; have HO_102001 := n1_; have HO_103001 := n2_; have HO170 := n3_; have HO174 := n4_; have BK116 := n5_; have BK130 := n6_; have BK133 := n7_; have BK136 := n8_; have BK175 := n9_; have HB := n10_; clear n0_ n1_ n2_ n3_ n4_ n5_ n6_ n7_ n8_ n9_ n10_; (try clear hb); (try clear hb2); (try clear hk); (try clear hi)))
     go_meet
     case rel => exact ⟨_, ((t155 != t119)), (by first | rfl | (simp; done) | (simp [*]; done)), H', ⟨by have := HJ12.out; have := HJ61.out; first | omega | exact Nat.le_refl _⟩, ⟨by (try simp only [hl102001_61]); (with_reducible repeat (first | apply Kd.R_alloc | apply Kd.R_drewN | apply Kd.R_drew)); exact Kd.R_mono HO_101001.out (fun _ hk => ⟨hk.1.1.1, ⟨hk.1.1.2, hk.2⟩⟩)⟩, ⟨by (try simp only [hl102001_61]); (with_reducible repeat (first | apply Kd.R_alloc | apply Kd.R_drewN | apply Kd.R_drew)); exact Kd.R_mono HO_102001.out (fun _ hk => ⟨hk.1.1.1, ⟨hk.1.1.2, hk.2⟩⟩)⟩, ⟨by (try simp only [hl102001_61]); (with_reducible repeat (first | apply Kd.R_alloc | apply Kd.R_drewN | apply Kd.R_drew)); exact Kd.R_mono HO_103001.out (fun _ hk => ⟨hk.1.1.1, ⟨hk.1.1.2, hk.2⟩⟩)⟩, ⟨by (try simp only [hl102001_61]); (with_reducible repeat (first | apply Kd.R_alloc | apply Kd.R_drewN | apply Kd.R_drew)); exact Kd.R_mono HO174.out (fun _ hk => ⟨hk.1.1.1.2, ⟨hk.1.1.2, hk.1.2⟩⟩)⟩, ⟨by (try simp only [hl102001_61]); (with_reducible repeat (first | refine blk_drewN ?_ _ | refine blk_drew ?_ | refine blk_alloc ?_ _)); exact BK116.out⟩, ⟨by (try simp only [hl102001_61]); (with_reducible repeat (first | refine blk_drewN ?_ _ | refine blk_drew ?_ | refine blk_alloc ?_ _)); exact BK130.out⟩, ⟨by (try simp only [hl102001_61]); (with_reducible repeat (first | refine blk_drewN ?_ _ | refine blk_drew ?_ | refine blk_alloc ?_ _)); exact BK133.out⟩, ⟨by (try simp only [hl102001_61]); (with_reducible repeat (first | refine blk_drewN ?_ _ | refine blk_drew ?_ | refine blk_alloc ?_ _)); exact BK136.out⟩, ⟨by (try simp only [hl102001_61]); (with_reducible repeat (first | refine blk_drewN ?_ _ | refine blk_drew ?_ | refine blk_alloc ?_ _)); exact BK175.out⟩, ⟨by repeat (first | (with_reducible first | exact HB.out | apply below_alloc | apply pw_below_drewN | apply below_drew1 | refine below_set ?_ GE116.out | refine below_set ?_ GE130.out | refine below_set ?_ GE133.out | refine below_set ?_ GE136.out | refine below_set ?_ GE175.out) | exact HB.out)⟩⟩
   replace c184 := Bool.eq_false_iff.mpr c184
   subst c184
   have H1 : (laws_FnExactNetCut.j2 kj61 t108 true t102 t146) = some r := by rw [if_neg (show ¬ (false = true) by decide)] at H; exact H
   clear H
   have H := H1
   clear H1
   have H' := Aside0.mk H
   clear H
   have hnb195 := NB175_116.out
   have hnc195 := NB116_175.out
   have hnb196 := NB175_130.out
   have hnc196 := NB130_175.out
   have hnb197 := NB175_133.out
   have hnc197 := NB133_175.out
   have hnb198 := NB175_136.out
   have hnc198 := NB136_175.out
   have hcz199_0 : w176.cell? ⟨gb175, 0, none⟩ = some (.int .i64 0) := (blk_cell BK175.out 0).trans rfl
   have hcz199_1 : w176.cell? ⟨gb175, 1, none⟩ = some (.slice none 0 0) := (blk_cell BK175.out 1).trans rfl
   have hfz199_0 := blk_frozen BK175.out 0
   have hfz199_1 := blk_frozen BK175.out 1
   have hnb200 := NB130_116.out
   have hnc200 := NB116_130.out
   have hnb201 := NB130_133.out
   have hnc201 := NB133_130.out
   have hnb202 := NB130_136.out
   have hnc202 := NB136_130.out
   have hcz203_0 : w176.cell? ⟨gb130, 0, none⟩ = some (.int .i64 t115) := (blk_cell BK130.out 0).trans rfl
   have hcz203_1 : w176.cell? ⟨gb130, 1, none⟩ = some (.slice Ao24 t118.length co24) := (blk_cell BK130.out 1).trans rfl
   have hfz203_0 := blk_frozen BK130.out 0
   have hfz203_1 := blk_frozen BK130.out 1
   go_wp2_with (first | ((with_reducible refine gate_callee (f := 18) rfl ?_); refine goesL_ (some 91) rfl rfl Try.func18 (by kernel_rfl) rfl #[.agg #[.int .i64 t111, .slice Ao181 t154.length co181], .agg #[.int .i64 t115, .slice Ao24 t118.length co24]] rfl (by (try simp only [List.map_toArray, List.map_cons, List.map_nil]); first | done | rfl | (simp only [List.length_drop, List.length_take]; rfl)) ?_; (with_reducible refine (laws_eqNet.calls kj61 t111 _ _ t154 t115 _ _ t118 false _ ?side1 ?side2 ?side3 ?side4 A183.out).mono ?_); (case side1 => refine (Kd.R_reads' (e := 54) (base := w.heap.size) (ok := fun k_ => ((((True ∧ some k_ ≠ (.slice Ao24 t118.length co24 : Value).ownBlock) ∧ some k_ ≠ (.slice Ao31 t141.length co31 : Value).ownBlock) ∧ some k_ ≠ (.slice Ao38 t123.length co38 : Value).ownBlock) ∧ some k_ ≠ (.slice Ao171 t151.length co171 : Value).ownBlock)) (n := t154.length) (c := co181) ?_).2.2; exact (by (with_reducible repeat (first | apply Kd.R_alloc | apply Kd.R_drewN | apply Kd.R_drew)); exact (Kd.R_mono (Kd.R_far (p := ⟨gb175, 1, none⟩) (Kd.R_far (p := ⟨gb175, 0, none⟩) (Kd.R_types HO174.out BK175.out (by decide)) (fun _ hk => hk.2) (.int .i64 t111)) (fun _ hk => hk.2) (.slice Ao181 t154.length co181)) (fun _ h_ => h_.1)))); (case side2 => exact (Kd.R_reads' HO174.out).2.1); (case side3 => refine (Kd.R_reads' (e := 54) (base := w.heap.size) (ok := fun k_ => (((some k_ ≠ (.slice Ao31 t141.length co31 : Value).ownBlock ∧ some k_ ≠ (.slice Ao38 t123.length co38 : Value).ownBlock) ∧ some k_ ≠ (.slice Ao171 t151.length co171 : Value).ownBlock) ∧ some k_ ≠ (.slice Ao181 t154.length co181 : Value).ownBlock)) (n := t118.length) (c := co24) ?_).2.2; exact (by (with_reducible repeat (first | apply Kd.R_alloc | apply Kd.R_drewN | apply Kd.R_drew)); exact (Kd.R_mono (Kd.R_far (p := ⟨gb175, 1, none⟩) (Kd.R_far (p := ⟨gb175, 0, none⟩) (Kd.R_types HO_101001.out BK175.out (by decide)) (fun _ hk => hk.2) (.int .i64 t111)) (fun _ hk => hk.2) (.slice Ao181 t154.length co181)) (fun _ h_ => h_.1)))); (case side4 => exact (Kd.R_reads' HO_101001.out).2.1); rintro e w204 ⟨rfl, hb⟩; refine ⟨_, rfl, ?_⟩; have n0_ := Aside0.mk (Kd.R_below (by (with_reducible repeat (first | apply Kd.R_alloc | apply Kd.R_drewN | apply Kd.R_drew)); exact (Kd.R_mono (Kd.R_far (p := ⟨gb175, 1, none⟩) (Kd.R_far (p := ⟨gb175, 0, none⟩) (Kd.R_types HO_101001.out BK175.out (by decide)) (fun _ hk => hk.2) (.int .i64 t111)) (fun _ hk => hk.2) (.slice Ao181 t154.length co181)) (fun _ h_ => h_.1))) hb); have n1_ := Aside0.mk (Kd.R_below (by (with_reducible repeat (first | apply Kd.R_alloc | apply Kd.R_drewN | apply Kd.R_drew)); exact (Kd.R_mono (Kd.R_far (p := ⟨gb175, 1, none⟩) (Kd.R_far (p := ⟨gb175, 0, none⟩) (Kd.R_types HO_102001.out BK175.out (by decide)) (fun _ hk => hk.2) (.int .i64 t111)) (fun _ hk => hk.2) (.slice Ao181 t154.length co181)) (fun _ h_ => h_.1))) hb); have n2_ := Aside0.mk (Kd.R_below (by (with_reducible repeat (first | apply Kd.R_alloc | apply Kd.R_drewN | apply Kd.R_drew)); exact (Kd.R_mono (Kd.R_far (p := ⟨gb175, 1, none⟩) (Kd.R_far (p := ⟨gb175, 0, none⟩) (Kd.R_types HO_103001.out BK175.out (by decide)) (fun _ hk => hk.2) (.int .i64 t111)) (fun _ hk => hk.2) (.slice Ao181 t154.length co181)) (fun _ h_ => h_.1))) hb); have n3_ := Aside0.mk (Kd.R_below (by (with_reducible repeat (first | apply Kd.R_alloc | apply Kd.R_drewN | apply Kd.R_drew)); exact (Kd.R_mono (Kd.R_far (p := ⟨gb175, 1, none⟩) (Kd.R_far (p := ⟨gb175, 0, none⟩) (Kd.R_types HO170.out BK175.out (by decide)) (fun _ hk => hk.2) (.int .i64 t111)) (fun _ hk => hk.2) (.slice Ao181 t154.length co181)) (fun _ h_ => h_.1))) hb); have n4_ := Aside0.mk (Kd.R_below (by (with_reducible repeat (first | apply Kd.R_alloc | apply Kd.R_drewN | apply Kd.R_drew)); exact (Kd.R_mono (Kd.R_far (p := ⟨gb175, 1, none⟩) (Kd.R_far (p := ⟨gb175, 0, none⟩) (Kd.R_types HO174.out BK175.out (by decide)) (fun _ hk => hk.2) (.int .i64 t111)) (fun _ hk => hk.2) (.slice Ao181 t154.length co181)) (fun _ h_ => h_.1))) hb); have n5_ := Aside0.mk (blk_below (g := gb116) (o := .cells #[.int .i64 a0_0, .slice A0_1 l0_1.length c0_1] 25 (0, 0)) (by (with_reducible repeat (first | refine blk_drewN ?_ _ | refine blk_drew ?_ | refine blk_alloc ?_ _)); refine blk_far ?_ NB116_175.out _; (with_reducible repeat (first | refine blk_drewN ?_ _ | refine blk_drew ?_ | refine blk_alloc ?_ _)); refine blk_far ?_ NB116_175.out _; (with_reducible repeat (first | refine blk_drewN ?_ _ | refine blk_drew ?_ | refine blk_alloc ?_ _)); exact BK116.out) hb); have n6_ := Aside0.mk (blk_below (g := gb130) (o := .cells #[.int .i64 t115, .slice Ao24 t118.length co24] 30 (0, 0)) (by (with_reducible repeat (first | refine blk_drewN ?_ _ | refine blk_drew ?_ | refine blk_alloc ?_ _)); refine blk_far ?_ NB130_175.out _; (with_reducible repeat (first | refine blk_drewN ?_ _ | refine blk_drew ?_ | refine blk_alloc ?_ _)); refine blk_far ?_ NB130_175.out _; (with_reducible repeat (first | refine blk_drewN ?_ _ | refine blk_drew ?_ | refine blk_alloc ?_ _)); exact BK130.out) hb); have n7_ := Aside0.mk (blk_below (g := gb133) (o := .cells #[.int .i64 t101, .slice Ao31 t141.length co31] 30 (0, 0)) (by (with_reducible repeat (first | refine blk_drewN ?_ _ | refine blk_drew ?_ | refine blk_alloc ?_ _)); refine blk_far ?_ NB133_175.out _; (with_reducible repeat (first | refine blk_drewN ?_ _ | refine blk_drew ?_ | refine blk_alloc ?_ _)); refine blk_far ?_ NB133_175.out _; (with_reducible repeat (first | refine blk_drewN ?_ _ | refine blk_drew ?_ | refine blk_alloc ?_ _)); exact BK133.out) hb); have n8_ := Aside0.mk (blk_below (g := gb136) (o := .cells #[.int .i64 t102, .slice Ao38 t123.length co38] 30 (0, 0)) (by (with_reducible repeat (first | refine blk_drewN ?_ _ | refine blk_drew ?_ | refine blk_alloc ?_ _)); refine blk_far ?_ NB136_175.out _; (with_reducible repeat (first | refine blk_drewN ?_ _ | refine blk_drew ?_ | refine blk_alloc ?_ _)); refine blk_far ?_ NB136_175.out _; (with_reducible repeat (first | refine blk_drewN ?_ _ | refine blk_drew ?_ | refine blk_alloc ?_ _)); exact BK136.out) hb); have n9_ := Aside0.mk (blk_below (g := gb175) (o := .cells #[.int .i64 t111, .slice Ao181 t154.length co181] 30 (0, 0)) (by (with_reducible repeat (first | refine blk_drewN ?_ _ | refine blk_drew ?_ | refine blk_alloc ?_ _)); refine blk_put (cs := #[.int .i64 t111, .slice none 0 0]) ?_ 1 _ rfl; (with_reducible repeat (first | refine blk_drewN ?_ _ | refine blk_drew ?_ | refine blk_alloc ?_ _)); refine blk_put (cs := #[.int .i64 0, .slice none 0 0]) ?_ 0 _ rfl; (with_reducible repeat (first | refine blk_drewN ?_ _ | refine blk_drew ?_ | refine blk_alloc ?_ _)); exact BK175.out) hb); have n10_ := Aside0.mk (below_step (by repeat (first | (with_reducible first | exact HB.out | apply below_alloc | apply pw_below_drewN | apply below_drew1 | refine below_set ?_ GE116.out | refine below_set ?_ GE130.out | refine below_set ?_ GE133.out | refine below_set ?_ GE136.out | refine below_set ?_ GE175.out) | exact HB.out)) hb); clear HO_101001; clear HO_102001; clear HO_103001; clear HO170; clear HO174; clear BK116; clear BK130; clear BK133; clear BK136; clear BK175; clear HB; have HO_101001 := n0_; have HO_102001 := n1_; have HO_103001 := n2_; have HO170 := n3_; have HO174 := n4_; have BK116 := n5_; have BK130 := n6_; have BK133 := n7_; have BK136 := n8_; have BK175 := n9_; have HB := n10_; clear n0_ n1_ n2_ n3_ n4_ n5_ n6_ n7_ n8_ n9_ n10_; (try clear hb); (try clear hb2); (try clear hk); (try clear hi)))
   go_meet
   case rel => exact ⟨_, (true), (by first | rfl | (simp; done) | (simp [*]; done)), H', ⟨by have := HJ12.out; have := HJ61.out; first | omega | exact Nat.le_refl _⟩, ⟨by (try simp only [hl102001_61]); (with_reducible repeat (first | apply Kd.R_alloc | apply Kd.R_drewN | apply Kd.R_drew)); exact Kd.R_mono HO_101001.out (fun _ hk => ⟨hk.1.1.1, ⟨hk.1.1.2, hk.2⟩⟩)⟩, ⟨by (try simp only [hl102001_61]); (with_reducible repeat (first | apply Kd.R_alloc | apply Kd.R_drewN | apply Kd.R_drew)); exact Kd.R_mono HO_102001.out (fun _ hk => ⟨hk.1.1.1, ⟨hk.1.1.2, hk.2⟩⟩)⟩, ⟨by (try simp only [hl102001_61]); (with_reducible repeat (first | apply Kd.R_alloc | apply Kd.R_drewN | apply Kd.R_drew)); exact Kd.R_mono HO_103001.out (fun _ hk => ⟨hk.1.1.1, ⟨hk.1.1.2, hk.2⟩⟩)⟩, ⟨by (try simp only [hl102001_61]); (with_reducible repeat (first | apply Kd.R_alloc | apply Kd.R_drewN | apply Kd.R_drew)); exact Kd.R_mono HO174.out (fun _ hk => ⟨hk.1.1.1.2, ⟨hk.1.1.2, hk.1.2⟩⟩)⟩, ⟨by (try simp only [hl102001_61]); (with_reducible repeat (first | refine blk_drewN ?_ _ | refine blk_drew ?_ | refine blk_alloc ?_ _)); exact BK116.out⟩, ⟨by (try simp only [hl102001_61]); (with_reducible repeat (first | refine blk_drewN ?_ _ | refine blk_drew ?_ | refine blk_alloc ?_ _)); exact BK130.out⟩, ⟨by (try simp only [hl102001_61]); (with_reducible repeat (first | refine blk_drewN ?_ _ | refine blk_drew ?_ | refine blk_alloc ?_ _)); exact BK133.out⟩, ⟨by (try simp only [hl102001_61]); (with_reducible repeat (first | refine blk_drewN ?_ _ | refine blk_drew ?_ | refine blk_alloc ?_ _)); exact BK136.out⟩, ⟨by (try simp only [hl102001_61]); (with_reducible repeat (first | refine blk_drewN ?_ _ | refine blk_drew ?_ | refine blk_alloc ?_ _)); exact BK175.out⟩, ⟨by repeat (first | (with_reducible first | exact HB.out | apply below_alloc | apply pw_below_drewN | apply below_drew1 | refine below_set ?_ GE116.out | refine below_set ?_ GE130.out | refine below_set ?_ GE133.out | refine below_set ?_ GE136.out | refine below_set ?_ GE175.out) | exact HB.out)⟩⟩
 clear HC158
 try clear c1
 try clear c2
 try clear p2
 try clear c3
 try clear c4
 try clear c5
 try clear c5b0
 try clear c6
 try clear c7
 try clear c8
 try clear c9
 try clear c10
 try clear c11
 try clear c12
 try clear c13
 try clear c14
 try clear c16
 try clear c18
 try clear c22
 try clear c23
 try clear c24
 try clear c28
 try clear c29
 try clear c30
 try clear c34
 try clear c35
 try clear c36
 try clear c40
 try clear c41
 try clear c42
 try clear c43
 try clear c45
 try clear c46
 try clear c49
 try clear c50
 try clear c51
 try clear c53
 try clear c54
 try clear c57
 try clear c60
 try clear c67
 try clear c68
 try clear c69
 try clear c72
 try clear c72b0
 try clear c74
 try clear c75
 try clear c76
 try clear c77
 try clear c79
 try clear c80
 try clear c83
 try clear c84
 try clear c85
 try clear c87
 try clear c88
 try clear c91
 try clear c94
 try clear c94b0
 try clear c95
 try clear c96
 try clear c97
 try clear c150
 try clear c150b0
 try clear c150b1
 try clear c159
 try clear c160
 try clear c161
 try clear c165
 try clear c166
 try clear c125
 try clear c177
 try clear c178
 try clear c179
 try clear c184
 try clear c185
 try clear c186
 try clear c187
 try clear c188
 try clear c190
 try clear c191
 try clear c192
 try clear c195
 try clear c196
 try clear c197
 try clear c198
 try clear c200
 try clear c201
 try clear c202
 try clear hcz120_0
 try clear hcz120_1
 try clear hcz162_0
 try clear hcz162_1
 try clear hcz163_0
 try clear hcz163_1
 try clear hcz167_0
 try clear hcz167_1
 try clear hcz180_0
 try clear hcz180_1
 try clear hcz189_0
 try clear hcz189_1
 try clear hcz193_0
 try clear hcz193_1
 try clear hcz199_0
 try clear hcz199_1
 try clear hcz203_0
 try clear hcz203_1
 try clear hcz15_0
 try clear hcz15_1
 try clear hcz17_0
 try clear hcz17_1
 try clear hcz23_0
 try clear hcz23_1
 try clear hcz25_0
 try clear hcz25_1
 try clear hcz30_0
 try clear hcz30_1
 try clear hcz37_0
 try clear hcz37_1
 try clear hcz44_0
 try clear hcz44_1
 try clear hcz47_0
 try clear hcz47_1
 try clear hcz52_0
 try clear hcz52_1
 try clear hcz55_0
 try clear hcz55_1
 try clear hcz70_0
 try clear hcz70_1
 try clear hcz78_0
 try clear hcz78_1
 try clear hcz7_0
 try clear hcz7_1
 try clear hcz81_0
 try clear hcz81_1
 try clear hcz86_0
 try clear hcz86_1
 try clear hcz89_0
 try clear hcz89_1
 try clear hcz98_0
 try clear hcz98_1
 try clear hfz120_0
 try clear hfz120_1
 try clear hfz162_0
 try clear hfz162_1
 try clear hfz163_0
 try clear hfz163_1
 try clear hfz167_0
 try clear hfz167_1
 try clear hfz180_0
 try clear hfz180_1
 try clear hfz189_0
 try clear hfz189_1
 try clear hfz193_0
 try clear hfz193_1
 try clear hfz199_0
 try clear hfz199_1
 try clear hfz203_0
 try clear hfz203_1
 try clear hfz15_0
 try clear hfz15_1
 try clear hfz17_0
 try clear hfz17_1
 try clear hfz23_0
 try clear hfz23_1
 try clear hfz25_0
 try clear hfz25_1
 try clear hfz30_0
 try clear hfz30_1
 try clear hfz37_0
 try clear hfz37_1
 try clear hfz44_0
 try clear hfz44_1
 try clear hfz47_0
 try clear hfz47_1
 try clear hfz52_0
 try clear hfz52_1
 try clear hfz55_0
 try clear hfz55_1
 try clear hfz70_0
 try clear hfz70_1
 try clear hfz78_0
 try clear hfz78_1
 try clear hfz7_0
 try clear hfz7_1
 try clear hfz81_0
 try clear hfz81_1
 try clear hfz86_0
 try clear hfz86_1
 try clear hfz89_0
 try clear hfz89_1
 try clear hfz98_0
 try clear hfz98_1
 try clear p2
 obtain ⟨kq, x97_157, rfl, HA, HJ157, HO_101001, HO_102001, HO_103001, HO_112001, BK116, BK130, BK133, BK136, BK175, HB⟩ := hcut
 have hl103001_157 := (Kd.R_reads' HO_103001.out).1
 rw [hl103001_157] at HO_103001
 (try simp only [hl103001_157])
 (try simp only [hl103001_157] at BK116)
 (try simp only [hl103001_157] at BK130)
 (try simp only [hl103001_157] at BK133)
 (try simp only [hl103001_157] at BK136)
 (try simp only [hl103001_157] at BK175)
 (try simp only [hl103001_157] at HO_101001)
 (try simp only [hl103001_157] at HO_102001)
 (try simp only [hl103001_157] at HO_112001)
 rcases kq with _ | kj157
 · exact absurd HA.out (by simp [laws_FnExactNetCut.j2])
 have H := HA.out
 clear HA
 simp only [laws_FnExactNetCut.j2] at H
 by_cases c205 : x97_157 = true
 · subst c205
   have H1 : (some false) = some r := by rw [if_pos rfl] at H; exact H
   clear H
   have H := H1
   clear H1
   obtain rfl := Option.some.inj H
   go_wp2
   go_ret
   exact ⟨by first | rfl | (simp [errW_none, errW_some] <;> rfl) | (simp [*, errW_none, errW_some] <;> rfl), by repeat (first | (with_reducible first | exact HB.out | apply below_alloc | apply pw_below_drewN | apply below_drew1 | refine below_set ?_ GE116.out | refine below_set ?_ GE130.out | refine below_set ?_ GE133.out | refine below_set ?_ GE136.out | refine below_set ?_ GE175.out) | exact HB.out)⟩
 replace c205 := Bool.eq_false_iff.mpr c205
 subst c205
 have H1 : ((laws_heldNet.f kj157 t102 t146 1).bind fun t113 => (if t113 < 0 then (some false) else (if t113 = t108 then (some true) else (some false)))) = some r := by rw [if_neg (show ¬ (false = true) by decide)] at H; exact H
 clear H
 have H := H1
 clear H1
 replace H := Option.bind_eq_some_iff.mp H
 obtain ⟨t113, A206, H⟩ := H
 replace H : (if t113 < 0 then (some false) else (if t113 = t108 then (some true) else (some false))) = some r := H
 have A207 := Aside0.mk A206
 clear A206
 by_cases c208 : t113 < 0
 · rw [if_pos c208] at H
   have c208b0 : decide (t113 < 0) = true := decide_eq_true c208
   clear c208
   obtain rfl := Option.some.inj H
   have hnb209 := NB136_116.out
   have hnc209 := NB116_136.out
   have hnb210 := NB136_130.out
   have hnc210 := NB130_136.out
   have hnb211 := NB136_133.out
   have hnc211 := NB133_136.out
   have hnb212 := NB136_175.out
   have hnc212 := NB175_136.out
   have hcz213_0 : wc.cell? ⟨gb136, 0, none⟩ = some (.int .i64 t102) := (blk_cell BK136.out 0).trans rfl
   have hcz213_1 : wc.cell? ⟨gb136, 1, none⟩ = some (.slice Ao38 t146.length co38) := (blk_cell BK136.out 1).trans rfl
   have hfz213_0 := blk_frozen BK136.out 0
   have hfz213_1 := blk_frozen BK136.out 1
   go_wp2_with (first | ((with_reducible refine gate_callee (f := 24) rfl ?_); refine goesL_ (some 100) rfl rfl Try.func24 (by kernel_rfl) rfl #[.agg #[.int .i64 t102, .slice Ao38 t146.length co38], .int .i64 1] rfl (by (try simp only [List.map_toArray, List.map_cons, List.map_nil]); first | done | rfl | (simp only [List.length_drop, List.length_take]; rfl)) ?_; (with_reducible refine (laws_heldNet.calls kj157 t102 _ _ t146 1 t113 _ ?side1 ?side2 A207.out).mono ?_); (case side1 => repeat (first | exact (Kd.R_reads' HO_103001.out).2.2 | (with_reducible refine Kd.C_alloc ?_ _) | (with_reducible refine Kd.C_drewN ?_ _) | (with_reducible refine Kd.C_drew ?_))); (case side2 => exact (Kd.R_reads' HO_103001.out).2.1); rintro e w214 ⟨rfl, hb⟩; refine ⟨_, rfl, ?_⟩; have n0_ := Aside0.mk (Kd.R_below (by (with_reducible repeat (first | apply Kd.R_alloc | apply Kd.R_drewN | apply Kd.R_drew)); exact HO_101001.out) hb); have n1_ := Aside0.mk (Kd.R_below (by (with_reducible repeat (first | apply Kd.R_alloc | apply Kd.R_drewN | apply Kd.R_drew)); exact HO_102001.out) hb); have n2_ := Aside0.mk (Kd.R_below (by (with_reducible repeat (first | apply Kd.R_alloc | apply Kd.R_drewN | apply Kd.R_drew)); exact HO_103001.out) hb); have n3_ := Aside0.mk (Kd.R_below (by (with_reducible repeat (first | apply Kd.R_alloc | apply Kd.R_drewN | apply Kd.R_drew)); exact HO_112001.out) hb); have n4_ := Aside0.mk (blk_below (g := gb116) (o := .cells #[.int .i64 a0_0, .slice A0_1 l0_1.length c0_1] 25 (0, 0)) (by (with_reducible repeat (first | refine blk_drewN ?_ _ | refine blk_drew ?_ | refine blk_alloc ?_ _)); exact BK116.out) hb); have n5_ := Aside0.mk (blk_below (g := gb130) (o := .cells #[.int .i64 t115, .slice Ao24 t118.length co24] 30 (0, 0)) (by (with_reducible repeat (first | refine blk_drewN ?_ _ | refine blk_drew ?_ | refine blk_alloc ?_ _)); exact BK130.out) hb); have n6_ := Aside0.mk (blk_below (g := gb133) (o := .cells #[.int .i64 t101, .slice Ao31 t141.length co31] 30 (0, 0)) (by (with_reducible repeat (first | refine blk_drewN ?_ _ | refine blk_drew ?_ | refine blk_alloc ?_ _)); exact BK133.out) hb); have n7_ := Aside0.mk (blk_below (g := gb136) (o := .cells #[.int .i64 t102, .slice Ao38 t146.length co38] 30 (0, 0)) (by (with_reducible repeat (first | refine blk_drewN ?_ _ | refine blk_drew ?_ | refine blk_alloc ?_ _)); exact BK136.out) hb); have n8_ := Aside0.mk (blk_below (g := gb175) (o := .cells #[.int .i64 t111, .slice Ao181 t154.length co181] 30 (0, 0)) (by (with_reducible repeat (first | refine blk_drewN ?_ _ | refine blk_drew ?_ | refine blk_alloc ?_ _)); exact BK175.out) hb); have n9_ := Aside0.mk (below_step (by repeat (first | (with_reducible first | exact HB.out | apply below_alloc | apply pw_below_drewN | apply below_drew1 | refine below_set ?_ GE116.out | refine below_set ?_ GE130.out | refine below_set ?_ GE133.out | refine below_set ?_ GE136.out | refine below_set ?_ GE175.out) | exact HB.out)) hb); clear HO_101001; clear HO_102001; clear HO_103001; clear HO_112001; clear BK116; clear BK130; clear BK133; clear BK136; clear BK175; clear HB; have HO_101001 := n0_; have HO_102001 := n1_; have HO_103001 := n2_; have HO_112001 := n3_; have BK116 := n4_; have BK130 := n5_; have BK133 := n6_; have BK136 := n7_; have BK175 := n8_; have HB := n9_; clear n0_ n1_ n2_ n3_ n4_ n5_ n6_ n7_ n8_ n9_; (try clear hb); (try clear hb2); (try clear hk); (try clear hi)))
   go_ret
   exact ⟨by first | rfl | (simp [errW_none, errW_some] <;> rfl) | (simp [*, errW_none, errW_some] <;> rfl), by repeat (first | (with_reducible first | exact HB.out | apply below_alloc | apply pw_below_drewN | apply below_drew1 | refine below_set ?_ GE116.out | refine below_set ?_ GE130.out | refine below_set ?_ GE133.out | refine below_set ?_ GE136.out | refine below_set ?_ GE175.out) | exact HB.out)⟩
 rw [if_neg c208] at H
 have c208b0 : decide (t113 < 0) = false := decide_eq_false c208
 clear c208
 by_cases c215 : t113 = t108
 rotate_left
 · rw [if_neg c215] at H
   have c215b0 : (t113 == t108) = false := beq_eq_false_iff_ne.mpr c215
   have c215b1 : (t113 != t108) = true := bne_iff_ne.mpr c215
   obtain rfl := Option.some.inj H
   have hnb222 := NB136_116.out
   have hnc222 := NB116_136.out
   have hnb223 := NB136_130.out
   have hnc223 := NB130_136.out
   have hnb224 := NB136_133.out
   have hnc224 := NB133_136.out
   have hnb225 := NB136_175.out
   have hnc225 := NB175_136.out
   have hcz226_0 : wc.cell? ⟨gb136, 0, none⟩ = some (.int .i64 t102) := (blk_cell BK136.out 0).trans rfl
   have hcz226_1 : wc.cell? ⟨gb136, 1, none⟩ = some (.slice Ao38 t146.length co38) := (blk_cell BK136.out 1).trans rfl
   have hfz226_0 := blk_frozen BK136.out 0
   have hfz226_1 := blk_frozen BK136.out 1
   go_wp2_with (first | ((with_reducible refine gate_callee (f := 24) rfl ?_); refine goesL_ (some 100) rfl rfl Try.func24 (by kernel_rfl) rfl #[.agg #[.int .i64 t102, .slice Ao38 t146.length co38], .int .i64 1] rfl (by (try simp only [List.map_toArray, List.map_cons, List.map_nil]); first | done | rfl | (simp only [List.length_drop, List.length_take]; rfl)) ?_; (with_reducible refine (laws_heldNet.calls kj157 t102 _ _ t146 1 t113 _ ?side1 ?side2 A207.out).mono ?_); (case side1 => repeat (first | exact (Kd.R_reads' HO_103001.out).2.2 | (with_reducible refine Kd.C_alloc ?_ _) | (with_reducible refine Kd.C_drewN ?_ _) | (with_reducible refine Kd.C_drew ?_))); (case side2 => exact (Kd.R_reads' HO_103001.out).2.1); rintro e w227 ⟨rfl, hb⟩; refine ⟨_, rfl, ?_⟩; have n0_ := Aside0.mk (Kd.R_below (by (with_reducible repeat (first | apply Kd.R_alloc | apply Kd.R_drewN | apply Kd.R_drew)); exact HO_101001.out) hb); have n1_ := Aside0.mk (Kd.R_below (by (with_reducible repeat (first | apply Kd.R_alloc | apply Kd.R_drewN | apply Kd.R_drew)); exact HO_102001.out) hb); have n2_ := Aside0.mk (Kd.R_below (by (with_reducible repeat (first | apply Kd.R_alloc | apply Kd.R_drewN | apply Kd.R_drew)); exact HO_103001.out) hb); have n3_ := Aside0.mk (Kd.R_below (by (with_reducible repeat (first | apply Kd.R_alloc | apply Kd.R_drewN | apply Kd.R_drew)); exact HO_112001.out) hb); have n4_ := Aside0.mk (blk_below (g := gb116) (o := .cells #[.int .i64 a0_0, .slice A0_1 l0_1.length c0_1] 25 (0, 0)) (by (with_reducible repeat (first | refine blk_drewN ?_ _ | refine blk_drew ?_ | refine blk_alloc ?_ _)); exact BK116.out) hb); have n5_ := Aside0.mk (blk_below (g := gb130) (o := .cells #[.int .i64 t115, .slice Ao24 t118.length co24] 30 (0, 0)) (by (with_reducible repeat (first | refine blk_drewN ?_ _ | refine blk_drew ?_ | refine blk_alloc ?_ _)); exact BK130.out) hb); have n6_ := Aside0.mk (blk_below (g := gb133) (o := .cells #[.int .i64 t101, .slice Ao31 t141.length co31] 30 (0, 0)) (by (with_reducible repeat (first | refine blk_drewN ?_ _ | refine blk_drew ?_ | refine blk_alloc ?_ _)); exact BK133.out) hb); have n7_ := Aside0.mk (blk_below (g := gb136) (o := .cells #[.int .i64 t102, .slice Ao38 t146.length co38] 30 (0, 0)) (by (with_reducible repeat (first | refine blk_drewN ?_ _ | refine blk_drew ?_ | refine blk_alloc ?_ _)); exact BK136.out) hb); have n8_ := Aside0.mk (blk_below (g := gb175) (o := .cells #[.int .i64 t111, .slice Ao181 t154.length co181] 30 (0, 0)) (by (with_reducible repeat (first | refine blk_drewN ?_ _ | refine blk_drew ?_ | refine blk_alloc ?_ _)); exact BK175.out) hb); have n9_ := Aside0.mk (below_step (by repeat (first | (with_reducible first | exact HB.out | apply below_alloc | apply pw_below_drewN | apply below_drew1 | refine below_set ?_ GE116.out | refine below_set ?_ GE130.out | refine below_set ?_ GE133.out | refine below_set ?_ GE136.out | refine below_set ?_ GE175.out) | exact HB.out)) hb); clear HO_101001; clear HO_102001; clear HO_103001; clear HO_112001; clear BK116; clear BK130; clear BK133; clear BK136; clear BK175; clear HB; have HO_101001 := n0_; have HO_102001 := n1_; have HO_103001 := n2_; have HO_112001 := n3_; have BK116 := n4_; have BK130 := n5_; have BK133 := n6_; have BK136 := n7_; have BK175 := n8_; have HB := n9_; clear n0_ n1_ n2_ n3_ n4_ n5_ n6_ n7_ n8_ n9_; (try clear hb); (try clear hb2); (try clear hk); (try clear hi)))
   go_ret
   exact ⟨by first | rfl | (simp [errW_none, errW_some] <;> rfl) | (simp [*, errW_none, errW_some] <;> rfl), by repeat (first | (with_reducible first | exact HB.out | apply below_alloc | apply pw_below_drewN | apply below_drew1 | refine below_set ?_ GE116.out | refine below_set ?_ GE130.out | refine below_set ?_ GE133.out | refine below_set ?_ GE136.out | refine below_set ?_ GE175.out) | exact HB.out)⟩
 rw [if_pos c215] at H
 have c215b0 : (t113 == t108) = true := beq_iff_eq.mpr c215
 have c215b1 : (t113 != t108) = false := bne_eq_false_iff_eq.mpr c215
 clear c215
 obtain rfl := Option.some.inj H
 have hnb216 := NB136_116.out
 have hnc216 := NB116_136.out
 have hnb217 := NB136_130.out
 have hnc217 := NB130_136.out
 have hnb218 := NB136_133.out
 have hnc218 := NB133_136.out
 have hnb219 := NB136_175.out
 have hnc219 := NB175_136.out
 have hcz220_0 : wc.cell? ⟨gb136, 0, none⟩ = some (.int .i64 t102) := (blk_cell BK136.out 0).trans rfl
 have hcz220_1 : wc.cell? ⟨gb136, 1, none⟩ = some (.slice Ao38 t146.length co38) := (blk_cell BK136.out 1).trans rfl
 have hfz220_0 := blk_frozen BK136.out 0
 have hfz220_1 := blk_frozen BK136.out 1
 go_wp2_with (first | ((with_reducible refine gate_callee (f := 24) rfl ?_); refine goesL_ (some 100) rfl rfl Try.func24 (by kernel_rfl) rfl #[.agg #[.int .i64 t102, .slice Ao38 t146.length co38], .int .i64 1] rfl (by (try simp only [List.map_toArray, List.map_cons, List.map_nil]); first | done | rfl | (simp only [List.length_drop, List.length_take]; rfl)) ?_; (with_reducible refine (laws_heldNet.calls kj157 t102 _ _ t146 1 t113 _ ?side1 ?side2 A207.out).mono ?_); (case side1 => repeat (first | exact (Kd.R_reads' HO_103001.out).2.2 | (with_reducible refine Kd.C_alloc ?_ _) | (with_reducible refine Kd.C_drewN ?_ _) | (with_reducible refine Kd.C_drew ?_))); (case side2 => exact (Kd.R_reads' HO_103001.out).2.1); rintro e w221 ⟨rfl, hb⟩; refine ⟨_, rfl, ?_⟩; have n0_ := Aside0.mk (Kd.R_below (by (with_reducible repeat (first | apply Kd.R_alloc | apply Kd.R_drewN | apply Kd.R_drew)); exact HO_101001.out) hb); have n1_ := Aside0.mk (Kd.R_below (by (with_reducible repeat (first | apply Kd.R_alloc | apply Kd.R_drewN | apply Kd.R_drew)); exact HO_102001.out) hb); have n2_ := Aside0.mk (Kd.R_below (by (with_reducible repeat (first | apply Kd.R_alloc | apply Kd.R_drewN | apply Kd.R_drew)); exact HO_103001.out) hb); have n3_ := Aside0.mk (Kd.R_below (by (with_reducible repeat (first | apply Kd.R_alloc | apply Kd.R_drewN | apply Kd.R_drew)); exact HO_112001.out) hb); have n4_ := Aside0.mk (blk_below (g := gb116) (o := .cells #[.int .i64 a0_0, .slice A0_1 l0_1.length c0_1] 25 (0, 0)) (by (with_reducible repeat (first | refine blk_drewN ?_ _ | refine blk_drew ?_ | refine blk_alloc ?_ _)); exact BK116.out) hb); have n5_ := Aside0.mk (blk_below (g := gb130) (o := .cells #[.int .i64 t115, .slice Ao24 t118.length co24] 30 (0, 0)) (by (with_reducible repeat (first | refine blk_drewN ?_ _ | refine blk_drew ?_ | refine blk_alloc ?_ _)); exact BK130.out) hb); have n6_ := Aside0.mk (blk_below (g := gb133) (o := .cells #[.int .i64 t101, .slice Ao31 t141.length co31] 30 (0, 0)) (by (with_reducible repeat (first | refine blk_drewN ?_ _ | refine blk_drew ?_ | refine blk_alloc ?_ _)); exact BK133.out) hb); have n7_ := Aside0.mk (blk_below (g := gb136) (o := .cells #[.int .i64 t102, .slice Ao38 t146.length co38] 30 (0, 0)) (by (with_reducible repeat (first | refine blk_drewN ?_ _ | refine blk_drew ?_ | refine blk_alloc ?_ _)); exact BK136.out) hb); have n8_ := Aside0.mk (blk_below (g := gb175) (o := .cells #[.int .i64 t111, .slice Ao181 t154.length co181] 30 (0, 0)) (by (with_reducible repeat (first | refine blk_drewN ?_ _ | refine blk_drew ?_ | refine blk_alloc ?_ _)); exact BK175.out) hb); have n9_ := Aside0.mk (below_step (by repeat (first | (with_reducible first | exact HB.out | apply below_alloc | apply pw_below_drewN | apply below_drew1 | refine below_set ?_ GE116.out | refine below_set ?_ GE130.out | refine below_set ?_ GE133.out | refine below_set ?_ GE136.out | refine below_set ?_ GE175.out) | exact HB.out)) hb); clear HO_101001; clear HO_102001; clear HO_103001; clear HO_112001; clear BK116; clear BK130; clear BK133; clear BK136; clear BK175; clear HB; have HO_101001 := n0_; have HO_102001 := n1_; have HO_103001 := n2_; have HO_112001 := n3_; have BK116 := n4_; have BK130 := n5_; have BK133 := n6_; have BK136 := n7_; have BK175 := n8_; have HB := n9_; clear n0_ n1_ n2_ n3_ n4_ n5_ n6_ n7_ n8_ n9_; (try clear hb); (try clear hb2); (try clear hk); (try clear hi)))
 go_ret
 exact ⟨by first | rfl | (simp [errW_none, errW_some] <;> rfl) | (simp [*, errW_none, errW_some] <;> rfl), by repeat (first | (with_reducible first | exact HB.out | apply below_alloc | apply pw_below_drewN | apply below_drew1 | refine below_set ?_ GE116.out | refine below_set ?_ GE130.out | refine below_set ?_ GE133.out | refine below_set ?_ GE136.out | refine below_set ?_ GE175.out) | exact HB.out)⟩

end Go.Proofs.Ythaihdfkjhammaa.P
