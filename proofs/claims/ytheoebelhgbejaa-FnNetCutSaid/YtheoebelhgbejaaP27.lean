import Derived.Test.YtheoebelhgbejaaP0
import Derived.Test.YtheoebelhgbejaaP1
import Derived.Test.YtheoebelhgbejaaP18
import Derived.Test.YtheoebelhgbejaaP20
namespace Go.Proofs.Ytheoebelhgbejaa.P
open Go.RowKit Go.Proofs.YtheoebelhgbejaaW.PrintWords Go.Proofs.YtheoebelhgbejaaW.PrintLast Go.Proofs.YtheoebelhgbejaaW.PrintMore
attribute [local go_sem] max2_int min2_int max_two min_two max_three min_three max_four min_four
set_option linter.unusedVariables false
set_option linter.unusedSimpArgs false
attribute [local go_sem high] eqATie
attribute [local go_sem high] eqATie
set_option maxHeartbeats 8000000 in
set_option maxRecDepth 100000 in
theorem laws_loHas.calls (k : Nat) (A0 : Option Addr) (c0 : Nat) (l0 : List (STie)) (a1_0 : Int) (a1_1 : Int) (r : Bool) (w : World) (hr0 : Kd.C kTie w A0 l0.length l0) (hc0 : l0.length ≤ c0) (h : laws_loHas.f k l0 a1_0 a1_1 = some r) :
    Calls Try.prog 37 #[.slice A0 l0.length c0, .agg #[.int .i64 a1_0, .int .i64 a1_1]] w fun e w' => e = .returned (.bool r) ∧ Below w.heap.size w w' := by
 have hu44 := Try.underlying44
 have HR0 := Aside0.mk hr0
 have HC0 := Aside0.mk hc0
 clear hr0 hc0
 have HB := q0 (Below.refl w.heap.size w)
 have H : (laws_loHas.l0 k l0 0 a1_0 a1_1) = some r := h
 clear h
 have H' := Aside0.mk H
 clear H
 go_enter Try.func37, Try.ntmps37
 go_wp2_with (first | ((with_reducible refine gate_dst (N := 3) rfl ?_); refine be 3 #[.int .i64 a1_0, .int .i64 a1_1] 44 ?_; intro gb101 hg w3 hbox hb; have n0_ := q0 (below_step (qb HB.out) hb); have n1_ := q0 (hbox); have n2_ := q0 ((bs HB.out hg : w.heap.size ≤ gb101)); have n3_ := q0 ((bs HB.out hg : w.heap.size ≤ gb101)); clear HB; have HB := n0_; have BK101 := n1_; have GW101 := n2_; have GE101 := n3_; clear n0_ n1_ n2_ n3_ hb hbox hg))
 repeat (go_quiet (first | ((with_reducible refine gate_dst (N := 3) rfl ?_); refine be 3 #[.int .i64 a1_0, .int .i64 a1_1] 44 ?_; intro gb101 hg w3 hbox hb; have n0_ := q0 (below_step (qb HB.out) hb); have n1_ := q0 (hbox); have n2_ := q0 ((bs HB.out hg : w.heap.size ≤ gb101)); have n3_ := q0 ((bs HB.out hg : w.heap.size ≤ gb101)); clear HB; have HB := n0_; have BK101 := n1_; have GW101 := n2_; have GE101 := n3_; clear n0_ n1_ n2_ n3_ hb hbox hg)); try go_wp2_with (first | ((with_reducible refine gate_dst (N := 3) rfl ?_); refine be 3 #[.int .i64 a1_0, .int .i64 a1_1] 44 ?_; intro gb101 hg w3 hbox hb; have n0_ := q0 (below_step (qb HB.out) hb); have n1_ := q0 (hbox); have n2_ := q0 ((bs HB.out hg : w.heap.size ≤ gb101)); have n3_ := q0 ((bs HB.out hg : w.heap.size ≤ gb101)); clear HB; have HB := n0_; have BK101 := n1_; have GW101 := n2_; have GE101 := n3_; clear n0_ n1_ n2_ n3_ hb hbox hg)))
 go_loopg [5] k (fun kq v5 w' => ∃ (x5_1 : Int), v5 = .int .i64 x5_1 ∧ Aside0 (laws_loHas.l0 kq l0 x5_1 a1_0 a1_1 = some r) ∧ Aside0 (kq ≤ k) ∧ Aside0 (w'.heap[gb101]? = some (.cells #[.int .i64 a1_0, .int .i64 a1_1] 44 (0, 0))) ∧ Aside0 (Below w.heap.size w w'))
 case atStart => exact ⟨(0), qs, H', ⟨Nat.le_refl _⟩, ⟨qk BK101.out⟩, ⟨qb HB.out⟩⟩
 clear H'
 try clear p2
 try clear c3
 obtain ⟨x5_1, rfl, HA, HK1, BK101, HB⟩ := hrel
 rcases gk with _ | k1
 · exact absurd HA.out (by simp [laws_loHas.l0])
 have H := HA.out
 clear HA
 simp only [laws_loHas.l0] at H
 by_cases c4 : x5_1 < (l0.length : Int)
 rotate_left
 · rw [if_neg c4] at H
   have c4b0 : decide (x5_1 < (l0.length : Int)) = false := decide_eq_false c4
   clear c4
   obtain rfl := Option.some.inj H
   go_wp2
   repeat (go_quiet (fail); try go_wp2)
   go_ret
   exact ⟨qe, qb HB.out⟩
 rw [if_pos c4] at H
 have c4b0 : decide (x5_1 < (l0.length : Int)) = true := decide_eq_true c4
 clear c4
 by_cases c5 : 0 ≤ x5_1
 rotate_left
 · rw [if_neg c5] at H
   exact absurd H (by simp)
 rw [if_pos c5] at H
 have c5b0 : decide (0 ≤ x5_1) = true := decide_eq_true c5
 clear c5
 by_cases c6 : (((rd_TTie l0 x5_1).f0) == a1_0 && (((rd_TTie l0 x5_1).f1) == a1_1)) = true
 · rw [if_pos c6] at H
   have c6b0 : (((rd_TTie l0 x5_1).f0) == a1_0 && (((rd_TTie l0 x5_1).f1) == a1_1)) = true := c6
   (try (have c6b1 : decide (((rd_TTie l0 x5_1).f0) = a1_0 && (((rd_TTie l0 x5_1).f1) == a1_1)) = true := by simpa using c6))
   (try (have c6b2 : (((rd_TTie l0 x5_1).f0) == a1_0 && (((rd_TTie l0 x5_1).f1) == a1_1)) = true := by simpa using c6))
   clear c6
   obtain rfl := Option.some.inj H
   have p100 : 0 ≤ (x5_1 : Int) := of_decide_eq_true qa
   have q100 : x5_1 < (l0.length : Int) := of_decide_eq_true qa
   obtain ⟨ad100, e100, hx100_0, hx100_1⟩ := at_TTie HR0.out x5_1 p100 q100
   cases e100
   replace hx100_0 := (HB.out.cell (World.block_lt_of_cell? w _ hx100_0)).trans hx100_0
   replace hx100_1 := (HB.out.cell (World.block_lt_of_cell? w _ hx100_1)).trans hx100_1
   replace p100 := eq_true p100
   replace q100 := eq_true q100
   have hcz7_0 : wr.cell? ⟨gb101, 0, none⟩ = some (.int .i64 a1_0) := (blk_cell BK101.out 0).trans rfl
   have hcz7_1 : wr.cell? ⟨gb101, 1, none⟩ = some (.int .i64 a1_1) := (blk_cell BK101.out 1).trans rfl
   have hfz7_0 := blk_frozen BK101.out 0
   have hfz7_1 := blk_frozen BK101.out 1
   go_wp2
   repeat (go_quiet (fail); try go_wp2)
   go_ret
   exact ⟨qe, qb HB.out⟩
 rw [if_neg c6] at H
 have c6b0 : (((rd_TTie l0 x5_1).f0) == a1_0 && (((rd_TTie l0 x5_1).f1) == a1_1)) = false := by simpa using c6
 (try (have c6b1 : decide (((rd_TTie l0 x5_1).f0) = a1_0 && (((rd_TTie l0 x5_1).f1) == a1_1)) = false := by simpa using c6))
 (try (have c6b2 : (((rd_TTie l0 x5_1).f0) == a1_0 && (((rd_TTie l0 x5_1).f1) == a1_1)) = false := by simpa using c6))
 (try (have c6b3 : ¬ (((rd_TTie l0 x5_1).f0) = a1_0 && (((rd_TTie l0 x5_1).f1) == a1_1)) := by simpa using c6))
 clear c6
 have H' := Aside0.mk H
 clear H
 have p100 : 0 ≤ (x5_1 : Int) := of_decide_eq_true qa
 have q100 : x5_1 < (l0.length : Int) := of_decide_eq_true qa
 obtain ⟨ad100, e100, hx100_0, hx100_1⟩ := at_TTie HR0.out x5_1 p100 q100
 cases e100
 replace hx100_0 := (HB.out.cell (World.block_lt_of_cell? w _ hx100_0)).trans hx100_0
 replace hx100_1 := (HB.out.cell (World.block_lt_of_cell? w _ hx100_1)).trans hx100_1
 replace p100 := eq_true p100
 replace q100 := eq_true q100
 have hcz8_0 : wr.cell? ⟨gb101, 0, none⟩ = some (.int .i64 a1_0) := (blk_cell BK101.out 0).trans rfl
 have hcz8_1 : wr.cell? ⟨gb101, 1, none⟩ = some (.int .i64 a1_1) := (blk_cell BK101.out 1).trans rfl
 have hfz8_0 := blk_frozen BK101.out 0
 have hfz8_1 := blk_frozen BK101.out 1
 go_wp2
 repeat (go_quiet (fail); try go_wp2)
 go_roundg k1
 case measure => have := HK1.out; omega
 case rel => exact ⟨(wrap64 (x5_1 + 1)), qs, H', ⟨by have := HK1.out; omega⟩, ⟨qk BK101.out⟩, ⟨qb HB.out⟩⟩

def laws_FnNetCut.T11 : Bool × List (List Nat × List Nat) := (true, [([], []), ([0], [0]), ([], []), ([2], [2]), ([], []), ([3, 4], [3, 4]), ([5], [5]), ([1, 6], [1, 6]), ([7], [7])])
def laws_FnNetCut.B11 : List Nat := [0, 1, 0, 4, 0, 28, 60, 127, 255]
theorem laws_FnNetCut.tab11 : rtab .any (opsOf Try.f8 11) = laws_FnNetCut.T11 := by kernel_rfl
theorem laws_FnNetCut.bits11 : waitsOk laws_FnNetCut.T11.2 laws_FnNetCut.B11 = true := by kernel_rfl
set_option maxHeartbeats 8000000 in
set_option maxRecDepth 100000 in
theorem laws_FnNetCut.calls (k : Nat) (A0 : Option Addr) (c0 : Nat) (l0 : List Int) (r : Bool) (w : World) (hr0 : Kd.C (Kd.int .u8) w A0 l0.length l0) (hc0 : l0.length ≤ c0) (h : laws_FnNetCut.f k l0 = some r) :
    Calls Try.prog 8 #[.slice A0 l0.length c0] w fun e w' => e = .returned (.bool r) ∧ Below w.heap.size w w' := by
 have hu30 := Try.underlying30
 have hu44 := Try.underlying44
 have HR0 := Aside0.mk hr0
 have HC0 := Aside0.mk hc0
 clear hr0 hc0
 have HB := q0 (Below.refl w.heap.size w)
 have H : (if (l0.length : Int) > 1048576 then (some true) else ((spec_DrawNetCut.f k l0).bind fun bt108 => ((spec_NetCut.f k bt108.1 bt108.2.1 bt108.2.2.1 bt108.2.2.2).bind fun bt100 => ((impl_NetCut.f k bt108.1 bt108.2.1 bt108.2.2.1 bt108.2.2.2).bind fun bt101 => (if (bt101.2.2 != bt100.2.2) = true then (laws_FnNetCut.j0 k bt108.2.2.1 bt108.2.2.2 bt100.2.2 bt101.2.2 true bt108.1 bt108.2.1 bt100.1 bt100.2.1 bt101.1 bt101.2.1) else ((laws_loNet.f k bt101.1 bt101.2.1 bt100.1 bt100.2.1).bind fun t102 => (if t102 = true then (laws_FnNetCut.j0 k bt108.2.2.1 bt108.2.2.2 bt100.2.2 bt101.2.2 (!bt101.2.2) bt108.1 bt108.2.1 bt100.1 bt100.2.1 bt101.1 bt101.2.1) else (laws_FnNetCut.j0 k bt108.2.2.1 bt108.2.2.2 bt100.2.2 bt101.2.2 true bt108.1 bt108.2.1 bt100.1 bt100.2.1 bt101.1 bt101.2.1)))))))) = some r := h
 clear h
 by_cases c2 : (l0.length : Int) > 1048576
 · rw [if_pos c2] at H
   have c2b0 : decide (1048576 < (l0.length : Int)) = true := decide_eq_true c2
   have c2b1 : decide (1048576 < l0.length) = true := decide_eq_true (by omega)
   clear c2
   obtain rfl := Option.some.inj H
   go_enter Try.func8, Try.ntmps8
   go_wp2
   go_ret
   exact ⟨qe, qb HB.out⟩
 rw [if_neg c2] at H
 have c2b0 : decide (1048576 < (l0.length : Int)) = false := decide_eq_false c2
 have c2b1 : decide (1048576 < l0.length) = false := decide_eq_false (by omega)
 clear c2
 replace H := Option.bind_eq_some_iff.mp H
 obtain ⟨⟨t108, t109, t110, t111⟩, A30, H⟩ := H
 replace H : ((spec_NetCut.f k t108 t109 t110 t111).bind fun bt100 => ((impl_NetCut.f k t108 t109 t110 t111).bind fun bt101 => (if (bt101.2.2 != bt100.2.2) = true then (laws_FnNetCut.j0 k t110 t111 bt100.2.2 bt101.2.2 true t108 t109 bt100.1 bt100.2.1 bt101.1 bt101.2.1) else ((laws_loNet.f k bt101.1 bt101.2.1 bt100.1 bt100.2.1).bind fun t102 => (if t102 = true then (laws_FnNetCut.j0 k t110 t111 bt100.2.2 bt101.2.2 (!bt101.2.2) t108 t109 bt100.1 bt100.2.1 bt101.1 bt101.2.1) else (laws_FnNetCut.j0 k t110 t111 bt100.2.2 bt101.2.2 true t108 t109 bt100.1 bt100.2.1 bt101.1 bt101.2.1)))))) = some r := H
 have A3 := Aside0.mk A30
 clear A30
 replace H := Option.bind_eq_some_iff.mp H
 obtain ⟨⟨t100, t112, t113⟩, A40, H⟩ := H
 replace H : ((impl_NetCut.f k t108 t109 t110 t111).bind fun bt101 => (if (bt101.2.2 != t113) = true then (laws_FnNetCut.j0 k t110 t111 t113 bt101.2.2 true t108 t109 t100 t112 bt101.1 bt101.2.1) else ((laws_loNet.f k bt101.1 bt101.2.1 t100 t112).bind fun t102 => (if t102 = true then (laws_FnNetCut.j0 k t110 t111 t113 bt101.2.2 (!bt101.2.2) t108 t109 t100 t112 bt101.1 bt101.2.1) else (laws_FnNetCut.j0 k t110 t111 t113 bt101.2.2 true t108 t109 t100 t112 bt101.1 bt101.2.1))))) = some r := H
 have A4 := Aside0.mk A40
 clear A40
 replace H := Option.bind_eq_some_iff.mp H
 obtain ⟨⟨t101, t114, t115⟩, A50, H⟩ := H
 replace H : (if (t115 != t113) = true then (laws_FnNetCut.j0 k t110 t111 t113 t115 true t108 t109 t100 t112 t101 t114) else ((laws_loNet.f k t101 t114 t100 t112).bind fun t102 => (if t102 = true then (laws_FnNetCut.j0 k t110 t111 t113 t115 (!t115) t108 t109 t100 t112 t101 t114) else (laws_FnNetCut.j0 k t110 t111 t113 t115 true t108 t109 t100 t112 t101 t114)))) = some r := H
 have A5 := Aside0.mk A50
 clear A50
 have HC6 := Aside0.mk H
 clear H
 go_enter Try.func8, Try.ntmps8
 go_upto_region 6 with (first | ((with_reducible refine gate_callee (f := 33) rfl ?_); refine goesL_ (some 18) rfl rfl Try.func33 (by kernel_rfl) rfl #[.slice A0 l0.length c0] rfl qm ?_; (with_reducible refine (spec_DrawNetCut.calls k _ _ l0 t108 t109 t110 t111 _ ?side1 ?side2 A3.out).mono ?_); (case side1 => repeat (first | exact HR0.out | (with_reducible refine Kd.C_alloc ?_ _) | (with_reducible refine Kd.C_drewN ?_ _) | (with_reducible refine Kd.C_drew ?_))); (case side2 => exact HC0.out); rintro e w7 ⟨v116, rfl, ho0, hb⟩; refine ⟨_, rfl, ?_⟩; have n0_ := q0 (Kd.R_lower ho0 (below_size (qb HB.out))); have n1_ := q0 (below_step (qb HB.out) hb); clear HB; have HO117 := n0_; have HB := n1_; clear n0_ n1_; (try clear hb); (try clear hb2); (try clear hk); (try clear hi); (try clear ho0)) | ((with_reducible refine gate_dst (N := 3) rfl ?_); (try (refine gate_guard (by rfl) ?_; dsimp only)); refine be 3 #[.int .i64 0, .slice none 0 0] 30 ?_; intro gb118 hg w8 hbox hb; have n0_ := q0 (Kd.R_below (qr HO117.out) hb); have n1_ := q0 (below_step (qb HB.out) hb); have n2_ := q0 (hbox); have n3_ := q0 ((bs HB.out hg : w.heap.size ≤ gb118)); have n4_ := q0 ((bs HB.out hg : w.heap.size ≤ gb118)); clear HO117 HB; have HO117 := n0_; have HB := n1_; have BK118 := n2_; have GW118 := n3_; have GE118 := n4_; clear n0_ n1_ n2_ n3_ n4_ hb hbox hg; have hcz9_0 : w8.cell? ⟨gb118, 0, none⟩ = some (.int .i64 0) := (blk_cell BK118.out 0).trans rfl; have hcz9_1 : w8.cell? ⟨gb118, 1, none⟩ = some (.slice none 0 0) := (blk_cell BK118.out 1).trans rfl; have hfz9_0 := blk_frozen BK118.out 0; have hfz9_1 := blk_frozen BK118.out 1; obtain ⟨Ao10, co10, eo10⟩ := Kd.R_slice HO117.out; subst eo10) | ((with_reducible refine gate_callee (f := 34) rfl ?_); refine goesL_ (some 26) rfl rfl Try.func34 (by kernel_rfl) rfl #[.agg #[.int .i64 t108, .slice Ao10 t109.length co10], .int .i64 t110, .int .i64 t111] rfl qm ?_; (with_reducible refine (spec_NetCut.calls k t108 _ _ t109 t110 t111 t100 t112 t113 _ ?side1 ?side2 A4.out).mono ?_); (case side1 => refine (Kd.R_reads' (e := 44) (base := w.heap.size) (ok := fun k_ => True) (n := t109.length) (c := co10) ?_).2.2; exact (by (with_reducible repeat (first | apply Kd.R_alloc | apply Kd.R_drewN | apply Kd.R_drew)); exact (Kd.R_mono (Kd.R_far (p := ⟨gb118, 1, none⟩) (Kd.R_far (p := ⟨gb118, 0, none⟩) (Kd.R_types HO117.out BK118.out (by decide)) (fun _ hk => hk.2) (.int .i64 t108)) (fun _ hk => hk.2) (.slice Ao10 t109.length co10)) (fun _ h_ => h_.1)))); (case side2 => exact (Kd.R_reads' HO117.out).2.1); rintro e w11 ⟨v119, rfl, ho0, hb⟩; refine ⟨_, rfl, ?_⟩; have n0_ := q0 (Kd.R_elder' (by (with_reducible repeat (first | apply Kd.R_alloc | apply Kd.R_drewN | apply Kd.R_drew)); exact (Kd.R_mono (Kd.R_far (p := ⟨gb118, 1, none⟩) (Kd.R_far (p := ⟨gb118, 0, none⟩) (Kd.R_types HO117.out BK118.out (by decide)) (fun _ hk => hk.2) (.int .i64 t108)) (fun _ hk => hk.2) (.slice Ao10 t109.length co10)) (fun _ h_ => h_.1))) (Kd.R_base ho0) hb); have n1_ := q0 (Kd.R_lower (Kd.R_new' ho0 (Kd.R_lt (by (with_reducible repeat (first | apply Kd.R_alloc | apply Kd.R_drewN | apply Kd.R_drew)); exact (Kd.R_mono (Kd.R_far (p := ⟨gb118, 1, none⟩) (Kd.R_far (p := ⟨gb118, 0, none⟩) (Kd.R_types HO117.out BK118.out (by decide)) (fun _ hk => hk.2) (.int .i64 t108)) (fun _ hk => hk.2) (.slice Ao10 t109.length co10)) (fun _ h_ => h_.1))))) (below_size (qb HB.out))); have n2_ := q0 (blk_below (g := gb118) (o := .cells #[.int .i64 t108, .slice Ao10 t109.length co10] 30 (0, 0)) (by (with_reducible repeat (first | refine blk_drewN ?_ _ | refine blk_drew ?_ | refine blk_alloc ?_ _)); refine blk_put (cs := #[.int .i64 t108, .slice none 0 0]) ?_ 1 _ rfl; (with_reducible repeat (first | refine blk_drewN ?_ _ | refine blk_drew ?_ | refine blk_alloc ?_ _)); refine blk_put (cs := #[.int .i64 0, .slice none 0 0]) ?_ 0 _ rfl; (with_reducible repeat (first | refine blk_drewN ?_ _ | refine blk_drew ?_ | refine blk_alloc ?_ _)); exact BK118.out) hb); have n3_ := q0 (below_step (qb HB.out) hb); clear HO117 BK118 HB; have HO117 := n0_; have HO120 := n1_; have BK118 := n2_; have HB := n3_; clear n0_ n1_ n2_ n3_; (try clear hb); (try clear hb2); (try clear hk); (try clear hi); (try clear ho0)) | ((with_reducible refine gate_dst (N := 6) rfl ?_); (try (refine gate_guard (by rfl) ?_; dsimp only)); refine be 6 #[.int .i64 0, .slice none 0 0] 30 ?_; intro gb121 hg w12 hbox hb; have n0_ := q0 (Kd.R_below (qr HO117.out) hb); have n1_ := q0 (Kd.R_below (qr HO120.out) hb); have n2_ := q0 (kb BK118.out hb); have n3_ := q0 (below_step (qb HB.out) hb); have n4_ := q0 (hbox); have n5_ := q0 ((bs HB.out hg : w.heap.size ≤ gb121)); have n6_ := q0 ((bs HB.out hg : w.heap.size ≤ gb121)); have n7_ := q0 ((bl BK118.out hg : gb118 ≠ gb121)); have n8_ := q0 ((bg BK118.out hg : gb121 ≠ gb118)); clear HO117 HO120 BK118 HB; have HO117 := n0_; have HO120 := n1_; have BK118 := n2_; have HB := n3_; have BK121 := n4_; have GW121 := n5_; have GE121 := n6_; have NB118_121 := n7_; have NB121_118 := n8_; clear n0_ n1_ n2_ n3_ n4_ n5_ n6_ n7_ n8_ hb hbox hg; have hnb13 := NB121_118.out; have hnc13 := NB118_121.out; have hcz14_0 : w12.cell? ⟨gb121, 0, none⟩ = some (.int .i64 0) := (blk_cell BK121.out 0).trans rfl; have hcz14_1 : w12.cell? ⟨gb121, 1, none⟩ = some (.slice none 0 0) := (blk_cell BK121.out 1).trans rfl; have hfz14_0 := blk_frozen BK121.out 0; have hfz14_1 := blk_frozen BK121.out 1; obtain ⟨Ao15, co15, eo15⟩ := Kd.R_slice HO120.out; subst eo15; have hcz16_0 : w12.cell? ⟨gb118, 0, none⟩ = some (.int .i64 t108) := (blk_cell BK118.out 0).trans rfl; have hcz16_1 : w12.cell? ⟨gb118, 1, none⟩ = some (.slice Ao10 t109.length co10) := (blk_cell BK118.out 1).trans rfl; have hfz16_0 := blk_frozen BK118.out 0; have hfz16_1 := blk_frozen BK118.out 1) | ((with_reducible refine gate_callee (f := 35) rfl ?_); refine goesL_ (some 33) rfl rfl Try.func35 (by kernel_rfl) rfl #[.agg #[.int .i64 t108, .slice Ao10 t109.length co10], .int .i64 t110, .int .i64 t111] rfl qm ?_; (with_reducible refine (impl_NetCut.calls k t108 _ _ t109 t110 t111 t101 t114 t115 _ ?side1 ?side2 A5.out).mono ?_); (case side1 => refine (Kd.R_reads' (e := 44) (base := w.heap.size) (ok := fun k_ => (True ∧ some k_ ≠ (.slice Ao15 t112.length co15 : Value).ownBlock)) (n := t109.length) (c := co10) ?_).2.2; exact (by (with_reducible repeat (first | apply Kd.R_alloc | apply Kd.R_drewN | apply Kd.R_drew)); exact (Kd.R_mono (Kd.R_far (p := ⟨gb121, 1, none⟩) (Kd.R_far (p := ⟨gb121, 0, none⟩) (Kd.R_types HO117.out BK121.out (by decide)) (fun _ hk => hk.2) (.int .i64 t100)) (fun _ hk => hk.2) (.slice Ao15 t112.length co15)) (fun _ h_ => h_.1)))); (case side2 => exact (Kd.R_reads' HO117.out).2.1); rintro e w17 ⟨v122, rfl, ho0, hb⟩; refine ⟨_, rfl, ?_⟩; have n0_ := q0 (Kd.R_elder' (by (with_reducible repeat (first | apply Kd.R_alloc | apply Kd.R_drewN | apply Kd.R_drew)); exact (Kd.R_mono (Kd.R_far (p := ⟨gb121, 1, none⟩) (Kd.R_far (p := ⟨gb121, 0, none⟩) (Kd.R_types HO117.out BK121.out (by decide)) (fun _ hk => hk.2) (.int .i64 t100)) (fun _ hk => hk.2) (.slice Ao15 t112.length co15)) (fun _ h_ => h_.1))) (Kd.R_base ho0) hb); have n1_ := q0 (Kd.R_elder' (by (with_reducible repeat (first | apply Kd.R_alloc | apply Kd.R_drewN | apply Kd.R_drew)); exact (Kd.R_mono (Kd.R_far (p := ⟨gb121, 1, none⟩) (Kd.R_far (p := ⟨gb121, 0, none⟩) (Kd.R_types HO120.out BK121.out (by decide)) (fun _ hk => hk.2) (.int .i64 t100)) (fun _ hk => hk.2) (.slice Ao15 t112.length co15)) (fun _ h_ => h_.1))) (Kd.R_base ho0) hb); have n2_ := q0 (Kd.R_lower (Kd.R_new' (Kd.R_new' ho0 (Kd.R_lt (by (with_reducible repeat (first | apply Kd.R_alloc | apply Kd.R_drewN | apply Kd.R_drew)); exact (Kd.R_mono (Kd.R_far (p := ⟨gb121, 1, none⟩) (Kd.R_far (p := ⟨gb121, 0, none⟩) (Kd.R_types HO117.out BK121.out (by decide)) (fun _ hk => hk.2) (.int .i64 t100)) (fun _ hk => hk.2) (.slice Ao15 t112.length co15)) (fun _ h_ => h_.1))))) (Kd.R_lt (by (with_reducible repeat (first | apply Kd.R_alloc | apply Kd.R_drewN | apply Kd.R_drew)); exact (Kd.R_mono (Kd.R_far (p := ⟨gb121, 1, none⟩) (Kd.R_far (p := ⟨gb121, 0, none⟩) (Kd.R_types HO120.out BK121.out (by decide)) (fun _ hk => hk.2) (.int .i64 t100)) (fun _ hk => hk.2) (.slice Ao15 t112.length co15)) (fun _ h_ => h_.1))))) (below_size (qb HB.out))); have n3_ := q0 (blk_below (g := gb118) (o := .cells #[.int .i64 t108, .slice Ao10 t109.length co10] 30 (0, 0)) (qf BK118.out) hb); have n4_ := q0 (blk_below (g := gb121) (o := .cells #[.int .i64 t100, .slice Ao15 t112.length co15] 30 (0, 0)) (by (with_reducible repeat (first | refine blk_drewN ?_ _ | refine blk_drew ?_ | refine blk_alloc ?_ _)); refine blk_put (cs := #[.int .i64 t100, .slice none 0 0]) ?_ 1 _ rfl; (with_reducible repeat (first | refine blk_drewN ?_ _ | refine blk_drew ?_ | refine blk_alloc ?_ _)); refine blk_put (cs := #[.int .i64 0, .slice none 0 0]) ?_ 0 _ rfl; (with_reducible repeat (first | refine blk_drewN ?_ _ | refine blk_drew ?_ | refine blk_alloc ?_ _)); exact BK121.out) hb); have n5_ := q0 (below_step (qb HB.out) hb); clear HO117 HO120 BK118 BK121 HB; have HO117 := n0_; have HO120 := n1_; have HO123 := n2_; have BK118 := n3_; have BK121 := n4_; have HB := n5_; clear n0_ n1_ n2_ n3_ n4_ n5_; (try clear hb); (try clear hb2); (try clear hk); (try clear hi); (try clear ho0)) | ((with_reducible refine gate_dst (N := 8) rfl ?_); (try (refine gate_guard (by rfl) ?_; dsimp only)); refine be 8 #[.int .i64 0, .slice none 0 0] 30 ?_; intro gb124 hg w18 hbox hb; have n0_ := q0 (Kd.R_below (qr HO117.out) hb); have n1_ := q0 (Kd.R_below (qr HO120.out) hb); have n2_ := q0 (Kd.R_below (qr HO123.out) hb); have n3_ := q0 (kb BK118.out hb); have n4_ := q0 (kb BK121.out hb); have n5_ := q0 (below_step (qb HB.out) hb); have n6_ := q0 (hbox); have n7_ := q0 ((bs HB.out hg : w.heap.size ≤ gb124)); have n8_ := q0 ((bs HB.out hg : w.heap.size ≤ gb124)); have n9_ := q0 ((bl BK118.out hg : gb118 ≠ gb124)); have n10_ := q0 ((bg BK118.out hg : gb124 ≠ gb118)); have n11_ := q0 ((bl BK121.out hg : gb121 ≠ gb124)); have n12_ := q0 ((bg BK121.out hg : gb124 ≠ gb121)); clear HO117 HO120 HO123 BK118 BK121 HB; have HO117 := n0_; have HO120 := n1_; have HO123 := n2_; have BK118 := n3_; have BK121 := n4_; have HB := n5_; have BK124 := n6_; have GW124 := n7_; have GE124 := n8_; have NB118_124 := n9_; have NB124_118 := n10_; have NB121_124 := n11_; have NB124_121 := n12_; clear n0_ n1_ n2_ n3_ n4_ n5_ n6_ n7_ n8_ n9_ n10_ n11_ n12_ hb hbox hg; have hnb19 := NB124_118.out; have hnc19 := NB118_124.out; have hnb20 := NB124_121.out; have hnc20 := NB121_124.out; have hcz21_0 : w18.cell? ⟨gb124, 0, none⟩ = some (.int .i64 0) := (blk_cell BK124.out 0).trans rfl; have hcz21_1 : w18.cell? ⟨gb124, 1, none⟩ = some (.slice none 0 0) := (blk_cell BK124.out 1).trans rfl; have hfz21_0 := blk_frozen BK124.out 0; have hfz21_1 := blk_frozen BK124.out 1; obtain ⟨Ao22, co22, eo22⟩ := Kd.R_slice HO123.out; subst eo22))
 (try simp only [Act.put, List.setIfInBounds_toArray, List.set_cons_zero, List.set_cons_succ])
 go_cut [48] (fun v48 wc => ∃ (kq : Nat) (x48_5 : Bool), v48 = .bool x48_5 ∧ Aside0 (laws_FnNetCut.j0 kq t110 t111 t113 t115 x48_5 t108 t109 t100 t112 t101 t114 = some r) ∧ Aside0 (kq ≤ k) ∧ Aside0 (Kd.R kTie 44 wc w.heap.size (fun k_ => some k_ ≠ ((.slice Ao15 t112.length co15) : Value).ownBlock ∧ some k_ ≠ ((.slice Ao22 t114.length co22) : Value).ownBlock) (.slice Ao10 t109.length co10) t109) ∧ Aside0 (Kd.R kTie 44 wc w.heap.size (fun k_ => some k_ ≠ ((.slice Ao10 t109.length co10) : Value).ownBlock ∧ some k_ ≠ ((.slice Ao22 t114.length co22) : Value).ownBlock) (.slice Ao15 t112.length co15) t112) ∧ Aside0 (Kd.R kTie 44 wc w.heap.size (fun k_ => some k_ ≠ ((.slice Ao10 t109.length co10) : Value).ownBlock ∧ some k_ ≠ ((.slice Ao15 t112.length co15) : Value).ownBlock) (.slice Ao22 t114.length co22) t114) ∧ Aside0 (wc.heap[gb118]? = some (.cells #[.int .i64 t108, (.slice Ao10 t109.length co10)] 30 (0, 0))) ∧ Aside0 (wc.heap[gb121]? = some (.cells #[.int .i64 t100, (.slice Ao15 t112.length co15)] 30 (0, 0))) ∧ Aside0 (wc.heap[gb124]? = some (.cells #[.int .i64 t101, (.slice Ao22 t114.length co22)] 30 (0, 0))) ∧ Aside0 (Below w.heap.size w wc))
 case first =>
   have H := HC6.out
   clear HC6
   by_cases c23 : (t115 != t113) = true
   · rw [if_pos c23] at H
     have c23b0 : (t115 != t113) = true := c23
     (try (have c23b1 : decide (t115 = t113) = false := by simpa using c23))
     (try (have c23b2 : (t115 == t113) = false := by simpa using c23))
     (try (have c23b3 : ¬ (t115 = t113) := by simpa using c23))
     clear c23
     (first | rw [c23b0] | (simp only [i64_w, i32_w]; rw [c23b0]) | skip)
     have H' := Aside0.mk H
     clear H
     go_wp2
     go_meet
     case rel => exact ⟨_, (true), qs, H', ⟨by first | omega | exact Nat.le_refl _⟩, ⟨by (with_reducible repeat (first | apply Kd.R_alloc | apply Kd.R_drewN | apply Kd.R_drew)); exact Kd.R_mono (Kd.R_far (p := ⟨gb124, 1, none⟩) (Kd.R_far (p := ⟨gb124, 0, none⟩) (Kd.R_types HO117.out BK124.out (by decide)) (fun _ hk => hk.2) (.int .i64 t101)) (fun _ hk => hk.2) (.slice Ao22 t114.length co22)) (fun _ hk => ⟨hk.1.1.2, hk.1.2⟩)⟩, ⟨by (with_reducible repeat (first | apply Kd.R_alloc | apply Kd.R_drewN | apply Kd.R_drew)); exact Kd.R_mono (Kd.R_far (p := ⟨gb124, 1, none⟩) (Kd.R_far (p := ⟨gb124, 0, none⟩) (Kd.R_types HO120.out BK124.out (by decide)) (fun _ hk => hk.2) (.int .i64 t101)) (fun _ hk => hk.2) (.slice Ao22 t114.length co22)) (fun _ hk => ⟨hk.1.1.2, hk.1.2⟩)⟩, ⟨by (with_reducible repeat (first | apply Kd.R_alloc | apply Kd.R_drewN | apply Kd.R_drew)); exact Kd.R_mono (Kd.R_far (p := ⟨gb124, 1, none⟩) (Kd.R_far (p := ⟨gb124, 0, none⟩) (Kd.R_types HO123.out BK124.out (by decide)) (fun _ hk => hk.2) (.int .i64 t101)) (fun _ hk => hk.2) (.slice Ao22 t114.length co22)) (fun _ hk => ⟨hk.1.1.2, hk.1.2⟩)⟩, ⟨qf BK118.out⟩, ⟨qf BK121.out⟩, ⟨by (with_reducible repeat (first | refine blk_drewN ?_ _ | refine blk_drew ?_ | refine blk_alloc ?_ _)); refine blk_put (cs := #[.int .i64 t101, .slice none 0 0]) ?_ 1 _ rfl; (with_reducible repeat (first | refine blk_drewN ?_ _ | refine blk_drew ?_ | refine blk_alloc ?_ _)); refine blk_put (cs := #[.int .i64 0, .slice none 0 0]) ?_ 0 _ rfl; (with_reducible repeat (first | refine blk_drewN ?_ _ | refine blk_drew ?_ | refine blk_alloc ?_ _)); exact BK124.out⟩, ⟨qb HB.out⟩⟩
   rw [if_neg c23] at H
   have c23b0 : (t115 != t113) = false := by simpa using c23
   (try (have c23b1 : decide (t115 = t113) = true := by simpa using c23))
   (try (have c23b2 : (t115 == t113) = true := by simpa using c23))
   clear c23
   (first | rw [c23b0] | (simp only [i64_w, i32_w]; rw [c23b0]) | skip)
   replace H := Option.bind_eq_some_iff.mp H
   obtain ⟨t102, A125, H⟩ := H
   replace H : (if t102 = true then (laws_FnNetCut.j0 k t110 t111 t113 t115 (!t115) t108 t109 t100 t112 t101 t114) else (laws_FnNetCut.j0 k t110 t111 t113 t115 true t108 t109 t100 t112 t101 t114)) = some r := H
   have A24 := Aside0.mk A125
   clear A125
   by_cases c25 : t102 = true
   · subst c25
     have H1 : (laws_FnNetCut.j0 k t110 t111 t113 t115 (!t115) t108 t109 t100 t112 t101 t114) = some r := by rw [if_pos rfl] at H; exact H
     clear H
     have H := H1
     clear H1
     have H' := Aside0.mk H
     clear H
     have hnb26 := NB124_118.out
     have hnc26 := NB118_124.out
     have hnb27 := NB124_121.out
     have hnc27 := NB121_124.out
     have hcz28_0 : w18.cell? ⟨gb124, 0, none⟩ = some (.int .i64 0) := (blk_cell BK124.out 0).trans rfl
     have hcz28_1 : w18.cell? ⟨gb124, 1, none⟩ = some (.slice none 0 0) := (blk_cell BK124.out 1).trans rfl
     have hfz28_0 := blk_frozen BK124.out 0
     have hfz28_1 := blk_frozen BK124.out 1
     have hnb29 := NB121_118.out
     have hnc29 := NB118_121.out
     have hcz30_0 : w18.cell? ⟨gb121, 0, none⟩ = some (.int .i64 t100) := (blk_cell BK121.out 0).trans rfl
     have hcz30_1 : w18.cell? ⟨gb121, 1, none⟩ = some (.slice Ao15 t112.length co15) := (blk_cell BK121.out 1).trans rfl
     have hfz30_0 := blk_frozen BK121.out 0
     have hfz30_1 := blk_frozen BK121.out 1
     go_wp2_with (first | (go_at_call 36; (with_reducible refine (laws_loNet.calls k t101 _ _ t114 t100 _ _ t112 true _ ?side1 ?side2 ?side3 ?side4 A24.out).mono ?_); (case side1 => refine (Kd.R_reads' (e := 44) (base := w.heap.size) (ok := fun k_ => ((True ∧ some k_ ≠ (.slice Ao10 t109.length co10 : Value).ownBlock) ∧ some k_ ≠ (.slice Ao15 t112.length co15 : Value).ownBlock)) (n := t114.length) (c := co22) ?_).2.2; exact (by (with_reducible repeat (first | apply Kd.R_alloc | apply Kd.R_drewN | apply Kd.R_drew)); exact (Kd.R_mono (Kd.R_far (p := ⟨gb124, 1, none⟩) (Kd.R_far (p := ⟨gb124, 0, none⟩) (Kd.R_types HO123.out BK124.out (by decide)) (fun _ hk => hk.2) (.int .i64 t101)) (fun _ hk => hk.2) (.slice Ao22 t114.length co22)) (fun _ h_ => h_.1)))); (case side2 => exact (Kd.R_reads' HO123.out).2.1); (case side3 => refine (Kd.R_reads' (e := 44) (base := w.heap.size) (ok := fun k_ => ((True ∧ some k_ ≠ (.slice Ao10 t109.length co10 : Value).ownBlock) ∧ some k_ ≠ (.slice Ao22 t114.length co22 : Value).ownBlock)) (n := t112.length) (c := co15) ?_).2.2; exact (by (with_reducible repeat (first | apply Kd.R_alloc | apply Kd.R_drewN | apply Kd.R_drew)); exact (Kd.R_mono (Kd.R_far (p := ⟨gb124, 1, none⟩) (Kd.R_far (p := ⟨gb124, 0, none⟩) (Kd.R_types HO120.out BK124.out (by decide)) (fun _ hk => hk.2) (.int .i64 t101)) (fun _ hk => hk.2) (.slice Ao22 t114.length co22)) (fun _ h_ => h_.1)))); (case side4 => exact (Kd.R_reads' HO120.out).2.1); rintro e w31 ⟨rfl, hb⟩; have n0_ := q0 (Kd.R_below (by (with_reducible repeat (first | apply Kd.R_alloc | apply Kd.R_drewN | apply Kd.R_drew)); exact (Kd.R_mono (Kd.R_far (p := ⟨gb124, 1, none⟩) (Kd.R_far (p := ⟨gb124, 0, none⟩) (Kd.R_types HO117.out BK124.out (by decide)) (fun _ hk => hk.2) (.int .i64 t101)) (fun _ hk => hk.2) (.slice Ao22 t114.length co22)) (fun _ h_ => h_.1))) hb); have n1_ := q0 (Kd.R_below (by (with_reducible repeat (first | apply Kd.R_alloc | apply Kd.R_drewN | apply Kd.R_drew)); exact (Kd.R_mono (Kd.R_far (p := ⟨gb124, 1, none⟩) (Kd.R_far (p := ⟨gb124, 0, none⟩) (Kd.R_types HO120.out BK124.out (by decide)) (fun _ hk => hk.2) (.int .i64 t101)) (fun _ hk => hk.2) (.slice Ao22 t114.length co22)) (fun _ h_ => h_.1))) hb); have n2_ := q0 (Kd.R_below (by (with_reducible repeat (first | apply Kd.R_alloc | apply Kd.R_drewN | apply Kd.R_drew)); exact (Kd.R_mono (Kd.R_far (p := ⟨gb124, 1, none⟩) (Kd.R_far (p := ⟨gb124, 0, none⟩) (Kd.R_types HO123.out BK124.out (by decide)) (fun _ hk => hk.2) (.int .i64 t101)) (fun _ hk => hk.2) (.slice Ao22 t114.length co22)) (fun _ h_ => h_.1))) hb); have n3_ := q0 (blk_below (g := gb118) (o := .cells #[.int .i64 t108, .slice Ao10 t109.length co10] 30 (0, 0)) (qf BK118.out) hb); have n4_ := q0 (blk_below (g := gb121) (o := .cells #[.int .i64 t100, .slice Ao15 t112.length co15] 30 (0, 0)) (qf BK121.out) hb); have n5_ := q0 (blk_below (g := gb124) (o := .cells #[.int .i64 t101, .slice Ao22 t114.length co22] 30 (0, 0)) (by (with_reducible repeat (first | refine blk_drewN ?_ _ | refine blk_drew ?_ | refine blk_alloc ?_ _)); refine blk_put (cs := #[.int .i64 t101, .slice none 0 0]) ?_ 1 _ rfl; (with_reducible repeat (first | refine blk_drewN ?_ _ | refine blk_drew ?_ | refine blk_alloc ?_ _)); refine blk_put (cs := #[.int .i64 0, .slice none 0 0]) ?_ 0 _ rfl; (with_reducible repeat (first | refine blk_drewN ?_ _ | refine blk_drew ?_ | refine blk_alloc ?_ _)); exact BK124.out) hb); have n6_ := q0 (below_step (qb HB.out) hb); clear HO117 HO120 HO123 BK118 BK121 BK124 HB; have HO117 := n0_; have HO120 := n1_; have HO123 := n2_; have BK118 := n3_; have BK121 := n4_; have BK124 := n5_; have HB := n6_; clear n0_ n1_ n2_ n3_ n4_ n5_ n6_; (try clear hb); (try clear hb2); (try clear hk); (try clear hi)))
     go_meet
     case rel => exact ⟨_, (!t115), qs, H', ⟨by first | omega | exact Nat.le_refl _⟩, ⟨by (with_reducible repeat (first | apply Kd.R_alloc | apply Kd.R_drewN | apply Kd.R_drew)); exact Kd.R_mono HO117.out (fun _ hk => ⟨hk.1.2, hk.2⟩)⟩, ⟨by (with_reducible repeat (first | apply Kd.R_alloc | apply Kd.R_drewN | apply Kd.R_drew)); exact Kd.R_mono HO120.out (fun _ hk => ⟨hk.1.2, hk.2⟩)⟩, ⟨by (with_reducible repeat (first | apply Kd.R_alloc | apply Kd.R_drewN | apply Kd.R_drew)); exact Kd.R_mono HO123.out (fun _ hk => ⟨hk.1.2, hk.2⟩)⟩, ⟨qk BK118.out⟩, ⟨qk BK121.out⟩, ⟨qk BK124.out⟩, ⟨qb HB.out⟩⟩
   replace c25 := Bool.eq_false_iff.mpr c25
   subst c25
   have H1 : (laws_FnNetCut.j0 k t110 t111 t113 t115 true t108 t109 t100 t112 t101 t114) = some r := by rw [if_neg (show ¬ (false = true) by decide)] at H; exact H
   clear H
   have H := H1
   clear H1
   have H' := Aside0.mk H
   clear H
   have hnb32 := NB124_118.out
   have hnc32 := NB118_124.out
   have hnb33 := NB124_121.out
   have hnc33 := NB121_124.out
   have hcz34_0 : w18.cell? ⟨gb124, 0, none⟩ = some (.int .i64 0) := (blk_cell BK124.out 0).trans rfl
   have hcz34_1 : w18.cell? ⟨gb124, 1, none⟩ = some (.slice none 0 0) := (blk_cell BK124.out 1).trans rfl
   have hfz34_0 := blk_frozen BK124.out 0
   have hfz34_1 := blk_frozen BK124.out 1
   have hnb35 := NB121_118.out
   have hnc35 := NB118_121.out
   have hcz36_0 : w18.cell? ⟨gb121, 0, none⟩ = some (.int .i64 t100) := (blk_cell BK121.out 0).trans rfl
   have hcz36_1 : w18.cell? ⟨gb121, 1, none⟩ = some (.slice Ao15 t112.length co15) := (blk_cell BK121.out 1).trans rfl
   have hfz36_0 := blk_frozen BK121.out 0
   have hfz36_1 := blk_frozen BK121.out 1
   go_wp2_with (first | (go_at_call 36; (with_reducible refine (laws_loNet.calls k t101 _ _ t114 t100 _ _ t112 false _ ?side1 ?side2 ?side3 ?side4 A24.out).mono ?_); (case side1 => refine (Kd.R_reads' (e := 44) (base := w.heap.size) (ok := fun k_ => ((True ∧ some k_ ≠ (.slice Ao10 t109.length co10 : Value).ownBlock) ∧ some k_ ≠ (.slice Ao15 t112.length co15 : Value).ownBlock)) (n := t114.length) (c := co22) ?_).2.2; exact (by (with_reducible repeat (first | apply Kd.R_alloc | apply Kd.R_drewN | apply Kd.R_drew)); exact (Kd.R_mono (Kd.R_far (p := ⟨gb124, 1, none⟩) (Kd.R_far (p := ⟨gb124, 0, none⟩) (Kd.R_types HO123.out BK124.out (by decide)) (fun _ hk => hk.2) (.int .i64 t101)) (fun _ hk => hk.2) (.slice Ao22 t114.length co22)) (fun _ h_ => h_.1)))); (case side2 => exact (Kd.R_reads' HO123.out).2.1); (case side3 => refine (Kd.R_reads' (e := 44) (base := w.heap.size) (ok := fun k_ => ((True ∧ some k_ ≠ (.slice Ao10 t109.length co10 : Value).ownBlock) ∧ some k_ ≠ (.slice Ao22 t114.length co22 : Value).ownBlock)) (n := t112.length) (c := co15) ?_).2.2; exact (by (with_reducible repeat (first | apply Kd.R_alloc | apply Kd.R_drewN | apply Kd.R_drew)); exact (Kd.R_mono (Kd.R_far (p := ⟨gb124, 1, none⟩) (Kd.R_far (p := ⟨gb124, 0, none⟩) (Kd.R_types HO120.out BK124.out (by decide)) (fun _ hk => hk.2) (.int .i64 t101)) (fun _ hk => hk.2) (.slice Ao22 t114.length co22)) (fun _ h_ => h_.1)))); (case side4 => exact (Kd.R_reads' HO120.out).2.1); rintro e w37 ⟨rfl, hb⟩; have n0_ := q0 (Kd.R_below (by (with_reducible repeat (first | apply Kd.R_alloc | apply Kd.R_drewN | apply Kd.R_drew)); exact (Kd.R_mono (Kd.R_far (p := ⟨gb124, 1, none⟩) (Kd.R_far (p := ⟨gb124, 0, none⟩) (Kd.R_types HO117.out BK124.out (by decide)) (fun _ hk => hk.2) (.int .i64 t101)) (fun _ hk => hk.2) (.slice Ao22 t114.length co22)) (fun _ h_ => h_.1))) hb); have n1_ := q0 (Kd.R_below (by (with_reducible repeat (first | apply Kd.R_alloc | apply Kd.R_drewN | apply Kd.R_drew)); exact (Kd.R_mono (Kd.R_far (p := ⟨gb124, 1, none⟩) (Kd.R_far (p := ⟨gb124, 0, none⟩) (Kd.R_types HO120.out BK124.out (by decide)) (fun _ hk => hk.2) (.int .i64 t101)) (fun _ hk => hk.2) (.slice Ao22 t114.length co22)) (fun _ h_ => h_.1))) hb); have n2_ := q0 (Kd.R_below (by (with_reducible repeat (first | apply Kd.R_alloc | apply Kd.R_drewN | apply Kd.R_drew)); exact (Kd.R_mono (Kd.R_far (p := ⟨gb124, 1, none⟩) (Kd.R_far (p := ⟨gb124, 0, none⟩) (Kd.R_types HO123.out BK124.out (by decide)) (fun _ hk => hk.2) (.int .i64 t101)) (fun _ hk => hk.2) (.slice Ao22 t114.length co22)) (fun _ h_ => h_.1))) hb); have n3_ := q0 (blk_below (g := gb118) (o := .cells #[.int .i64 t108, .slice Ao10 t109.length co10] 30 (0, 0)) (qf BK118.out) hb); have n4_ := q0 (blk_below (g := gb121) (o := .cells #[.int .i64 t100, .slice Ao15 t112.length co15] 30 (0, 0)) (qf BK121.out) hb); have n5_ := q0 (blk_below (g := gb124) (o := .cells #[.int .i64 t101, .slice Ao22 t114.length co22] 30 (0, 0)) (by (with_reducible repeat (first | refine blk_drewN ?_ _ | refine blk_drew ?_ | refine blk_alloc ?_ _)); refine blk_put (cs := #[.int .i64 t101, .slice none 0 0]) ?_ 1 _ rfl; (with_reducible repeat (first | refine blk_drewN ?_ _ | refine blk_drew ?_ | refine blk_alloc ?_ _)); refine blk_put (cs := #[.int .i64 0, .slice none 0 0]) ?_ 0 _ rfl; (with_reducible repeat (first | refine blk_drewN ?_ _ | refine blk_drew ?_ | refine blk_alloc ?_ _)); exact BK124.out) hb); have n6_ := q0 (below_step (qb HB.out) hb); clear HO117 HO120 HO123 BK118 BK121 BK124 HB; have HO117 := n0_; have HO120 := n1_; have HO123 := n2_; have BK118 := n3_; have BK121 := n4_; have BK124 := n5_; have HB := n6_; clear n0_ n1_ n2_ n3_ n4_ n5_ n6_; (try clear hb); (try clear hb2); (try clear hk); (try clear hi)))
   go_meet
   case rel => exact ⟨_, (true), qs, H', ⟨by first | omega | exact Nat.le_refl _⟩, ⟨by (with_reducible repeat (first | apply Kd.R_alloc | apply Kd.R_drewN | apply Kd.R_drew)); exact Kd.R_mono HO117.out (fun _ hk => ⟨hk.1.2, hk.2⟩)⟩, ⟨by (with_reducible repeat (first | apply Kd.R_alloc | apply Kd.R_drewN | apply Kd.R_drew)); exact Kd.R_mono HO120.out (fun _ hk => ⟨hk.1.2, hk.2⟩)⟩, ⟨by (with_reducible repeat (first | apply Kd.R_alloc | apply Kd.R_drewN | apply Kd.R_drew)); exact Kd.R_mono HO123.out (fun _ hk => ⟨hk.1.2, hk.2⟩)⟩, ⟨qk BK118.out⟩, ⟨qk BK121.out⟩, ⟨qk BK124.out⟩, ⟨qb HB.out⟩⟩
 clear HC6
 try clear c1
 try clear c2
 try clear c2b0
 try clear c2b1
 try clear p2
 try clear c3
 try clear c8
 try clear c13
 try clear c19
 try clear c20
 try clear c23
 try clear c23b0
 try clear c23b1
 try clear c23b2
 try clear c25
 try clear c26
 try clear c27
 try clear c29
 try clear c32
 try clear c33
 try clear c34
 try clear c35
 try clear hcz14_0
 try clear hcz14_1
 try clear hcz16_0
 try clear hcz16_1
 try clear hcz21_0
 try clear hcz21_1
 try clear hcz28_0
 try clear hcz28_1
 try clear hcz30_0
 try clear hcz30_1
 try clear hcz34_0
 try clear hcz34_1
 try clear hcz36_0
 try clear hcz36_1
 try clear hcz9_0
 try clear hcz9_1
 try clear hfz14_0
 try clear hfz14_1
 try clear hfz16_0
 try clear hfz16_1
 try clear hfz21_0
 try clear hfz21_1
 try clear hfz28_0
 try clear hfz28_1
 try clear hfz30_0
 try clear hfz30_1
 try clear hfz34_0
 try clear hfz34_1
 try clear hfz36_0
 try clear hfz36_1
 try clear hfz9_0
 try clear hfz9_1
 obtain ⟨kq, x48_5, rfl, HA, HJ5, HO_100001, HO_101001, HO_102001, BK118, BK121, BK124, HB⟩ := hcut
 rcases kq with _ | kj5
 · exact absurd HA.out (by simp [laws_FnNetCut.j0])
 have H := HA.out
 clear HA
 simp only [laws_FnNetCut.j0] at H
 by_cases c38 : x48_5 = true
 · subst c38
   have H1 : (if (t115 == t113) = true then ((laws_loNet.f kj5 t101 t114 t100 t112).bind fun t103 => (some t103)) else (some false)) = some r := by rw [if_pos rfl] at H; exact H
   clear H
   have H := H1
   clear H1
   by_cases c39 : (t115 == t113) = true
   rotate_left
   · rw [if_neg c39] at H
     have c39b0 : (t115 == t113) = false := by simpa using c39
     (try (have c39b1 : decide (t115 = t113) = false := by simpa using c39))
     (try (have c39b2 : (t115 == t113) = false := by simpa using c39))
     (try (have c39b3 : ¬ (t115 = t113) := by simpa using c39))
     clear c39
     obtain rfl := Option.some.inj H
     go_wp2
     go_ret
     exact ⟨qe, qb HB.out⟩
   rw [if_pos c39] at H
   have c39b0 : (t115 == t113) = true := c39
   (try (have c39b1 : decide (t115 = t113) = true := by simpa using c39))
   (try (have c39b2 : (t115 == t113) = true := by simpa using c39))
   clear c39
   replace H := Option.bind_eq_some_iff.mp H
   obtain ⟨t103, A126, H⟩ := H
   replace H : (some t103) = some r := H
   have A40 := Aside0.mk A126
   clear A126
   obtain rfl := Option.some.inj H
   have hnb41 := NB124_118.out
   have hnc41 := NB118_124.out
   have hnb42 := NB124_121.out
   have hnc42 := NB121_124.out
   have hcz43_0 : wc.cell? ⟨gb124, 0, none⟩ = some (.int .i64 t101) := (blk_cell BK124.out 0).trans rfl
   have hcz43_1 : wc.cell? ⟨gb124, 1, none⟩ = some (.slice Ao22 t114.length co22) := (blk_cell BK124.out 1).trans rfl
   have hfz43_0 := blk_frozen BK124.out 0
   have hfz43_1 := blk_frozen BK124.out 1
   have hnb44 := NB121_118.out
   have hnc44 := NB118_121.out
   have hcz45_0 : wc.cell? ⟨gb121, 0, none⟩ = some (.int .i64 t100) := (blk_cell BK121.out 0).trans rfl
   have hcz45_1 : wc.cell? ⟨gb121, 1, none⟩ = some (.slice Ao15 t112.length co15) := (blk_cell BK121.out 1).trans rfl
   have hfz45_0 := blk_frozen BK121.out 0
   have hfz45_1 := blk_frozen BK121.out 1
   go_wp2_with (first | (go_at_call 36; (with_reducible refine (laws_loNet.calls kj5 t101 _ _ t114 t100 _ _ t112 t103 _ ?side1 ?side2 ?side3 ?side4 A40.out).mono ?_); (case side1 => exact qc (Kd.R_reads' HO_102001.out).2.2); (case side2 => exact (Kd.R_reads' HO_102001.out).2.1); (case side3 => exact qc (Kd.R_reads' HO_101001.out).2.2); (case side4 => exact (Kd.R_reads' HO_101001.out).2.1); rintro e w46 ⟨rfl, hb⟩; have n0_ := q0 (Kd.R_below (qr HO_100001.out) hb); have n1_ := q0 (Kd.R_below (qr HO_101001.out) hb); have n2_ := q0 (Kd.R_below (qr HO_102001.out) hb); have n3_ := q0 (kb BK118.out hb); have n4_ := q0 (kb BK121.out hb); have n5_ := q0 (kb BK124.out hb); have n6_ := q0 (below_step (qb HB.out) hb); clear HO_100001 HO_101001 HO_102001 BK118 BK121 BK124 HB; have HO_100001 := n0_; have HO_101001 := n1_; have HO_102001 := n2_; have BK118 := n3_; have BK121 := n4_; have BK124 := n5_; have HB := n6_; clear n0_ n1_ n2_ n3_ n4_ n5_ n6_; (try clear hb); (try clear hb2); (try clear hk); (try clear hi)))
   go_ret
   exact ⟨qe, qb HB.out⟩
 replace c38 := Bool.eq_false_iff.mpr c38
 subst c38
 have H1 : (laws_FnNetCut.l0 kj5 t110 t111 0 t108 t109 t101 t114) = some r := by rw [if_neg (show ¬ (false = true) by decide)] at H; exact H
 clear H
 have H := H1
 clear H1
 have H' := Aside0.mk H
 clear H
 go_wp2
 go_loopg [10] kj5 (fun kq v10 w' => ∃ (x10_2 : Int), v10 = .int .i64 x10_2 ∧ Aside0 (laws_FnNetCut.l0 kq t110 t111 x10_2 t108 t109 t101 t114 = some r) ∧ Aside0 (kq ≤ kj5) ∧ Aside0 (Kd.R kTie 44 w' w.heap.size (fun k_ => some k_ ≠ ((.slice Ao15 t112.length co15) : Value).ownBlock ∧ some k_ ≠ ((.slice Ao22 t114.length co22) : Value).ownBlock) (.slice Ao10 t109.length co10) t109) ∧ Aside0 (Kd.R kTie 44 w' w.heap.size (fun k_ => some k_ ≠ ((.slice Ao10 t109.length co10) : Value).ownBlock ∧ some k_ ≠ ((.slice Ao22 t114.length co22) : Value).ownBlock) (.slice Ao15 t112.length co15) t112) ∧ Aside0 (Kd.R kTie 44 w' w.heap.size (fun k_ => some k_ ≠ ((.slice Ao10 t109.length co10) : Value).ownBlock ∧ some k_ ≠ ((.slice Ao15 t112.length co15) : Value).ownBlock) (.slice Ao22 t114.length co22) t114) ∧ Aside0 (w'.heap[gb118]? = some (.cells #[.int .i64 t108, (.slice Ao10 t109.length co10)] 30 (0, 0))) ∧ Aside0 (w'.heap[gb121]? = some (.cells #[.int .i64 t100, (.slice Ao15 t112.length co15)] 30 (0, 0))) ∧ Aside0 (w'.heap[gb124]? = some (.cells #[.int .i64 t101, (.slice Ao22 t114.length co22)] 30 (0, 0))) ∧ Aside0 (Below w.heap.size w w'))
 case atStart => exact ⟨(0), qs, H', ⟨Nat.le_refl _⟩, ⟨qr HO_100001.out⟩, ⟨qr HO_101001.out⟩, ⟨qr HO_102001.out⟩, ⟨qk BK118.out⟩, ⟨qk BK121.out⟩, ⟨qk BK124.out⟩, ⟨qb HB.out⟩⟩
 clear H'
 try clear c1
 try clear c2
 try clear c2b0
 try clear c2b1
 try clear p2
 try clear c3
 try clear c4
 try clear c8
 try clear c13
 try clear c19
 try clear c20
 try clear c23
 try clear c23b0
 try clear c23b1
 try clear c23b2
 try clear c25
 try clear c26
 try clear c27
 try clear c29
 try clear c32
 try clear c33
 try clear c34
 try clear c35
 try clear c38
 try clear c39
 try clear c39b0
 try clear c39b1
 try clear c39b2
 try clear c41
 try clear c42
 try clear c44
 try clear hcz14_0
 try clear hcz14_1
 try clear hcz16_0
 try clear hcz16_1
 try clear hcz21_0
 try clear hcz21_1
 try clear hcz28_0
 try clear hcz28_1
 try clear hcz30_0
 try clear hcz30_1
 try clear hcz34_0
 try clear hcz34_1
 try clear hcz36_0
 try clear hcz36_1
 try clear hcz43_0
 try clear hcz43_1
 try clear hcz45_0
 try clear hcz45_1
 try clear hcz9_0
 try clear hcz9_1
 try clear hfz14_0
 try clear hfz14_1
 try clear hfz16_0
 try clear hfz16_1
 try clear hfz21_0
 try clear hfz21_1
 try clear hfz28_0
 try clear hfz28_1
 try clear hfz30_0
 try clear hfz30_1
 try clear hfz34_0
 try clear hfz34_1
 try clear hfz36_0
 try clear hfz36_1
 try clear hfz43_0
 try clear hfz43_1
 try clear hfz45_0
 try clear hfz45_1
 try clear hfz9_0
 try clear hfz9_1
 try clear p2
 obtain ⟨x10_2, rfl, HA, HK2, HO_100001, HO_101001, HO_102001, BK118, BK121, BK124, HB⟩ := hrel
 rcases gk with _ | k2
 · exact absurd HA.out (by simp [laws_FnNetCut.l0])
 have H := HA.out
 clear HA
 simp only [laws_FnNetCut.l0] at H
 by_cases c47 : x10_2 < (t114.length : Int)
 rotate_left
 · rw [if_neg c47] at H
   have c47b0 : decide (x10_2 < (t114.length : Int)) = false := decide_eq_false c47
   clear c47
   replace H := Option.bind_eq_some_iff.mp H
   obtain ⟨⟨t105, t129, t130⟩, A131, H⟩ := H
   replace H : ((impl_NetOk.f k2 t101 t114).bind fun t106 => (if t106 = true then (if (t114.length : Int) = (wrap64 ((t109.length : Int) - 1)) then ((impl_NetHas.f k2 t101 t114 t110 t111).bind fun t107 => (if t107 = true then (some false) else (some (!t130)))) else (some false)) else (some false))) = some r := H
   have A61 := Aside0.mk A131
   clear A131
   replace H := Option.bind_eq_some_iff.mp H
   obtain ⟨t106, A132, H⟩ := H
   replace H : (if t106 = true then (if (t114.length : Int) = (wrap64 ((t109.length : Int) - 1)) then ((impl_NetHas.f k2 t101 t114 t110 t111).bind fun t107 => (if t107 = true then (some false) else (some (!t130)))) else (some false)) else (some false)) = some r := H
   have A62 := Aside0.mk A132
   clear A132
   by_cases c63 : t106 = true
   rotate_left
   · replace c63 := Bool.eq_false_iff.mpr c63
     subst c63
     have H1 : (some false) = some r := by rw [if_neg (show ¬ (false = true) by decide)] at H; exact H
     clear H
     have H := H1
     clear H1
     obtain rfl := Option.some.inj H
     have hnb151 := NB124_118.out
     have hnc151 := NB118_124.out
     have hnb152 := NB124_121.out
     have hnc152 := NB121_124.out
     have hcz153_0 : wr.cell? ⟨gb124, 0, none⟩ = some (.int .i64 t101) := (blk_cell BK124.out 0).trans rfl
     have hcz153_1 : wr.cell? ⟨gb124, 1, none⟩ = some (.slice Ao22 t114.length co22) := (blk_cell BK124.out 1).trans rfl
     have hfz153_0 := blk_frozen BK124.out 0
     have hfz153_1 := blk_frozen BK124.out 1
     go_wp2_with (first | ((with_reducible refine gate_callee (f := 35) rfl ?_); refine goesL_ (some 77) rfl rfl Try.func35 (by kernel_rfl) rfl #[.agg #[.int .i64 t101, .slice Ao22 t114.length co22], .int .i64 t110, .int .i64 t111] rfl qm ?_; (with_reducible refine (impl_NetCut.calls k2 t101 _ _ t114 t110 t111 t105 t129 t130 _ ?side1 ?side2 A61.out).mono ?_); (case side1 => exact qc (Kd.R_reads' HO_102001.out).2.2); (case side2 => exact (Kd.R_reads' HO_102001.out).2.1); rintro e w154 ⟨v134, rfl, ho0, hb⟩; refine ⟨_, rfl, ?_⟩; have n0_ := q0 (Kd.R_elder' (qr HO_100001.out) (Kd.R_base ho0) hb); have n1_ := q0 (Kd.R_elder' (qr HO_101001.out) (Kd.R_base ho0) hb); have n2_ := q0 (Kd.R_elder' (qr HO_102001.out) (Kd.R_base ho0) hb); have n3_ := q0 (Kd.R_lower (Kd.R_new' (Kd.R_new' (Kd.R_new' ho0 (Kd.R_lt (qr HO_100001.out))) (Kd.R_lt (qr HO_101001.out))) (Kd.R_lt (qr HO_102001.out))) (below_size (qb HB.out))); have n4_ := q0 (kb BK118.out hb); have n5_ := q0 (kb BK121.out hb); have n6_ := q0 (kb BK124.out hb); have n7_ := q0 (below_step (qb HB.out) hb); clear HO_100001 HO_101001 HO_102001 BK118 BK121 BK124 HB; have HO_100001 := n0_; have HO_101001 := n1_; have HO_102001 := n2_; have HO135 := n3_; have BK118 := n4_; have BK121 := n5_; have BK124 := n6_; have HB := n7_; clear n0_ n1_ n2_ n3_ n4_ n5_ n6_ n7_; (try clear hb); (try clear hb2); (try clear hk); (try clear hi); (try clear ho0)) | ((with_reducible refine gate_dst (N := 11) rfl ?_); (try (refine gate_guard (by rfl) ?_; dsimp only)); refine be 11 #[.int .i64 0, .slice none 0 0] 30 ?_; intro gb136 hg w155 hbox hb; have n0_ := q0 (Kd.R_below (qr HO_100001.out) hb); have n1_ := q0 (Kd.R_below (qr HO_101001.out) hb); have n2_ := q0 (Kd.R_below (qr HO_102001.out) hb); have n3_ := q0 (Kd.R_below (qr HO135.out) hb); have n4_ := q0 (kb BK118.out hb); have n5_ := q0 (kb BK121.out hb); have n6_ := q0 (kb BK124.out hb); have n7_ := q0 (below_step (qb HB.out) hb); have n8_ := q0 (hbox); have n9_ := q0 ((bs HB.out hg : w.heap.size ≤ gb136)); have n10_ := q0 ((bs HB.out hg : w.heap.size ≤ gb136)); have n11_ := q0 ((bl BK118.out hg : gb118 ≠ gb136)); have n12_ := q0 ((bg BK118.out hg : gb136 ≠ gb118)); have n13_ := q0 ((bl BK121.out hg : gb121 ≠ gb136)); have n14_ := q0 ((bg BK121.out hg : gb136 ≠ gb121)); have n15_ := q0 ((bl BK124.out hg : gb124 ≠ gb136)); have n16_ := q0 ((bg BK124.out hg : gb136 ≠ gb124)); clear HO_100001 HO_101001 HO_102001 HO135 BK118 BK121 BK124 HB; have HO_100001 := n0_; have HO_101001 := n1_; have HO_102001 := n2_; have HO135 := n3_; have BK118 := n4_; have BK121 := n5_; have BK124 := n6_; have HB := n7_; have BK136 := n8_; have GW136 := n9_; have GE136 := n10_; have NB118_136 := n11_; have NB136_118 := n12_; have NB121_136 := n13_; have NB136_121 := n14_; have NB124_136 := n15_; have NB136_124 := n16_; clear n0_ n1_ n2_ n3_ n4_ n5_ n6_ n7_ n8_ n9_ n10_ n11_ n12_ n13_ n14_ n15_ n16_ hb hbox hg; have hnb156 := NB136_118.out; have hnc156 := NB118_136.out; have hnb157 := NB136_121.out; have hnc157 := NB121_136.out; have hnb158 := NB136_124.out; have hnc158 := NB124_136.out; have hcz159_0 : w155.cell? ⟨gb136, 0, none⟩ = some (.int .i64 0) := (blk_cell BK136.out 0).trans rfl; have hcz159_1 : w155.cell? ⟨gb136, 1, none⟩ = some (.slice none 0 0) := (blk_cell BK136.out 1).trans rfl; have hfz159_0 := blk_frozen BK136.out 0; have hfz159_1 := blk_frozen BK136.out 1; obtain ⟨Ao160, co160, eo160⟩ := Kd.R_slice HO135.out; subst eo160; have hcz161_0 : w155.cell? ⟨gb124, 0, none⟩ = some (.int .i64 t101) := (blk_cell BK124.out 0).trans rfl; have hcz161_1 : w155.cell? ⟨gb124, 1, none⟩ = some (.slice Ao22 t114.length co22) := (blk_cell BK124.out 1).trans rfl; have hfz161_0 := blk_frozen BK124.out 0; have hfz161_1 := blk_frozen BK124.out 1) | ((with_reducible refine gate_callee (f := 38) rfl ?_); refine goesL_ (some 81) rfl rfl Try.func38 (by kernel_rfl) rfl #[.agg #[.int .i64 t101, .slice Ao22 t114.length co22]] rfl qm ?_; (with_reducible refine (impl_NetOk.calls k2 t101 _ _ t114 false _ ?side1 ?side2 A62.out).mono ?_); (case side1 => refine (Kd.R_reads' (e := 44) (base := w.heap.size) (ok := fun k_ => ((some k_ ≠ (.slice Ao10 t109.length co10 : Value).ownBlock ∧ some k_ ≠ (.slice Ao15 t112.length co15 : Value).ownBlock) ∧ some k_ ≠ (.slice Ao160 t129.length co160 : Value).ownBlock)) (n := t114.length) (c := co22) ?_).2.2; exact (by (with_reducible repeat (first | apply Kd.R_alloc | apply Kd.R_drewN | apply Kd.R_drew)); exact (Kd.R_mono (Kd.R_far (p := ⟨gb136, 1, none⟩) (Kd.R_far (p := ⟨gb136, 0, none⟩) (Kd.R_types HO_102001.out BK136.out (by decide)) (fun _ hk => hk.2) (.int .i64 t105)) (fun _ hk => hk.2) (.slice Ao160 t129.length co160)) (fun _ h_ => h_.1)))); (case side2 => exact (Kd.R_reads' HO_102001.out).2.1); rintro e w162 ⟨rfl, hb⟩; refine ⟨_, rfl, ?_⟩; have n0_ := q0 (Kd.R_below (by (with_reducible repeat (first | apply Kd.R_alloc | apply Kd.R_drewN | apply Kd.R_drew)); exact (Kd.R_mono (Kd.R_far (p := ⟨gb136, 1, none⟩) (Kd.R_far (p := ⟨gb136, 0, none⟩) (Kd.R_types HO_100001.out BK136.out (by decide)) (fun _ hk => hk.2) (.int .i64 t105)) (fun _ hk => hk.2) (.slice Ao160 t129.length co160)) (fun _ h_ => h_.1))) hb); have n1_ := q0 (Kd.R_below (by (with_reducible repeat (first | apply Kd.R_alloc | apply Kd.R_drewN | apply Kd.R_drew)); exact (Kd.R_mono (Kd.R_far (p := ⟨gb136, 1, none⟩) (Kd.R_far (p := ⟨gb136, 0, none⟩) (Kd.R_types HO_101001.out BK136.out (by decide)) (fun _ hk => hk.2) (.int .i64 t105)) (fun _ hk => hk.2) (.slice Ao160 t129.length co160)) (fun _ h_ => h_.1))) hb); have n2_ := q0 (Kd.R_below (by (with_reducible repeat (first | apply Kd.R_alloc | apply Kd.R_drewN | apply Kd.R_drew)); exact (Kd.R_mono (Kd.R_far (p := ⟨gb136, 1, none⟩) (Kd.R_far (p := ⟨gb136, 0, none⟩) (Kd.R_types HO_102001.out BK136.out (by decide)) (fun _ hk => hk.2) (.int .i64 t105)) (fun _ hk => hk.2) (.slice Ao160 t129.length co160)) (fun _ h_ => h_.1))) hb); have n3_ := q0 (Kd.R_below (by (with_reducible repeat (first | apply Kd.R_alloc | apply Kd.R_drewN | apply Kd.R_drew)); exact (Kd.R_mono (Kd.R_far (p := ⟨gb136, 1, none⟩) (Kd.R_far (p := ⟨gb136, 0, none⟩) (Kd.R_types HO135.out BK136.out (by decide)) (fun _ hk => hk.2) (.int .i64 t105)) (fun _ hk => hk.2) (.slice Ao160 t129.length co160)) (fun _ h_ => h_.1))) hb); have n4_ := q0 (blk_below (g := gb118) (o := .cells #[.int .i64 t108, .slice Ao10 t109.length co10] 30 (0, 0)) (qf BK118.out) hb); have n5_ := q0 (blk_below (g := gb121) (o := .cells #[.int .i64 t100, .slice Ao15 t112.length co15] 30 (0, 0)) (qf BK121.out) hb); have n6_ := q0 (blk_below (g := gb124) (o := .cells #[.int .i64 t101, .slice Ao22 t114.length co22] 30 (0, 0)) (qf BK124.out) hb); have n7_ := q0 (blk_below (g := gb136) (o := .cells #[.int .i64 t105, .slice Ao160 t129.length co160] 30 (0, 0)) (by (with_reducible repeat (first | refine blk_drewN ?_ _ | refine blk_drew ?_ | refine blk_alloc ?_ _)); refine blk_put (cs := #[.int .i64 t105, .slice none 0 0]) ?_ 1 _ rfl; (with_reducible repeat (first | refine blk_drewN ?_ _ | refine blk_drew ?_ | refine blk_alloc ?_ _)); refine blk_put (cs := #[.int .i64 0, .slice none 0 0]) ?_ 0 _ rfl; (with_reducible repeat (first | refine blk_drewN ?_ _ | refine blk_drew ?_ | refine blk_alloc ?_ _)); exact BK136.out) hb); have n8_ := q0 (below_step (qb HB.out) hb); clear HO_100001 HO_101001 HO_102001 HO135 BK118 BK121 BK124 BK136 HB; have HO_100001 := n0_; have HO_101001 := n1_; have HO_102001 := n2_; have HO135 := n3_; have BK118 := n4_; have BK121 := n5_; have BK124 := n6_; have BK136 := n7_; have HB := n8_; clear n0_ n1_ n2_ n3_ n4_ n5_ n6_ n7_ n8_; (try clear hb); (try clear hb2); (try clear hk); (try clear hi)))
     go_ret
     exact ⟨qe, qb HB.out⟩
   subst c63
   have H1 : (if (t114.length : Int) = (wrap64 ((t109.length : Int) - 1)) then ((impl_NetHas.f k2 t101 t114 t110 t111).bind fun t107 => (if t107 = true then (some false) else (some (!t130)))) else (some false)) = some r := by rw [if_pos rfl] at H; exact H
   clear H
   have H := H1
   clear H1
   by_cases c64 : (t114.length : Int) = (wrap64 ((t109.length : Int) - 1))
   rotate_left
   · rw [if_neg c64] at H
     have c64b0 : ((t114.length : Int) == (wrap64 ((t109.length : Int) - 1))) = false := beq_eq_false_iff_ne.mpr c64
     have c64b1 : ((t114.length : Int) != (wrap64 ((t109.length : Int) - 1))) = true := bne_iff_ne.mpr c64
     obtain rfl := Option.some.inj H
     have hnb99 := NB124_118.out
     have hnc99 := NB118_124.out
     have hnb137 := NB124_121.out
     have hnc137 := NB121_124.out
     have hcz138_0 : wr.cell? ⟨gb124, 0, none⟩ = some (.int .i64 t101) := (blk_cell BK124.out 0).trans rfl
     have hcz138_1 : wr.cell? ⟨gb124, 1, none⟩ = some (.slice Ao22 t114.length co22) := (blk_cell BK124.out 1).trans rfl
     have hfz138_0 := blk_frozen BK124.out 0
     have hfz138_1 := blk_frozen BK124.out 1
     go_wp2_with (first | ((with_reducible refine gate_callee (f := 35) rfl ?_); refine goesL_ (some 77) rfl rfl Try.func35 (by kernel_rfl) rfl #[.agg #[.int .i64 t101, .slice Ao22 t114.length co22], .int .i64 t110, .int .i64 t111] rfl qm ?_; (with_reducible refine (impl_NetCut.calls k2 t101 _ _ t114 t110 t111 t105 t129 t130 _ ?side1 ?side2 A61.out).mono ?_); (case side1 => exact qc (Kd.R_reads' HO_102001.out).2.2); (case side2 => exact (Kd.R_reads' HO_102001.out).2.1); rintro e w139 ⟨v134, rfl, ho0, hb⟩; refine ⟨_, rfl, ?_⟩; have n0_ := q0 (Kd.R_elder' (qr HO_100001.out) (Kd.R_base ho0) hb); have n1_ := q0 (Kd.R_elder' (qr HO_101001.out) (Kd.R_base ho0) hb); have n2_ := q0 (Kd.R_elder' (qr HO_102001.out) (Kd.R_base ho0) hb); have n3_ := q0 (Kd.R_lower (Kd.R_new' (Kd.R_new' (Kd.R_new' ho0 (Kd.R_lt (qr HO_100001.out))) (Kd.R_lt (qr HO_101001.out))) (Kd.R_lt (qr HO_102001.out))) (below_size (qb HB.out))); have n4_ := q0 (kb BK118.out hb); have n5_ := q0 (kb BK121.out hb); have n6_ := q0 (kb BK124.out hb); have n7_ := q0 (below_step (qb HB.out) hb); clear HO_100001 HO_101001 HO_102001 BK118 BK121 BK124 HB; have HO_100001 := n0_; have HO_101001 := n1_; have HO_102001 := n2_; have HO135 := n3_; have BK118 := n4_; have BK121 := n5_; have BK124 := n6_; have HB := n7_; clear n0_ n1_ n2_ n3_ n4_ n5_ n6_ n7_; (try clear hb); (try clear hb2); (try clear hk); (try clear hi); (try clear ho0)) | ((with_reducible refine gate_dst (N := 11) rfl ?_); (try (refine gate_guard (by rfl) ?_; dsimp only)); refine be 11 #[.int .i64 0, .slice none 0 0] 30 ?_; intro gb136 hg w140 hbox hb; have n0_ := q0 (Kd.R_below (qr HO_100001.out) hb); have n1_ := q0 (Kd.R_below (qr HO_101001.out) hb); have n2_ := q0 (Kd.R_below (qr HO_102001.out) hb); have n3_ := q0 (Kd.R_below (qr HO135.out) hb); have n4_ := q0 (kb BK118.out hb); have n5_ := q0 (kb BK121.out hb); have n6_ := q0 (kb BK124.out hb); have n7_ := q0 (below_step (qb HB.out) hb); have n8_ := q0 (hbox); have n9_ := q0 ((bs HB.out hg : w.heap.size ≤ gb136)); have n10_ := q0 ((bs HB.out hg : w.heap.size ≤ gb136)); have n11_ := q0 ((bl BK118.out hg : gb118 ≠ gb136)); have n12_ := q0 ((bg BK118.out hg : gb136 ≠ gb118)); have n13_ := q0 ((bl BK121.out hg : gb121 ≠ gb136)); have n14_ := q0 ((bg BK121.out hg : gb136 ≠ gb121)); have n15_ := q0 ((bl BK124.out hg : gb124 ≠ gb136)); have n16_ := q0 ((bg BK124.out hg : gb136 ≠ gb124)); clear HO_100001 HO_101001 HO_102001 HO135 BK118 BK121 BK124 HB; have HO_100001 := n0_; have HO_101001 := n1_; have HO_102001 := n2_; have HO135 := n3_; have BK118 := n4_; have BK121 := n5_; have BK124 := n6_; have HB := n7_; have BK136 := n8_; have GW136 := n9_; have GE136 := n10_; have NB118_136 := n11_; have NB136_118 := n12_; have NB121_136 := n13_; have NB136_121 := n14_; have NB124_136 := n15_; have NB136_124 := n16_; clear n0_ n1_ n2_ n3_ n4_ n5_ n6_ n7_ n8_ n9_ n10_ n11_ n12_ n13_ n14_ n15_ n16_ hb hbox hg; have hnb141 := NB136_118.out; have hnc141 := NB118_136.out; have hnb142 := NB136_121.out; have hnc142 := NB121_136.out; have hnb143 := NB136_124.out; have hnc143 := NB124_136.out; have hcz144_0 : w140.cell? ⟨gb136, 0, none⟩ = some (.int .i64 0) := (blk_cell BK136.out 0).trans rfl; have hcz144_1 : w140.cell? ⟨gb136, 1, none⟩ = some (.slice none 0 0) := (blk_cell BK136.out 1).trans rfl; have hfz144_0 := blk_frozen BK136.out 0; have hfz144_1 := blk_frozen BK136.out 1; obtain ⟨Ao145, co145, eo145⟩ := Kd.R_slice HO135.out; subst eo145; have hcz146_0 : w140.cell? ⟨gb124, 0, none⟩ = some (.int .i64 t101) := (blk_cell BK124.out 0).trans rfl; have hcz146_1 : w140.cell? ⟨gb124, 1, none⟩ = some (.slice Ao22 t114.length co22) := (blk_cell BK124.out 1).trans rfl; have hfz146_0 := blk_frozen BK124.out 0; have hfz146_1 := blk_frozen BK124.out 1) | ((with_reducible refine gate_callee (f := 38) rfl ?_); refine goesL_ (some 81) rfl rfl Try.func38 (by kernel_rfl) rfl #[.agg #[.int .i64 t101, .slice Ao22 t114.length co22]] rfl qm ?_; (with_reducible refine (impl_NetOk.calls k2 t101 _ _ t114 true _ ?side1 ?side2 A62.out).mono ?_); (case side1 => refine (Kd.R_reads' (e := 44) (base := w.heap.size) (ok := fun k_ => ((some k_ ≠ (.slice Ao10 t109.length co10 : Value).ownBlock ∧ some k_ ≠ (.slice Ao15 t112.length co15 : Value).ownBlock) ∧ some k_ ≠ (.slice Ao145 t129.length co145 : Value).ownBlock)) (n := t114.length) (c := co22) ?_).2.2; exact (by (with_reducible repeat (first | apply Kd.R_alloc | apply Kd.R_drewN | apply Kd.R_drew)); exact (Kd.R_mono (Kd.R_far (p := ⟨gb136, 1, none⟩) (Kd.R_far (p := ⟨gb136, 0, none⟩) (Kd.R_types HO_102001.out BK136.out (by decide)) (fun _ hk => hk.2) (.int .i64 t105)) (fun _ hk => hk.2) (.slice Ao145 t129.length co145)) (fun _ h_ => h_.1)))); (case side2 => exact (Kd.R_reads' HO_102001.out).2.1); rintro e w147 ⟨rfl, hb⟩; refine ⟨_, rfl, ?_⟩; have n0_ := q0 (Kd.R_below (by (with_reducible repeat (first | apply Kd.R_alloc | apply Kd.R_drewN | apply Kd.R_drew)); exact (Kd.R_mono (Kd.R_far (p := ⟨gb136, 1, none⟩) (Kd.R_far (p := ⟨gb136, 0, none⟩) (Kd.R_types HO_100001.out BK136.out (by decide)) (fun _ hk => hk.2) (.int .i64 t105)) (fun _ hk => hk.2) (.slice Ao145 t129.length co145)) (fun _ h_ => h_.1))) hb); have n1_ := q0 (Kd.R_below (by (with_reducible repeat (first | apply Kd.R_alloc | apply Kd.R_drewN | apply Kd.R_drew)); exact (Kd.R_mono (Kd.R_far (p := ⟨gb136, 1, none⟩) (Kd.R_far (p := ⟨gb136, 0, none⟩) (Kd.R_types HO_101001.out BK136.out (by decide)) (fun _ hk => hk.2) (.int .i64 t105)) (fun _ hk => hk.2) (.slice Ao145 t129.length co145)) (fun _ h_ => h_.1))) hb); have n2_ := q0 (Kd.R_below (by (with_reducible repeat (first | apply Kd.R_alloc | apply Kd.R_drewN | apply Kd.R_drew)); exact (Kd.R_mono (Kd.R_far (p := ⟨gb136, 1, none⟩) (Kd.R_far (p := ⟨gb136, 0, none⟩) (Kd.R_types HO_102001.out BK136.out (by decide)) (fun _ hk => hk.2) (.int .i64 t105)) (fun _ hk => hk.2) (.slice Ao145 t129.length co145)) (fun _ h_ => h_.1))) hb); have n3_ := q0 (Kd.R_below (by (with_reducible repeat (first | apply Kd.R_alloc | apply Kd.R_drewN | apply Kd.R_drew)); exact (Kd.R_mono (Kd.R_far (p := ⟨gb136, 1, none⟩) (Kd.R_far (p := ⟨gb136, 0, none⟩) (Kd.R_types HO135.out BK136.out (by decide)) (fun _ hk => hk.2) (.int .i64 t105)) (fun _ hk => hk.2) (.slice Ao145 t129.length co145)) (fun _ h_ => h_.1))) hb); have n4_ := q0 (blk_below (g := gb118) (o := .cells #[.int .i64 t108, .slice Ao10 t109.length co10] 30 (0, 0)) (qf BK118.out) hb); have n5_ := q0 (blk_below (g := gb121) (o := .cells #[.int .i64 t100, .slice Ao15 t112.length co15] 30 (0, 0)) (qf BK121.out) hb); have n6_ := q0 (blk_below (g := gb124) (o := .cells #[.int .i64 t101, .slice Ao22 t114.length co22] 30 (0, 0)) (qf BK124.out) hb); have n7_ := q0 (blk_below (g := gb136) (o := .cells #[.int .i64 t105, .slice Ao145 t129.length co145] 30 (0, 0)) (by (with_reducible repeat (first | refine blk_drewN ?_ _ | refine blk_drew ?_ | refine blk_alloc ?_ _)); refine blk_put (cs := #[.int .i64 t105, .slice none 0 0]) ?_ 1 _ rfl; (with_reducible repeat (first | refine blk_drewN ?_ _ | refine blk_drew ?_ | refine blk_alloc ?_ _)); refine blk_put (cs := #[.int .i64 0, .slice none 0 0]) ?_ 0 _ rfl; (with_reducible repeat (first | refine blk_drewN ?_ _ | refine blk_drew ?_ | refine blk_alloc ?_ _)); exact BK136.out) hb); have n8_ := q0 (below_step (qb HB.out) hb); clear HO_100001 HO_101001 HO_102001 HO135 BK118 BK121 BK124 BK136 HB; have HO_100001 := n0_; have HO_101001 := n1_; have HO_102001 := n2_; have HO135 := n3_; have BK118 := n4_; have BK121 := n5_; have BK124 := n6_; have BK136 := n7_; have HB := n8_; clear n0_ n1_ n2_ n3_ n4_ n5_ n6_ n7_ n8_; (try clear hb); (try clear hb2); (try clear hk); (try clear hi); have hcz148_0 : w147.cell? ⟨gb124, 0, none⟩ = some (.int .i64 t101) := (blk_cell BK124.out 0).trans rfl; have hcz148_1 : w147.cell? ⟨gb124, 1, none⟩ = some (.slice Ao22 t114.length co22) := (blk_cell BK124.out 1).trans rfl; have hfz148_0 := blk_frozen BK124.out 0; have hfz148_1 := blk_frozen BK124.out 1; have hnb149 := NB118_121.out; have hnc149 := NB121_118.out; have hcz150_0 : w147.cell? ⟨gb118, 0, none⟩ = some (.int .i64 t108) := (blk_cell BK118.out 0).trans rfl; have hcz150_1 : w147.cell? ⟨gb118, 1, none⟩ = some (.slice Ao10 t109.length co10) := (blk_cell BK118.out 1).trans rfl; have hfz150_0 := blk_frozen BK118.out 0; have hfz150_1 := blk_frozen BK118.out 1))
     go_ret
     exact ⟨qe, qb HB.out⟩
   rw [if_pos c64] at H
   have c64b0 : ((t114.length : Int) == (wrap64 ((t109.length : Int) - 1))) = true := beq_iff_eq.mpr c64
   have c64b1 : ((t114.length : Int) != (wrap64 ((t109.length : Int) - 1))) = false := bne_eq_false_iff_eq.mpr c64
   clear c64
   replace H := Option.bind_eq_some_iff.mp H
   obtain ⟨t107, A133, H⟩ := H
   replace H : (if t107 = true then (some false) else (some (!t130))) = some r := H
   have A65 := Aside0.mk A133
   clear A133
   by_cases c66 : t107 = true
   · subst c66
     have H1 : (some false) = some r := by rw [if_pos rfl] at H; exact H
     clear H
     have H := H1
     clear H1
     obtain rfl := Option.some.inj H
     have hnb67 := NB124_118.out
     have hnc67 := NB118_124.out
     have hnb68 := NB124_121.out
     have hnc68 := NB121_124.out
     have hcz69_0 : wr.cell? ⟨gb124, 0, none⟩ = some (.int .i64 t101) := (blk_cell BK124.out 0).trans rfl
     have hcz69_1 : wr.cell? ⟨gb124, 1, none⟩ = some (.slice Ao22 t114.length co22) := (blk_cell BK124.out 1).trans rfl
     have hfz69_0 := blk_frozen BK124.out 0
     have hfz69_1 := blk_frozen BK124.out 1
     go_wp2_with (first | ((with_reducible refine gate_callee (f := 35) rfl ?_); refine goesL_ (some 77) rfl rfl Try.func35 (by kernel_rfl) rfl #[.agg #[.int .i64 t101, .slice Ao22 t114.length co22], .int .i64 t110, .int .i64 t111] rfl qm ?_; (with_reducible refine (impl_NetCut.calls k2 t101 _ _ t114 t110 t111 t105 t129 t130 _ ?side1 ?side2 A61.out).mono ?_); (case side1 => exact qc (Kd.R_reads' HO_102001.out).2.2); (case side2 => exact (Kd.R_reads' HO_102001.out).2.1); rintro e w70 ⟨v134, rfl, ho0, hb⟩; refine ⟨_, rfl, ?_⟩; have n0_ := q0 (Kd.R_elder' (qr HO_100001.out) (Kd.R_base ho0) hb); have n1_ := q0 (Kd.R_elder' (qr HO_101001.out) (Kd.R_base ho0) hb); have n2_ := q0 (Kd.R_elder' (qr HO_102001.out) (Kd.R_base ho0) hb); have n3_ := q0 (Kd.R_lower (Kd.R_new' (Kd.R_new' (Kd.R_new' ho0 (Kd.R_lt (qr HO_100001.out))) (Kd.R_lt (qr HO_101001.out))) (Kd.R_lt (qr HO_102001.out))) (below_size (qb HB.out))); have n4_ := q0 (kb BK118.out hb); have n5_ := q0 (kb BK121.out hb); have n6_ := q0 (kb BK124.out hb); have n7_ := q0 (below_step (qb HB.out) hb); clear HO_100001 HO_101001 HO_102001 BK118 BK121 BK124 HB; have HO_100001 := n0_; have HO_101001 := n1_; have HO_102001 := n2_; have HO135 := n3_; have BK118 := n4_; have BK121 := n5_; have BK124 := n6_; have HB := n7_; clear n0_ n1_ n2_ n3_ n4_ n5_ n6_ n7_; (try clear hb); (try clear hb2); (try clear hk); (try clear hi); (try clear ho0)) | ((with_reducible refine gate_dst (N := 11) rfl ?_); (try (refine gate_guard (by rfl) ?_; dsimp only)); refine be 11 #[.int .i64 0, .slice none 0 0] 30 ?_; intro gb136 hg w71 hbox hb; have n0_ := q0 (Kd.R_below (qr HO_100001.out) hb); have n1_ := q0 (Kd.R_below (qr HO_101001.out) hb); have n2_ := q0 (Kd.R_below (qr HO_102001.out) hb); have n3_ := q0 (Kd.R_below (qr HO135.out) hb); have n4_ := q0 (kb BK118.out hb); have n5_ := q0 (kb BK121.out hb); have n6_ := q0 (kb BK124.out hb); have n7_ := q0 (below_step (qb HB.out) hb); have n8_ := q0 (hbox); have n9_ := q0 ((bs HB.out hg : w.heap.size ≤ gb136)); have n10_ := q0 ((bs HB.out hg : w.heap.size ≤ gb136)); have n11_ := q0 ((bl BK118.out hg : gb118 ≠ gb136)); have n12_ := q0 ((bg BK118.out hg : gb136 ≠ gb118)); have n13_ := q0 ((bl BK121.out hg : gb121 ≠ gb136)); have n14_ := q0 ((bg BK121.out hg : gb136 ≠ gb121)); have n15_ := q0 ((bl BK124.out hg : gb124 ≠ gb136)); have n16_ := q0 ((bg BK124.out hg : gb136 ≠ gb124)); clear HO_100001 HO_101001 HO_102001 HO135 BK118 BK121 BK124 HB; have HO_100001 := n0_; have HO_101001 := n1_; have HO_102001 := n2_; have HO135 := n3_; have BK118 := n4_; have BK121 := n5_; have BK124 := n6_; have HB := n7_; have BK136 := n8_; have GW136 := n9_; have GE136 := n10_; have NB118_136 := n11_; have NB136_118 := n12_; have NB121_136 := n13_; have NB136_121 := n14_; have NB124_136 := n15_; have NB136_124 := n16_; clear n0_ n1_ n2_ n3_ n4_ n5_ n6_ n7_ n8_ n9_ n10_ n11_ n12_ n13_ n14_ n15_ n16_ hb hbox hg; have hnb72 := NB136_118.out; have hnc72 := NB118_136.out; have hnb73 := NB136_121.out; have hnc73 := NB121_136.out; have hnb74 := NB136_124.out; have hnc74 := NB124_136.out; have hcz75_0 : w71.cell? ⟨gb136, 0, none⟩ = some (.int .i64 0) := (blk_cell BK136.out 0).trans rfl; have hcz75_1 : w71.cell? ⟨gb136, 1, none⟩ = some (.slice none 0 0) := (blk_cell BK136.out 1).trans rfl; have hfz75_0 := blk_frozen BK136.out 0; have hfz75_1 := blk_frozen BK136.out 1; obtain ⟨Ao76, co76, eo76⟩ := Kd.R_slice HO135.out; subst eo76; have hcz77_0 : w71.cell? ⟨gb124, 0, none⟩ = some (.int .i64 t101) := (blk_cell BK124.out 0).trans rfl; have hcz77_1 : w71.cell? ⟨gb124, 1, none⟩ = some (.slice Ao22 t114.length co22) := (blk_cell BK124.out 1).trans rfl; have hfz77_0 := blk_frozen BK124.out 0; have hfz77_1 := blk_frozen BK124.out 1) | ((with_reducible refine gate_callee (f := 38) rfl ?_); refine goesL_ (some 81) rfl rfl Try.func38 (by kernel_rfl) rfl #[.agg #[.int .i64 t101, .slice Ao22 t114.length co22]] rfl qm ?_; (with_reducible refine (impl_NetOk.calls k2 t101 _ _ t114 true _ ?side1 ?side2 A62.out).mono ?_); (case side1 => refine (Kd.R_reads' (e := 44) (base := w.heap.size) (ok := fun k_ => ((some k_ ≠ (.slice Ao10 t109.length co10 : Value).ownBlock ∧ some k_ ≠ (.slice Ao15 t112.length co15 : Value).ownBlock) ∧ some k_ ≠ (.slice Ao76 t129.length co76 : Value).ownBlock)) (n := t114.length) (c := co22) ?_).2.2; exact (by (with_reducible repeat (first | apply Kd.R_alloc | apply Kd.R_drewN | apply Kd.R_drew)); exact (Kd.R_mono (Kd.R_far (p := ⟨gb136, 1, none⟩) (Kd.R_far (p := ⟨gb136, 0, none⟩) (Kd.R_types HO_102001.out BK136.out (by decide)) (fun _ hk => hk.2) (.int .i64 t105)) (fun _ hk => hk.2) (.slice Ao76 t129.length co76)) (fun _ h_ => h_.1)))); (case side2 => exact (Kd.R_reads' HO_102001.out).2.1); rintro e w78 ⟨rfl, hb⟩; refine ⟨_, rfl, ?_⟩; have n0_ := q0 (Kd.R_below (by (with_reducible repeat (first | apply Kd.R_alloc | apply Kd.R_drewN | apply Kd.R_drew)); exact (Kd.R_mono (Kd.R_far (p := ⟨gb136, 1, none⟩) (Kd.R_far (p := ⟨gb136, 0, none⟩) (Kd.R_types HO_100001.out BK136.out (by decide)) (fun _ hk => hk.2) (.int .i64 t105)) (fun _ hk => hk.2) (.slice Ao76 t129.length co76)) (fun _ h_ => h_.1))) hb); have n1_ := q0 (Kd.R_below (by (with_reducible repeat (first | apply Kd.R_alloc | apply Kd.R_drewN | apply Kd.R_drew)); exact (Kd.R_mono (Kd.R_far (p := ⟨gb136, 1, none⟩) (Kd.R_far (p := ⟨gb136, 0, none⟩) (Kd.R_types HO_101001.out BK136.out (by decide)) (fun _ hk => hk.2) (.int .i64 t105)) (fun _ hk => hk.2) (.slice Ao76 t129.length co76)) (fun _ h_ => h_.1))) hb); have n2_ := q0 (Kd.R_below (by (with_reducible repeat (first | apply Kd.R_alloc | apply Kd.R_drewN | apply Kd.R_drew)); exact (Kd.R_mono (Kd.R_far (p := ⟨gb136, 1, none⟩) (Kd.R_far (p := ⟨gb136, 0, none⟩) (Kd.R_types HO_102001.out BK136.out (by decide)) (fun _ hk => hk.2) (.int .i64 t105)) (fun _ hk => hk.2) (.slice Ao76 t129.length co76)) (fun _ h_ => h_.1))) hb); have n3_ := q0 (Kd.R_below (by (with_reducible repeat (first | apply Kd.R_alloc | apply Kd.R_drewN | apply Kd.R_drew)); exact (Kd.R_mono (Kd.R_far (p := ⟨gb136, 1, none⟩) (Kd.R_far (p := ⟨gb136, 0, none⟩) (Kd.R_types HO135.out BK136.out (by decide)) (fun _ hk => hk.2) (.int .i64 t105)) (fun _ hk => hk.2) (.slice Ao76 t129.length co76)) (fun _ h_ => h_.1))) hb); have n4_ := q0 (blk_below (g := gb118) (o := .cells #[.int .i64 t108, .slice Ao10 t109.length co10] 30 (0, 0)) (qf BK118.out) hb); have n5_ := q0 (blk_below (g := gb121) (o := .cells #[.int .i64 t100, .slice Ao15 t112.length co15] 30 (0, 0)) (qf BK121.out) hb); have n6_ := q0 (blk_below (g := gb124) (o := .cells #[.int .i64 t101, .slice Ao22 t114.length co22] 30 (0, 0)) (qf BK124.out) hb); have n7_ := q0 (blk_below (g := gb136) (o := .cells #[.int .i64 t105, .slice Ao76 t129.length co76] 30 (0, 0)) (by (with_reducible repeat (first | refine blk_drewN ?_ _ | refine blk_drew ?_ | refine blk_alloc ?_ _)); refine blk_put (cs := #[.int .i64 t105, .slice none 0 0]) ?_ 1 _ rfl; (with_reducible repeat (first | refine blk_drewN ?_ _ | refine blk_drew ?_ | refine blk_alloc ?_ _)); refine blk_put (cs := #[.int .i64 0, .slice none 0 0]) ?_ 0 _ rfl; (with_reducible repeat (first | refine blk_drewN ?_ _ | refine blk_drew ?_ | refine blk_alloc ?_ _)); exact BK136.out) hb); have n8_ := q0 (below_step (qb HB.out) hb); clear HO_100001 HO_101001 HO_102001 HO135 BK118 BK121 BK124 BK136 HB; have HO_100001 := n0_; have HO_101001 := n1_; have HO_102001 := n2_; have HO135 := n3_; have BK118 := n4_; have BK121 := n5_; have BK124 := n6_; have BK136 := n7_; have HB := n8_; clear n0_ n1_ n2_ n3_ n4_ n5_ n6_ n7_ n8_; (try clear hb); (try clear hb2); (try clear hk); (try clear hi); have hcz79_0 : w78.cell? ⟨gb124, 0, none⟩ = some (.int .i64 t101) := (blk_cell BK124.out 0).trans rfl; have hcz79_1 : w78.cell? ⟨gb124, 1, none⟩ = some (.slice Ao22 t114.length co22) := (blk_cell BK124.out 1).trans rfl; have hfz79_0 := blk_frozen BK124.out 0; have hfz79_1 := blk_frozen BK124.out 1; have hnb80 := NB118_121.out; have hnc80 := NB121_118.out; have hcz81_0 : w78.cell? ⟨gb118, 0, none⟩ = some (.int .i64 t108) := (blk_cell BK118.out 0).trans rfl; have hcz81_1 : w78.cell? ⟨gb118, 1, none⟩ = some (.slice Ao10 t109.length co10) := (blk_cell BK118.out 1).trans rfl; have hfz81_0 := blk_frozen BK118.out 0; have hfz81_1 := blk_frozen BK118.out 1) | (go_at_call 39; (with_reducible refine (impl_NetHas.calls k2 t101 _ _ t114 t110 t111 true _ ?side1 ?side2 A65.out).mono ?_); (case side1 => exact qc (Kd.R_reads' HO_102001.out).2.2); (case side2 => exact (Kd.R_reads' HO_102001.out).2.1); rintro e w82 ⟨rfl, hb⟩; have n0_ := q0 (Kd.R_below (qr HO_100001.out) hb); have n1_ := q0 (Kd.R_below (qr HO_101001.out) hb); have n2_ := q0 (Kd.R_below (qr HO_102001.out) hb); have n3_ := q0 (Kd.R_below (qr HO135.out) hb); have n4_ := q0 (kb BK118.out hb); have n5_ := q0 (kb BK121.out hb); have n6_ := q0 (kb BK124.out hb); have n7_ := q0 (kb BK136.out hb); have n8_ := q0 (below_step (qb HB.out) hb); clear HO_100001 HO_101001 HO_102001 HO135 BK118 BK121 BK124 BK136 HB; have HO_100001 := n0_; have HO_101001 := n1_; have HO_102001 := n2_; have HO135 := n3_; have BK118 := n4_; have BK121 := n5_; have BK124 := n6_; have BK136 := n7_; have HB := n8_; clear n0_ n1_ n2_ n3_ n4_ n5_ n6_ n7_ n8_; (try clear hb); (try clear hb2); (try clear hk); (try clear hi)))
     go_ret
     exact ⟨qe, qb HB.out⟩
   replace c66 := Bool.eq_false_iff.mpr c66
   subst c66
   have H1 : (some (!t130)) = some r := by rw [if_neg (show ¬ (false = true) by decide)] at H; exact H
   clear H
   have H := H1
   clear H1
   obtain rfl := Option.some.inj H
   have hnb83 := NB124_118.out
   have hnc83 := NB118_124.out
   have hnb84 := NB124_121.out
   have hnc84 := NB121_124.out
   have hcz85_0 : wr.cell? ⟨gb124, 0, none⟩ = some (.int .i64 t101) := (blk_cell BK124.out 0).trans rfl
   have hcz85_1 : wr.cell? ⟨gb124, 1, none⟩ = some (.slice Ao22 t114.length co22) := (blk_cell BK124.out 1).trans rfl
   have hfz85_0 := blk_frozen BK124.out 0
   have hfz85_1 := blk_frozen BK124.out 1
   go_wp2_with (first | ((with_reducible refine gate_callee (f := 35) rfl ?_); refine goesL_ (some 77) rfl rfl Try.func35 (by kernel_rfl) rfl #[.agg #[.int .i64 t101, .slice Ao22 t114.length co22], .int .i64 t110, .int .i64 t111] rfl qm ?_; (with_reducible refine (impl_NetCut.calls k2 t101 _ _ t114 t110 t111 t105 t129 t130 _ ?side1 ?side2 A61.out).mono ?_); (case side1 => exact qc (Kd.R_reads' HO_102001.out).2.2); (case side2 => exact (Kd.R_reads' HO_102001.out).2.1); rintro e w86 ⟨v134, rfl, ho0, hb⟩; refine ⟨_, rfl, ?_⟩; have n0_ := q0 (Kd.R_elder' (qr HO_100001.out) (Kd.R_base ho0) hb); have n1_ := q0 (Kd.R_elder' (qr HO_101001.out) (Kd.R_base ho0) hb); have n2_ := q0 (Kd.R_elder' (qr HO_102001.out) (Kd.R_base ho0) hb); have n3_ := q0 (Kd.R_lower (Kd.R_new' (Kd.R_new' (Kd.R_new' ho0 (Kd.R_lt (qr HO_100001.out))) (Kd.R_lt (qr HO_101001.out))) (Kd.R_lt (qr HO_102001.out))) (below_size (qb HB.out))); have n4_ := q0 (kb BK118.out hb); have n5_ := q0 (kb BK121.out hb); have n6_ := q0 (kb BK124.out hb); have n7_ := q0 (below_step (qb HB.out) hb); clear HO_100001 HO_101001 HO_102001 BK118 BK121 BK124 HB; have HO_100001 := n0_; have HO_101001 := n1_; have HO_102001 := n2_; have HO135 := n3_; have BK118 := n4_; have BK121 := n5_; have BK124 := n6_; have HB := n7_; clear n0_ n1_ n2_ n3_ n4_ n5_ n6_ n7_; (try clear hb); (try clear hb2); (try clear hk); (try clear hi); (try clear ho0)) | ((with_reducible refine gate_dst (N := 11) rfl ?_); (try (refine gate_guard (by rfl) ?_; dsimp only)); refine be 11 #[.int .i64 0, .slice none 0 0] 30 ?_; intro gb136 hg w87 hbox hb; have n0_ := q0 (Kd.R_below (qr HO_100001.out) hb); have n1_ := q0 (Kd.R_below (qr HO_101001.out) hb); have n2_ := q0 (Kd.R_below (qr HO_102001.out) hb); have n3_ := q0 (Kd.R_below (qr HO135.out) hb); have n4_ := q0 (kb BK118.out hb); have n5_ := q0 (kb BK121.out hb); have n6_ := q0 (kb BK124.out hb); have n7_ := q0 (below_step (qb HB.out) hb); have n8_ := q0 (hbox); have n9_ := q0 ((bs HB.out hg : w.heap.size ≤ gb136)); have n10_ := q0 ((bs HB.out hg : w.heap.size ≤ gb136)); have n11_ := q0 ((bl BK118.out hg : gb118 ≠ gb136)); have n12_ := q0 ((bg BK118.out hg : gb136 ≠ gb118)); have n13_ := q0 ((bl BK121.out hg : gb121 ≠ gb136)); have n14_ := q0 ((bg BK121.out hg : gb136 ≠ gb121)); have n15_ := q0 ((bl BK124.out hg : gb124 ≠ gb136)); have n16_ := q0 ((bg BK124.out hg : gb136 ≠ gb124)); clear HO_100001 HO_101001 HO_102001 HO135 BK118 BK121 BK124 HB; have HO_100001 := n0_; have HO_101001 := n1_; have HO_102001 := n2_; have HO135 := n3_; have BK118 := n4_; have BK121 := n5_; have BK124 := n6_; have HB := n7_; have BK136 := n8_; have GW136 := n9_; have GE136 := n10_; have NB118_136 := n11_; have NB136_118 := n12_; have NB121_136 := n13_; have NB136_121 := n14_; have NB124_136 := n15_; have NB136_124 := n16_; clear n0_ n1_ n2_ n3_ n4_ n5_ n6_ n7_ n8_ n9_ n10_ n11_ n12_ n13_ n14_ n15_ n16_ hb hbox hg; have hnb88 := NB136_118.out; have hnc88 := NB118_136.out; have hnb89 := NB136_121.out; have hnc89 := NB121_136.out; have hnb90 := NB136_124.out; have hnc90 := NB124_136.out; have hcz91_0 : w87.cell? ⟨gb136, 0, none⟩ = some (.int .i64 0) := (blk_cell BK136.out 0).trans rfl; have hcz91_1 : w87.cell? ⟨gb136, 1, none⟩ = some (.slice none 0 0) := (blk_cell BK136.out 1).trans rfl; have hfz91_0 := blk_frozen BK136.out 0; have hfz91_1 := blk_frozen BK136.out 1; obtain ⟨Ao92, co92, eo92⟩ := Kd.R_slice HO135.out; subst eo92; have hcz93_0 : w87.cell? ⟨gb124, 0, none⟩ = some (.int .i64 t101) := (blk_cell BK124.out 0).trans rfl; have hcz93_1 : w87.cell? ⟨gb124, 1, none⟩ = some (.slice Ao22 t114.length co22) := (blk_cell BK124.out 1).trans rfl; have hfz93_0 := blk_frozen BK124.out 0; have hfz93_1 := blk_frozen BK124.out 1) | ((with_reducible refine gate_callee (f := 38) rfl ?_); refine goesL_ (some 81) rfl rfl Try.func38 (by kernel_rfl) rfl #[.agg #[.int .i64 t101, .slice Ao22 t114.length co22]] rfl qm ?_; (with_reducible refine (impl_NetOk.calls k2 t101 _ _ t114 true _ ?side1 ?side2 A62.out).mono ?_); (case side1 => refine (Kd.R_reads' (e := 44) (base := w.heap.size) (ok := fun k_ => ((some k_ ≠ (.slice Ao10 t109.length co10 : Value).ownBlock ∧ some k_ ≠ (.slice Ao15 t112.length co15 : Value).ownBlock) ∧ some k_ ≠ (.slice Ao92 t129.length co92 : Value).ownBlock)) (n := t114.length) (c := co22) ?_).2.2; exact (by (with_reducible repeat (first | apply Kd.R_alloc | apply Kd.R_drewN | apply Kd.R_drew)); exact (Kd.R_mono (Kd.R_far (p := ⟨gb136, 1, none⟩) (Kd.R_far (p := ⟨gb136, 0, none⟩) (Kd.R_types HO_102001.out BK136.out (by decide)) (fun _ hk => hk.2) (.int .i64 t105)) (fun _ hk => hk.2) (.slice Ao92 t129.length co92)) (fun _ h_ => h_.1)))); (case side2 => exact (Kd.R_reads' HO_102001.out).2.1); rintro e w94 ⟨rfl, hb⟩; refine ⟨_, rfl, ?_⟩; have n0_ := q0 (Kd.R_below (by (with_reducible repeat (first | apply Kd.R_alloc | apply Kd.R_drewN | apply Kd.R_drew)); exact (Kd.R_mono (Kd.R_far (p := ⟨gb136, 1, none⟩) (Kd.R_far (p := ⟨gb136, 0, none⟩) (Kd.R_types HO_100001.out BK136.out (by decide)) (fun _ hk => hk.2) (.int .i64 t105)) (fun _ hk => hk.2) (.slice Ao92 t129.length co92)) (fun _ h_ => h_.1))) hb); have n1_ := q0 (Kd.R_below (by (with_reducible repeat (first | apply Kd.R_alloc | apply Kd.R_drewN | apply Kd.R_drew)); exact (Kd.R_mono (Kd.R_far (p := ⟨gb136, 1, none⟩) (Kd.R_far (p := ⟨gb136, 0, none⟩) (Kd.R_types HO_101001.out BK136.out (by decide)) (fun _ hk => hk.2) (.int .i64 t105)) (fun _ hk => hk.2) (.slice Ao92 t129.length co92)) (fun _ h_ => h_.1))) hb); have n2_ := q0 (Kd.R_below (by (with_reducible repeat (first | apply Kd.R_alloc | apply Kd.R_drewN | apply Kd.R_drew)); exact (Kd.R_mono (Kd.R_far (p := ⟨gb136, 1, none⟩) (Kd.R_far (p := ⟨gb136, 0, none⟩) (Kd.R_types HO_102001.out BK136.out (by decide)) (fun _ hk => hk.2) (.int .i64 t105)) (fun _ hk => hk.2) (.slice Ao92 t129.length co92)) (fun _ h_ => h_.1))) hb); have n3_ := q0 (Kd.R_below (by (with_reducible repeat (first | apply Kd.R_alloc | apply Kd.R_drewN | apply Kd.R_drew)); exact (Kd.R_mono (Kd.R_far (p := ⟨gb136, 1, none⟩) (Kd.R_far (p := ⟨gb136, 0, none⟩) (Kd.R_types HO135.out BK136.out (by decide)) (fun _ hk => hk.2) (.int .i64 t105)) (fun _ hk => hk.2) (.slice Ao92 t129.length co92)) (fun _ h_ => h_.1))) hb); have n4_ := q0 (blk_below (g := gb118) (o := .cells #[.int .i64 t108, .slice Ao10 t109.length co10] 30 (0, 0)) (qf BK118.out) hb); have n5_ := q0 (blk_below (g := gb121) (o := .cells #[.int .i64 t100, .slice Ao15 t112.length co15] 30 (0, 0)) (qf BK121.out) hb); have n6_ := q0 (blk_below (g := gb124) (o := .cells #[.int .i64 t101, .slice Ao22 t114.length co22] 30 (0, 0)) (qf BK124.out) hb); have n7_ := q0 (blk_below (g := gb136) (o := .cells #[.int .i64 t105, .slice Ao92 t129.length co92] 30 (0, 0)) (by (with_reducible repeat (first | refine blk_drewN ?_ _ | refine blk_drew ?_ | refine blk_alloc ?_ _)); refine blk_put (cs := #[.int .i64 t105, .slice none 0 0]) ?_ 1 _ rfl; (with_reducible repeat (first | refine blk_drewN ?_ _ | refine blk_drew ?_ | refine blk_alloc ?_ _)); refine blk_put (cs := #[.int .i64 0, .slice none 0 0]) ?_ 0 _ rfl; (with_reducible repeat (first | refine blk_drewN ?_ _ | refine blk_drew ?_ | refine blk_alloc ?_ _)); exact BK136.out) hb); have n8_ := q0 (below_step (qb HB.out) hb); clear HO_100001 HO_101001 HO_102001 HO135 BK118 BK121 BK124 BK136 HB; have HO_100001 := n0_; have HO_101001 := n1_; have HO_102001 := n2_; have HO135 := n3_; have BK118 := n4_; have BK121 := n5_; have BK124 := n6_; have BK136 := n7_; have HB := n8_; clear n0_ n1_ n2_ n3_ n4_ n5_ n6_ n7_ n8_; (try clear hb); (try clear hb2); (try clear hk); (try clear hi); have hcz95_0 : w94.cell? ⟨gb124, 0, none⟩ = some (.int .i64 t101) := (blk_cell BK124.out 0).trans rfl; have hcz95_1 : w94.cell? ⟨gb124, 1, none⟩ = some (.slice Ao22 t114.length co22) := (blk_cell BK124.out 1).trans rfl; have hfz95_0 := blk_frozen BK124.out 0; have hfz95_1 := blk_frozen BK124.out 1; have hnb96 := NB118_121.out; have hnc96 := NB121_118.out; have hcz97_0 : w94.cell? ⟨gb118, 0, none⟩ = some (.int .i64 t108) := (blk_cell BK118.out 0).trans rfl; have hcz97_1 : w94.cell? ⟨gb118, 1, none⟩ = some (.slice Ao10 t109.length co10) := (blk_cell BK118.out 1).trans rfl; have hfz97_0 := blk_frozen BK118.out 0; have hfz97_1 := blk_frozen BK118.out 1) | (go_at_call 39; (with_reducible refine (impl_NetHas.calls k2 t101 _ _ t114 t110 t111 false _ ?side1 ?side2 A65.out).mono ?_); (case side1 => exact qc (Kd.R_reads' HO_102001.out).2.2); (case side2 => exact (Kd.R_reads' HO_102001.out).2.1); rintro e w98 ⟨rfl, hb⟩; have n0_ := q0 (Kd.R_below (qr HO_100001.out) hb); have n1_ := q0 (Kd.R_below (qr HO_101001.out) hb); have n2_ := q0 (Kd.R_below (qr HO_102001.out) hb); have n3_ := q0 (Kd.R_below (qr HO135.out) hb); have n4_ := q0 (kb BK118.out hb); have n5_ := q0 (kb BK121.out hb); have n6_ := q0 (kb BK124.out hb); have n7_ := q0 (kb BK136.out hb); have n8_ := q0 (below_step (qb HB.out) hb); clear HO_100001 HO_101001 HO_102001 HO135 BK118 BK121 BK124 BK136 HB; have HO_100001 := n0_; have HO_101001 := n1_; have HO_102001 := n2_; have HO135 := n3_; have BK118 := n4_; have BK121 := n5_; have BK124 := n6_; have BK136 := n7_; have HB := n8_; clear n0_ n1_ n2_ n3_ n4_ n5_ n6_ n7_ n8_; (try clear hb); (try clear hb2); (try clear hk); (try clear hi)))
   go_ret
   exact ⟨qe, qb HB.out⟩
 rw [if_pos c47] at H
 have c47b0 : decide (x10_2 < (t114.length : Int)) = true := decide_eq_true c47
 clear c47
 by_cases c48 : 0 ≤ x10_2
 rotate_left
 · rw [if_neg c48] at H
   exact absurd H (by simp)
 rw [if_pos c48] at H
 have c48b0 : decide (0 ≤ x10_2) = true := decide_eq_true c48
 clear c48
 replace H := Option.bind_eq_some_iff.mp H
 obtain ⟨t104, A127, H⟩ := H
 replace H : (if t104 = true then (laws_FnNetCut.l0 k2 t110 t111 (wrap64 (x10_2 + 1)) t108 t109 t101 t114) else (some false)) = some r := H
 have A49 := Aside0.mk A127
 clear A127
 by_cases c50 : t104 = true
 rotate_left
 · replace c50 := Bool.eq_false_iff.mpr c50
   subst c50
   have H1 : (some false) = some r := by rw [if_neg (show ¬ (false = true) by decide)] at H; exact H
   clear H
   have H := H1
   clear H1
   obtain rfl := Option.some.inj H
   have hnb56 := NB124_118.out
   have hnc56 := NB118_124.out
   have hnb57 := NB124_121.out
   have hnc57 := NB121_124.out
   have hcz58_0 : wr.cell? ⟨gb124, 0, none⟩ = some (.int .i64 t101) := (blk_cell BK124.out 0).trans rfl
   have hcz58_1 : wr.cell? ⟨gb124, 1, none⟩ = some (.slice Ao22 t114.length co22) := (blk_cell BK124.out 1).trans rfl
   have hfz58_0 := blk_frozen BK124.out 0
   have hfz58_1 := blk_frozen BK124.out 1
   try go_wp2
   have n0_ := q0 (Kd.R_drew HO_100001.out)
   have n1_ := q0 (Kd.R_drew HO_101001.out)
   have n2_ := q0 (Kd.R_drew HO_102001.out)
   have n3_ := q0 (blk_drew BK118.out)
   have n4_ := q0 (blk_drew BK121.out)
   have n5_ := q0 (blk_drew BK124.out)
   have n6_ := q0 (below_drew1 HB.out)
   clear HO_100001
   clear HO_101001
   clear HO_102001
   clear BK118
   clear BK121
   clear BK124
   clear HB
   have HO_100001 := n0_
   have HO_101001 := n1_
   have HO_102001 := n2_
   have BK118 := n3_
   have BK121 := n4_
   have BK124 := n5_
   have HB := n6_
   clear n0_ n1_ n2_ n3_ n4_ n5_ n6_
   have p128 : 0 ≤ (x10_2 : Int) := of_decide_eq_true qa
   have q128 : x10_2 < (t114.length : Int) := of_decide_eq_true qa
   obtain ⟨ad128, e128, hx128_0, hx128_1⟩ := at_TTie (Kd.R_reads' HO_102001.out).2.2 x10_2 p128 q128
   cases e128
   replace p128 := eq_true p128
   replace q128 := eq_true q128
   refine start_ (n := 9) (S := fun w' => w'.cell? ⟨gb118, 0, none⟩ = some (.int .i64 t108) ∧ w'.cell? ⟨gb118, 1, none⟩ = some (.slice Ao10 t109.length co10) ∧ w'.cell? ⟨gb124, 0, none⟩ = some (.int .i64 t101) ∧ w'.cell? ⟨gb124, 1, none⟩ = some (.slice (some ad128) t114.length co22) ∧ w'.cell? (ad128.add ((x10_2).toNat * 2)) = some (.int .i64 ((rd_TTie t114 x10_2).f0)) ∧ w'.cell? ⟨(ad128.add ((x10_2).toNat * 2)).block, (ad128.add ((x10_2).toNat * 2)).off + 1, none⟩ = some (.int .i64 ((rd_TTie t114 x10_2).f1))) (ds := []) (ba 9 0) (by kernel_rfl) rfl (by kernel_rfl) ⟨(blk_cell BK118.out 0).trans rfl, (blk_cell BK118.out 1).trans rfl, (blk_cell BK124.out 0).trans rfl, (blk_cell BK124.out 1).trans rfl, hx128_0, hx128_1⟩ (fun hHeld => ?_); refine with_tabW laws_FnNetCut.tab11 laws_FnNetCut.bits11 (fun HT_ HW_ => ?_)
   generalize wr.drew = w59 at HO_100001 HO_101001 HO_102001 BK118 BK121 BK124 HB hx128_0 hx128_1 hHeld ⊢
   refine pu 0 (some 64) (ba 9 1) HT_.out ?_
   refine pu 2 (some 66) (ba 9 5) HT_.out ?_
   refine pu 4 (some 68) (ba 9 21) HT_.out ?_
   refine tu 1 (some 65) (ba 9 23) HT_.out HW_.out hHeld ?_
   refine tu 3 (some 67) (ba 9 31) HT_.out HW_.out hHeld ?_
   refine pu 5 (some 69) (ba 9 63) HT_.out ?_
   refine tu 6 (some 70) (ba 9 127) HT_.out HW_.out hHeld ?_
   refine one_ (i := 7) (N := some 71) (ba 9 255) rfl rfl (one_of HT_.out (by kernel_rfl)) (by decide) (fun K hK => ?_)
   refine goes_ Try.func37 (by kernel_rfl) rfl #[.slice Ao10 t109.length co10, .agg #[.int .i64 ((rd_TTie t114 x10_2).f0), .int .i64 ((rd_TTie t114 x10_2).f1)]] (by rfl) rfl rfl qm ?_
   with_reducible refine (laws_loHas.calls k2 _ _ t109 ((rd_TTie t114 x10_2).f0) ((rd_TTie t114 x10_2).f1) false _ ?side1 ?side2 A49.out).mono ?_
   (case side1 => exact qc (Kd.R_reads' HO_100001.out).2.2)
   (case side2 => exact (Kd.R_reads' HO_100001.out).2.1)
   rintro e w60 ⟨rfl, hb⟩
   have HS4_ := (hb.cell (World.block_lt_of_cell? _ _ (hHeld.2.2.2.2.1))).trans (hHeld.2.2.2.2.1)
   have HS5_ := (hb.cell (World.block_lt_of_cell? _ _ (hHeld.2.2.2.2.2))).trans (hHeld.2.2.2.2.2)
   refine ⟨_, rfl, ?_⟩
   have n0_ := q0 (Kd.R_below (qr HO_100001.out) hb)
   have n1_ := q0 (Kd.R_below (qr HO_101001.out) hb)
   have n2_ := q0 (Kd.R_below (qr HO_102001.out) hb)
   have n3_ := q0 (kb BK118.out hb)
   have n4_ := q0 (kb BK121.out hb)
   have n5_ := q0 (kb BK124.out hb)
   have n6_ := q0 (below_step (qb HB.out) hb)
   clear HO_100001
   clear HO_101001
   clear HO_102001
   clear BK118
   clear BK121
   clear BK124
   clear HB
   have HO_100001 := n0_
   have HO_101001 := n1_
   have HO_102001 := n2_
   have BK118 := n3_
   have BK121 := n4_
   have BK124 := n5_
   have HB := n6_
   clear n0_ n1_ n2_ n3_ n4_ n5_ n6_
   (try clear hb)
   (try clear hb2)
   (try clear hk)
   (try clear hi)
   refine hK.out _ _ ⟨(blk_cell BK118.out 0).trans rfl, (blk_cell BK118.out 1).trans rfl, (blk_cell BK124.out 0).trans rfl, (blk_cell BK124.out 1).trans rfl, HS4_, HS5_⟩ (fun hHeld => ?_)
   clear hK K
   refine nu 71 ?_
   refine pu 8 (some 72) (ba 9 511) HT_.out ?_
   refine done_ (done_of HT_.out (by kernel_rfl)) ?_
   try go_wp2
   go_ret
   exact ⟨qe, qb HB.out⟩
 subst c50
 have H1 : (laws_FnNetCut.l0 k2 t110 t111 (wrap64 (x10_2 + 1)) t108 t109 t101 t114) = some r := by rw [if_pos rfl] at H; exact H
 clear H
 have H := H1
 clear H1
 have H' := Aside0.mk H
 clear H
 have hnb51 := NB124_118.out
 have hnc51 := NB118_124.out
 have hnb52 := NB124_121.out
 have hnc52 := NB121_124.out
 have hcz53_0 : wr.cell? ⟨gb124, 0, none⟩ = some (.int .i64 t101) := (blk_cell BK124.out 0).trans rfl
 have hcz53_1 : wr.cell? ⟨gb124, 1, none⟩ = some (.slice Ao22 t114.length co22) := (blk_cell BK124.out 1).trans rfl
 have hfz53_0 := blk_frozen BK124.out 0
 have hfz53_1 := blk_frozen BK124.out 1
 try go_wp2
 have n0_ := q0 (Kd.R_drew HO_100001.out)
 have n1_ := q0 (Kd.R_drew HO_101001.out)
 have n2_ := q0 (Kd.R_drew HO_102001.out)
 have n3_ := q0 (blk_drew BK118.out)
 have n4_ := q0 (blk_drew BK121.out)
 have n5_ := q0 (blk_drew BK124.out)
 have n6_ := q0 (below_drew1 HB.out)
 clear HO_100001
 clear HO_101001
 clear HO_102001
 clear BK118
 clear BK121
 clear BK124
 clear HB
 have HO_100001 := n0_
 have HO_101001 := n1_
 have HO_102001 := n2_
 have BK118 := n3_
 have BK121 := n4_
 have BK124 := n5_
 have HB := n6_
 clear n0_ n1_ n2_ n3_ n4_ n5_ n6_
 have p128 : 0 ≤ (x10_2 : Int) := of_decide_eq_true qa
 have q128 : x10_2 < (t114.length : Int) := of_decide_eq_true qa
 obtain ⟨ad128, e128, hx128_0, hx128_1⟩ := at_TTie (Kd.R_reads' HO_102001.out).2.2 x10_2 p128 q128
 cases e128
 replace p128 := eq_true p128
 replace q128 := eq_true q128
 refine start_ (n := 9) (S := fun w' => w'.cell? ⟨gb118, 0, none⟩ = some (.int .i64 t108) ∧ w'.cell? ⟨gb118, 1, none⟩ = some (.slice Ao10 t109.length co10) ∧ w'.cell? ⟨gb124, 0, none⟩ = some (.int .i64 t101) ∧ w'.cell? ⟨gb124, 1, none⟩ = some (.slice (some ad128) t114.length co22) ∧ w'.cell? (ad128.add ((x10_2).toNat * 2)) = some (.int .i64 ((rd_TTie t114 x10_2).f0)) ∧ w'.cell? ⟨(ad128.add ((x10_2).toNat * 2)).block, (ad128.add ((x10_2).toNat * 2)).off + 1, none⟩ = some (.int .i64 ((rd_TTie t114 x10_2).f1))) (ds := []) (ba 9 0) (by kernel_rfl) rfl (by kernel_rfl) ⟨(blk_cell BK118.out 0).trans rfl, (blk_cell BK118.out 1).trans rfl, (blk_cell BK124.out 0).trans rfl, (blk_cell BK124.out 1).trans rfl, hx128_0, hx128_1⟩ (fun hHeld => ?_); refine with_tabW laws_FnNetCut.tab11 laws_FnNetCut.bits11 (fun HT_ HW_ => ?_)
 generalize wr.drew = w54 at HO_100001 HO_101001 HO_102001 BK118 BK121 BK124 HB hx128_0 hx128_1 hHeld ⊢
 refine pu 0 (some 64) (ba 9 1) HT_.out ?_
 refine pu 2 (some 66) (ba 9 5) HT_.out ?_
 refine pu 4 (some 68) (ba 9 21) HT_.out ?_
 refine tu 1 (some 65) (ba 9 23) HT_.out HW_.out hHeld ?_
 refine tu 3 (some 67) (ba 9 31) HT_.out HW_.out hHeld ?_
 refine pu 5 (some 69) (ba 9 63) HT_.out ?_
 refine tu 6 (some 70) (ba 9 127) HT_.out HW_.out hHeld ?_
 refine one_ (i := 7) (N := some 71) (ba 9 255) rfl rfl (one_of HT_.out (by kernel_rfl)) (by decide) (fun K hK => ?_)
 refine goes_ Try.func37 (by kernel_rfl) rfl #[.slice Ao10 t109.length co10, .agg #[.int .i64 ((rd_TTie t114 x10_2).f0), .int .i64 ((rd_TTie t114 x10_2).f1)]] (by rfl) rfl rfl qm ?_
 with_reducible refine (laws_loHas.calls k2 _ _ t109 ((rd_TTie t114 x10_2).f0) ((rd_TTie t114 x10_2).f1) true _ ?side1 ?side2 A49.out).mono ?_
 (case side1 => exact qc (Kd.R_reads' HO_100001.out).2.2)
 (case side2 => exact (Kd.R_reads' HO_100001.out).2.1)
 rintro e w55 ⟨rfl, hb⟩
 have HS4_ := (hb.cell (World.block_lt_of_cell? _ _ (hHeld.2.2.2.2.1))).trans (hHeld.2.2.2.2.1)
 have HS5_ := (hb.cell (World.block_lt_of_cell? _ _ (hHeld.2.2.2.2.2))).trans (hHeld.2.2.2.2.2)
 refine ⟨_, rfl, ?_⟩
 have n0_ := q0 (Kd.R_below (qr HO_100001.out) hb)
 have n1_ := q0 (Kd.R_below (qr HO_101001.out) hb)
 have n2_ := q0 (Kd.R_below (qr HO_102001.out) hb)
 have n3_ := q0 (kb BK118.out hb)
 have n4_ := q0 (kb BK121.out hb)
 have n5_ := q0 (kb BK124.out hb)
 have n6_ := q0 (below_step (qb HB.out) hb)
 clear HO_100001
 clear HO_101001
 clear HO_102001
 clear BK118
 clear BK121
 clear BK124
 clear HB
 have HO_100001 := n0_
 have HO_101001 := n1_
 have HO_102001 := n2_
 have BK118 := n3_
 have BK121 := n4_
 have BK124 := n5_
 have HB := n6_
 clear n0_ n1_ n2_ n3_ n4_ n5_ n6_
 (try clear hb)
 (try clear hb2)
 (try clear hk)
 (try clear hi)
 refine hK.out _ _ ⟨(blk_cell BK118.out 0).trans rfl, (blk_cell BK118.out 1).trans rfl, (blk_cell BK124.out 0).trans rfl, (blk_cell BK124.out 1).trans rfl, HS4_, HS5_⟩ (fun hHeld => ?_)
 clear hK K
 refine nu 71 ?_
 refine pu 8 (some 72) (ba 9 511) HT_.out ?_
 refine done_ (done_of HT_.out (by kernel_rfl)) ?_
 try go_wp2
 go_roundg k2
 case measure => have := HJ5.out; have := HK2.out; omega
 case rel => exact ⟨(wrap64 (x10_2 + 1)), qs, H', ⟨by have := HJ5.out; have := HK2.out; omega⟩, ⟨qr HO_100001.out⟩, ⟨qr HO_101001.out⟩, ⟨qr HO_102001.out⟩, ⟨qk BK118.out⟩, ⟨qk BK121.out⟩, ⟨qk BK124.out⟩, ⟨qb HB.out⟩⟩

theorem laws_FnNetCut.walk (P : laws_FnNetCut.Pure) (a0 : Option Addr) (len0 cap0 : Nat) (z0 : List Int) (w : World) (w0 : (a0 = none ∧ len0 = 0 ∧ cap0 = 0 ∧ z0 = []) ∨ ∃ x, a0 = some x ∧ len0 ≤ cap0 ∧ cap0 ≤ maxLen ∧ z0.length = cap0 ∧ (∀ i, i < z0.length → w.cell? (x.add i) = some (.int .u8 (z0.getD i 0))) ∧ ∀ n ∈ z0, (Lit.int .u8 n).wf = true) (y0 : len0 * 1 ≤ 140737488351232) :
    Calls Try.prog 8 #[.slice a0 len0 cap0] w fun e w' => e = .returned (.bool true) ∧ Below w.heap.size w w' := by
  obtain ⟨l0, rfl, hr0, hm0, hw0, hc0⟩ := ReadsInt.ofRowC w0
  obtain ⟨k, h⟩ := P l0 hm0 y0 hw0
  refine (laws_FnNetCut.calls k _ _ l0 true w (Kd.C_of_reads (d := (0 : Int)) (h1 := fun _ => rfl) hr0) hc0 h).mono ?_
  rintro e w' ⟨rfl, hd⟩
  exact ⟨rfl, hd⟩
end Go.Proofs.Ytheoebelhgbejaa.P
