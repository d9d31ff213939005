import Derived.Test.YtgoembpmhlmafaaP0
import Derived.Test.YtgoembpmhlmafaaP1
import Derived.Test.YtgoembpmhlmafaaP4
import Derived.Test.YtgoembpmhlmafaaP5
import Derived.Test.YtgoembpmhlmafaaP8
import Derived.Test.YtgoembpmhlmafaaP9
namespace Go.Proofs.Ytgoembpmhlmafaa.P
open Go.RowKit Go.Proofs.YtgoembpmhlmafaaW.PrintWords Go.Proofs.YtgoembpmhlmafaaW.PrintLast Go.Proofs.YtgoembpmhlmafaaW.PrintMore
attribute [local go_sem] max2_int min2_int max_two min_two max_three min_three max_four min_four
set_option linter.unusedVariables false
set_option linter.unusedSimpArgs false
attribute [local go_sem high] eqATie
set_option maxHeartbeats 8000000 in
set_option maxRecDepth 100000 in
theorem laws_loTie.calls (a0 : Int) (a1 : Int) (r1 : Int) (r2 : Int) (w : World) (h : laws_loTie.f a0 a1 = some (r1, r2)) :
    Calls Try.prog 35 #[.int .i64 a0, .int .i64 a1] w fun e w' => e = .returned (.agg #[.int .i64 r1, .int .i64 r2]) ∧ Below w.heap.size w w' := by
 have hu32 := Try.underlying32
 have HB := q0 (Below.refl w.heap.size w)
 have H : (if a0 < a1 then (some (a0, a1)) else (some (a1, a0))) = some (r1, r2) := h
 clear h
 by_cases c3 : a0 < a1
 · rw [if_pos c3] at H
   have c3b0 : decide (a0 < a1) = true := decide_eq_true c3
   clear c3
   simp only [Option.some.injEq, Prod.mk.injEq] at H
   obtain ⟨rfl, rfl⟩ := H
   go_enter Try.func35, Try.ntmps35
   go_wp2_with (first | ((with_reducible refine gate_dst (N := 4) rfl ?_); refine be 4 #[.int .i64 0, .int .i64 0] 32 ?_; intro gb100 hg w4 hbox hb; have BK100 := q0 (hbox); have GW100 := q0 ((bs HB.out hg : w.heap.size ≤ gb100)); have GE100 := q0 ((bs HB.out hg : w.heap.size ≤ gb100)); replace HB := q0 (below_step (qb HB.out) hb); clear hb hbox hg; have hcz5_0 : w4.cell? ⟨gb100, 0, none⟩ = some (.int .i64 0) := (blk_cell BK100.out 0).trans rfl; have hcz5_1 : w4.cell? ⟨gb100, 1, none⟩ = some (.int .i64 0) := (blk_cell BK100.out 1).trans rfl; have hfz5_0 := blk_frozen BK100.out 0; have hfz5_1 := blk_frozen BK100.out 1))
   refine bodyPost_ret (results_cell_row rfl _ _ gb100 32 #[.int .i64 a0, .int .i64 a1] (0, 0) _ rfl (by (with_reducible repeat (first | refine blk_drewN ?_ _ | refine blk_drew ?_ | refine blk_alloc ?_ _)); refine blk_put (cs := #[.int .i64 a0, .int .i64 0]) ?_ 1 _ rfl; (with_reducible repeat (first | refine blk_drewN ?_ _ | refine blk_drew ?_ | refine blk_alloc ?_ _)); refine blk_put (cs := #[.int .i64 0, .int .i64 0]) ?_ 0 _ rfl; (with_reducible repeat (first | refine blk_drewN ?_ _ | refine blk_drew ?_ | refine blk_alloc ?_ _)); exact BK100.out) Try.underlying32 rfl (by kernel_rfl)) rfl ?_
   exact ⟨qe, qb HB.out⟩
 rw [if_neg c3] at H
 have c3b0 : decide (a0 < a1) = false := decide_eq_false c3
 clear c3
 simp only [Option.some.injEq, Prod.mk.injEq] at H
 obtain ⟨rfl, rfl⟩ := H
 go_enter Try.func35, Try.ntmps35
 go_wp2_with (first | ((with_reducible refine gate_dst (N := 4) rfl ?_); refine be 4 #[.int .i64 0, .int .i64 0] 32 ?_; intro gb100 hg w6 hbox hb; have BK100 := q0 (hbox); have GW100 := q0 ((bs HB.out hg : w.heap.size ≤ gb100)); have GE100 := q0 ((bs HB.out hg : w.heap.size ≤ gb100)); replace HB := q0 (below_step (qb HB.out) hb); clear hb hbox hg; have hcz7_0 : w6.cell? ⟨gb100, 0, none⟩ = some (.int .i64 0) := (blk_cell BK100.out 0).trans rfl; have hcz7_1 : w6.cell? ⟨gb100, 1, none⟩ = some (.int .i64 0) := (blk_cell BK100.out 1).trans rfl; have hfz7_0 := blk_frozen BK100.out 0; have hfz7_1 := blk_frozen BK100.out 1))
 refine bodyPost_ret (results_cell_row rfl _ _ gb100 32 #[.int .i64 a1, .int .i64 a0] (0, 0) _ rfl (by (with_reducible repeat (first | refine blk_drewN ?_ _ | refine blk_drew ?_ | refine blk_alloc ?_ _)); refine blk_put (cs := #[.int .i64 a1, .int .i64 0]) ?_ 1 _ rfl; (with_reducible repeat (first | refine blk_drewN ?_ _ | refine blk_drew ?_ | refine blk_alloc ?_ _)); refine blk_put (cs := #[.int .i64 0, .int .i64 0]) ?_ 0 _ rfl; (with_reducible repeat (first | refine blk_drewN ?_ _ | refine blk_drew ?_ | refine blk_alloc ?_ _)); exact BK100.out) Try.underlying32 rfl (by kernel_rfl)) rfl ?_
 exact ⟨qe, qb HB.out⟩

attribute [local go_sem high] eqATie
set_option maxHeartbeats 8000000 in
set_option maxRecDepth 100000 in
theorem laws_loHas.calls (k : Nat) (A0 : Option Addr) (c0 : Nat) (l0 : List (STie)) (a1_0 : Int) (a1_1 : Int) (r : Bool) (w : World) (hr0 : Kd.C kTie w A0 l0.length l0) (hc0 : l0.length ≤ c0) (h : laws_loHas.f k l0 a1_0 a1_1 = some r) :
    Calls Try.prog 36 #[.slice A0 l0.length c0, .agg #[.int .i64 a1_0, .int .i64 a1_1]] w fun e w' => e = .returned (.bool r) ∧ Below w.heap.size w w' := by
 have hu32 := Try.underlying32
 have HR0 := Aside0.mk hr0
 have HC0 := Aside0.mk hc0
 clear hr0 hc0
 have HB := q0 (Below.refl w.heap.size w)
 have H : (laws_loHas.l0 k l0 0 a1_0 a1_1) = some r := h
 clear h
 have H' := Aside0.mk H
 clear H
 go_enter Try.func36, Try.ntmps36
 go_wp2_with (first | ((with_reducible refine gate_dst (N := 3) rfl ?_); refine be 3 #[.int .i64 a1_0, .int .i64 a1_1] 32 ?_; intro gb101 hg w3 hbox hb; have BK101 := q0 (hbox); have GW101 := q0 ((bs HB.out hg : w.heap.size ≤ gb101)); have GE101 := q0 ((bs HB.out hg : w.heap.size ≤ gb101)); replace HB := q0 (below_step (qb HB.out) hb); clear hb hbox hg))
 repeat (go_quiet (first | ((with_reducible refine gate_dst (N := 3) rfl ?_); refine be 3 #[.int .i64 a1_0, .int .i64 a1_1] 32 ?_; intro gb101 hg w3 hbox hb; have BK101 := q0 (hbox); have GW101 := q0 ((bs HB.out hg : w.heap.size ≤ gb101)); have GE101 := q0 ((bs HB.out hg : w.heap.size ≤ gb101)); replace HB := q0 (below_step (qb HB.out) hb); clear hb hbox hg)); try go_wp2_with (first | ((with_reducible refine gate_dst (N := 3) rfl ?_); refine be 3 #[.int .i64 a1_0, .int .i64 a1_1] 32 ?_; intro gb101 hg w3 hbox hb; have BK101 := q0 (hbox); have GW101 := q0 ((bs HB.out hg : w.heap.size ≤ gb101)); have GE101 := q0 ((bs HB.out hg : w.heap.size ≤ gb101)); replace HB := q0 (below_step (qb HB.out) hb); clear hb hbox hg)))
 go_loopg [5] k (fun kq v5 w' => ∃ (x5_1 : Int), v5 = .int .i64 x5_1 ∧ Aside0 (laws_loHas.l0 kq l0 x5_1 a1_0 a1_1 = some r) ∧ Aside0 (kq ≤ k) ∧ Aside0 (w'.heap[gb101]? = some (.cells #[.int .i64 a1_0, .int .i64 a1_1] 32 (0, 0))) ∧ Aside0 (Below w.heap.size w w'))
 case atStart => exact ⟨(0), qs, H', ⟨Nat.le_refl _⟩, ⟨qk BK101.out⟩, ⟨qb HB.out⟩⟩
 clear H'
 try clear p2
 try clear c3
 obtain ⟨x5_1, rfl, HA, HK1, BK101, HB⟩ := hrel
 rcases gk with _ | k1
 · exact absurd HA.out (by simp [laws_loHas.l0])
 have H := HA.out
 clear HA
 simp only [laws_loHas.l0] at H
 by_cases c4 : x5_1 < (l0.length : Int)
 rotate_left
 · rw [if_neg c4] at H
   have c4b0 : decide (x5_1 < (l0.length : Int)) = false := decide_eq_false c4
   clear c4
   obtain rfl := Option.some.inj H
   go_wp2
   repeat (go_quiet (fail); try go_wp2)
   go_ret
   exact ⟨qe, qb HB.out⟩
 rw [if_pos c4] at H
 have c4b0 : decide (x5_1 < (l0.length : Int)) = true := decide_eq_true c4
 clear c4
 by_cases c5 : 0 ≤ x5_1
 rotate_left
 · rw [if_neg c5] at H
   exact absurd H (by simp)
 rw [if_pos c5] at H
 have c5b0 : decide (0 ≤ x5_1) = true := decide_eq_true c5
 clear c5
 by_cases c6 : (((rd_TTie l0 x5_1).f0) == a1_0 && (((rd_TTie l0 x5_1).f1) == a1_1)) = true
 · rw [if_pos c6] at H
   have c6b0 : (((rd_TTie l0 x5_1).f0) == a1_0 && (((rd_TTie l0 x5_1).f1) == a1_1)) = true := c6
   (try (have c6b1 : decide (((rd_TTie l0 x5_1).f0) = a1_0 && (((rd_TTie l0 x5_1).f1) == a1_1)) = true := by simpa using c6))
   (try (have c6b2 : (((rd_TTie l0 x5_1).f0) == a1_0 && (((rd_TTie l0 x5_1).f1) == a1_1)) = true := by simpa using c6))
   clear c6
   obtain rfl := Option.some.inj H
   have p100 : 0 ≤ (x5_1 : Int) := of_decide_eq_true qa
   have q100 : x5_1 < (l0.length : Int) := of_decide_eq_true qa
   obtain ⟨ad100, e100, hx100_0, hx100_1⟩ := at_TTie HR0.out x5_1 p100 q100
   cases e100
   replace hx100_0 := (HB.out.cell (World.block_lt_of_cell? w _ hx100_0)).trans hx100_0
   replace hx100_1 := (HB.out.cell (World.block_lt_of_cell? w _ hx100_1)).trans hx100_1
   replace p100 := eq_true p100
   replace q100 := eq_true q100
   have hcz7_0 : wr.cell? ⟨gb101, 0, none⟩ = some (.int .i64 a1_0) := (blk_cell BK101.out 0).trans rfl
   have hcz7_1 : wr.cell? ⟨gb101, 1, none⟩ = some (.int .i64 a1_1) := (blk_cell BK101.out 1).trans rfl
   have hfz7_0 := blk_frozen BK101.out 0
   have hfz7_1 := blk_frozen BK101.out 1
   go_wp2
   repeat (go_quiet (fail); try go_wp2)
   go_ret
   exact ⟨qe, qb HB.out⟩
 rw [if_neg c6] at H
 have c6b0 : (((rd_TTie l0 x5_1).f0) == a1_0 && (((rd_TTie l0 x5_1).f1) == a1_1)) = false := by simpa using c6
 (try (have c6b1 : decide (((rd_TTie l0 x5_1).f0) = a1_0 && (((rd_TTie l0 x5_1).f1) == a1_1)) = false := by simpa using c6))
 (try (have c6b2 : (((rd_TTie l0 x5_1).f0) == a1_0 && (((rd_TTie l0 x5_1).f1) == a1_1)) = false := by simpa using c6))
 (try (have c6b3 : ¬ (((rd_TTie l0 x5_1).f0) = a1_0 && (((rd_TTie l0 x5_1).f1) == a1_1)) := by simpa using c6))
 clear c6
 have H' := Aside0.mk H
 clear H
 have p100 : 0 ≤ (x5_1 : Int) := of_decide_eq_true qa
 have q100 : x5_1 < (l0.length : Int) := of_decide_eq_true qa
 obtain ⟨ad100, e100, hx100_0, hx100_1⟩ := at_TTie HR0.out x5_1 p100 q100
 cases e100
 replace hx100_0 := (HB.out.cell (World.block_lt_of_cell? w _ hx100_0)).trans hx100_0
 replace hx100_1 := (HB.out.cell (World.block_lt_of_cell? w _ hx100_1)).trans hx100_1
 replace p100 := eq_true p100
 replace q100 := eq_true q100
 have hcz8_0 : wr.cell? ⟨gb101, 0, none⟩ = some (.int .i64 a1_0) := (blk_cell BK101.out 0).trans rfl
 have hcz8_1 : wr.cell? ⟨gb101, 1, none⟩ = some (.int .i64 a1_1) := (blk_cell BK101.out 1).trans rfl
 have hfz8_0 := blk_frozen BK101.out 0
 have hfz8_1 := blk_frozen BK101.out 1
 go_wp2
 repeat (go_quiet (fail); try go_wp2)
 go_roundg k1
 case measure => have := HK1.out; omega
 case rel => exact ⟨(wrap64 (x5_1 + 1)), qs, H', ⟨by have := HK1.out; omega⟩, ⟨qk BK101.out⟩, ⟨qb HB.out⟩⟩

attribute [local go_sem high] eqATie
def laws_FnNetAdd.T11 : Bool × List (List Nat × List Nat) := (true, [([], []), ([0], [0]), ([], []), ([1, 2], [1, 2]), ([3], [3]), ([], []), ([], []), ([5, 6], [5, 6]), ([4, 7], [4, 7]), ([8, 7], [8]), ([9], [9]), ([10, 9], [9, 10]), ([9], [9]), ([12, 9], [9, 12]), ([9], [9]), ([13, 14, 9], [9, 13, 14]), ([15, 9], [9, 15]), ([11, 16, 9, 9], [9, 11, 16]), ([17, 9], [9, 17]), ([9, 18], [9, 18])])
def laws_FnNetAdd.B11 : List Nat := [0, 1, 0, 7, 15, 0, 0, 96, 255, 511, 1023, 2047, 1023, 5119, 1023, 29695, 62463, 131071, 262143, 524287]
theorem laws_FnNetAdd.tab11 : rtab .any (opsOf Try.f8 11) = laws_FnNetAdd.T11 := by kernel_rfl
theorem laws_FnNetAdd.bits11 : waitsOk laws_FnNetAdd.T11.2 laws_FnNetAdd.B11 = true := by kernel_rfl
set_option maxHeartbeats 8000000 in
set_option maxRecDepth 100000 in
theorem laws_FnNetAdd.calls (k : Nat) (A0 : Option Addr) (c0 : Nat) (l0 : List Int) (r : Bool) (w : World) (hr0 : Kd.C (Kd.int .u8) w A0 l0.length l0) (hc0 : l0.length ≤ c0) (h : laws_FnNetAdd.f k l0 = some r) :
    Calls Try.prog 8 #[.slice A0 l0.length c0] w fun e w' => e = .returned (.bool r) ∧ Below w.heap.size w w' := by
 have hu25 := Try.underlying25
 have hu32 := Try.underlying32
 have HR0 := Aside0.mk hr0
 have HC0 := Aside0.mk hc0
 clear hr0 hc0
 have HB := q0 (Below.refl w.heap.size w)
 have H : (if (l0.length : Int) > 1048576 then (some true) else ((spec_DrawNetAdd.f k l0).bind fun bt109 => ((spec_NetAdd.f k bt109.1 bt109.2.1 bt109.2.2.1 bt109.2.2.2).bind fun bt100 => ((impl_NetAdd.f k bt109.1 bt109.2.1 bt109.2.2.1 bt109.2.2.2).bind fun bt101 => (if (bt101.2.2 != bt100.2.2) = true then (laws_FnNetAdd.j0 k bt109.2.2.1 bt109.2.2.2 bt100.2.2 bt101.2.2 true bt109.1 bt109.2.1 bt100.1 bt100.2.1 bt101.1 bt101.2.1) else ((laws_loNet.f k bt101.1 bt101.2.1 bt100.1 bt100.2.1).bind fun t102 => (if t102 = true then (laws_FnNetAdd.j0 k bt109.2.2.1 bt109.2.2.2 bt100.2.2 bt101.2.2 (!bt101.2.2) bt109.1 bt109.2.1 bt100.1 bt100.2.1 bt101.1 bt101.2.1) else (laws_FnNetAdd.j0 k bt109.2.2.1 bt109.2.2.2 bt100.2.2 bt101.2.2 true bt109.1 bt109.2.1 bt100.1 bt100.2.1 bt101.1 bt101.2.1)))))))) = some r := h
 clear h
 by_cases c2 : (l0.length : Int) > 1048576
 · rw [if_pos c2] at H
   have c2b0 : decide (1048576 < (l0.length : Int)) = true := decide_eq_true c2
   have c2b1 : decide (1048576 < l0.length) = true := decide_eq_true (by omega)
   clear c2
   obtain rfl := Option.some.inj H
   go_enter Try.func8, Try.ntmps8
   go_wp2
   go_ret
   exact ⟨qe, qb HB.out⟩
 rw [if_neg c2] at H
 have c2b0 : decide (1048576 < (l0.length : Int)) = false := decide_eq_false c2
 have c2b1 : decide (1048576 < l0.length) = false := decide_eq_false (by omega)
 clear c2
 replace H := Option.bind_eq_some_iff.mp H
 obtain ⟨⟨t109, t110, t111, t112⟩, A30, H⟩ := H
 have A3 := Aside0.mk A30
 clear A30
 replace H := Option.bind_eq_some_iff.mp H
 obtain ⟨⟨t100, t113, t114⟩, A40, H⟩ := H
 have A4 := Aside0.mk A40
 clear A40
 replace H := Option.bind_eq_some_iff.mp H
 obtain ⟨⟨t101, t115, t116⟩, A50, H⟩ := H
 have A5 := Aside0.mk A50
 clear A50
 have HC6 := Aside0.mk H
 clear H
 go_enter Try.func8, Try.ntmps8
 go_upto_region 6 with (first | ((with_reducible refine gate_callee (f := 33) rfl ?_); refine gl 18 Try.func33 #[.slice A0 l0.length c0] ?_; (with_reducible refine (spec_DrawNetAdd.calls k _ _ l0 t109 t110 t111 t112 _ ?side1 ?side2 A3.out).mono ?_); (case side1 => repeat (first | exact HR0.out | (with_reducible refine Kd.C_alloc ?_ _) | (with_reducible refine Kd.C_drewN ?_ _) | (with_reducible refine Kd.C_drew ?_))); (case side2 => exact HC0.out); rintro e w7 ⟨v117, rfl, ho0, hb⟩; refine ⟨_, rfl, ?_⟩; have HO118 := q0 (Kd.R_lower ho0 (below_size (qb HB.out))); replace HB := q0 (below_step (qb HB.out) hb); (try clear hb); (try clear hb2); (try clear hk); (try clear hi); (try clear ho0)) | ((with_reducible refine gate_dst (N := 3) rfl ?_); (try (refine gate_guard (by rfl) ?_; dsimp only)); refine be 3 #[.int .i64 0, .slice none 0 0] 25 ?_; intro gb119 hg w8 hbox hb; replace HO118 := q0 (Kd.R_below (qr HO118.out) hb); have BK119 := q0 (hbox); have GW119 := q0 ((bs HB.out hg : w.heap.size ≤ gb119)); have GE119 := q0 ((bs HB.out hg : w.heap.size ≤ gb119)); replace HB := q0 (below_step (qb HB.out) hb); clear hb hbox hg; have hcz9_0 : w8.cell? ⟨gb119, 0, none⟩ = some (.int .i64 0) := (blk_cell BK119.out 0).trans rfl; have hcz9_1 : w8.cell? ⟨gb119, 1, none⟩ = some (.slice none 0 0) := (blk_cell BK119.out 1).trans rfl; have hfz9_0 := blk_frozen BK119.out 0; have hfz9_1 := blk_frozen BK119.out 1; obtain ⟨Ao10, co10, eo10⟩ := Kd.R_slice HO118.out; subst eo10) | ((with_reducible refine gate_callee (f := 27) rfl ?_); refine gl 26 Try.func27 #[.agg #[.int .i64 t109, .slice Ao10 t110.length co10], .int .i64 t111, .int .i64 t112] ?_; (with_reducible refine (spec_NetAdd.calls k t109 _ _ t110 t111 t112 t100 t113 t114 _ ?side1 ?side2 A4.out).mono ?_); (case side1 => refine (Kd.R_reads' (e := 32) (base := w.heap.size) (ok := fun k_ => True) (n := t110.length) (c := co10) ?_).2.2; exact (by (with_reducible repeat (first | apply Kd.R_alloc | apply Kd.R_drewN | apply Kd.R_drew)); exact (rf2 HO118.out BK119.out (fun _ h_ => h_.1)))); (case side2 => exact (Kd.R_reads' HO118.out).2.1); rintro e w11 ⟨v120, rfl, ho0, hb⟩; refine ⟨_, rfl, ?_⟩; have HO121 := q0 (Kd.R_lower (Kd.R_new' ho0 (Kd.R_lt (by (with_reducible repeat (first | apply Kd.R_alloc | apply Kd.R_drewN | apply Kd.R_drew)); exact (rf2 HO118.out BK119.out (fun _ h_ => h_.1))))) (below_size (qb HB.out))); replace HO118 := q0 (Kd.R_elder' (by (with_reducible repeat (first | apply Kd.R_alloc | apply Kd.R_drewN | apply Kd.R_drew)); exact (rf2 HO118.out BK119.out (fun _ h_ => h_.1))) (Kd.R_base ho0) hb); replace BK119 := q0 (blk_below (g := gb119) (o := .cells #[.int .i64 t109, .slice Ao10 t110.length co10] 25 (0, 0)) (by (with_reducible repeat (first | refine blk_drewN ?_ _ | refine blk_drew ?_ | refine blk_alloc ?_ _)); refine blk_put (cs := #[.int .i64 t109, .slice none 0 0]) ?_ 1 _ rfl; (with_reducible repeat (first | refine blk_drewN ?_ _ | refine blk_drew ?_ | refine blk_alloc ?_ _)); refine blk_put (cs := #[.int .i64 0, .slice none 0 0]) ?_ 0 _ rfl; (with_reducible repeat (first | refine blk_drewN ?_ _ | refine blk_drew ?_ | refine blk_alloc ?_ _)); exact BK119.out) hb); replace HB := q0 (below_step (qb HB.out) hb); (try clear hb); (try clear hb2); (try clear hk); (try clear hi); (try clear ho0)) | ((with_reducible refine gate_dst (N := 6) rfl ?_); (try (refine gate_guard (by rfl) ?_; dsimp only)); refine be 6 #[.int .i64 0, .slice none 0 0] 25 ?_; intro gb122 hg w12 hbox hb; replace HO118 := q0 (Kd.R_below (qr HO118.out) hb); replace HO121 := q0 (Kd.R_below (qr HO121.out) hb); have BK122 := q0 (hbox); have GW122 := q0 ((bs HB.out hg : w.heap.size ≤ gb122)); have GE122 := q0 ((bs HB.out hg : w.heap.size ≤ gb122)); replace HB := q0 (below_step (qb HB.out) hb); have NB119_122 := q0 ((bl BK119.out hg : gb119 ≠ gb122)); have NB122_119 := q0 ((bg BK119.out hg : gb122 ≠ gb119)); replace BK119 := q0 (kb BK119.out hb); clear hb hbox hg; have hnb13 := NB122_119.out; have hnc13 := NB119_122.out; have hcz14_0 : w12.cell? ⟨gb122, 0, none⟩ = some (.int .i64 0) := (blk_cell BK122.out 0).trans rfl; have hcz14_1 : w12.cell? ⟨gb122, 1, none⟩ = some (.slice none 0 0) := (blk_cell BK122.out 1).trans rfl; have hfz14_0 := blk_frozen BK122.out 0; have hfz14_1 := blk_frozen BK122.out 1; obtain ⟨Ao15, co15, eo15⟩ := Kd.R_slice HO121.out; subst eo15; have hcz16_0 : w12.cell? ⟨gb119, 0, none⟩ = some (.int .i64 t109) := (blk_cell BK119.out 0).trans rfl; have hcz16_1 : w12.cell? ⟨gb119, 1, none⟩ = some (.slice Ao10 t110.length co10) := (blk_cell BK119.out 1).trans rfl; have hfz16_0 := blk_frozen BK119.out 0; have hfz16_1 := blk_frozen BK119.out 1) | ((with_reducible refine gate_callee (f := 29) rfl ?_); refine gl 33 Try.func29 #[.agg #[.int .i64 t109, .slice Ao10 t110.length co10], .int .i64 t111, .int .i64 t112] ?_; (with_reducible refine (impl_NetAdd.calls k t109 _ _ t110 t111 t112 t101 t115 t116 _ ?side1 ?side2 A5.out).mono ?_); (case side1 => refine (Kd.R_reads' (e := 32) (base := w.heap.size) (ok := fun k_ => (True ∧ some k_ ≠ (.slice Ao15 t113.length co15 : Value).ownBlock)) (n := t110.length) (c := co10) ?_).2.2; exact (by (with_reducible repeat (first | apply Kd.R_alloc | apply Kd.R_drewN | apply Kd.R_drew)); exact (rf2 HO118.out BK122.out (fun _ h_ => h_.1)))); (case side2 => exact (Kd.R_reads' HO118.out).2.1); rintro e w17 ⟨v123, rfl, ho0, hb⟩; refine ⟨_, rfl, ?_⟩; have HO124 := q0 (Kd.R_lower (Kd.R_new' (Kd.R_new' ho0 (Kd.R_lt (by (with_reducible repeat (first | apply Kd.R_alloc | apply Kd.R_drewN | apply Kd.R_drew)); exact (rf2 HO118.out BK122.out (fun _ h_ => h_.1))))) (Kd.R_lt (by (with_reducible repeat (first | apply Kd.R_alloc | apply Kd.R_drewN | apply Kd.R_drew)); exact (rf2 HO121.out BK122.out (fun _ h_ => h_.1))))) (below_size (qb HB.out))); replace HO118 := q0 (Kd.R_elder' (by (with_reducible repeat (first | apply Kd.R_alloc | apply Kd.R_drewN | apply Kd.R_drew)); exact (rf2 HO118.out BK122.out (fun _ h_ => h_.1))) (Kd.R_base ho0) hb); replace HO121 := q0 (Kd.R_elder' (by (with_reducible repeat (first | apply Kd.R_alloc | apply Kd.R_drewN | apply Kd.R_drew)); exact (rf2 HO121.out BK122.out (fun _ h_ => h_.1))) (Kd.R_base ho0) hb); replace BK119 := q0 (kf BK119.out hb); replace BK122 := q0 (blk_below (g := gb122) (o := .cells #[.int .i64 t100, .slice Ao15 t113.length co15] 25 (0, 0)) (by (with_reducible repeat (first | refine blk_drewN ?_ _ | refine blk_drew ?_ | refine blk_alloc ?_ _)); refine blk_put (cs := #[.int .i64 t100, .slice none 0 0]) ?_ 1 _ rfl; (with_reducible repeat (first | refine blk_drewN ?_ _ | refine blk_drew ?_ | refine blk_alloc ?_ _)); refine blk_put (cs := #[.int .i64 0, .slice none 0 0]) ?_ 0 _ rfl; (with_reducible repeat (first | refine blk_drewN ?_ _ | refine blk_drew ?_ | refine blk_alloc ?_ _)); exact BK122.out) hb); replace HB := q0 (below_step (qb HB.out) hb); (try clear hb); (try clear hb2); (try clear hk); (try clear hi); (try clear ho0)) | ((with_reducible refine gate_dst (N := 8) rfl ?_); (try (refine gate_guard (by rfl) ?_; dsimp only)); refine be 8 #[.int .i64 0, .slice none 0 0] 25 ?_; intro gb125 hg w18 hbox hb; replace HO118 := q0 (Kd.R_below (qr HO118.out) hb); replace HO121 := q0 (Kd.R_below (qr HO121.out) hb); replace HO124 := q0 (Kd.R_below (qr HO124.out) hb); have BK125 := q0 (hbox); have GW125 := q0 ((bs HB.out hg : w.heap.size ≤ gb125)); have GE125 := q0 ((bs HB.out hg : w.heap.size ≤ gb125)); replace HB := q0 (below_step (qb HB.out) hb); have NB119_125 := q0 ((bl BK119.out hg : gb119 ≠ gb125)); have NB125_119 := q0 ((bg BK119.out hg : gb125 ≠ gb119)); replace BK119 := q0 (kb BK119.out hb); have NB122_125 := q0 ((bl BK122.out hg : gb122 ≠ gb125)); have NB125_122 := q0 ((bg BK122.out hg : gb125 ≠ gb122)); replace BK122 := q0 (kb BK122.out hb); clear hb hbox hg; have hnb19 := NB125_119.out; have hnc19 := NB119_125.out; have hnb20 := NB125_122.out; have hnc20 := NB122_125.out; have hcz21_0 : w18.cell? ⟨gb125, 0, none⟩ = some (.int .i64 0) := (blk_cell BK125.out 0).trans rfl; have hcz21_1 : w18.cell? ⟨gb125, 1, none⟩ = some (.slice none 0 0) := (blk_cell BK125.out 1).trans rfl; have hfz21_0 := blk_frozen BK125.out 0; have hfz21_1 := blk_frozen BK125.out 1; obtain ⟨Ao22, co22, eo22⟩ := Kd.R_slice HO124.out; subst eo22))
 (try simp only [Act.put, List.setIfInBounds_toArray, List.set_cons_zero, List.set_cons_succ])
 go_cut [48] (fun v48 wc => ∃ (kq : Nat) (x48_5 : Bool), v48 = .bool x48_5 ∧ Aside0 (laws_FnNetAdd.j0 kq t111 t112 t114 t116 x48_5 t109 t110 t100 t113 t101 t115 = some r) ∧ Aside0 (kq ≤ k) ∧ Aside0 (Kd.R kTie 32 wc w.heap.size (fun k_ => some k_ ≠ ((.slice Ao15 t113.length co15) : Value).ownBlock ∧ some k_ ≠ ((.slice Ao22 t115.length co22) : Value).ownBlock) (.slice Ao10 t110.length co10) t110) ∧ Aside0 (Kd.R kTie 32 wc w.heap.size (fun k_ => some k_ ≠ ((.slice Ao10 t110.length co10) : Value).ownBlock ∧ some k_ ≠ ((.slice Ao22 t115.length co22) : Value).ownBlock) (.slice Ao15 t113.length co15) t113) ∧ Aside0 (Kd.R kTie 32 wc w.heap.size (fun k_ => some k_ ≠ ((.slice Ao10 t110.length co10) : Value).ownBlock ∧ some k_ ≠ ((.slice Ao15 t113.length co15) : Value).ownBlock) (.slice Ao22 t115.length co22) t115) ∧ Aside0 (wc.heap[gb119]? = some (.cells #[.int .i64 t109, (.slice Ao10 t110.length co10)] 25 (0, 0))) ∧ Aside0 (wc.heap[gb122]? = some (.cells #[.int .i64 t100, (.slice Ao15 t113.length co15)] 25 (0, 0))) ∧ Aside0 (wc.heap[gb125]? = some (.cells #[.int .i64 t101, (.slice Ao22 t115.length co22)] 25 (0, 0))) ∧ Aside0 (Below w.heap.size w wc))
 case first =>
   have H := HC6.out
   clear HC6
   by_cases c23 : (t116 != t114) = true
   · rw [if_pos c23] at H
     have c23b0 : (t116 != t114) = true := c23
     (try (have c23b1 : decide (t116 = t114) = false := by simpa using c23))
     (try (have c23b2 : (t116 == t114) = false := by simpa using c23))
     (try (have c23b3 : ¬ (t116 = t114) := by simpa using c23))
     clear c23
     (first | rw [c23b0] | (simp only [i64_w, i32_w]; rw [c23b0]) | skip)
     have H' := Aside0.mk H
     clear H
     go_wp2
     go_meet
     case rel => exact ⟨_, (true), qs, H', ⟨by first | omega | exact Nat.le_refl _⟩, ⟨by (with_reducible repeat (first | apply Kd.R_alloc | apply Kd.R_drewN | apply Kd.R_drew)); exact rf2 HO118.out BK125.out (fun _ hk => ⟨hk.1.1.2, hk.1.2⟩)⟩, ⟨by (with_reducible repeat (first | apply Kd.R_alloc | apply Kd.R_drewN | apply Kd.R_drew)); exact rf2 HO121.out BK125.out (fun _ hk => ⟨hk.1.1.2, hk.1.2⟩)⟩, ⟨by (with_reducible repeat (first | apply Kd.R_alloc | apply Kd.R_drewN | apply Kd.R_drew)); exact rf2 HO124.out BK125.out (fun _ hk => ⟨hk.1.1.2, hk.1.2⟩)⟩, ⟨qf BK119.out⟩, ⟨qf BK122.out⟩, ⟨by (with_reducible repeat (first | refine blk_drewN ?_ _ | refine blk_drew ?_ | refine blk_alloc ?_ _)); refine blk_put (cs := #[.int .i64 t101, .slice none 0 0]) ?_ 1 _ rfl; (with_reducible repeat (first | refine blk_drewN ?_ _ | refine blk_drew ?_ | refine blk_alloc ?_ _)); refine blk_put (cs := #[.int .i64 0, .slice none 0 0]) ?_ 0 _ rfl; (with_reducible repeat (first | refine blk_drewN ?_ _ | refine blk_drew ?_ | refine blk_alloc ?_ _)); exact BK125.out⟩, ⟨qb HB.out⟩⟩
   rw [if_neg c23] at H
   have c23b0 : (t116 != t114) = false := by simpa using c23
   (try (have c23b1 : decide (t116 = t114) = true := by simpa using c23))
   (try (have c23b2 : (t116 == t114) = true := by simpa using c23))
   clear c23
   (first | rw [c23b0] | (simp only [i64_w, i32_w]; rw [c23b0]) | skip)
   replace H := Option.bind_eq_some_iff.mp H
   obtain ⟨t102, A126, H⟩ := H
   have A24 := Aside0.mk A126
   clear A126
   by_cases c25 : t102 = true
   · subst c25
     rw [if_pos rfl] at H
     have H' := Aside0.mk H
     clear H
     have hnb26 := NB125_119.out
     have hnc26 := NB119_125.out
     have hnb27 := NB125_122.out
     have hnc27 := NB122_125.out
     have hcz28_0 : w18.cell? ⟨gb125, 0, none⟩ = some (.int .i64 0) := (blk_cell BK125.out 0).trans rfl
     have hcz28_1 : w18.cell? ⟨gb125, 1, none⟩ = some (.slice none 0 0) := (blk_cell BK125.out 1).trans rfl
     have hfz28_0 := blk_frozen BK125.out 0
     have hfz28_1 := blk_frozen BK125.out 1
     have hnb29 := NB122_119.out
     have hnc29 := NB119_122.out
     have hcz30_0 : w18.cell? ⟨gb122, 0, none⟩ = some (.int .i64 t100) := (blk_cell BK122.out 0).trans rfl
     have hcz30_1 : w18.cell? ⟨gb122, 1, none⟩ = some (.slice Ao15 t113.length co15) := (blk_cell BK122.out 1).trans rfl
     have hfz30_0 := blk_frozen BK122.out 0
     have hfz30_1 := blk_frozen BK122.out 1
     go_wp2_with (first | (go_at_call 34; (with_reducible refine (laws_loNet.calls k t101 _ _ t115 t100 _ _ t113 true _ ?side1 ?side2 ?side3 ?side4 A24.out).mono ?_); (case side1 => refine (Kd.R_reads' (e := 32) (base := w.heap.size) (ok := fun k_ => ((True ∧ some k_ ≠ (.slice Ao10 t110.length co10 : Value).ownBlock) ∧ some k_ ≠ (.slice Ao15 t113.length co15 : Value).ownBlock)) (n := t115.length) (c := co22) ?_).2.2; exact (by (with_reducible repeat (first | apply Kd.R_alloc | apply Kd.R_drewN | apply Kd.R_drew)); exact (rf2 HO124.out BK125.out (fun _ h_ => h_.1)))); (case side2 => exact (Kd.R_reads' HO124.out).2.1); (case side3 => refine (Kd.R_reads' (e := 32) (base := w.heap.size) (ok := fun k_ => ((True ∧ some k_ ≠ (.slice Ao10 t110.length co10 : Value).ownBlock) ∧ some k_ ≠ (.slice Ao22 t115.length co22 : Value).ownBlock)) (n := t113.length) (c := co15) ?_).2.2; exact (by (with_reducible repeat (first | apply Kd.R_alloc | apply Kd.R_drewN | apply Kd.R_drew)); exact (rf2 HO121.out BK125.out (fun _ h_ => h_.1)))); (case side4 => exact (Kd.R_reads' HO121.out).2.1); rintro e w31 ⟨rfl, hb⟩; replace HO118 := q0 (Kd.R_below (by (with_reducible repeat (first | apply Kd.R_alloc | apply Kd.R_drewN | apply Kd.R_drew)); exact (rf2 HO118.out BK125.out (fun _ h_ => h_.1))) hb); replace HO121 := q0 (Kd.R_below (by (with_reducible repeat (first | apply Kd.R_alloc | apply Kd.R_drewN | apply Kd.R_drew)); exact (rf2 HO121.out BK125.out (fun _ h_ => h_.1))) hb); replace HO124 := q0 (Kd.R_below (by (with_reducible repeat (first | apply Kd.R_alloc | apply Kd.R_drewN | apply Kd.R_drew)); exact (rf2 HO124.out BK125.out (fun _ h_ => h_.1))) hb); replace BK119 := q0 (kf BK119.out hb); replace BK122 := q0 (kf BK122.out hb); replace BK125 := q0 (blk_below (g := gb125) (o := .cells #[.int .i64 t101, .slice Ao22 t115.length co22] 25 (0, 0)) (by (with_reducible repeat (first | refine blk_drewN ?_ _ | refine blk_drew ?_ | refine blk_alloc ?_ _)); refine blk_put (cs := #[.int .i64 t101, .slice none 0 0]) ?_ 1 _ rfl; (with_reducible repeat (first | refine blk_drewN ?_ _ | refine blk_drew ?_ | refine blk_alloc ?_ _)); refine blk_put (cs := #[.int .i64 0, .slice none 0 0]) ?_ 0 _ rfl; (with_reducible repeat (first | refine blk_drewN ?_ _ | refine blk_drew ?_ | refine blk_alloc ?_ _)); exact BK125.out) hb); replace HB := q0 (below_step (qb HB.out) hb); (try clear hb); (try clear hb2); (try clear hk); (try clear hi)))
     go_meet
     case rel => exact ⟨_, (!t116), qs, H', ⟨by first | omega | exact Nat.le_refl _⟩, ⟨by (with_reducible repeat (first | apply Kd.R_alloc | apply Kd.R_drewN | apply Kd.R_drew)); exact Kd.R_mono HO118.out (fun _ hk => ⟨hk.1.2, hk.2⟩)⟩, ⟨by (with_reducible repeat (first | apply Kd.R_alloc | apply Kd.R_drewN | apply Kd.R_drew)); exact Kd.R_mono HO121.out (fun _ hk => ⟨hk.1.2, hk.2⟩)⟩, ⟨by (with_reducible repeat (first | apply Kd.R_alloc | apply Kd.R_drewN | apply Kd.R_drew)); exact Kd.R_mono HO124.out (fun _ hk => ⟨hk.1.2, hk.2⟩)⟩, ⟨qk BK119.out⟩, ⟨qk BK122.out⟩, ⟨qk BK125.out⟩, ⟨qb HB.out⟩⟩
   replace c25 := Bool.eq_false_iff.mpr c25
   subst c25
   rw [if_neg nf] at H
   have H' := Aside0.mk H
   clear H
   have hnb32 := NB125_119.out
   have hnc32 := NB119_125.out
   have hnb33 := NB125_122.out
   have hnc33 := NB122_125.out
   have hcz34_0 : w18.cell? ⟨gb125, 0, none⟩ = some (.int .i64 0) := (blk_cell BK125.out 0).trans rfl
   have hcz34_1 : w18.cell? ⟨gb125, 1, none⟩ = some (.slice none 0 0) := (blk_cell BK125.out 1).trans rfl
   have hfz34_0 := blk_frozen BK125.out 0
   have hfz34_1 := blk_frozen BK125.out 1
   have hnb35 := NB122_119.out
   have hnc35 := NB119_122.out
   have hcz36_0 : w18.cell? ⟨gb122, 0, none⟩ = some (.int .i64 t100) := (blk_cell BK122.out 0).trans rfl
   have hcz36_1 : w18.cell? ⟨gb122, 1, none⟩ = some (.slice Ao15 t113.length co15) := (blk_cell BK122.out 1).trans rfl
   have hfz36_0 := blk_frozen BK122.out 0
   have hfz36_1 := blk_frozen BK122.out 1
   go_wp2_with (first | (go_at_call 34; (with_reducible refine (laws_loNet.calls k t101 _ _ t115 t100 _ _ t113 false _ ?side1 ?side2 ?side3 ?side4 A24.out).mono ?_); (case side1 => refine (Kd.R_reads' (e := 32) (base := w.heap.size) (ok := fun k_ => ((True ∧ some k_ ≠ (.slice Ao10 t110.length co10 : Value).ownBlock) ∧ some k_ ≠ (.slice Ao15 t113.length co15 : Value).ownBlock)) (n := t115.length) (c := co22) ?_).2.2; exact (by (with_reducible repeat (first | apply Kd.R_alloc | apply Kd.R_drewN | apply Kd.R_drew)); exact (rf2 HO124.out BK125.out (fun _ h_ => h_.1)))); (case side2 => exact (Kd.R_reads' HO124.out).2.1); (case side3 => refine (Kd.R_reads' (e := 32) (base := w.heap.size) (ok := fun k_ => ((True ∧ some k_ ≠ (.slice Ao10 t110.length co10 : Value).ownBlock) ∧ some k_ ≠ (.slice Ao22 t115.length co22 : Value).ownBlock)) (n := t113.length) (c := co15) ?_).2.2; exact (by (with_reducible repeat (first | apply Kd.R_alloc | apply Kd.R_drewN | apply Kd.R_drew)); exact (rf2 HO121.out BK125.out (fun _ h_ => h_.1)))); (case side4 => exact (Kd.R_reads' HO121.out).2.1); rintro e w37 ⟨rfl, hb⟩; replace HO118 := q0 (Kd.R_below (by (with_reducible repeat (first | apply Kd.R_alloc | apply Kd.R_drewN | apply Kd.R_drew)); exact (rf2 HO118.out BK125.out (fun _ h_ => h_.1))) hb); replace HO121 := q0 (Kd.R_below (by (with_reducible repeat (first | apply Kd.R_alloc | apply Kd.R_drewN | apply Kd.R_drew)); exact (rf2 HO121.out BK125.out (fun _ h_ => h_.1))) hb); replace HO124 := q0 (Kd.R_below (by (with_reducible repeat (first | apply Kd.R_alloc | apply Kd.R_drewN | apply Kd.R_drew)); exact (rf2 HO124.out BK125.out (fun _ h_ => h_.1))) hb); replace BK119 := q0 (kf BK119.out hb); replace BK122 := q0 (kf BK122.out hb); replace BK125 := q0 (blk_below (g := gb125) (o := .cells #[.int .i64 t101, .slice Ao22 t115.length co22] 25 (0, 0)) (by (with_reducible repeat (first | refine blk_drewN ?_ _ | refine blk_drew ?_ | refine blk_alloc ?_ _)); refine blk_put (cs := #[.int .i64 t101, .slice none 0 0]) ?_ 1 _ rfl; (with_reducible repeat (first | refine blk_drewN ?_ _ | refine blk_drew ?_ | refine blk_alloc ?_ _)); refine blk_put (cs := #[.int .i64 0, .slice none 0 0]) ?_ 0 _ rfl; (with_reducible repeat (first | refine blk_drewN ?_ _ | refine blk_drew ?_ | refine blk_alloc ?_ _)); exact BK125.out) hb); replace HB := q0 (below_step (qb HB.out) hb); (try clear hb); (try clear hb2); (try clear hk); (try clear hi)))
   go_meet
   case rel => exact ⟨_, (true), qs, H', ⟨by first | omega | exact Nat.le_refl _⟩, ⟨by (with_reducible repeat (first | apply Kd.R_alloc | apply Kd.R_drewN | apply Kd.R_drew)); exact Kd.R_mono HO118.out (fun _ hk => ⟨hk.1.2, hk.2⟩)⟩, ⟨by (with_reducible repeat (first | apply Kd.R_alloc | apply Kd.R_drewN | apply Kd.R_drew)); exact Kd.R_mono HO121.out (fun _ hk => ⟨hk.1.2, hk.2⟩)⟩, ⟨by (with_reducible repeat (first | apply Kd.R_alloc | apply Kd.R_drewN | apply Kd.R_drew)); exact Kd.R_mono HO124.out (fun _ hk => ⟨hk.1.2, hk.2⟩)⟩, ⟨qk BK119.out⟩, ⟨qk BK122.out⟩, ⟨qk BK125.out⟩, ⟨qb HB.out⟩⟩
 clear HC6
 try clear c1
 try clear c2
 try clear c2b0
 try clear c2b1
 try clear p2
 try clear c3
 try clear c8
 try clear c13
 try clear c19
 try clear c20
 try clear c23
 try clear c23b0
 try clear c23b1
 try clear c23b2
 try clear c25
 try clear c26
 try clear c27
 try clear c29
 try clear c32
 try clear c33
 try clear c35
 try clear hcz14_0
 try clear hcz14_1
 try clear hcz16_0
 try clear hcz16_1
 try clear hcz21_0
 try clear hcz21_1
 try clear hcz28_0
 try clear hcz28_1
 try clear hcz30_0
 try clear hcz30_1
 try clear hcz34_0
 try clear hcz34_1
 try clear hcz36_0
 try clear hcz36_1
 try clear hcz9_0
 try clear hcz9_1
 try clear hfz14_0
 try clear hfz14_1
 try clear hfz16_0
 try clear hfz16_1
 try clear hfz21_0
 try clear hfz21_1
 try clear hfz28_0
 try clear hfz28_1
 try clear hfz30_0
 try clear hfz30_1
 try clear hfz34_0
 try clear hfz34_1
 try clear hfz36_0
 try clear hfz36_1
 try clear hfz9_0
 try clear hfz9_1
 obtain ⟨kq, x48_5, rfl, HA, HJ5, HO_100001, HO_101001, HO_102001, BK119, BK122, BK125, HB⟩ := hcut
 rcases kq with _ | kj5
 · exact absurd HA.out (by simp [laws_FnNetAdd.j0])
 have H := HA.out
 clear HA
 simp only [laws_FnNetAdd.j0] at H
 by_cases c38 : x48_5 = true
 · subst c38
   rw [if_pos rfl] at H
   by_cases c39 : (t116 == t114) = true
   rotate_left
   · rw [if_neg c39] at H
     have c39b0 : (t116 == t114) = false := by simpa using c39
     (try (have c39b1 : decide (t116 = t114) = false := by simpa using c39))
     (try (have c39b2 : (t116 == t114) = false := by simpa using c39))
     (try (have c39b3 : ¬ (t116 = t114) := by simpa using c39))
     clear c39
     obtain rfl := Option.some.inj H
     go_wp2
     go_ret
     exact ⟨qe, qb HB.out⟩
   rw [if_pos c39] at H
   have c39b0 : (t116 == t114) = true := c39
   (try (have c39b1 : decide (t116 = t114) = true := by simpa using c39))
   (try (have c39b2 : (t116 == t114) = true := by simpa using c39))
   clear c39
   replace H := Option.bind_eq_some_iff.mp H
   obtain ⟨t103, A127, H⟩ := H
   have A40 := Aside0.mk A127
   clear A127
   obtain rfl := Option.some.inj H
   have hnb41 := NB125_119.out
   have hnc41 := NB119_125.out
   have hnb42 := NB125_122.out
   have hnc42 := NB122_125.out
   have hcz43_0 : wc.cell? ⟨gb125, 0, none⟩ = some (.int .i64 t101) := (blk_cell BK125.out 0).trans rfl
   have hcz43_1 : wc.cell? ⟨gb125, 1, none⟩ = some (.slice Ao22 t115.length co22) := (blk_cell BK125.out 1).trans rfl
   have hfz43_0 := blk_frozen BK125.out 0
   have hfz43_1 := blk_frozen BK125.out 1
   have hnb44 := NB122_119.out
   have hnc44 := NB119_122.out
   have hcz45_0 : wc.cell? ⟨gb122, 0, none⟩ = some (.int .i64 t100) := (blk_cell BK122.out 0).trans rfl
   have hcz45_1 : wc.cell? ⟨gb122, 1, none⟩ = some (.slice Ao15 t113.length co15) := (blk_cell BK122.out 1).trans rfl
   have hfz45_0 := blk_frozen BK122.out 0
   have hfz45_1 := blk_frozen BK122.out 1
   go_wp2_with (first | (go_at_call 34; (with_reducible refine (laws_loNet.calls kj5 t101 _ _ t115 t100 _ _ t113 t103 _ ?side1 ?side2 ?side3 ?side4 A40.out).mono ?_); (case side1 => exact qc (Kd.R_reads' HO_102001.out).2.2); (case side2 => exact (Kd.R_reads' HO_102001.out).2.1); (case side3 => exact qc (Kd.R_reads' HO_101001.out).2.2); (case side4 => exact (Kd.R_reads' HO_101001.out).2.1); rintro e w46 ⟨rfl, hb⟩; replace HO_100001 := q0 (Kd.R_below (qr HO_100001.out) hb); replace HO_101001 := q0 (Kd.R_below (qr HO_101001.out) hb); replace HO_102001 := q0 (Kd.R_below (qr HO_102001.out) hb); replace BK119 := q0 (kb BK119.out hb); replace BK122 := q0 (kb BK122.out hb); replace BK125 := q0 (kb BK125.out hb); replace HB := q0 (below_step (qb HB.out) hb); (try clear hb); (try clear hb2); (try clear hk); (try clear hi)))
   go_ret
   exact ⟨qe, qb HB.out⟩
 replace c38 := Bool.eq_false_iff.mpr c38
 subst c38
 rw [if_neg nf] at H
 have H' := Aside0.mk H
 clear H
 go_wp2
 go_loopg [10] kj5 (fun kq v10 w' => ∃ (x10_2 : Int), v10 = .int .i64 x10_2 ∧ Aside0 (laws_FnNetAdd.l0 kq t111 t112 x10_2 t109 t110 t101 t115 = some r) ∧ Aside0 (kq ≤ kj5) ∧ Aside0 (Kd.R kTie 32 w' w.heap.size (fun k_ => some k_ ≠ ((.slice Ao15 t113.length co15) : Value).ownBlock ∧ some k_ ≠ ((.slice Ao22 t115.length co22) : Value).ownBlock) (.slice Ao10 t110.length co10) t110) ∧ Aside0 (Kd.R kTie 32 w' w.heap.size (fun k_ => some k_ ≠ ((.slice Ao10 t110.length co10) : Value).ownBlock ∧ some k_ ≠ ((.slice Ao22 t115.length co22) : Value).ownBlock) (.slice Ao15 t113.length co15) t113) ∧ Aside0 (Kd.R kTie 32 w' w.heap.size (fun k_ => some k_ ≠ ((.slice Ao10 t110.length co10) : Value).ownBlock ∧ some k_ ≠ ((.slice Ao15 t113.length co15) : Value).ownBlock) (.slice Ao22 t115.length co22) t115) ∧ Aside0 (w'.heap[gb119]? = some (.cells #[.int .i64 t109, (.slice Ao10 t110.length co10)] 25 (0, 0))) ∧ Aside0 (w'.heap[gb122]? = some (.cells #[.int .i64 t100, (.slice Ao15 t113.length co15)] 25 (0, 0))) ∧ Aside0 (w'.heap[gb125]? = some (.cells #[.int .i64 t101, (.slice Ao22 t115.length co22)] 25 (0, 0))) ∧ Aside0 (Below w.heap.size w w'))
 case atStart => exact ⟨(0), qs, H', ⟨Nat.le_refl _⟩, ⟨qr HO_100001.out⟩, ⟨qr HO_101001.out⟩, ⟨qr HO_102001.out⟩, ⟨qk BK119.out⟩, ⟨qk BK122.out⟩, ⟨qk BK125.out⟩, ⟨qb HB.out⟩⟩
 clear H'
 try clear c1
 try clear c2
 try clear c2b0
 try clear c2b1
 try clear p2
 try clear c3
 try clear c4
 try clear c8
 try clear c13
 try clear c19
 try clear c20
 try clear c23
 try clear c23b0
 try clear c23b1
 try clear c23b2
 try clear c25
 try clear c26
 try clear c27
 try clear c29
 try clear c32
 try clear c33
 try clear c35
 try clear c38
 try clear c39
 try clear c39b0
 try clear c39b1
 try clear c39b2
 try clear c41
 try clear c42
 try clear c44
 try clear hcz14_0
 try clear hcz14_1
 try clear hcz16_0
 try clear hcz16_1
 try clear hcz21_0
 try clear hcz21_1
 try clear hcz28_0
 try clear hcz28_1
 try clear hcz30_0
 try clear hcz30_1
 try clear hcz34_0
 try clear hcz34_1
 try clear hcz36_0
 try clear hcz36_1
 try clear hcz43_0
 try clear hcz43_1
 try clear hcz45_0
 try clear hcz45_1
 try clear hcz9_0
 try clear hcz9_1
 try clear hfz14_0
 try clear hfz14_1
 try clear hfz16_0
 try clear hfz16_1
 try clear hfz21_0
 try clear hfz21_1
 try clear hfz28_0
 try clear hfz28_1
 try clear hfz30_0
 try clear hfz30_1
 try clear hfz34_0
 try clear hfz34_1
 try clear hfz36_0
 try clear hfz36_1
 try clear hfz43_0
 try clear hfz43_1
 try clear hfz45_0
 try clear hfz45_1
 try clear hfz9_0
 try clear hfz9_1
 try clear p2
 obtain ⟨x10_2, rfl, HA, HK2, HO_100001, HO_101001, HO_102001, BK119, BK122, BK125, HB⟩ := hrel
 rcases gk with _ | k2
 · exact absurd HA.out (by simp [laws_FnNetAdd.l0])
 have H := HA.out
 clear HA
 simp only [laws_FnNetAdd.l0] at H
 by_cases c47 : x10_2 < (t115.length : Int)
 rotate_left
 · rw [if_neg c47] at H
   have c47b0 : decide (x10_2 < (t115.length : Int)) = false := decide_eq_false c47
   clear c47
   replace H := Option.bind_eq_some_iff.mp H
   obtain ⟨⟨t106, t133, t134⟩, A135, H⟩ := H
   have A70 := Aside0.mk A135
   clear A135
   replace H := Option.bind_eq_some_iff.mp H
   obtain ⟨t107, A136, H⟩ := H
   have A71 := Aside0.mk A136
   clear A136
   by_cases c72 : t107 = true
   rotate_left
   · replace c72 := Bool.eq_false_iff.mpr c72
     subst c72
     rw [if_neg nf] at H
     obtain rfl := Option.some.inj H
     have hnb164 := NB125_119.out
     have hnc164 := NB119_125.out
     have hnb165 := NB125_122.out
     have hnc165 := NB122_125.out
     have hcz166_0 : wr.cell? ⟨gb125, 0, none⟩ = some (.int .i64 t101) := (blk_cell BK125.out 0).trans rfl
     have hcz166_1 : wr.cell? ⟨gb125, 1, none⟩ = some (.slice Ao22 t115.length co22) := (blk_cell BK125.out 1).trans rfl
     have hfz166_0 := blk_frozen BK125.out 0
     have hfz166_1 := blk_frozen BK125.out 1
     go_wp2_with (first | ((with_reducible refine gate_callee (f := 29) rfl ?_); refine gl 88 Try.func29 #[.agg #[.int .i64 t101, .slice Ao22 t115.length co22], .int .i64 t112, .int .i64 t111] ?_; (with_reducible refine (impl_NetAdd.calls k2 t101 _ _ t115 t112 t111 t106 t133 t134 _ ?side1 ?side2 A70.out).mono ?_); (case side1 => exact qc (Kd.R_reads' HO_102001.out).2.2); (case side2 => exact (Kd.R_reads' HO_102001.out).2.1); rintro e w167 ⟨v138, rfl, ho0, hb⟩; refine ⟨_, rfl, ?_⟩; have HO139 := q0 (Kd.R_lower (Kd.R_new' (Kd.R_new' (Kd.R_new' ho0 (Kd.R_lt (qr HO_100001.out))) (Kd.R_lt (qr HO_101001.out))) (Kd.R_lt (qr HO_102001.out))) (below_size (qb HB.out))); replace HO_100001 := q0 (Kd.R_elder' (qr HO_100001.out) (Kd.R_base ho0) hb); replace HO_101001 := q0 (Kd.R_elder' (qr HO_101001.out) (Kd.R_base ho0) hb); replace HO_102001 := q0 (Kd.R_elder' (qr HO_102001.out) (Kd.R_base ho0) hb); replace BK119 := q0 (kb BK119.out hb); replace BK122 := q0 (kb BK122.out hb); replace BK125 := q0 (kb BK125.out hb); replace HB := q0 (below_step (qb HB.out) hb); (try clear hb); (try clear hb2); (try clear hk); (try clear hi); (try clear ho0)) | ((with_reducible refine gate_dst (N := 11) rfl ?_); (try (refine gate_guard (by rfl) ?_; dsimp only)); refine be 11 #[.int .i64 0, .slice none 0 0] 25 ?_; intro gb140 hg w168 hbox hb; replace HO_100001 := q0 (Kd.R_below (qr HO_100001.out) hb); replace HO_101001 := q0 (Kd.R_below (qr HO_101001.out) hb); replace HO_102001 := q0 (Kd.R_below (qr HO_102001.out) hb); replace HO139 := q0 (Kd.R_below (qr HO139.out) hb); have BK140 := q0 (hbox); have GW140 := q0 ((bs HB.out hg : w.heap.size ≤ gb140)); have GE140 := q0 ((bs HB.out hg : w.heap.size ≤ gb140)); replace HB := q0 (below_step (qb HB.out) hb); have NB119_140 := q0 ((bl BK119.out hg : gb119 ≠ gb140)); have NB140_119 := q0 ((bg BK119.out hg : gb140 ≠ gb119)); replace BK119 := q0 (kb BK119.out hb); have NB122_140 := q0 ((bl BK122.out hg : gb122 ≠ gb140)); have NB140_122 := q0 ((bg BK122.out hg : gb140 ≠ gb122)); replace BK122 := q0 (kb BK122.out hb); have NB125_140 := q0 ((bl BK125.out hg : gb125 ≠ gb140)); have NB140_125 := q0 ((bg BK125.out hg : gb140 ≠ gb125)); replace BK125 := q0 (kb BK125.out hb); clear hb hbox hg; have hnb169 := NB140_119.out; have hnc169 := NB119_140.out; have hnb170 := NB140_122.out; have hnc170 := NB122_140.out; have hnb171 := NB140_125.out; have hnc171 := NB125_140.out; have hcz172_0 : w168.cell? ⟨gb140, 0, none⟩ = some (.int .i64 0) := (blk_cell BK140.out 0).trans rfl; have hcz172_1 : w168.cell? ⟨gb140, 1, none⟩ = some (.slice none 0 0) := (blk_cell BK140.out 1).trans rfl; have hfz172_0 := blk_frozen BK140.out 0; have hfz172_1 := blk_frozen BK140.out 1; obtain ⟨Ao173, co173, eo173⟩ := Kd.R_slice HO139.out; subst eo173; have hcz174_0 : w168.cell? ⟨gb125, 0, none⟩ = some (.int .i64 t101) := (blk_cell BK125.out 0).trans rfl; have hcz174_1 : w168.cell? ⟨gb125, 1, none⟩ = some (.slice Ao22 t115.length co22) := (blk_cell BK125.out 1).trans rfl; have hfz174_0 := blk_frozen BK125.out 0; have hfz174_1 := blk_frozen BK125.out 1) | ((with_reducible refine gate_callee (f := 37) rfl ?_); refine gl 92 Try.func37 #[.agg #[.int .i64 t101, .slice Ao22 t115.length co22]] ?_; (with_reducible refine (impl_NetOk.calls k2 t101 _ _ t115 false _ ?side1 ?side2 A71.out).mono ?_); (case side1 => refine (Kd.R_reads' (e := 32) (base := w.heap.size) (ok := fun k_ => ((some k_ ≠ (.slice Ao10 t110.length co10 : Value).ownBlock ∧ some k_ ≠ (.slice Ao15 t113.length co15 : Value).ownBlock) ∧ some k_ ≠ (.slice Ao173 t133.length co173 : Value).ownBlock)) (n := t115.length) (c := co22) ?_).2.2; exact (by (with_reducible repeat (first | apply Kd.R_alloc | apply Kd.R_drewN | apply Kd.R_drew)); exact (rf2 HO_102001.out BK140.out (fun _ h_ => h_.1)))); (case side2 => exact (Kd.R_reads' HO_102001.out).2.1); rintro e w175 ⟨rfl, hb⟩; refine ⟨_, rfl, ?_⟩; replace HO_100001 := q0 (Kd.R_below (by (with_reducible repeat (first | apply Kd.R_alloc | apply Kd.R_drewN | apply Kd.R_drew)); exact (rf2 HO_100001.out BK140.out (fun _ h_ => h_.1))) hb); replace HO_101001 := q0 (Kd.R_below (by (with_reducible repeat (first | apply Kd.R_alloc | apply Kd.R_drewN | apply Kd.R_drew)); exact (rf2 HO_101001.out BK140.out (fun _ h_ => h_.1))) hb); replace HO_102001 := q0 (Kd.R_below (by (with_reducible repeat (first | apply Kd.R_alloc | apply Kd.R_drewN | apply Kd.R_drew)); exact (rf2 HO_102001.out BK140.out (fun _ h_ => h_.1))) hb); replace HO139 := q0 (Kd.R_below (by (with_reducible repeat (first | apply Kd.R_alloc | apply Kd.R_drewN | apply Kd.R_drew)); exact (rf2 HO139.out BK140.out (fun _ h_ => h_.1))) hb); replace BK119 := q0 (kf BK119.out hb); replace BK122 := q0 (kf BK122.out hb); replace BK125 := q0 (kf BK125.out hb); replace BK140 := q0 (blk_below (g := gb140) (o := .cells #[.int .i64 t106, .slice Ao173 t133.length co173] 25 (0, 0)) (by (with_reducible repeat (first | refine blk_drewN ?_ _ | refine blk_drew ?_ | refine blk_alloc ?_ _)); refine blk_put (cs := #[.int .i64 t106, .slice none 0 0]) ?_ 1 _ rfl; (with_reducible repeat (first | refine blk_drewN ?_ _ | refine blk_drew ?_ | refine blk_alloc ?_ _)); refine blk_put (cs := #[.int .i64 0, .slice none 0 0]) ?_ 0 _ rfl; (with_reducible repeat (first | refine blk_drewN ?_ _ | refine blk_drew ?_ | refine blk_alloc ?_ _)); exact BK140.out) hb); replace HB := q0 (below_step (qb HB.out) hb); (try clear hb); (try clear hb2); (try clear hk); (try clear hi)))
     go_ret
     exact ⟨qe, qb HB.out⟩
   subst c72
   rw [if_pos rfl] at H
   by_cases c73 : (t115.length : Int) = (wrap64 ((t110.length : Int) + 1))
   rotate_left
   · rw [if_neg c73] at H
     have c73b0 : ((t115.length : Int) == (wrap64 ((t110.length : Int) + 1))) = false := beq_eq_false_iff_ne.mpr c73
     have c73b1 : ((t115.length : Int) != (wrap64 ((t110.length : Int) + 1))) = true := bne_iff_ne.mpr c73
     obtain rfl := Option.some.inj H
     have hnb149 := NB125_119.out
     have hnc149 := NB119_125.out
     have hnb150 := NB125_122.out
     have hnc150 := NB122_125.out
     have hcz151_0 : wr.cell? ⟨gb125, 0, none⟩ = some (.int .i64 t101) := (blk_cell BK125.out 0).trans rfl
     have hcz151_1 : wr.cell? ⟨gb125, 1, none⟩ = some (.slice Ao22 t115.length co22) := (blk_cell BK125.out 1).trans rfl
     have hfz151_0 := blk_frozen BK125.out 0
     have hfz151_1 := blk_frozen BK125.out 1
     go_wp2_with (first | ((with_reducible refine gate_callee (f := 29) rfl ?_); refine gl 88 Try.func29 #[.agg #[.int .i64 t101, .slice Ao22 t115.length co22], .int .i64 t112, .int .i64 t111] ?_; (with_reducible refine (impl_NetAdd.calls k2 t101 _ _ t115 t112 t111 t106 t133 t134 _ ?side1 ?side2 A70.out).mono ?_); (case side1 => exact qc (Kd.R_reads' HO_102001.out).2.2); (case side2 => exact (Kd.R_reads' HO_102001.out).2.1); rintro e w152 ⟨v138, rfl, ho0, hb⟩; refine ⟨_, rfl, ?_⟩; have HO139 := q0 (Kd.R_lower (Kd.R_new' (Kd.R_new' (Kd.R_new' ho0 (Kd.R_lt (qr HO_100001.out))) (Kd.R_lt (qr HO_101001.out))) (Kd.R_lt (qr HO_102001.out))) (below_size (qb HB.out))); replace HO_100001 := q0 (Kd.R_elder' (qr HO_100001.out) (Kd.R_base ho0) hb); replace HO_101001 := q0 (Kd.R_elder' (qr HO_101001.out) (Kd.R_base ho0) hb); replace HO_102001 := q0 (Kd.R_elder' (qr HO_102001.out) (Kd.R_base ho0) hb); replace BK119 := q0 (kb BK119.out hb); replace BK122 := q0 (kb BK122.out hb); replace BK125 := q0 (kb BK125.out hb); replace HB := q0 (below_step (qb HB.out) hb); (try clear hb); (try clear hb2); (try clear hk); (try clear hi); (try clear ho0)) | ((with_reducible refine gate_dst (N := 11) rfl ?_); (try (refine gate_guard (by rfl) ?_; dsimp only)); refine be 11 #[.int .i64 0, .slice none 0 0] 25 ?_; intro gb140 hg w153 hbox hb; replace HO_100001 := q0 (Kd.R_below (qr HO_100001.out) hb); replace HO_101001 := q0 (Kd.R_below (qr HO_101001.out) hb); replace HO_102001 := q0 (Kd.R_below (qr HO_102001.out) hb); replace HO139 := q0 (Kd.R_below (qr HO139.out) hb); have BK140 := q0 (hbox); have GW140 := q0 ((bs HB.out hg : w.heap.size ≤ gb140)); have GE140 := q0 ((bs HB.out hg : w.heap.size ≤ gb140)); replace HB := q0 (below_step (qb HB.out) hb); have NB119_140 := q0 ((bl BK119.out hg : gb119 ≠ gb140)); have NB140_119 := q0 ((bg BK119.out hg : gb140 ≠ gb119)); replace BK119 := q0 (kb BK119.out hb); have NB122_140 := q0 ((bl BK122.out hg : gb122 ≠ gb140)); have NB140_122 := q0 ((bg BK122.out hg : gb140 ≠ gb122)); replace BK122 := q0 (kb BK122.out hb); have NB125_140 := q0 ((bl BK125.out hg : gb125 ≠ gb140)); have NB140_125 := q0 ((bg BK125.out hg : gb140 ≠ gb125)); replace BK125 := q0 (kb BK125.out hb); clear hb hbox hg; have hnb154 := NB140_119.out; have hnc154 := NB119_140.out; have hnb155 := NB140_122.out; have hnc155 := NB122_140.out; have hnb156 := NB140_125.out; have hnc156 := NB125_140.out; have hcz157_0 : w153.cell? ⟨gb140, 0, none⟩ = some (.int .i64 0) := (blk_cell BK140.out 0).trans rfl; have hcz157_1 : w153.cell? ⟨gb140, 1, none⟩ = some (.slice none 0 0) := (blk_cell BK140.out 1).trans rfl; have hfz157_0 := blk_frozen BK140.out 0; have hfz157_1 := blk_frozen BK140.out 1; obtain ⟨Ao158, co158, eo158⟩ := Kd.R_slice HO139.out; subst eo158; have hcz159_0 : w153.cell? ⟨gb125, 0, none⟩ = some (.int .i64 t101) := (blk_cell BK125.out 0).trans rfl; have hcz159_1 : w153.cell? ⟨gb125, 1, none⟩ = some (.slice Ao22 t115.length co22) := (blk_cell BK125.out 1).trans rfl; have hfz159_0 := blk_frozen BK125.out 0; have hfz159_1 := blk_frozen BK125.out 1) | ((with_reducible refine gate_callee (f := 37) rfl ?_); refine gl 92 Try.func37 #[.agg #[.int .i64 t101, .slice Ao22 t115.length co22]] ?_; (with_reducible refine (impl_NetOk.calls k2 t101 _ _ t115 true _ ?side1 ?side2 A71.out).mono ?_); (case side1 => refine (Kd.R_reads' (e := 32) (base := w.heap.size) (ok := fun k_ => ((some k_ ≠ (.slice Ao10 t110.length co10 : Value).ownBlock ∧ some k_ ≠ (.slice Ao15 t113.length co15 : Value).ownBlock) ∧ some k_ ≠ (.slice Ao158 t133.length co158 : Value).ownBlock)) (n := t115.length) (c := co22) ?_).2.2; exact (by (with_reducible repeat (first | apply Kd.R_alloc | apply Kd.R_drewN | apply Kd.R_drew)); exact (rf2 HO_102001.out BK140.out (fun _ h_ => h_.1)))); (case side2 => exact (Kd.R_reads' HO_102001.out).2.1); rintro e w160 ⟨rfl, hb⟩; refine ⟨_, rfl, ?_⟩; replace HO_100001 := q0 (Kd.R_below (by (with_reducible repeat (first | apply Kd.R_alloc | apply Kd.R_drewN | apply Kd.R_drew)); exact (rf2 HO_100001.out BK140.out (fun _ h_ => h_.1))) hb); replace HO_101001 := q0 (Kd.R_below (by (with_reducible repeat (first | apply Kd.R_alloc | apply Kd.R_drewN | apply Kd.R_drew)); exact (rf2 HO_101001.out BK140.out (fun _ h_ => h_.1))) hb); replace HO_102001 := q0 (Kd.R_below (by (with_reducible repeat (first | apply Kd.R_alloc | apply Kd.R_drewN | apply Kd.R_drew)); exact (rf2 HO_102001.out BK140.out (fun _ h_ => h_.1))) hb); replace HO139 := q0 (Kd.R_below (by (with_reducible repeat (first | apply Kd.R_alloc | apply Kd.R_drewN | apply Kd.R_drew)); exact (rf2 HO139.out BK140.out (fun _ h_ => h_.1))) hb); replace BK119 := q0 (kf BK119.out hb); replace BK122 := q0 (kf BK122.out hb); replace BK125 := q0 (kf BK125.out hb); replace BK140 := q0 (blk_below (g := gb140) (o := .cells #[.int .i64 t106, .slice Ao158 t133.length co158] 25 (0, 0)) (by (with_reducible repeat (first | refine blk_drewN ?_ _ | refine blk_drew ?_ | refine blk_alloc ?_ _)); refine blk_put (cs := #[.int .i64 t106, .slice none 0 0]) ?_ 1 _ rfl; (with_reducible repeat (first | refine blk_drewN ?_ _ | refine blk_drew ?_ | refine blk_alloc ?_ _)); refine blk_put (cs := #[.int .i64 0, .slice none 0 0]) ?_ 0 _ rfl; (with_reducible repeat (first | refine blk_drewN ?_ _ | refine blk_drew ?_ | refine blk_alloc ?_ _)); exact BK140.out) hb); replace HB := q0 (below_step (qb HB.out) hb); (try clear hb); (try clear hb2); (try clear hk); (try clear hi); have hcz161_0 : w160.cell? ⟨gb125, 0, none⟩ = some (.int .i64 t101) := (blk_cell BK125.out 0).trans rfl; have hcz161_1 : w160.cell? ⟨gb125, 1, none⟩ = some (.slice Ao22 t115.length co22) := (blk_cell BK125.out 1).trans rfl; have hfz161_0 := blk_frozen BK125.out 0; have hfz161_1 := blk_frozen BK125.out 1; have hnb162 := NB119_122.out; have hnc162 := NB122_119.out; have hcz163_0 : w160.cell? ⟨gb119, 0, none⟩ = some (.int .i64 t109) := (blk_cell BK119.out 0).trans rfl; have hcz163_1 : w160.cell? ⟨gb119, 1, none⟩ = some (.slice Ao10 t110.length co10) := (blk_cell BK119.out 1).trans rfl; have hfz163_0 := blk_frozen BK119.out 0; have hfz163_1 := blk_frozen BK119.out 1))
     go_ret
     exact ⟨qe, qb HB.out⟩
   rw [if_pos c73] at H
   have c73b0 : ((t115.length : Int) == (wrap64 ((t110.length : Int) + 1))) = true := beq_iff_eq.mpr c73
   have c73b1 : ((t115.length : Int) != (wrap64 ((t110.length : Int) + 1))) = false := bne_eq_false_iff_eq.mpr c73
   clear c73
   replace H := Option.bind_eq_some_iff.mp H
   obtain ⟨t108, A137, H⟩ := H
   have A74 := Aside0.mk A137
   clear A137
   by_cases c75 : t108 = true
   · subst c75
     rw [if_pos rfl] at H
     obtain rfl := Option.some.inj H
     have hnb76 := NB125_119.out
     have hnc76 := NB119_125.out
     have hnb77 := NB125_122.out
     have hnc77 := NB122_125.out
     have hcz78_0 : wr.cell? ⟨gb125, 0, none⟩ = some (.int .i64 t101) := (blk_cell BK125.out 0).trans rfl
     have hcz78_1 : wr.cell? ⟨gb125, 1, none⟩ = some (.slice Ao22 t115.length co22) := (blk_cell BK125.out 1).trans rfl
     have hfz78_0 := blk_frozen BK125.out 0
     have hfz78_1 := blk_frozen BK125.out 1
     go_wp2_with (first | ((with_reducible refine gate_callee (f := 29) rfl ?_); refine gl 88 Try.func29 #[.agg #[.int .i64 t101, .slice Ao22 t115.length co22], .int .i64 t112, .int .i64 t111] ?_; (with_reducible refine (impl_NetAdd.calls k2 t101 _ _ t115 t112 t111 t106 t133 t134 _ ?side1 ?side2 A70.out).mono ?_); (case side1 => exact qc (Kd.R_reads' HO_102001.out).2.2); (case side2 => exact (Kd.R_reads' HO_102001.out).2.1); rintro e w79 ⟨v138, rfl, ho0, hb⟩; refine ⟨_, rfl, ?_⟩; have HO139 := q0 (Kd.R_lower (Kd.R_new' (Kd.R_new' (Kd.R_new' ho0 (Kd.R_lt (qr HO_100001.out))) (Kd.R_lt (qr HO_101001.out))) (Kd.R_lt (qr HO_102001.out))) (below_size (qb HB.out))); replace HO_100001 := q0 (Kd.R_elder' (qr HO_100001.out) (Kd.R_base ho0) hb); replace HO_101001 := q0 (Kd.R_elder' (qr HO_101001.out) (Kd.R_base ho0) hb); replace HO_102001 := q0 (Kd.R_elder' (qr HO_102001.out) (Kd.R_base ho0) hb); replace BK119 := q0 (kb BK119.out hb); replace BK122 := q0 (kb BK122.out hb); replace BK125 := q0 (kb BK125.out hb); replace HB := q0 (below_step (qb HB.out) hb); (try clear hb); (try clear hb2); (try clear hk); (try clear hi); (try clear ho0)) | ((with_reducible refine gate_dst (N := 11) rfl ?_); (try (refine gate_guard (by rfl) ?_; dsimp only)); refine be 11 #[.int .i64 0, .slice none 0 0] 25 ?_; intro gb140 hg w80 hbox hb; replace HO_100001 := q0 (Kd.R_below (qr HO_100001.out) hb); replace HO_101001 := q0 (Kd.R_below (qr HO_101001.out) hb); replace HO_102001 := q0 (Kd.R_below (qr HO_102001.out) hb); replace HO139 := q0 (Kd.R_below (qr HO139.out) hb); have BK140 := q0 (hbox); have GW140 := q0 ((bs HB.out hg : w.heap.size ≤ gb140)); have GE140 := q0 ((bs HB.out hg : w.heap.size ≤ gb140)); replace HB := q0 (below_step (qb HB.out) hb); have NB119_140 := q0 ((bl BK119.out hg : gb119 ≠ gb140)); have NB140_119 := q0 ((bg BK119.out hg : gb140 ≠ gb119)); replace BK119 := q0 (kb BK119.out hb); have NB122_140 := q0 ((bl BK122.out hg : gb122 ≠ gb140)); have NB140_122 := q0 ((bg BK122.out hg : gb140 ≠ gb122)); replace BK122 := q0 (kb BK122.out hb); have NB125_140 := q0 ((bl BK125.out hg : gb125 ≠ gb140)); have NB140_125 := q0 ((bg BK125.out hg : gb140 ≠ gb125)); replace BK125 := q0 (kb BK125.out hb); clear hb hbox hg; have hnb81 := NB140_119.out; have hnc81 := NB119_140.out; have hnb82 := NB140_122.out; have hnc82 := NB122_140.out; have hnb83 := NB140_125.out; have hnc83 := NB125_140.out; have hcz84_0 : w80.cell? ⟨gb140, 0, none⟩ = some (.int .i64 0) := (blk_cell BK140.out 0).trans rfl; have hcz84_1 : w80.cell? ⟨gb140, 1, none⟩ = some (.slice none 0 0) := (blk_cell BK140.out 1).trans rfl; have hfz84_0 := blk_frozen BK140.out 0; have hfz84_1 := blk_frozen BK140.out 1; obtain ⟨Ao85, co85, eo85⟩ := Kd.R_slice HO139.out; subst eo85; have hcz86_0 : w80.cell? ⟨gb125, 0, none⟩ = some (.int .i64 t101) := (blk_cell BK125.out 0).trans rfl; have hcz86_1 : w80.cell? ⟨gb125, 1, none⟩ = some (.slice Ao22 t115.length co22) := (blk_cell BK125.out 1).trans rfl; have hfz86_0 := blk_frozen BK125.out 0; have hfz86_1 := blk_frozen BK125.out 1) | ((with_reducible refine gate_callee (f := 37) rfl ?_); refine gl 92 Try.func37 #[.agg #[.int .i64 t101, .slice Ao22 t115.length co22]] ?_; (with_reducible refine (impl_NetOk.calls k2 t101 _ _ t115 true _ ?side1 ?side2 A71.out).mono ?_); (case side1 => refine (Kd.R_reads' (e := 32) (base := w.heap.size) (ok := fun k_ => ((some k_ ≠ (.slice Ao10 t110.length co10 : Value).ownBlock ∧ some k_ ≠ (.slice Ao15 t113.length co15 : Value).ownBlock) ∧ some k_ ≠ (.slice Ao85 t133.length co85 : Value).ownBlock)) (n := t115.length) (c := co22) ?_).2.2; exact (by (with_reducible repeat (first | apply Kd.R_alloc | apply Kd.R_drewN | apply Kd.R_drew)); exact (rf2 HO_102001.out BK140.out (fun _ h_ => h_.1)))); (case side2 => exact (Kd.R_reads' HO_102001.out).2.1); rintro e w87 ⟨rfl, hb⟩; refine ⟨_, rfl, ?_⟩; replace HO_100001 := q0 (Kd.R_below (by (with_reducible repeat (first | apply Kd.R_alloc | apply Kd.R_drewN | apply Kd.R_drew)); exact (rf2 HO_100001.out BK140.out (fun _ h_ => h_.1))) hb); replace HO_101001 := q0 (Kd.R_below (by (with_reducible repeat (first | apply Kd.R_alloc | apply Kd.R_drewN | apply Kd.R_drew)); exact (rf2 HO_101001.out BK140.out (fun _ h_ => h_.1))) hb); replace HO_102001 := q0 (Kd.R_below (by (with_reducible repeat (first | apply Kd.R_alloc | apply Kd.R_drewN | apply Kd.R_drew)); exact (rf2 HO_102001.out BK140.out (fun _ h_ => h_.1))) hb); replace HO139 := q0 (Kd.R_below (by (with_reducible repeat (first | apply Kd.R_alloc | apply Kd.R_drewN | apply Kd.R_drew)); exact (rf2 HO139.out BK140.out (fun _ h_ => h_.1))) hb); replace BK119 := q0 (kf BK119.out hb); replace BK122 := q0 (kf BK122.out hb); replace BK125 := q0 (kf BK125.out hb); replace BK140 := q0 (blk_below (g := gb140) (o := .cells #[.int .i64 t106, .slice Ao85 t133.length co85] 25 (0, 0)) (by (with_reducible repeat (first | refine blk_drewN ?_ _ | refine blk_drew ?_ | refine blk_alloc ?_ _)); refine blk_put (cs := #[.int .i64 t106, .slice none 0 0]) ?_ 1 _ rfl; (with_reducible repeat (first | refine blk_drewN ?_ _ | refine blk_drew ?_ | refine blk_alloc ?_ _)); refine blk_put (cs := #[.int .i64 0, .slice none 0 0]) ?_ 0 _ rfl; (with_reducible repeat (first | refine blk_drewN ?_ _ | refine blk_drew ?_ | refine blk_alloc ?_ _)); exact BK140.out) hb); replace HB := q0 (below_step (qb HB.out) hb); (try clear hb); (try clear hb2); (try clear hk); (try clear hi); have hcz88_0 : w87.cell? ⟨gb125, 0, none⟩ = some (.int .i64 t101) := (blk_cell BK125.out 0).trans rfl; have hcz88_1 : w87.cell? ⟨gb125, 1, none⟩ = some (.slice Ao22 t115.length co22) := (blk_cell BK125.out 1).trans rfl; have hfz88_0 := blk_frozen BK125.out 0; have hfz88_1 := blk_frozen BK125.out 1; have hnb89 := NB119_122.out; have hnc89 := NB122_119.out; have hcz90_0 : w87.cell? ⟨gb119, 0, none⟩ = some (.int .i64 t109) := (blk_cell BK119.out 0).trans rfl; have hcz90_1 : w87.cell? ⟨gb119, 1, none⟩ = some (.slice Ao10 t110.length co10) := (blk_cell BK119.out 1).trans rfl; have hfz90_0 := blk_frozen BK119.out 0; have hfz90_1 := blk_frozen BK119.out 1) | (go_at_call 38; (with_reducible refine (impl_NetHas.calls k2 t101 _ _ t115 t111 t112 true _ ?side1 ?side2 A74.out).mono ?_); (case side1 => exact qc (Kd.R_reads' HO_102001.out).2.2); (case side2 => exact (Kd.R_reads' HO_102001.out).2.1); rintro e w91 ⟨rfl, hb⟩; replace HO_100001 := q0 (Kd.R_below (qr HO_100001.out) hb); replace HO_101001 := q0 (Kd.R_below (qr HO_101001.out) hb); replace HO_102001 := q0 (Kd.R_below (qr HO_102001.out) hb); replace HO139 := q0 (Kd.R_below (qr HO139.out) hb); replace BK119 := q0 (kb BK119.out hb); replace BK122 := q0 (kb BK122.out hb); replace BK125 := q0 (kb BK125.out hb); replace BK140 := q0 (kb BK140.out hb); replace HB := q0 (below_step (qb HB.out) hb); (try clear hb); (try clear hb2); (try clear hk); (try clear hi)))
     go_ret
     exact ⟨qe, qb HB.out⟩
   replace c75 := Bool.eq_false_iff.mpr c75
   subst c75
   rw [if_neg nf] at H
   obtain rfl := Option.some.inj H
   have hnb92 := NB125_119.out
   have hnc92 := NB119_125.out
   have hnb93 := NB125_122.out
   have hnc93 := NB122_125.out
   have hcz94_0 : wr.cell? ⟨gb125, 0, none⟩ = some (.int .i64 t101) := (blk_cell BK125.out 0).trans rfl
   have hcz94_1 : wr.cell? ⟨gb125, 1, none⟩ = some (.slice Ao22 t115.length co22) := (blk_cell BK125.out 1).trans rfl
   have hfz94_0 := blk_frozen BK125.out 0
   have hfz94_1 := blk_frozen BK125.out 1
   go_wp2_with (first | ((with_reducible refine gate_callee (f := 29) rfl ?_); refine gl 88 Try.func29 #[.agg #[.int .i64 t101, .slice Ao22 t115.length co22], .int .i64 t112, .int .i64 t111] ?_; (with_reducible refine (impl_NetAdd.calls k2 t101 _ _ t115 t112 t111 t106 t133 t134 _ ?side1 ?side2 A70.out).mono ?_); (case side1 => exact qc (Kd.R_reads' HO_102001.out).2.2); (case side2 => exact (Kd.R_reads' HO_102001.out).2.1); rintro e w95 ⟨v138, rfl, ho0, hb⟩; refine ⟨_, rfl, ?_⟩; have HO139 := q0 (Kd.R_lower (Kd.R_new' (Kd.R_new' (Kd.R_new' ho0 (Kd.R_lt (qr HO_100001.out))) (Kd.R_lt (qr HO_101001.out))) (Kd.R_lt (qr HO_102001.out))) (below_size (qb HB.out))); replace HO_100001 := q0 (Kd.R_elder' (qr HO_100001.out) (Kd.R_base ho0) hb); replace HO_101001 := q0 (Kd.R_elder' (qr HO_101001.out) (Kd.R_base ho0) hb); replace HO_102001 := q0 (Kd.R_elder' (qr HO_102001.out) (Kd.R_base ho0) hb); replace BK119 := q0 (kb BK119.out hb); replace BK122 := q0 (kb BK122.out hb); replace BK125 := q0 (kb BK125.out hb); replace HB := q0 (below_step (qb HB.out) hb); (try clear hb); (try clear hb2); (try clear hk); (try clear hi); (try clear ho0)) | ((with_reducible refine gate_dst (N := 11) rfl ?_); (try (refine gate_guard (by rfl) ?_; dsimp only)); refine be 11 #[.int .i64 0, .slice none 0 0] 25 ?_; intro gb140 hg w96 hbox hb; replace HO_100001 := q0 (Kd.R_below (qr HO_100001.out) hb); replace HO_101001 := q0 (Kd.R_below (qr HO_101001.out) hb); replace HO_102001 := q0 (Kd.R_below (qr HO_102001.out) hb); replace HO139 := q0 (Kd.R_below (qr HO139.out) hb); have BK140 := q0 (hbox); have GW140 := q0 ((bs HB.out hg : w.heap.size ≤ gb140)); have GE140 := q0 ((bs HB.out hg : w.heap.size ≤ gb140)); replace HB := q0 (below_step (qb HB.out) hb); have NB119_140 := q0 ((bl BK119.out hg : gb119 ≠ gb140)); have NB140_119 := q0 ((bg BK119.out hg : gb140 ≠ gb119)); replace BK119 := q0 (kb BK119.out hb); have NB122_140 := q0 ((bl BK122.out hg : gb122 ≠ gb140)); have NB140_122 := q0 ((bg BK122.out hg : gb140 ≠ gb122)); replace BK122 := q0 (kb BK122.out hb); have NB125_140 := q0 ((bl BK125.out hg : gb125 ≠ gb140)); have NB140_125 := q0 ((bg BK125.out hg : gb140 ≠ gb125)); replace BK125 := q0 (kb BK125.out hb); clear hb hbox hg; have hnb97 := NB140_119.out; have hnc97 := NB119_140.out; have hnb98 := NB140_122.out; have hnc98 := NB122_140.out; have hnb99 := NB140_125.out; have hnc99 := NB125_140.out; have hcz141_0 : w96.cell? ⟨gb140, 0, none⟩ = some (.int .i64 0) := (blk_cell BK140.out 0).trans rfl; have hcz141_1 : w96.cell? ⟨gb140, 1, none⟩ = some (.slice none 0 0) := (blk_cell BK140.out 1).trans rfl; have hfz141_0 := blk_frozen BK140.out 0; have hfz141_1 := blk_frozen BK140.out 1; obtain ⟨Ao142, co142, eo142⟩ := Kd.R_slice HO139.out; subst eo142; have hcz143_0 : w96.cell? ⟨gb125, 0, none⟩ = some (.int .i64 t101) := (blk_cell BK125.out 0).trans rfl; have hcz143_1 : w96.cell? ⟨gb125, 1, none⟩ = some (.slice Ao22 t115.length co22) := (blk_cell BK125.out 1).trans rfl; have hfz143_0 := blk_frozen BK125.out 0; have hfz143_1 := blk_frozen BK125.out 1) | ((with_reducible refine gate_callee (f := 37) rfl ?_); refine gl 92 Try.func37 #[.agg #[.int .i64 t101, .slice Ao22 t115.length co22]] ?_; (with_reducible refine (impl_NetOk.calls k2 t101 _ _ t115 true _ ?side1 ?side2 A71.out).mono ?_); (case side1 => refine (Kd.R_reads' (e := 32) (base := w.heap.size) (ok := fun k_ => ((some k_ ≠ (.slice Ao10 t110.length co10 : Value).ownBlock ∧ some k_ ≠ (.slice Ao15 t113.length co15 : Value).ownBlock) ∧ some k_ ≠ (.slice Ao142 t133.length co142 : Value).ownBlock)) (n := t115.length) (c := co22) ?_).2.2; exact (by (with_reducible repeat (first | apply Kd.R_alloc | apply Kd.R_drewN | apply Kd.R_drew)); exact (rf2 HO_102001.out BK140.out (fun _ h_ => h_.1)))); (case side2 => exact (Kd.R_reads' HO_102001.out).2.1); rintro e w144 ⟨rfl, hb⟩; refine ⟨_, rfl, ?_⟩; replace HO_100001 := q0 (Kd.R_below (by (with_reducible repeat (first | apply Kd.R_alloc | apply Kd.R_drewN | apply Kd.R_drew)); exact (rf2 HO_100001.out BK140.out (fun _ h_ => h_.1))) hb); replace HO_101001 := q0 (Kd.R_below (by (with_reducible repeat (first | apply Kd.R_alloc | apply Kd.R_drewN | apply Kd.R_drew)); exact (rf2 HO_101001.out BK140.out (fun _ h_ => h_.1))) hb); replace HO_102001 := q0 (Kd.R_below (by (with_reducible repeat (first | apply Kd.R_alloc | apply Kd.R_drewN | apply Kd.R_drew)); exact (rf2 HO_102001.out BK140.out (fun _ h_ => h_.1))) hb); replace HO139 := q0 (Kd.R_below (by (with_reducible repeat (first | apply Kd.R_alloc | apply Kd.R_drewN | apply Kd.R_drew)); exact (rf2 HO139.out BK140.out (fun _ h_ => h_.1))) hb); replace BK119 := q0 (kf BK119.out hb); replace BK122 := q0 (kf BK122.out hb); replace BK125 := q0 (kf BK125.out hb); replace BK140 := q0 (blk_below (g := gb140) (o := .cells #[.int .i64 t106, .slice Ao142 t133.length co142] 25 (0, 0)) (by (with_reducible repeat (first | refine blk_drewN ?_ _ | refine blk_drew ?_ | refine blk_alloc ?_ _)); refine blk_put (cs := #[.int .i64 t106, .slice none 0 0]) ?_ 1 _ rfl; (with_reducible repeat (first | refine blk_drewN ?_ _ | refine blk_drew ?_ | refine blk_alloc ?_ _)); refine blk_put (cs := #[.int .i64 0, .slice none 0 0]) ?_ 0 _ rfl; (with_reducible repeat (first | refine blk_drewN ?_ _ | refine blk_drew ?_ | refine blk_alloc ?_ _)); exact BK140.out) hb); replace HB := q0 (below_step (qb HB.out) hb); (try clear hb); (try clear hb2); (try clear hk); (try clear hi); have hcz145_0 : w144.cell? ⟨gb125, 0, none⟩ = some (.int .i64 t101) := (blk_cell BK125.out 0).trans rfl; have hcz145_1 : w144.cell? ⟨gb125, 1, none⟩ = some (.slice Ao22 t115.length co22) := (blk_cell BK125.out 1).trans rfl; have hfz145_0 := blk_frozen BK125.out 0; have hfz145_1 := blk_frozen BK125.out 1; have hnb146 := NB119_122.out; have hnc146 := NB122_119.out; have hcz147_0 : w144.cell? ⟨gb119, 0, none⟩ = some (.int .i64 t109) := (blk_cell BK119.out 0).trans rfl; have hcz147_1 : w144.cell? ⟨gb119, 1, none⟩ = some (.slice Ao10 t110.length co10) := (blk_cell BK119.out 1).trans rfl; have hfz147_0 := blk_frozen BK119.out 0; have hfz147_1 := blk_frozen BK119.out 1) | (go_at_call 38; (with_reducible refine (impl_NetHas.calls k2 t101 _ _ t115 t111 t112 false _ ?side1 ?side2 A74.out).mono ?_); (case side1 => exact qc (Kd.R_reads' HO_102001.out).2.2); (case side2 => exact (Kd.R_reads' HO_102001.out).2.1); rintro e w148 ⟨rfl, hb⟩; replace HO_100001 := q0 (Kd.R_below (qr HO_100001.out) hb); replace HO_101001 := q0 (Kd.R_below (qr HO_101001.out) hb); replace HO_102001 := q0 (Kd.R_below (qr HO_102001.out) hb); replace HO139 := q0 (Kd.R_below (qr HO139.out) hb); replace BK119 := q0 (kb BK119.out hb); replace BK122 := q0 (kb BK122.out hb); replace BK125 := q0 (kb BK125.out hb); replace BK140 := q0 (kb BK140.out hb); replace HB := q0 (below_step (qb HB.out) hb); (try clear hb); (try clear hb2); (try clear hk); (try clear hi)))
   go_ret
   exact ⟨qe, qb HB.out⟩
 rw [if_pos c47] at H
 have c47b0 : decide (x10_2 < (t115.length : Int)) = true := decide_eq_true c47
 clear c47
 by_cases c48 : 0 ≤ x10_2
 rotate_left
 · rw [if_neg c48] at H
   exact absurd H (by simp)
 rw [if_pos c48] at H
 have c48b0 : decide (0 ≤ x10_2) = true := decide_eq_true c48
 clear c48
 replace H := Option.bind_eq_some_iff.mp H
 obtain ⟨⟨t104, t128⟩, A129, H⟩ := H
 have A49 := Aside0.mk A129
 clear A129
 by_cases c50 : (!(((rd_TTie t115 x10_2).f0) == t104) || (!(((rd_TTie t115 x10_2).f1) == t128))) = true
 rotate_left
 · rw [if_neg c50] at H
   have c50b0 : (!(((rd_TTie t115 x10_2).f0) == t104) || (!(((rd_TTie t115 x10_2).f1) == t128))) = false := by simpa using c50
   clear c50
   have H' := Aside0.mk H
   clear H
   have hnb65 := NB125_119.out
   have hnc65 := NB119_125.out
   have hnb66 := NB125_122.out
   have hnc66 := NB122_125.out
   have hcz67_0 : wr.cell? ⟨gb125, 0, none⟩ = some (.int .i64 t101) := (blk_cell BK125.out 0).trans rfl
   have hcz67_1 : wr.cell? ⟨gb125, 1, none⟩ = some (.slice Ao22 t115.length co22) := (blk_cell BK125.out 1).trans rfl
   have hfz67_0 := blk_frozen BK125.out 0
   have hfz67_1 := blk_frozen BK125.out 1
   try go_wp2
   replace HO_100001 := q0 (Kd.R_drew HO_100001.out)
   replace HO_101001 := q0 (Kd.R_drew HO_101001.out)
   replace HO_102001 := q0 (Kd.R_drew HO_102001.out)
   replace BK119 := q0 (blk_drew BK119.out)
   replace BK122 := q0 (blk_drew BK122.out)
   replace BK125 := q0 (blk_drew BK125.out)
   replace HB := q0 (below_drew1 HB.out)
   have p131 : 0 ≤ (x10_2 : Int) := of_decide_eq_true qa
   have q131 : x10_2 < (t115.length : Int) := of_decide_eq_true qa
   obtain ⟨ad131, e131, hx131_0, hx131_1⟩ := at_TTie (Kd.R_reads' HO_102001.out).2.2 x10_2 p131 q131
   cases e131
   replace p131 := eq_true p131
   replace q131 := eq_true q131
   refine start_ (n := 20) (S := fun w' => w'.cell? ⟨gb125, 0, none⟩ = some (.int .i64 t101) ∧ w'.cell? ⟨gb125, 1, none⟩ = some (.slice (some ad131) t115.length co22) ∧ w'.cell? (ad131.add ((x10_2).toNat * 2)) = some (.int .i64 ((rd_TTie t115 x10_2).f0)) ∧ w'.cell? ⟨(ad131.add ((x10_2).toNat * 2)).block, (ad131.add ((x10_2).toNat * 2)).off + 1, none⟩ = some (.int .i64 ((rd_TTie t115 x10_2).f1))) (ds := []) (ba 20 0) (by kernel_rfl) rfl (by kernel_rfl) ⟨(blk_cell BK125.out 0).trans rfl, (blk_cell BK125.out 1).trans rfl, hx131_0, hx131_1⟩ (fun hHeld => ?_); refine with_tabW laws_FnNetAdd.tab11 laws_FnNetAdd.bits11 (fun HT_ HW_ => ?_)
   generalize wr.drew = w68 at HO_100001 HO_101001 HO_102001 BK119 BK122 BK125 HB hx131_0 hx131_1 hHeld ⊢
   refine pu 0 (some 64) (ba 20 1) HT_.out ?_
   refine pu 2 (some 66) (ba 20 5) HT_.out ?_
   refine pu 5 (some 69) (ba 20 37) HT_.out ?_
   refine pu 6 (some 70) (ba 20 101) HT_.out ?_
   refine tu 1 (some 65) (ba 20 103) HT_.out HW_.out hHeld ?_
   refine pu 3 (some 67) (ba 20 111) HT_.out ?_
   refine tu 4 (some 68) (ba 20 127) HT_.out HW_.out hHeld ?_
   refine one_ (i := 7) (N := some 71) (ba 20 255) rfl rfl (one_of HT_.out (by kernel_rfl)) (by decide) (fun K hK => ?_)
   refine goes_ Try.func35 (by kernel_rfl) rfl #[.int .i64 t111, .int .i64 t112] (by rfl) rfl rfl qm ?_
   with_reducible refine (laws_loTie.calls t111 t112 t104 t128 _ A49.out).mono ?_
   rintro e w69 ⟨rfl, hb⟩
   have HS2_ := (hb.cell (World.block_lt_of_cell? _ _ (hHeld.2.2.1))).trans (hHeld.2.2.1)
   have HS3_ := (hb.cell (World.block_lt_of_cell? _ _ (hHeld.2.2.2))).trans (hHeld.2.2.2)
   refine ⟨_, rfl, ?_⟩
   replace HO_100001 := q0 (Kd.R_below (qr HO_100001.out) hb)
   replace HO_101001 := q0 (Kd.R_below (qr HO_101001.out) hb)
   replace HO_102001 := q0 (Kd.R_below (qr HO_102001.out) hb)
   replace BK119 := q0 (kb BK119.out hb)
   replace BK122 := q0 (kb BK122.out hb)
   replace BK125 := q0 (kb BK125.out hb)
   replace HB := q0 (below_step (qb HB.out) hb)
   (try clear hb)
   (try clear hb2)
   (try clear hk)
   (try clear hi)
   refine hK.out _ _ ⟨(blk_cell BK125.out 0).trans rfl, (blk_cell BK125.out 1).trans rfl, HS2_, HS3_⟩ (fun hHeld => ?_)
   clear hK K
   refine nu 71 ?_
   refine pu 8 (some 72) (ba 20 511) HT_.out ?_
   refine pu 9 (some 73) (ba 20 1023) HT_.out ?_
   refine pv 10 (some 74) (ba 20 2047) HT_.out ?_
   refine pv 11 (some 75) (ba 20 4095) HT_.out ?_
   refine pv 12 (some 76) (ba 20 8191) HT_.out ?_
   refine pv 13 (some 77) (ba 20 16383) HT_.out ?_
   refine pv 14 (some 78) (ba 20 32767) HT_.out ?_
   refine pv 15 (some 79) (ba 20 65535) HT_.out ?_
   refine pv 16 (some 80) (ba 20 131071) HT_.out ?_
   refine pv 17 (some 81) (ba 20 262143) HT_.out ?_
   refine pv 18 (some 82) (ba 20 524287) HT_.out ?_
   refine pu 19 (some 83) (ba 20 1048575) HT_.out ?_
   refine done_ (done_of HT_.out (by kernel_rfl)) ?_
   try go_wp2
   go_roundg k2
   case measure => have := HJ5.out; have := HK2.out; omega
   case rel => exact ⟨(wrap64 (x10_2 + 1)), qs, H', ⟨by have := HJ5.out; have := HK2.out; omega⟩, ⟨qr HO_100001.out⟩, ⟨qr HO_101001.out⟩, ⟨qr HO_102001.out⟩, ⟨qk BK119.out⟩, ⟨qk BK122.out⟩, ⟨qk BK125.out⟩, ⟨qb HB.out⟩⟩
 rw [if_pos c50] at H
 have c50b0 : (!(((rd_TTie t115 x10_2).f0) == t104) || (!(((rd_TTie t115 x10_2).f1) == t128))) = true := c50
 clear c50
 replace H := Option.bind_eq_some_iff.mp H
 obtain ⟨t105, A130, H⟩ := H
 have A51 := Aside0.mk A130
 clear A130
 by_cases c52 : t105 = true
 rotate_left
 · replace c52 := Bool.eq_false_iff.mpr c52
   subst c52
   rw [if_neg nf] at H
   obtain rfl := Option.some.inj H
   have hnb59 := NB125_119.out
   have hnc59 := NB119_125.out
   have hnb60 := NB125_122.out
   have hnc60 := NB122_125.out
   have hcz61_0 : wr.cell? ⟨gb125, 0, none⟩ = some (.int .i64 t101) := (blk_cell BK125.out 0).trans rfl
   have hcz61_1 : wr.cell? ⟨gb125, 1, none⟩ = some (.slice Ao22 t115.length co22) := (blk_cell BK125.out 1).trans rfl
   have hfz61_0 := blk_frozen BK125.out 0
   have hfz61_1 := blk_frozen BK125.out 1
   try go_wp2
   replace HO_100001 := q0 (Kd.R_drew HO_100001.out)
   replace HO_101001 := q0 (Kd.R_drew HO_101001.out)
   replace HO_102001 := q0 (Kd.R_drew HO_102001.out)
   replace BK119 := q0 (blk_drew BK119.out)
   replace BK122 := q0 (blk_drew BK122.out)
   replace BK125 := q0 (blk_drew BK125.out)
   replace HB := q0 (below_drew1 HB.out)
   have p131 : 0 ≤ (x10_2 : Int) := of_decide_eq_true qa
   have q131 : x10_2 < (t115.length : Int) := of_decide_eq_true qa
   obtain ⟨ad131, e131, hx131_0, hx131_1⟩ := at_TTie (Kd.R_reads' HO_102001.out).2.2 x10_2 p131 q131
   cases e131
   replace p131 := eq_true p131
   replace q131 := eq_true q131
   have p132 : 0 ≤ (x10_2 : Int) := of_decide_eq_true qa
   have q132 : x10_2 < (t115.length : Int) := of_decide_eq_true qa
   obtain ⟨ad132, e132, hx132_0, hx132_1⟩ := at_TTie (Kd.R_reads' HO_102001.out).2.2 x10_2 p132 q132
   obtain rfl : ad131 = ad132 := (by injection e132)
   replace p132 := eq_true p132
   replace q132 := eq_true q132
   refine start_ (n := 20) (S := fun w' => w'.cell? ⟨gb125, 0, none⟩ = some (.int .i64 t101) ∧ w'.cell? ⟨gb125, 1, none⟩ = some (.slice (some ad131) t115.length co22) ∧ w'.cell? ⟨gb119, 0, none⟩ = some (.int .i64 t109) ∧ w'.cell? ⟨gb119, 1, none⟩ = some (.slice Ao10 t110.length co10) ∧ w'.cell? (ad131.add ((x10_2).toNat * 2)) = some (.int .i64 ((rd_TTie t115 x10_2).f0)) ∧ w'.cell? ⟨(ad131.add ((x10_2).toNat * 2)).block, (ad131.add ((x10_2).toNat * 2)).off + 1, none⟩ = some (.int .i64 ((rd_TTie t115 x10_2).f1)) ∧ w'.cell? (ad131.add ((x10_2).toNat * 2)) = some (.int .i64 ((rd_TTie t115 x10_2).f0)) ∧ w'.cell? ⟨(ad131.add ((x10_2).toNat * 2)).block, (ad131.add ((x10_2).toNat * 2)).off + 1, none⟩ = some (.int .i64 ((rd_TTie t115 x10_2).f1))) (ds := []) (ba 20 0) (by kernel_rfl) rfl (by kernel_rfl) ⟨(blk_cell BK125.out 0).trans rfl, (blk_cell BK125.out 1).trans rfl, (blk_cell BK119.out 0).trans rfl, (blk_cell BK119.out 1).trans rfl, hx131_0, hx131_1, hx132_0, hx132_1⟩ (fun hHeld => ?_); refine with_tabW laws_FnNetAdd.tab11 laws_FnNetAdd.bits11 (fun HT_ HW_ => ?_)
   generalize wr.drew = w62 at HO_100001 HO_101001 HO_102001 BK119 BK122 BK125 HB hx131_0 hx131_1 hx132_0 hx132_1 hHeld ⊢
   refine pu 0 (some 64) (ba 20 1) HT_.out ?_
   refine pu 2 (some 66) (ba 20 5) HT_.out ?_
   refine pu 5 (some 69) (ba 20 37) HT_.out ?_
   refine pu 6 (some 70) (ba 20 101) HT_.out ?_
   refine tu 1 (some 65) (ba 20 103) HT_.out HW_.out hHeld ?_
   refine pu 3 (some 67) (ba 20 111) HT_.out ?_
   refine tu 4 (some 68) (ba 20 127) HT_.out HW_.out hHeld ?_
   refine one_ (i := 7) (N := some 71) (ba 20 255) rfl rfl (one_of HT_.out (by kernel_rfl)) (by decide) (fun K hK => ?_)
   refine goes_ Try.func35 (by kernel_rfl) rfl #[.int .i64 t111, .int .i64 t112] (by rfl) rfl rfl qm ?_
   with_reducible refine (laws_loTie.calls t111 t112 t104 t128 _ A49.out).mono ?_
   rintro e w63 ⟨rfl, hb⟩
   have HS4_ := (hb.cell (World.block_lt_of_cell? _ _ (hHeld.2.2.2.2.1))).trans (hHeld.2.2.2.2.1)
   have HS5_ := (hb.cell (World.block_lt_of_cell? _ _ (hHeld.2.2.2.2.2.1))).trans (hHeld.2.2.2.2.2.1)
   have HS6_ := (hb.cell (World.block_lt_of_cell? _ _ (hHeld.2.2.2.2.2.2.1))).trans (hHeld.2.2.2.2.2.2.1)
   have HS7_ := (hb.cell (World.block_lt_of_cell? _ _ (hHeld.2.2.2.2.2.2.2))).trans (hHeld.2.2.2.2.2.2.2)
   refine ⟨_, rfl, ?_⟩
   replace HO_100001 := q0 (Kd.R_below (qr HO_100001.out) hb)
   replace HO_101001 := q0 (Kd.R_below (qr HO_101001.out) hb)
   replace HO_102001 := q0 (Kd.R_below (qr HO_102001.out) hb)
   replace BK119 := q0 (kb BK119.out hb)
   replace BK122 := q0 (kb BK122.out hb)
   replace BK125 := q0 (kb BK125.out hb)
   replace HB := q0 (below_step (qb HB.out) hb)
   (try clear hb)
   (try clear hb2)
   (try clear hk)
   (try clear hi)
   refine hK.out _ _ ⟨(blk_cell BK125.out 0).trans rfl, (blk_cell BK125.out 1).trans rfl, (blk_cell BK119.out 0).trans rfl, (blk_cell BK119.out 1).trans rfl, HS4_, HS5_, HS6_, HS7_⟩ (fun hHeld => ?_)
   clear hK K
   refine nu 71 ?_
   refine pu 8 (some 72) (ba 20 511) HT_.out ?_
   refine pu 9 (some 73) (ba 20 1023) HT_.out ?_
   refine pu 10 (some 74) (ba 20 2047) HT_.out ?_
   refine pu 12 (some 76) (ba 20 6143) HT_.out ?_
   refine pu 14 (some 78) (ba 20 22527) HT_.out ?_
   refine tu 11 (some 75) (ba 20 24575) HT_.out HW_.out hHeld ?_
   refine tu 13 (some 77) (ba 20 32767) HT_.out HW_.out hHeld ?_
   refine pu 15 (some 79) (ba 20 65535) HT_.out ?_
   refine tu 16 (some 80) (ba 20 131071) HT_.out HW_.out hHeld ?_
   refine one_ (i := 17) (N := some 81) (ba 20 262143) rfl rfl (one_of HT_.out (by kernel_rfl)) (by decide) (fun K hK => ?_)
   refine goes_ Try.func36 (by kernel_rfl) rfl #[.slice Ao10 t110.length co10, .agg #[.int .i64 ((rd_TTie t115 x10_2).f0), .int .i64 ((rd_TTie t115 x10_2).f1)]] (by rfl) rfl rfl qm ?_
   with_reducible refine (laws_loHas.calls k2 _ _ t110 ((rd_TTie t115 x10_2).f0) ((rd_TTie t115 x10_2).f1) false _ ?side1 ?side2 A51.out).mono ?_
   (case side1 => exact qc (Kd.R_reads' HO_100001.out).2.2)
   (case side2 => exact (Kd.R_reads' HO_100001.out).2.1)
   rintro e w64 ⟨rfl, hb⟩
   have HS4_ := (hb.cell (World.block_lt_of_cell? _ _ (hHeld.2.2.2.2.1))).trans (hHeld.2.2.2.2.1)
   have HS5_ := (hb.cell (World.block_lt_of_cell? _ _ (hHeld.2.2.2.2.2.1))).trans (hHeld.2.2.2.2.2.1)
   have HS6_ := (hb.cell (World.block_lt_of_cell? _ _ (hHeld.2.2.2.2.2.2.1))).trans (hHeld.2.2.2.2.2.2.1)
   have HS7_ := (hb.cell (World.block_lt_of_cell? _ _ (hHeld.2.2.2.2.2.2.2))).trans (hHeld.2.2.2.2.2.2.2)
   refine ⟨_, rfl, ?_⟩
   replace HO_100001 := q0 (Kd.R_below (qr HO_100001.out) hb)
   replace HO_101001 := q0 (Kd.R_below (qr HO_101001.out) hb)
   replace HO_102001 := q0 (Kd.R_below (qr HO_102001.out) hb)
   replace BK119 := q0 (kb BK119.out hb)
   replace BK122 := q0 (kb BK122.out hb)
   replace BK125 := q0 (kb BK125.out hb)
   replace HB := q0 (below_step (qb HB.out) hb)
   (try clear hb)
   (try clear hb2)
   (try clear hk)
   (try clear hi)
   refine hK.out _ _ ⟨(blk_cell BK125.out 0).trans rfl, (blk_cell BK125.out 1).trans rfl, (blk_cell BK119.out 0).trans rfl, (blk_cell BK119.out 1).trans rfl, HS4_, HS5_, HS6_, HS7_⟩ (fun hHeld => ?_)
   clear hK K
   refine nu 81 ?_
   refine pu 18 (some 82) (ba 20 524287) HT_.out ?_
   refine pu 19 (some 83) (ba 20 1048575) HT_.out ?_
   refine done_ (done_of HT_.out (by kernel_rfl)) ?_
   try go_wp2
   go_ret
   exact ⟨qe, qb HB.out⟩
 subst c52
 rw [if_pos rfl] at H
 have H' := Aside0.mk H
 clear H
 have hnb53 := NB125_119.out
 have hnc53 := NB119_125.out
 have hnb54 := NB125_122.out
 have hnc54 := NB122_125.out
 have hcz55_0 : wr.cell? ⟨gb125, 0, none⟩ = some (.int .i64 t101) := (blk_cell BK125.out 0).trans rfl
 have hcz55_1 : wr.cell? ⟨gb125, 1, none⟩ = some (.slice Ao22 t115.length co22) := (blk_cell BK125.out 1).trans rfl
 have hfz55_0 := blk_frozen BK125.out 0
 have hfz55_1 := blk_frozen BK125.out 1
 try go_wp2
 replace HO_100001 := q0 (Kd.R_drew HO_100001.out)
 replace HO_101001 := q0 (Kd.R_drew HO_101001.out)
 replace HO_102001 := q0 (Kd.R_drew HO_102001.out)
 replace BK119 := q0 (blk_drew BK119.out)
 replace BK122 := q0 (blk_drew BK122.out)
 replace BK125 := q0 (blk_drew BK125.out)
 replace HB := q0 (below_drew1 HB.out)
 have p131 : 0 ≤ (x10_2 : Int) := of_decide_eq_true qa
 have q131 : x10_2 < (t115.length : Int) := of_decide_eq_true qa
 obtain ⟨ad131, e131, hx131_0, hx131_1⟩ := at_TTie (Kd.R_reads' HO_102001.out).2.2 x10_2 p131 q131
 cases e131
 replace p131 := eq_true p131
 replace q131 := eq_true q131
 have p132 : 0 ≤ (x10_2 : Int) := of_decide_eq_true qa
 have q132 : x10_2 < (t115.length : Int) := of_decide_eq_true qa
 obtain ⟨ad132, e132, hx132_0, hx132_1⟩ := at_TTie (Kd.R_reads' HO_102001.out).2.2 x10_2 p132 q132
 obtain rfl : ad131 = ad132 := (by injection e132)
 replace p132 := eq_true p132
 replace q132 := eq_true q132
 refine start_ (n := 20) (S := fun w' => w'.cell? ⟨gb125, 0, none⟩ = some (.int .i64 t101) ∧ w'.cell? ⟨gb125, 1, none⟩ = some (.slice (some ad131) t115.length co22) ∧ w'.cell? ⟨gb119, 0, none⟩ = some (.int .i64 t109) ∧ w'.cell? ⟨gb119, 1, none⟩ = some (.slice Ao10 t110.length co10) ∧ w'.cell? (ad131.add ((x10_2).toNat * 2)) = some (.int .i64 ((rd_TTie t115 x10_2).f0)) ∧ w'.cell? ⟨(ad131.add ((x10_2).toNat * 2)).block, (ad131.add ((x10_2).toNat * 2)).off + 1, none⟩ = some (.int .i64 ((rd_TTie t115 x10_2).f1)) ∧ w'.cell? (ad131.add ((x10_2).toNat * 2)) = some (.int .i64 ((rd_TTie t115 x10_2).f0)) ∧ w'.cell? ⟨(ad131.add ((x10_2).toNat * 2)).block, (ad131.add ((x10_2).toNat * 2)).off + 1, none⟩ = some (.int .i64 ((rd_TTie t115 x10_2).f1))) (ds := []) (ba 20 0) (by kernel_rfl) rfl (by kernel_rfl) ⟨(blk_cell BK125.out 0).trans rfl, (blk_cell BK125.out 1).trans rfl, (blk_cell BK119.out 0).trans rfl, (blk_cell BK119.out 1).trans rfl, hx131_0, hx131_1, hx132_0, hx132_1⟩ (fun hHeld => ?_); refine with_tabW laws_FnNetAdd.tab11 laws_FnNetAdd.bits11 (fun HT_ HW_ => ?_)
 generalize wr.drew = w56 at HO_100001 HO_101001 HO_102001 BK119 BK122 BK125 HB hx131_0 hx131_1 hx132_0 hx132_1 hHeld ⊢
 refine pu 0 (some 64) (ba 20 1) HT_.out ?_
 refine pu 2 (some 66) (ba 20 5) HT_.out ?_
 refine pu 5 (some 69) (ba 20 37) HT_.out ?_
 refine pu 6 (some 70) (ba 20 101) HT_.out ?_
 refine tu 1 (some 65) (ba 20 103) HT_.out HW_.out hHeld ?_
 refine pu 3 (some 67) (ba 20 111) HT_.out ?_
 refine tu 4 (some 68) (ba 20 127) HT_.out HW_.out hHeld ?_
 refine one_ (i := 7) (N := some 71) (ba 20 255) rfl rfl (one_of HT_.out (by kernel_rfl)) (by decide) (fun K hK => ?_)
 refine goes_ Try.func35 (by kernel_rfl) rfl #[.int .i64 t111, .int .i64 t112] (by rfl) rfl rfl qm ?_
 with_reducible refine (laws_loTie.calls t111 t112 t104 t128 _ A49.out).mono ?_
 rintro e w57 ⟨rfl, hb⟩
 have HS4_ := (hb.cell (World.block_lt_of_cell? _ _ (hHeld.2.2.2.2.1))).trans (hHeld.2.2.2.2.1)
 have HS5_ := (hb.cell (World.block_lt_of_cell? _ _ (hHeld.2.2.2.2.2.1))).trans (hHeld.2.2.2.2.2.1)
 have HS6_ := (hb.cell (World.block_lt_of_cell? _ _ (hHeld.2.2.2.2.2.2.1))).trans (hHeld.2.2.2.2.2.2.1)
 have HS7_ := (hb.cell (World.block_lt_of_cell? _ _ (hHeld.2.2.2.2.2.2.2))).trans (hHeld.2.2.2.2.2.2.2)
 refine ⟨_, rfl, ?_⟩
 replace HO_100001 := q0 (Kd.R_below (qr HO_100001.out) hb)
 replace HO_101001 := q0 (Kd.R_below (qr HO_101001.out) hb)
 replace HO_102001 := q0 (Kd.R_below (qr HO_102001.out) hb)
 replace BK119 := q0 (kb BK119.out hb)
 replace BK122 := q0 (kb BK122.out hb)
 replace BK125 := q0 (kb BK125.out hb)
 replace HB := q0 (below_step (qb HB.out) hb)
 (try clear hb)
 (try clear hb2)
 (try clear hk)
 (try clear hi)
 refine hK.out _ _ ⟨(blk_cell BK125.out 0).trans rfl, (blk_cell BK125.out 1).trans rfl, (blk_cell BK119.out 0).trans rfl, (blk_cell BK119.out 1).trans rfl, HS4_, HS5_, HS6_, HS7_⟩ (fun hHeld => ?_)
 clear hK K
 refine nu 71 ?_
 refine pu 8 (some 72) (ba 20 511) HT_.out ?_
 refine pu 9 (some 73) (ba 20 1023) HT_.out ?_
 refine pu 10 (some 74) (ba 20 2047) HT_.out ?_
 refine pu 12 (some 76) (ba 20 6143) HT_.out ?_
 refine pu 14 (some 78) (ba 20 22527) HT_.out ?_
 refine tu 11 (some 75) (ba 20 24575) HT_.out HW_.out hHeld ?_
 refine tu 13 (some 77) (ba 20 32767) HT_.out HW_.out hHeld ?_
 refine pu 15 (some 79) (ba 20 65535) HT_.out ?_
 refine tu 16 (some 80) (ba 20 131071) HT_.out HW_.out hHeld ?_
 refine one_ (i := 17) (N := some 81) (ba 20 262143) rfl rfl (one_of HT_.out (by kernel_rfl)) (by decide) (fun K hK => ?_)
 refine goes_ Try.func36 (by kernel_rfl) rfl #[.slice Ao10 t110.length co10, .agg #[.int .i64 ((rd_TTie t115 x10_2).f0), .int .i64 ((rd_TTie t115 x10_2).f1)]] (by rfl) rfl rfl qm ?_
 with_reducible refine (laws_loHas.calls k2 _ _ t110 ((rd_TTie t115 x10_2).f0) ((rd_TTie t115 x10_2).f1) true _ ?side1 ?side2 A51.out).mono ?_
 (case side1 => exact qc (Kd.R_reads' HO_100001.out).2.2)
 (case side2 => exact (Kd.R_reads' HO_100001.out).2.1)
 rintro e w58 ⟨rfl, hb⟩
 have HS4_ := (hb.cell (World.block_lt_of_cell? _ _ (hHeld.2.2.2.2.1))).trans (hHeld.2.2.2.2.1)
 have HS5_ := (hb.cell (World.block_lt_of_cell? _ _ (hHeld.2.2.2.2.2.1))).trans (hHeld.2.2.2.2.2.1)
 have HS6_ := (hb.cell (World.block_lt_of_cell? _ _ (hHeld.2.2.2.2.2.2.1))).trans (hHeld.2.2.2.2.2.2.1)
 have HS7_ := (hb.cell (World.block_lt_of_cell? _ _ (hHeld.2.2.2.2.2.2.2))).trans (hHeld.2.2.2.2.2.2.2)
 refine ⟨_, rfl, ?_⟩
 replace HO_100001 := q0 (Kd.R_below (qr HO_100001.out) hb)
 replace HO_101001 := q0 (Kd.R_below (qr HO_101001.out) hb)
 replace HO_102001 := q0 (Kd.R_below (qr HO_102001.out) hb)
 replace BK119 := q0 (kb BK119.out hb)
 replace BK122 := q0 (kb BK122.out hb)
 replace BK125 := q0 (kb BK125.out hb)
 replace HB := q0 (below_step (qb HB.out) hb)
 (try clear hb)
 (try clear hb2)
 (try clear hk)
 (try clear hi)
 refine hK.out _ _ ⟨(blk_cell BK125.out 0).trans rfl, (blk_cell BK125.out 1).trans rfl, (blk_cell BK119.out 0).trans rfl, (blk_cell BK119.out 1).trans rfl, HS4_, HS5_, HS6_, HS7_⟩ (fun hHeld => ?_)
 clear hK K
 refine nu 81 ?_
 refine pu 18 (some 82) (ba 20 524287) HT_.out ?_
 refine pu 19 (some 83) (ba 20 1048575) HT_.out ?_
 refine done_ (done_of HT_.out (by kernel_rfl)) ?_
 try go_wp2
 go_roundg k2
 case measure => have := HJ5.out; have := HK2.out; omega
 case rel => exact ⟨(wrap64 (x10_2 + 1)), qs, H', ⟨by have := HJ5.out; have := HK2.out; omega⟩, ⟨qr HO_100001.out⟩, ⟨qr HO_101001.out⟩, ⟨qr HO_102001.out⟩, ⟨qk BK119.out⟩, ⟨qk BK122.out⟩, ⟨qk BK125.out⟩, ⟨qb HB.out⟩⟩

theorem laws_FnNetAdd.walk (P : laws_FnNetAdd.Pure) (a0 : Option Addr) (len0 cap0 : Nat) (z0 : List Int) (w : World) (w0 : (a0 = none ∧ len0 = 0 ∧ cap0 = 0 ∧ z0 = []) ∨ ∃ x, a0 = some x ∧ len0 ≤ cap0 ∧ cap0 ≤ maxLen ∧ z0.length = cap0 ∧ (∀ i, i < z0.length → w.cell? (x.add i) = some (.int .u8 (z0.getD i 0))) ∧ ∀ n ∈ z0, (Lit.int .u8 n).wf = true) (y0 : len0 * 1 ≤ 140737488351232) :
    Calls Try.prog 8 #[.slice a0 len0 cap0] w fun e w' => e = .returned (.bool true) ∧ Below w.heap.size w w' := by
  obtain ⟨l0, rfl, hr0, hm0, hw0, hc0⟩ := ReadsInt.ofRowC w0
  obtain ⟨k, h⟩ := P l0 hm0 y0 hw0
  refine (laws_FnNetAdd.calls k _ _ l0 true w (Kd.C_of_reads (d := (0 : Int)) (h1 := fun _ => rfl) hr0) hc0 h).mono ?_
  rintro e w' ⟨rfl, hd⟩
  exact ⟨rfl, hd⟩
end Go.Proofs.Ytgoembpmhlmafaa.P
