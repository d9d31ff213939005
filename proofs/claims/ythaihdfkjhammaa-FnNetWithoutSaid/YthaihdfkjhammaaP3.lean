import Derived.Test.YthaihdfkjhammaaP0
namespace Go.Proofs.Ythaihdfkjhammaa.P
open Go.RowKit Go.Proofs.YthaihdfkjhammaaW.PrintWords Go.Proofs.YthaihdfkjhammaaW.PrintLast Go.Proofs.YthaihdfkjhammaaW.PrintMore
attribute [local go_sem] max2_int min2_int max_two min_two max_three min_three max_four min_four
set_option linter.unusedVariables false
set_option linter.unusedSimpArgs false
attribute [local go_sem high] eqATie
set_option maxHeartbeats 8000000 in
set_option maxRecDepth 100000 in
theorem spec_l1Tie.calls (a0 : Int) (a1 : Int) (r1 : Int) (r2 : Int) (w : World) (h : spec_l1Tie.f a0 a1 = some (r1, r2)) :
    Calls Try.prog 60 #[.int .i64 a0, .int .i64 a1] w fun e w' => e = .returned (.agg #[.int .i64 r1, .int .i64 r2]) ∧ Below w.heap.size w w' := by
 have hu54 := Try.underlying54
 have HB := q0 (Below.refl w.heap.size w)
 have H : (if a0 < a1 then (some (a0, a1)) else (some (a1, a0))) = some (r1, r2) := h
 clear h
 by_cases c3 : a0 < a1
 · rw [if_pos c3] at H
   have c3b0 : decide (a0 < a1) = true := decide_eq_true c3
   clear c3
   simp only [Option.some.injEq, Prod.mk.injEq] at H
   obtain ⟨rfl, rfl⟩ := H
   go_enter Try.func60, Try.ntmps60
   go_wp2_with (first | ((with_reducible refine gate_dst (N := 4) rfl ?_); refine be 4 #[.int .i64 0, .int .i64 0] 54 ?_; intro gb100 hg w4 hbox hb; have n0_ := q0 (below_step (qb HB.out) hb); have n1_ := q0 (hbox); have n2_ := q0 ((bs HB.out hg : w.heap.size ≤ gb100)); have n3_ := q0 ((bs HB.out hg : w.heap.size ≤ gb100)); clear HB; have HB := n0_; have BK100 := n1_; have GW100 := n2_; have GE100 := n3_; clear n0_ n1_ n2_ n3_ hb hbox hg; have hcz5_0 : w4.cell? ⟨gb100, 0, none⟩ = some (.int .i64 0) := (blk_cell BK100.out 0).trans rfl; have hcz5_1 : w4.cell? ⟨gb100, 1, none⟩ = some (.int .i64 0) := (blk_cell BK100.out 1).trans rfl; have hfz5_0 := blk_frozen BK100.out 0; have hfz5_1 := blk_frozen BK100.out 1))
   refine bodyPost_ret (results_cell_row rfl _ _ gb100 54 #[.int .i64 a0, .int .i64 a1] (0, 0) _ rfl (by (with_reducible repeat (first | refine blk_drewN ?_ _ | refine blk_drew ?_ | refine blk_alloc ?_ _)); refine blk_put (cs := #[.int .i64 a0, .int .i64 0]) ?_ 1 _ rfl; (with_reducible repeat (first | refine blk_drewN ?_ _ | refine blk_drew ?_ | refine blk_alloc ?_ _)); refine blk_put (cs := #[.int .i64 0, .int .i64 0]) ?_ 0 _ rfl; (with_reducible repeat (first | refine blk_drewN ?_ _ | refine blk_drew ?_ | refine blk_alloc ?_ _)); exact BK100.out) Try.underlying54 rfl (by kernel_rfl)) rfl ?_
   exact ⟨qe, qb HB.out⟩
 rw [if_neg c3] at H
 have c3b0 : decide (a0 < a1) = false := decide_eq_false c3
 clear c3
 simp only [Option.some.injEq, Prod.mk.injEq] at H
 obtain ⟨rfl, rfl⟩ := H
 go_enter Try.func60, Try.ntmps60
 go_wp2_with (first | ((with_reducible refine gate_dst (N := 4) rfl ?_); refine be 4 #[.int .i64 0, .int .i64 0] 54 ?_; intro gb100 hg w6 hbox hb; have n0_ := q0 (below_step (qb HB.out) hb); have n1_ := q0 (hbox); have n2_ := q0 ((bs HB.out hg : w.heap.size ≤ gb100)); have n3_ := q0 ((bs HB.out hg : w.heap.size ≤ gb100)); clear HB; have HB := n0_; have BK100 := n1_; have GW100 := n2_; have GE100 := n3_; clear n0_ n1_ n2_ n3_ hb hbox hg; have hcz7_0 : w6.cell? ⟨gb100, 0, none⟩ = some (.int .i64 0) := (blk_cell BK100.out 0).trans rfl; have hcz7_1 : w6.cell? ⟨gb100, 1, none⟩ = some (.int .i64 0) := (blk_cell BK100.out 1).trans rfl; have hfz7_0 := blk_frozen BK100.out 0; have hfz7_1 := blk_frozen BK100.out 1))
 refine bodyPost_ret (results_cell_row rfl _ _ gb100 54 #[.int .i64 a1, .int .i64 a0] (0, 0) _ rfl (by (with_reducible repeat (first | refine blk_drewN ?_ _ | refine blk_drew ?_ | refine blk_alloc ?_ _)); refine blk_put (cs := #[.int .i64 a1, .int .i64 0]) ?_ 1 _ rfl; (with_reducible repeat (first | refine blk_drewN ?_ _ | refine blk_drew ?_ | refine blk_alloc ?_ _)); refine blk_put (cs := #[.int .i64 0, .int .i64 0]) ?_ 0 _ rfl; (with_reducible repeat (first | refine blk_drewN ?_ _ | refine blk_drew ?_ | refine blk_alloc ?_ _)); exact BK100.out) Try.underlying54 rfl (by kernel_rfl)) rfl ?_
 exact ⟨qe, qb HB.out⟩

attribute [local go_sem high] eqATie
def spec_l1Has.T4 : Bool × List (List Nat × List Nat) := (true, [([], []), ([0], [0]), ([], []), ([1, 2], [1, 2]), ([3], [3]), ([], []), ([], []), ([5, 6], [5, 6]), ([4, 7], [4, 7])])
def spec_l1Has.B4 : List Nat := [0, 1, 0, 7, 15, 0, 0, 96, 255]
theorem spec_l1Has.tab4 : rtab .any (opsOf Try.f52 4) = spec_l1Has.T4 := by kernel_rfl
theorem spec_l1Has.bits4 : waitsOk spec_l1Has.T4.2 spec_l1Has.B4 = true := by kernel_rfl
set_option maxHeartbeats 8000000 in
set_option maxRecDepth 100000 in
theorem spec_l1Has.calls (k : Nat) (a0_0 : Int) (A0_1 : Option Addr) (c0_1 : Nat) (l0_1 : List (STie)) (a1 : Int) (a2 : Int) (r : Bool) (w : World) (hr0_1 : Kd.C kTie w A0_1 l0_1.length l0_1) (hc0_1 : l0_1.length ≤ c0_1) (h : spec_l1Has.f k a0_0 l0_1 a1 a2 = some r) :
    Calls Try.prog 52 #[.agg #[.int .i64 a0_0, .slice A0_1 l0_1.length c0_1], .int .i64 a1, .int .i64 a2] w fun e w' => e = .returned (.bool r) ∧ Below w.heap.size w w' := by
 have hu30 := Try.underlying30
 have hu54 := Try.underlying54
 have HR0_1 := Aside0.mk hr0_1
 have HC0_1 := Aside0.mk hc0_1
 clear hr0_1 hc0_1
 have HB := q0 (Below.refl w.heap.size w)
 have H : (spec_l1Has.l0 k a1 a2 0 a0_0 l0_1) = some r := h
 clear h
 have H' := Aside0.mk H
 clear H
 go_enter Try.func52, Try.ntmps52
 go_wp2_with (first | ((with_reducible refine gate_dst (N := 3) rfl ?_); refine be 3 #[.int .i64 a0_0, .slice A0_1 l0_1.length c0_1] 30 ?_; intro gb102 hg w4 hbox hb; have n0_ := q0 (below_step (qb HB.out) hb); have n1_ := q0 (hbox); have n2_ := q0 ((bs HB.out hg : w.heap.size ≤ gb102)); have n3_ := q0 ((bs HB.out hg : w.heap.size ≤ gb102)); clear HB; have HB := n0_; have BK102 := n1_; have GW102 := n2_; have GE102 := n3_; clear n0_ n1_ n2_ n3_ hb hbox hg))
 go_loopg [7] k (fun kq v7 w' => ∃ (x7_1 : Int), v7 = .int .i64 x7_1 ∧ Aside0 (spec_l1Has.l0 kq a1 a2 x7_1 a0_0 l0_1 = some r) ∧ Aside0 (kq ≤ k) ∧ Aside0 (w'.heap[gb102]? = some (.cells #[.int .i64 a0_0, (.slice A0_1 l0_1.length c0_1)] 30 (0, 0))) ∧ Aside0 (Below w.heap.size w w'))
 case atStart => exact ⟨(0), qs, H', ⟨Nat.le_refl _⟩, ⟨qk BK102.out⟩, ⟨qb HB.out⟩⟩
 clear H'
 try clear p2
 obtain ⟨x7_1, rfl, HA, HK1, BK102, HB⟩ := hrel
 rcases gk with _ | k1
 · exact absurd HA.out (by simp [spec_l1Has.l0])
 have H := HA.out
 clear HA
 simp only [spec_l1Has.l0] at H
 by_cases c5 : x7_1 < (l0_1.length : Int)
 rotate_left
 · rw [if_neg c5] at H
   have c5b0 : decide (x7_1 < (l0_1.length : Int)) = false := decide_eq_false c5
   clear c5
   obtain rfl := Option.some.inj H
   have hcz15_0 : wr.cell? ⟨gb102, 0, none⟩ = some (.int .i64 a0_0) := (blk_cell BK102.out 0).trans rfl
   have hcz15_1 : wr.cell? ⟨gb102, 1, none⟩ = some (.slice A0_1 l0_1.length c0_1) := (blk_cell BK102.out 1).trans rfl
   have hfz15_0 := blk_frozen BK102.out 0
   have hfz15_1 := blk_frozen BK102.out 1
   go_wp2
   go_ret
   exact ⟨qe, qb HB.out⟩
 rw [if_pos c5] at H
 have c5b0 : decide (x7_1 < (l0_1.length : Int)) = true := decide_eq_true c5
 clear c5
 by_cases c6 : 0 ≤ x7_1
 rotate_left
 · rw [if_neg c6] at H
   exact absurd H (by simp)
 rw [if_pos c6] at H
 have c6b0 : decide (0 ≤ x7_1) = true := decide_eq_true c6
 clear c6
 replace H := Option.bind_eq_some_iff.mp H
 obtain ⟨⟨t101, t103⟩, A70, H⟩ := H
 replace H : (if (((rd_TTie l0_1 x7_1).f0) == t101 && (((rd_TTie l0_1 x7_1).f1) == t103)) = true then (some true) else (spec_l1Has.l0 k1 a1 a2 (wrap64 (x7_1 + 1)) a0_0 l0_1)) = some r := H
 have A7 := Aside0.mk A70
 clear A70
 by_cases c8 : (((rd_TTie l0_1 x7_1).f0) == t101 && (((rd_TTie l0_1 x7_1).f1) == t103)) = true
 · rw [if_pos c8] at H
   have c8b0 : (((rd_TTie l0_1 x7_1).f0) == t101 && (((rd_TTie l0_1 x7_1).f1) == t103)) = true := c8
   (try (have c8b1 : decide (((rd_TTie l0_1 x7_1).f0) = t101 && (((rd_TTie l0_1 x7_1).f1) == t103)) = true := by simpa using c8))
   (try (have c8b2 : (((rd_TTie l0_1 x7_1).f0) == t101 && (((rd_TTie l0_1 x7_1).f1) == t103)) = true := by simpa using c8))
   clear c8
   obtain rfl := Option.some.inj H
   have hcz9_0 : wr.cell? ⟨gb102, 0, none⟩ = some (.int .i64 a0_0) := (blk_cell BK102.out 0).trans rfl
   have hcz9_1 : wr.cell? ⟨gb102, 1, none⟩ = some (.slice A0_1 l0_1.length c0_1) := (blk_cell BK102.out 1).trans rfl
   have hfz9_0 := blk_frozen BK102.out 0
   have hfz9_1 := blk_frozen BK102.out 1
   try go_wp2
   have n0_ := q0 (blk_drew BK102.out)
   have n1_ := q0 (below_drew1 HB.out)
   clear BK102
   clear HB
   have BK102 := n0_
   have HB := n1_
   clear n0_ n1_
   have p100 : 0 ≤ (x7_1 : Int) := of_decide_eq_true qa
   have q100 : x7_1 < (l0_1.length : Int) := of_decide_eq_true qa
   obtain ⟨ad100, e100, hx100_0, hx100_1⟩ := at_TTie HR0_1.out x7_1 p100 q100
   have hw100_1 := hx100_1
   have hw100_0 := hx100_0
   cases e100
   replace hx100_0 := (HB.out.cell (World.block_lt_of_cell? w _ hx100_0)).trans hx100_0
   replace hx100_1 := (HB.out.cell (World.block_lt_of_cell? w _ hx100_1)).trans hx100_1
   replace p100 := eq_true p100
   replace q100 := eq_true q100
   refine start_ (n := 9) (S := fun w' => w'.cell? ⟨gb102, 0, none⟩ = some (.int .i64 a0_0) ∧ w'.cell? ⟨gb102, 1, none⟩ = some (.slice (some ad100) l0_1.length c0_1) ∧ w'.cell? (ad100.add ((x7_1).toNat * 2)) = some (.int .i64 ((rd_TTie l0_1 x7_1).f0)) ∧ w'.cell? ⟨(ad100.add ((x7_1).toNat * 2)).block, (ad100.add ((x7_1).toNat * 2)).off + 1, none⟩ = some (.int .i64 ((rd_TTie l0_1 x7_1).f1))) (ds := []) (ba 9 0) (by kernel_rfl) rfl (by kernel_rfl) ⟨(blk_cell BK102.out 0).trans rfl, (blk_cell BK102.out 1).trans rfl, ((HB.out.cell (World.block_lt_of_cell? w _ hw100_0)).trans hw100_0), ((HB.out.cell (World.block_lt_of_cell? w _ hw100_1)).trans hw100_1)⟩ (fun hHeld => ?_); refine with_tabW spec_l1Has.tab4 spec_l1Has.bits4 (fun HT_ HW_ => ?_)
   generalize wr.drew = w10 at BK102 HB hx100_0 hx100_1 hHeld ⊢
   refine pu 0 (some 15) (ba 9 1) HT_.out ?_
   refine pu 2 (some 17) (ba 9 5) HT_.out ?_
   refine pu 5 (some 20) (ba 9 37) HT_.out ?_
   refine pu 6 (some 21) (ba 9 101) HT_.out ?_
   refine tu 1 (some 16) (ba 9 103) HT_.out HW_.out hHeld ?_
   refine pu 3 (some 18) (ba 9 111) HT_.out ?_
   refine tu 4 (some 19) (ba 9 127) HT_.out HW_.out hHeld ?_
   refine one_ (i := 7) (N := some 22) (ba 9 255) rfl rfl (one_of HT_.out (by kernel_rfl)) (by decide) (fun K hK => ?_)
   refine goes_ Try.func60 (by kernel_rfl) rfl #[.int .i64 a1, .int .i64 a2] (by rfl) rfl rfl qm ?_
   with_reducible refine (spec_l1Tie.calls a1 a2 t101 t103 _ A7.out).mono ?_
   rintro e w11 ⟨rfl, hb⟩
   refine ⟨_, rfl, ?_⟩
   have n0_ := q0 (kb BK102.out hb)
   have n1_ := q0 (below_step (qb HB.out) hb)
   clear BK102
   clear HB
   have BK102 := n0_
   have HB := n1_
   clear n0_ n1_
   (try clear hb)
   (try clear hb2)
   (try clear hk)
   (try clear hi)
   refine hK.out _ _ ⟨(blk_cell BK102.out 0).trans rfl, (blk_cell BK102.out 1).trans rfl, ((HB.out.cell (World.block_lt_of_cell? w _ hw100_0)).trans hw100_0), ((HB.out.cell (World.block_lt_of_cell? w _ hw100_1)).trans hw100_1)⟩ (fun hHeld => ?_)
   clear hK K
   refine nu 22 ?_
   refine pu 8 (some 23) (ba 9 511) HT_.out ?_
   refine done_ (done_of HT_.out (by kernel_rfl)) ?_
   try go_wp2
   go_ret
   exact ⟨qe, qb HB.out⟩
 rw [if_neg c8] at H
 have c8b0 : (((rd_TTie l0_1 x7_1).f0) == t101 && (((rd_TTie l0_1 x7_1).f1) == t103)) = false := by simpa using c8
 (try (have c8b1 : decide (((rd_TTie l0_1 x7_1).f0) = t101 && (((rd_TTie l0_1 x7_1).f1) == t103)) = false := by simpa using c8))
 (try (have c8b2 : (((rd_TTie l0_1 x7_1).f0) == t101 && (((rd_TTie l0_1 x7_1).f1) == t103)) = false := by simpa using c8))
 (try (have c8b3 : ¬ (((rd_TTie l0_1 x7_1).f0) = t101 && (((rd_TTie l0_1 x7_1).f1) == t103)) := by simpa using c8))
 clear c8
 have H' := Aside0.mk H
 clear H
 have hcz12_0 : wr.cell? ⟨gb102, 0, none⟩ = some (.int .i64 a0_0) := (blk_cell BK102.out 0).trans rfl
 have hcz12_1 : wr.cell? ⟨gb102, 1, none⟩ = some (.slice A0_1 l0_1.length c0_1) := (blk_cell BK102.out 1).trans rfl
 have hfz12_0 := blk_frozen BK102.out 0
 have hfz12_1 := blk_frozen BK102.out 1
 try go_wp2
 have n0_ := q0 (blk_drew BK102.out)
 have n1_ := q0 (below_drew1 HB.out)
 clear BK102
 clear HB
 have BK102 := n0_
 have HB := n1_
 clear n0_ n1_
 have p100 : 0 ≤ (x7_1 : Int) := of_decide_eq_true qa
 have q100 : x7_1 < (l0_1.length : Int) := of_decide_eq_true qa
 obtain ⟨ad100, e100, hx100_0, hx100_1⟩ := at_TTie HR0_1.out x7_1 p100 q100
 have hw100_1 := hx100_1
 have hw100_0 := hx100_0
 cases e100
 replace hx100_0 := (HB.out.cell (World.block_lt_of_cell? w _ hx100_0)).trans hx100_0
 replace hx100_1 := (HB.out.cell (World.block_lt_of_cell? w _ hx100_1)).trans hx100_1
 replace p100 := eq_true p100
 replace q100 := eq_true q100
 refine start_ (n := 9) (S := fun w' => w'.cell? ⟨gb102, 0, none⟩ = some (.int .i64 a0_0) ∧ w'.cell? ⟨gb102, 1, none⟩ = some (.slice (some ad100) l0_1.length c0_1) ∧ w'.cell? (ad100.add ((x7_1).toNat * 2)) = some (.int .i64 ((rd_TTie l0_1 x7_1).f0)) ∧ w'.cell? ⟨(ad100.add ((x7_1).toNat * 2)).block, (ad100.add ((x7_1).toNat * 2)).off + 1, none⟩ = some (.int .i64 ((rd_TTie l0_1 x7_1).f1))) (ds := []) (ba 9 0) (by kernel_rfl) rfl (by kernel_rfl) ⟨(blk_cell BK102.out 0).trans rfl, (blk_cell BK102.out 1).trans rfl, ((HB.out.cell (World.block_lt_of_cell? w _ hw100_0)).trans hw100_0), ((HB.out.cell (World.block_lt_of_cell? w _ hw100_1)).trans hw100_1)⟩ (fun hHeld => ?_); refine with_tabW spec_l1Has.tab4 spec_l1Has.bits4 (fun HT_ HW_ => ?_)
 generalize wr.drew = w13 at BK102 HB hx100_0 hx100_1 hHeld ⊢
 refine pu 0 (some 15) (ba 9 1) HT_.out ?_
 refine pu 2 (some 17) (ba 9 5) HT_.out ?_
 refine pu 5 (some 20) (ba 9 37) HT_.out ?_
 refine pu 6 (some 21) (ba 9 101) HT_.out ?_
 refine tu 1 (some 16) (ba 9 103) HT_.out HW_.out hHeld ?_
 refine pu 3 (some 18) (ba 9 111) HT_.out ?_
 refine tu 4 (some 19) (ba 9 127) HT_.out HW_.out hHeld ?_
 refine one_ (i := 7) (N := some 22) (ba 9 255) rfl rfl (one_of HT_.out (by kernel_rfl)) (by decide) (fun K hK => ?_)
 refine goes_ Try.func60 (by kernel_rfl) rfl #[.int .i64 a1, .int .i64 a2] (by rfl) rfl rfl qm ?_
 with_reducible refine (spec_l1Tie.calls a1 a2 t101 t103 _ A7.out).mono ?_
 rintro e w14 ⟨rfl, hb⟩
 refine ⟨_, rfl, ?_⟩
 have n0_ := q0 (kb BK102.out hb)
 have n1_ := q0 (below_step (qb HB.out) hb)
 clear BK102
 clear HB
 have BK102 := n0_
 have HB := n1_
 clear n0_ n1_
 (try clear hb)
 (try clear hb2)
 (try clear hk)
 (try clear hi)
 refine hK.out _ _ ⟨(blk_cell BK102.out 0).trans rfl, (blk_cell BK102.out 1).trans rfl, ((HB.out.cell (World.block_lt_of_cell? w _ hw100_0)).trans hw100_0), ((HB.out.cell (World.block_lt_of_cell? w _ hw100_1)).trans hw100_1)⟩ (fun hHeld => ?_)
 clear hK K
 refine nu 22 ?_
 refine pu 8 (some 23) (ba 9 511) HT_.out ?_
 refine done_ (done_of HT_.out (by kernel_rfl)) ?_
 try go_wp2
 go_roundg k1
 case measure => have := HK1.out; omega
 case rel => exact ⟨(wrap64 (x7_1 + 1)), qs, H', ⟨by have := HK1.out; omega⟩, ⟨qk BK102.out⟩, ⟨qb HB.out⟩⟩

end Go.Proofs.Ythaihdfkjhammaa.P
