import Derived.Test.YtheoebelhgbejaaP0
namespace Go.Proofs.Ytheoebelhgbejaa.P
open Go.RowKit Go.Proofs.YtheoebelhgbejaaW.PrintWords Go.Proofs.YtheoebelhgbejaaW.PrintLast Go.Proofs.YtheoebelhgbejaaW.PrintMore
attribute [local go_sem] max2_int min2_int max_two min_two max_three min_three max_four min_four
set_option linter.unusedVariables false
set_option linter.unusedSimpArgs false
attribute [local go_sem high] eqATie
attribute [local go_sem high] eqATie
set_option maxHeartbeats 8000000 in
set_option maxRecDepth 100000 in
theorem slices_Index_Tie.calls (k : Nat) (A0 : Option Addr) (c0 : Nat) (l0 : List (STie)) (a1_0 : Int) (a1_1 : Int) (r : Int) (w : World) (hr0 : Kd.C kTie w A0 l0.length l0) (hc0 : l0.length ≤ c0) (h : slices_Index_Tie.f k l0 a1_0 a1_1 = some r) :
    Calls Try.prog 85 #[.slice A0 l0.length c0, .agg #[.int .i64 a1_0, .int .i64 a1_1]] w fun e w' => e = .returned (.int .i64 r) ∧ Below w.heap.size w w' := by
 have hu44 := Try.underlying44
 have HR0 := Aside0.mk hr0
 have HC0 := Aside0.mk hc0
 clear hr0 hc0
 have HB := q0 (Below.refl w.heap.size w)
 have H : (slices_Index_Tie.l0 k l0 (l0.length : Int) 0 a1_0 a1_1) = some r := h
 clear h
 have H' := Aside0.mk H
 clear H
 go_enter Try.func85, Try.ntmps85
 go_wp2_with (first | ((with_reducible refine gate_dst (N := 3) rfl ?_); refine be 3 #[.int .i64 a1_0, .int .i64 a1_1] 44 ?_; intro gb101 hg w3 hbox hb; have n0_ := q0 (below_step (qb HB.out) hb); have n1_ := q0 (hbox); have n2_ := q0 ((bs HB.out hg : w.heap.size ≤ gb101)); have n3_ := q0 ((bs HB.out hg : w.heap.size ≤ gb101)); clear HB; have HB := n0_; have BK101 := n1_; have GW101 := n2_; have GE101 := n3_; clear n0_ n1_ n2_ n3_ hb hbox hg))
 repeat (go_quiet (first | ((with_reducible refine gate_dst (N := 3) rfl ?_); refine be 3 #[.int .i64 a1_0, .int .i64 a1_1] 44 ?_; intro gb101 hg w3 hbox hb; have n0_ := q0 (below_step (qb HB.out) hb); have n1_ := q0 (hbox); have n2_ := q0 ((bs HB.out hg : w.heap.size ≤ gb101)); have n3_ := q0 ((bs HB.out hg : w.heap.size ≤ gb101)); clear HB; have HB := n0_; have BK101 := n1_; have GW101 := n2_; have GE101 := n3_; clear n0_ n1_ n2_ n3_ hb hbox hg)); try go_wp2_with (first | ((with_reducible refine gate_dst (N := 3) rfl ?_); refine be 3 #[.int .i64 a1_0, .int .i64 a1_1] 44 ?_; intro gb101 hg w3 hbox hb; have n0_ := q0 (below_step (qb HB.out) hb); have n1_ := q0 (hbox); have n2_ := q0 ((bs HB.out hg : w.heap.size ≤ gb101)); have n3_ := q0 ((bs HB.out hg : w.heap.size ≤ gb101)); clear HB; have HB := n0_; have BK101 := n1_; have GW101 := n2_; have GE101 := n3_; clear n0_ n1_ n2_ n3_ hb hbox hg)))
 go_loopg [8] k (fun kq v8 w' => ∃ (x8_1 : Int), v8 = .int .i64 x8_1 ∧ Aside0 (slices_Index_Tie.l0 kq l0 (l0.length : Int) x8_1 a1_0 a1_1 = some r) ∧ Aside0 (kq ≤ k) ∧ Aside0 (w'.heap[gb101]? = some (.cells #[.int .i64 a1_0, .int .i64 a1_1] 44 (0, 0))) ∧ Aside0 (Below w.heap.size w w'))
 case atStart => exact ⟨(0), qs, H', ⟨Nat.le_refl _⟩, ⟨qk BK101.out⟩, ⟨qb HB.out⟩⟩
 clear H'
 try clear p2
 obtain ⟨x8_1, rfl, HA, HK1, BK101, HB⟩ := hrel
 rcases gk with _ | k1
 · exact absurd HA.out (by simp [slices_Index_Tie.l0])
 have H := HA.out
 clear HA
 simp only [slices_Index_Tie.l0] at H
 by_cases c4 : x8_1 < (l0.length : Int)
 rotate_left
 · rw [if_neg c4] at H
   have c4b0 : decide (x8_1 < (l0.length : Int)) = false := decide_eq_false c4
   clear c4
   obtain rfl := Option.some.inj H
   go_wp2
   repeat (go_quiet (fail); try go_wp2)
   go_ret
   exact ⟨qe, qb HB.out⟩
 rw [if_pos c4] at H
 have c4b0 : decide (x8_1 < (l0.length : Int)) = true := decide_eq_true c4
 clear c4
 by_cases c5 : 0 ≤ x8_1
 rotate_left
 · rw [if_neg c5] at H
   exact absurd H (by simp)
 rw [if_pos c5] at H
 have c5b0 : decide (0 ≤ x8_1) = true := decide_eq_true c5
 clear c5
 by_cases c6 : x8_1 < (l0.length : Int)
 rotate_left
 · rw [if_neg c6] at H
   exact absurd H (by simp)
 rw [if_pos c6] at H
 have c6b0 : decide (x8_1 < (l0.length : Int)) = true := decide_eq_true c6
 clear c6
 by_cases c7 : (a1_0 == ((rd_TTie l0 x8_1).f0) && (a1_1 == ((rd_TTie l0 x8_1).f1))) = true
 · rw [if_pos c7] at H
   have c7b0 : (a1_0 == ((rd_TTie l0 x8_1).f0) && (a1_1 == ((rd_TTie l0 x8_1).f1))) = true := c7
   (try (have c7b1 : decide (a1_0 = ((rd_TTie l0 x8_1).f0) && (a1_1 == ((rd_TTie l0 x8_1).f1))) = true := by simpa using c7))
   (try (have c7b2 : (a1_0 == ((rd_TTie l0 x8_1).f0) && (a1_1 == ((rd_TTie l0 x8_1).f1))) = true := by simpa using c7))
   clear c7
   obtain rfl := Option.some.inj H
   have hcz8_0 : wr.cell? ⟨gb101, 0, none⟩ = some (.int .i64 a1_0) := (blk_cell BK101.out 0).trans rfl
   have hcz8_1 : wr.cell? ⟨gb101, 1, none⟩ = some (.int .i64 a1_1) := (blk_cell BK101.out 1).trans rfl
   have hfz8_0 := blk_frozen BK101.out 0
   have hfz8_1 := blk_frozen BK101.out 1
   have p100 : 0 ≤ (x8_1 : Int) := of_decide_eq_true qa
   have q100 : x8_1 < (l0.length : Int) := of_decide_eq_true qa
   obtain ⟨ad100, e100, hx100_0, hx100_1⟩ := at_TTie HR0.out x8_1 p100 q100
   cases e100
   replace hx100_0 := (HB.out.cell (World.block_lt_of_cell? w _ hx100_0)).trans hx100_0
   replace hx100_1 := (HB.out.cell (World.block_lt_of_cell? w _ hx100_1)).trans hx100_1
   replace p100 := eq_true p100
   replace q100 := eq_true q100
   go_wp2
   repeat (go_quiet (fail); try go_wp2)
   go_ret
   exact ⟨qe, qb HB.out⟩
 rw [if_neg c7] at H
 have c7b0 : (a1_0 == ((rd_TTie l0 x8_1).f0) && (a1_1 == ((rd_TTie l0 x8_1).f1))) = false := by simpa using c7
 (try (have c7b1 : decide (a1_0 = ((rd_TTie l0 x8_1).f0) && (a1_1 == ((rd_TTie l0 x8_1).f1))) = false := by simpa using c7))
 (try (have c7b2 : (a1_0 == ((rd_TTie l0 x8_1).f0) && (a1_1 == ((rd_TTie l0 x8_1).f1))) = false := by simpa using c7))
 (try (have c7b3 : ¬ (a1_0 = ((rd_TTie l0 x8_1).f0) && (a1_1 == ((rd_TTie l0 x8_1).f1))) := by simpa using c7))
 clear c7
 have H' := Aside0.mk H
 clear H
 have hcz9_0 : wr.cell? ⟨gb101, 0, none⟩ = some (.int .i64 a1_0) := (blk_cell BK101.out 0).trans rfl
 have hcz9_1 : wr.cell? ⟨gb101, 1, none⟩ = some (.int .i64 a1_1) := (blk_cell BK101.out 1).trans rfl
 have hfz9_0 := blk_frozen BK101.out 0
 have hfz9_1 := blk_frozen BK101.out 1
 have p100 : 0 ≤ (x8_1 : Int) := of_decide_eq_true qa
 have q100 : x8_1 < (l0.length : Int) := of_decide_eq_true qa
 obtain ⟨ad100, e100, hx100_0, hx100_1⟩ := at_TTie HR0.out x8_1 p100 q100
 cases e100
 replace hx100_0 := (HB.out.cell (World.block_lt_of_cell? w _ hx100_0)).trans hx100_0
 replace hx100_1 := (HB.out.cell (World.block_lt_of_cell? w _ hx100_1)).trans hx100_1
 replace p100 := eq_true p100
 replace q100 := eq_true q100
 go_wp2
 repeat (go_quiet (fail); try go_wp2)
 go_roundg k1
 case measure => have := HK1.out; omega
 case rel => exact ⟨(wrap64 (x8_1 + 1)), qs, H', ⟨by have := HK1.out; omega⟩, ⟨qk BK101.out⟩, ⟨qb HB.out⟩⟩

set_option maxHeartbeats 8000000 in
set_option maxRecDepth 100000 in
theorem slices_Contains_Tie.calls (k : Nat) (A0 : Option Addr) (c0 : Nat) (l0 : List (STie)) (a1_0 : Int) (a1_1 : Int) (r : Bool) (w : World) (hr0 : Kd.C kTie w A0 l0.length l0) (hc0 : l0.length ≤ c0) (h : slices_Contains_Tie.f k l0 a1_0 a1_1 = some r) :
    Calls Try.prog 70 #[.slice A0 l0.length c0, .agg #[.int .i64 a1_0, .int .i64 a1_1]] w fun e w' => e = .returned (.bool r) ∧ Below w.heap.size w w' := by
 have hu44 := Try.underlying44
 have HR0 := Aside0.mk hr0
 have HC0 := Aside0.mk hc0
 clear hr0 hc0
 have HB := q0 (Below.refl w.heap.size w)
 have H : ((slices_Index_Tie.f k l0 a1_0 a1_1).bind fun t100 => (some (decide (t100 ≥ 0)))) = some r := h
 clear h
 replace H := Option.bind_eq_some_iff.mp H
 obtain ⟨t100, A30, H⟩ := H
 replace H : (some (decide (t100 ≥ 0))) = some r := H
 have A3 := Aside0.mk A30
 clear A30
 obtain rfl := Option.some.inj H
 go_enter Try.func70, Try.ntmps70
 go_wp2_with (first | ((with_reducible refine gate_dst (N := 3) rfl ?_); refine be 3 #[.int .i64 a1_0, .int .i64 a1_1] 44 ?_; intro gb101 hg w4 hbox hb; have n0_ := q0 (below_step (qb HB.out) hb); have n1_ := q0 (hbox); have n2_ := q0 ((bs HB.out hg : w.heap.size ≤ gb101)); have n3_ := q0 ((bs HB.out hg : w.heap.size ≤ gb101)); clear HB; have HB := n0_; have BK101 := n1_; have GW101 := n2_; have GE101 := n3_; clear n0_ n1_ n2_ n3_ hb hbox hg; have hcz5_0 : w4.cell? ⟨gb101, 0, none⟩ = some (.int .i64 a1_0) := (blk_cell BK101.out 0).trans rfl; have hcz5_1 : w4.cell? ⟨gb101, 1, none⟩ = some (.int .i64 a1_1) := (blk_cell BK101.out 1).trans rfl; have hfz5_0 := blk_frozen BK101.out 0; have hfz5_1 := blk_frozen BK101.out 1) | ((with_reducible refine gate_callee (f := 85) rfl ?_); refine goesL_ (some 7) rfl rfl Try.func85 (by kernel_rfl) rfl #[.slice A0 l0.length c0, .agg #[.int .i64 a1_0, .int .i64 a1_1]] rfl qm ?_; (with_reducible refine (slices_Index_Tie.calls k _ _ l0 a1_0 a1_1 t100 _ ?side1 ?side2 A3.out).mono ?_); (case side1 => exact qc (Kd.C_below HR0.out HB.out)); (case side2 => exact HC0.out); rintro e w6 ⟨rfl, hb⟩; refine ⟨_, rfl, ?_⟩; have n0_ := q0 (kb BK101.out hb); have n1_ := q0 (below_step (qb HB.out) hb); clear BK101 HB; have BK101 := n0_; have HB := n1_; clear n0_ n1_; (try clear hb); (try clear hb2); (try clear hk); (try clear hi)))
 go_ret
 exact ⟨qe, qb HB.out⟩

end Go.Proofs.Ytheoebelhgbejaa.P
