import Derived.Test.YtheoebelhgbejaaP0
import Derived.Test.YtheoebelhgbejaaP1
import Derived.Test.YtheoebelhgbejaaP8
namespace Go.Proofs.Ytheoebelhgbejaa.P
open Go.RowKit Go.Proofs.YtheoebelhgbejaaW.PrintWords Go.Proofs.YtheoebelhgbejaaW.PrintLast Go.Proofs.YtheoebelhgbejaaW.PrintMore
attribute [local go_sem] max2_int min2_int max_two min_two max_three min_three max_four min_four
set_option linter.unusedVariables false
set_option linter.unusedSimpArgs false
attribute [local go_sem high] eqATie
set_option maxHeartbeats 8000000 in
set_option maxRecDepth 100000 in
theorem spec_WayCount.calls (k : Nat) (a0_0 : Int) (A0_1 : Option Addr) (c0_1 : Nat) (l0_1 : List (STie)) (r : Int) (w : World) (hr0_1 : Kd.C kTie w A0_1 l0_1.length l0_1) (hc0_1 : l0_1.length ≤ c0_1) (h : spec_WayCount.f k a0_0 l0_1 = some r) :
    Calls Try.prog 42 #[.agg #[.int .i64 a0_0, .slice A0_1 l0_1.length c0_1]] w fun e w' => e = .returned (.int .i64 r) ∧ Below w.heap.size w w' := by
 have hu30 := Try.underlying30
 have HR0_1 := Aside0.mk hr0_1
 have HC0_1 := Aside0.mk hc0_1
 clear hr0_1 hc0_1
 have HB := q0 (Below.refl w.heap.size w)
 have H : ((spec_NetOk.f k a0_0 l0_1).bind fun t100 => (if t100 = true then ((spec_WayParts.f k a0_0 l0_1).bind fun t101 => (spec_WayCount.l0 k t101 0 0)) else (some (-1)))) = some r := h
 clear h
 replace H := Option.bind_eq_some_iff.mp H
 obtain ⟨t100, A20, H⟩ := H
 replace H : (if t100 = true then ((spec_WayParts.f k a0_0 l0_1).bind fun t101 => (spec_WayCount.l0 k t101 0 0)) else (some (-1))) = some r := H
 have A2 := Aside0.mk A20
 clear A20
 by_cases c3 : t100 = true
 rotate_left
 · replace c3 := Bool.eq_false_iff.mpr c3
   subst c3
   have H1 : (some (-1)) = some r := by rw [if_neg (show ¬ (false = true) by decide)] at H; exact H
   clear H
   have H := H1
   clear H1
   obtain rfl := Option.some.inj H
   go_enter Try.func42, Try.ntmps42
   go_wp2_with (first | ((with_reducible refine gate_dst (N := 1) rfl ?_); refine be 1 #[.int .i64 a0_0, .slice A0_1 l0_1.length c0_1] 30 ?_; intro gb102 hg w16 hbox hb; have n0_ := q0 (below_step (qb HB.out) hb); have n1_ := q0 (hbox); have n2_ := q0 ((bs HB.out hg : w.heap.size ≤ gb102)); have n3_ := q0 ((bs HB.out hg : w.heap.size ≤ gb102)); clear HB; have HB := n0_; have BK102 := n1_; have GW102 := n2_; have GE102 := n3_; clear n0_ n1_ n2_ n3_ hb hbox hg; have hcz17_0 : w16.cell? ⟨gb102, 0, none⟩ = some (.int .i64 a0_0) := (blk_cell BK102.out 0).trans rfl; have hcz17_1 : w16.cell? ⟨gb102, 1, none⟩ = some (.slice A0_1 l0_1.length c0_1) := (blk_cell BK102.out 1).trans rfl; have hfz17_0 := blk_frozen BK102.out 0; have hfz17_1 := blk_frozen BK102.out 1) | ((with_reducible refine gate_callee (f := 49) rfl ?_); refine goesL_ (some 7) rfl rfl Try.func49 (by kernel_rfl) rfl #[.agg #[.int .i64 a0_0, .slice A0_1 l0_1.length c0_1]] rfl qm ?_; (with_reducible refine (spec_NetOk.calls k a0_0 _ _ l0_1 false _ ?side1 ?side2 A2.out).mono ?_); (case side1 => exact qc (Kd.C_below HR0_1.out HB.out)); (case side2 => exact HC0_1.out); rintro e w18 ⟨rfl, hb⟩; refine ⟨_, rfl, ?_⟩; have n0_ := q0 (kb BK102.out hb); have n1_ := q0 (below_step (qb HB.out) hb); clear BK102 HB; have BK102 := n0_; have HB := n1_; clear n0_ n1_; (try clear hb); (try clear hb2); (try clear hk); (try clear hi)))
   go_ret
   exact ⟨qe, qb HB.out⟩
 subst c3
 have H1 : ((spec_WayParts.f k a0_0 l0_1).bind fun t101 => (spec_WayCount.l0 k t101 0 0)) = some r := by rw [if_pos rfl] at H; exact H
 clear H
 have H := H1
 clear H1
 replace H := Option.bind_eq_some_iff.mp H
 obtain ⟨t101, A40, H⟩ := H
 replace H : (spec_WayCount.l0 k t101 0 0) = some r := H
 have A4 := Aside0.mk A40
 clear A40
 have H' := Aside0.mk H
 clear H
 go_enter Try.func42, Try.ntmps42
 go_wp2_with (first | ((with_reducible refine gate_dst (N := 1) rfl ?_); refine be 1 #[.int .i64 a0_0, .slice A0_1 l0_1.length c0_1] 30 ?_; intro gb102 hg w5 hbox hb; have n0_ := q0 (below_step (qb HB.out) hb); have n1_ := q0 (hbox); have n2_ := q0 ((bs HB.out hg : w.heap.size ≤ gb102)); have n3_ := q0 ((bs HB.out hg : w.heap.size ≤ gb102)); clear HB; have HB := n0_; have BK102 := n1_; have GW102 := n2_; have GE102 := n3_; clear n0_ n1_ n2_ n3_ hb hbox hg; have hcz6_0 : w5.cell? ⟨gb102, 0, none⟩ = some (.int .i64 a0_0) := (blk_cell BK102.out 0).trans rfl; have hcz6_1 : w5.cell? ⟨gb102, 1, none⟩ = some (.slice A0_1 l0_1.length c0_1) := (blk_cell BK102.out 1).trans rfl; have hfz6_0 := blk_frozen BK102.out 0; have hfz6_1 := blk_frozen BK102.out 1) | ((with_reducible refine gate_callee (f := 49) rfl ?_); refine goesL_ (some 7) rfl rfl Try.func49 (by kernel_rfl) rfl #[.agg #[.int .i64 a0_0, .slice A0_1 l0_1.length c0_1]] rfl qm ?_; (with_reducible refine (spec_NetOk.calls k a0_0 _ _ l0_1 true _ ?side1 ?side2 A2.out).mono ?_); (case side1 => exact qc (Kd.C_below HR0_1.out HB.out)); (case side2 => exact HC0_1.out); rintro e w7 ⟨rfl, hb⟩; refine ⟨_, rfl, ?_⟩; have n0_ := q0 (kb BK102.out hb); have n1_ := q0 (below_step (qb HB.out) hb); clear BK102 HB; have BK102 := n0_; have HB := n1_; clear n0_ n1_; (try clear hb); (try clear hb2); (try clear hk); (try clear hi); have hcz8_0 : w7.cell? ⟨gb102, 0, none⟩ = some (.int .i64 a0_0) := (blk_cell BK102.out 0).trans rfl; have hcz8_1 : w7.cell? ⟨gb102, 1, none⟩ = some (.slice A0_1 l0_1.length c0_1) := (blk_cell BK102.out 1).trans rfl; have hfz8_0 := blk_frozen BK102.out 0; have hfz8_1 := blk_frozen BK102.out 1) | ((with_reducible refine gate_callee (f := 14) rfl ?_); refine goesL_ (some 10) rfl rfl Try.func14 (by kernel_rfl) rfl #[.agg #[.int .i64 a0_0, .slice A0_1 l0_1.length c0_1]] rfl qm ?_; (with_reducible refine (spec_WayParts.calls k a0_0 _ _ l0_1 t101 _ ?side1 ?side2 A4.out).mono ?_); (case side1 => exact qc (Kd.C_below HR0_1.out HB.out)); (case side2 => exact HC0_1.out); rintro e w9 ⟨v103, rfl, ho0, hb⟩; refine ⟨_, rfl, ?_⟩; have n0_ := q0 (Kd.R_lower ho0 (below_size (qb HB.out))); have n1_ := q0 (kb BK102.out hb); have n2_ := q0 (below_step (qb HB.out) hb); clear BK102 HB; have HO104 := n0_; have BK102 := n1_; have HB := n2_; clear n0_ n1_ n2_; (try clear hb); (try clear hb2); (try clear hk); (try clear hi); (try clear ho0)))
 go_loopg [4, 5] k (fun kq v4 v5 w' => ∃ (x4_1 : Int) (x5_1 : Int), v4 = .int .i64 x4_1 ∧ v5 = .int .i64 x5_1 ∧ Aside0 (spec_WayCount.l0 kq t101 x4_1 x5_1 = some r) ∧ Aside0 (kq ≤ k) ∧ Aside0 (Kd.R (Kd.int .i64) 3 w' w.heap.size (fun _ => True) v103 t101) ∧ Aside0 (w'.heap[gb102]? = some (.cells #[.int .i64 a0_0, (.slice A0_1 l0_1.length c0_1)] 30 (0, 0))) ∧ Aside0 (Below w.heap.size w w'))
 case atStart => exact ⟨(0), (0), qs, qs, H', ⟨Nat.le_refl _⟩, ⟨qr HO104.out⟩, ⟨qk BK102.out⟩, ⟨qb HB.out⟩⟩
 clear H'
 try clear c1
 try clear p2
 try clear c3
 try clear c4
 try clear hcz6_0
 try clear hcz6_1
 try clear hcz8_0
 try clear hcz8_1
 try clear hfz6_0
 try clear hfz6_1
 try clear hfz8_0
 try clear hfz8_1
 obtain ⟨x4_1, x5_1, rfl, rfl, HA, HK1, HO_3, BK102, HB⟩ := hrel
 rcases gk with _ | k1
 · exact absurd HA.out (by simp [spec_WayCount.l0])
 have H := HA.out
 clear HA
 simp only [spec_WayCount.l0] at H
 by_cases c10 : x5_1 < (t101.length : Int)
 rotate_left
 · rw [if_neg c10] at H
   have c10b0 : decide (x5_1 < (t101.length : Int)) = false := decide_eq_false c10
   clear c10
   obtain rfl := Option.some.inj H
   obtain ⟨Ao15, co15, eo15⟩ := Kd.R_slice HO_3.out
   subst eo15
   go_wp2
   go_ret
   exact ⟨qe, qb HB.out⟩
 rw [if_pos c10] at H
 have c10b0 : decide (x5_1 < (t101.length : Int)) = true := decide_eq_true c10
 clear c10
 by_cases c11 : 0 ≤ x5_1
 rotate_left
 · rw [if_neg c11] at H
   exact absurd H (by simp)
 rw [if_pos c11] at H
 have c11b0 : decide (0 ≤ x5_1) = true := decide_eq_true c11
 clear c11
 by_cases c12 : (rd t101 x5_1) = x5_1
 rotate_left
 · rw [if_neg c12] at H
   have c12b0 : ((rd t101 x5_1) == x5_1) = false := beq_eq_false_iff_ne.mpr c12
   have c12b1 : ((rd t101 x5_1) != x5_1) = true := bne_iff_ne.mpr c12
   have H' := Aside0.mk H
   clear H
   obtain ⟨Ao14, co14, eo14⟩ := Kd.R_slice HO_3.out
   subst eo14
   have p105 : 0 ≤ (x5_1 : Int) := of_decide_eq_true qa
   have q105 : x5_1 < (t101.length : Int) := of_decide_eq_true qa
   obtain ⟨ad105, e105, hx105_0⟩ := Kd.at_int (Kd.R_reads' HO_3.out).2.2 x5_1 p105 q105
   cases e105
   replace p105 := eq_true p105
   replace q105 := eq_true q105
   go_wp2
   go_roundg k1
   case measure => have := HK1.out; omega
   case rel => exact ⟨(x4_1), (wrap64 (x5_1 + 1)), qs, qs, H', ⟨by have := HK1.out; omega⟩, ⟨qr HO_3.out⟩, ⟨qk BK102.out⟩, ⟨qb HB.out⟩⟩
 rw [if_pos c12] at H
 have c12b0 : ((rd t101 x5_1) == x5_1) = true := beq_iff_eq.mpr c12
 have c12b1 : ((rd t101 x5_1) != x5_1) = false := bne_eq_false_iff_eq.mpr c12
 clear c12
 have H' := Aside0.mk H
 clear H
 obtain ⟨Ao13, co13, eo13⟩ := Kd.R_slice HO_3.out
 subst eo13
 have p105 : 0 ≤ (x5_1 : Int) := of_decide_eq_true qa
 have q105 : x5_1 < (t101.length : Int) := of_decide_eq_true qa
 obtain ⟨ad105, e105, hx105_0⟩ := Kd.at_int (Kd.R_reads' HO_3.out).2.2 x5_1 p105 q105
 cases e105
 replace p105 := eq_true p105
 replace q105 := eq_true q105
 go_wp2
 go_roundg k1
 case measure => have := HK1.out; omega
 case rel => exact ⟨(wrap64 (x4_1 + 1)), (wrap64 (x5_1 + 1)), qs, qs, H', ⟨by have := HK1.out; omega⟩, ⟨qr HO_3.out⟩, ⟨qk BK102.out⟩, ⟨qb HB.out⟩⟩

end Go.Proofs.Ytheoebelhgbejaa.P
