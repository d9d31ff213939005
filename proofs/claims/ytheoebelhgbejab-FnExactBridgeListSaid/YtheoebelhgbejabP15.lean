import Derived.Test.YtheoebelhgbejabP0
import Derived.Test.YtheoebelhgbejabP3
import Derived.Test.YtheoebelhgbejabP7
import Derived.Test.YtheoebelhgbejabP8
import Derived.Test.YtheoebelhgbejabP11
namespace Go.Proofs.Ytheoebelhgbejab.P
open Go.RowKit Go.Proofs.YtheoebelhgbejabW.PrintWords Go.Proofs.YtheoebelhgbejabW.PrintLast Go.Proofs.YtheoebelhgbejabW.PrintMore
attribute [local go_sem] max2_int min2_int max_two min_two max_three min_three max_four min_four
set_option linter.unusedVariables false
set_option linter.unusedSimpArgs false
attribute [local go_sem high] eqATie
set_option maxHeartbeats 8000000 in
set_option maxRecDepth 100000 in
theorem laws_heldTieS.calls (k : Nat) (A0 : Option Addr) (c0 : Nat) (l0 : List (STie)) (a1 : Int) (r : Int) (w : World) (hr0 : Kd.C kTie w A0 l0.length l0) (hc0 : l0.length ≤ c0) (h : laws_heldTieS.f k l0 a1 = some r) :
    Calls Try.prog 31 #[.slice A0 l0.length c0, .int .i64 a1] w fun e w' => e = .returned (.int .i64 r) ∧ Drawn0 w w' := by
 have HR0 := Aside0.mk hr0
 have HC0 := Aside0.mk hc0
 clear hr0 hc0
 have H : (laws_heldTieS.l0 k l0 a1 0) = some r := h
 clear h
 have H' := Aside0.mk H
 clear H
 go_enter Try.func31, Try.ntmps31
 go_wp2
 go_loopg [1, 5] k (fun kq v1 v5 w' => ∃ (x1_1 : Int) (x5_1 : Int), v1 = .int .i64 x1_1 ∧ v5 = .int .i64 x5_1 ∧ Aside0 (laws_heldTieS.l0 kq l0 x1_1 x5_1 = some r) ∧ Aside0 (kq ≤ k) ∧ Drawn0 w w')
 case atStart => exact ⟨(a1), (0), qs, qs, H', ⟨Nat.le_refl _⟩, by repeat (first | exact Drawn0.refl _ | apply Drawn0.step)⟩
 clear H'
 try clear p2
 obtain ⟨x1_1, x5_1, rfl, rfl, HA, HK1, ⟨m1, rfl⟩⟩ := hrel
 rcases gk with _ | k1
 · exact absurd HA.out (by simp [laws_heldTieS.l0])
 have H := HA.out
 clear HA
 simp only [laws_heldTieS.l0] at H
 by_cases c3 : x5_1 < (l0.length : Int)
 rotate_left
 · rw [if_neg c3] at H
   have c3b0 : decide (x5_1 < (l0.length : Int)) = false := decide_eq_false c3
   clear c3
   obtain rfl := Option.some.inj H
   go_wp2
   go_ret
   exact ⟨by first | rfl | (simp; done) | (simp [*]; done), by repeat (first | exact Drawn0.refl _ | apply Drawn0.step)⟩
 rw [if_pos c3] at H
 have c3b0 : decide (x5_1 < (l0.length : Int)) = true := decide_eq_true c3
 clear c3
 by_cases c4 : 0 ≤ x5_1
 rotate_left
 · rw [if_neg c4] at H
   exact absurd H (by simp)
 rw [if_pos c4] at H
 have c4b0 : decide (0 ≤ x5_1) = true := decide_eq_true c4
 clear c4
 by_cases c5 : ((rd_TTie l0 x5_1).f0) = x1_1
 rotate_left
 · rw [if_neg c5] at H
   have c5b0 : (((rd_TTie l0 x5_1).f0) == x1_1) = false := beq_eq_false_iff_ne.mpr c5
   have c5b1 : (((rd_TTie l0 x5_1).f0) != x1_1) = true := bne_iff_ne.mpr c5
   obtain rfl := Option.some.inj H
   have p100 : 0 ≤ (x5_1 : Int) := of_decide_eq_true qa
   have q100 : x5_1 < (l0.length : Int) := of_decide_eq_true qa
   obtain ⟨ad100, e100, hx100_0, hx100_1⟩ := at_TTie HR0.out x5_1 p100 q100
   cases e100
   replace p100 := eq_true p100
   replace q100 := eq_true q100
   go_wp2
   go_ret
   exact ⟨by first | rfl | (simp; done) | (simp [*]; done), by repeat (first | exact Drawn0.refl _ | apply Drawn0.step)⟩
 rw [if_pos c5] at H
 have c5b0 : (((rd_TTie l0 x5_1).f0) == x1_1) = true := beq_iff_eq.mpr c5
 have c5b1 : (((rd_TTie l0 x5_1).f0) != x1_1) = false := bne_eq_false_iff_eq.mpr c5
 clear c5
 by_cases c6 : ((rd_TTie l0 x5_1).f1) = (wrap64 (x1_1 + 1))
 rotate_left
 · rw [if_neg c6] at H
   have c6b0 : (((rd_TTie l0 x5_1).f1) == (wrap64 (x1_1 + 1))) = false := beq_eq_false_iff_ne.mpr c6
   have c6b1 : (((rd_TTie l0 x5_1).f1) != (wrap64 (x1_1 + 1))) = true := bne_iff_ne.mpr c6
   obtain rfl := Option.some.inj H
   have p100 : 0 ≤ (x5_1 : Int) := of_decide_eq_true qa
   have q100 : x5_1 < (l0.length : Int) := of_decide_eq_true qa
   obtain ⟨ad100, e100, hx100_0, hx100_1⟩ := at_TTie HR0.out x5_1 p100 q100
   cases e100
   replace p100 := eq_true p100
   replace q100 := eq_true q100
   have p101 : 0 ≤ (x5_1 : Int) := of_decide_eq_true qa
   have q101 : x5_1 < (l0.length : Int) := of_decide_eq_true qa
   obtain ⟨ad101, e101, hx101_0, hx101_1⟩ := at_TTie HR0.out x5_1 p101 q101
   obtain rfl : ad100 = ad101 := (by injection e101)
   replace p101 := eq_true p101
   replace q101 := eq_true q101
   go_wp2
   go_ret
   exact ⟨by first | rfl | (simp; done) | (simp [*]; done), by repeat (first | exact Drawn0.refl _ | apply Drawn0.step)⟩
 rw [if_pos c6] at H
 have c6b0 : (((rd_TTie l0 x5_1).f1) == (wrap64 (x1_1 + 1))) = true := beq_iff_eq.mpr c6
 have c6b1 : (((rd_TTie l0 x5_1).f1) != (wrap64 (x1_1 + 1))) = false := bne_eq_false_iff_eq.mpr c6
 clear c6
 have H' := Aside0.mk H
 clear H
 have p100 : 0 ≤ (x5_1 : Int) := of_decide_eq_true qa
 have q100 : x5_1 < (l0.length : Int) := of_decide_eq_true qa
 obtain ⟨ad100, e100, hx100_0, hx100_1⟩ := at_TTie HR0.out x5_1 p100 q100
 cases e100
 replace p100 := eq_true p100
 replace q100 := eq_true q100
 have p101 : 0 ≤ (x5_1 : Int) := of_decide_eq_true qa
 have q101 : x5_1 < (l0.length : Int) := of_decide_eq_true qa
 obtain ⟨ad101, e101, hx101_0, hx101_1⟩ := at_TTie HR0.out x5_1 p101 q101
 obtain rfl : ad100 = ad101 := (by injection e101)
 replace p101 := eq_true p101
 replace q101 := eq_true q101
 go_wp2
 go_roundg k1
 case measure => have := HK1.out; omega
 case rel => exact ⟨(wrap64 ((wrap64 (x1_1 + 1)) + 1)), (wrap64 (x5_1 + 1)), qs, qs, H', ⟨by have := HK1.out; omega⟩, by repeat (first | exact Drawn0.refl _ | apply Drawn0.step)⟩

set_option maxHeartbeats 8000000 in
set_option maxRecDepth 100000 in
theorem laws_FnExactBridgeList.calls (k : Nat) (a0_0 : Int) (A0_1 : Option Addr) (c0_1 : Nat) (l0_1 : List (SLTie)) (r : Bool) (w : World) (hr0_1 : Kd.C kLTie w A0_1 l0_1.length l0_1) (hc0_1 : l0_1.length ≤ c0_1) (h : laws_FnExactBridgeList.f k a0_0 l0_1 = some r) :
    Calls Try.prog 5 #[.agg #[.int .i64 a0_0, .slice A0_1 l0_1.length c0_1]] w fun e w' => e = .returned (.bool r) ∧ Below w.heap.size w w' := by
 have hu24 := Try.underlying24
 have hu32 := Try.underlying32
 have HR0_1 := Aside0.mk hr0_1
 have HC0_1 := Aside0.mk hc0_1
 clear hr0_1 hc0_1
 have HB := q0 (Below.refl w.heap.size w)
 have H : ((laws_szNet.f a0_0 l0_1 1048576).bind fun t100 => (if t100 < 0 then (some true) else ((laws_toNet.f k a0_0 l0_1).bind fun bt107 => ((spec_BridgeList.f k bt107.1 bt107.2).bind fun t108 => ((laws_toNet.f k a0_0 l0_1).bind fun bt109 => ((impl_BridgeList.f k bt109.1 bt109.2).bind fun t110 => ((laws_eqTieS.f k t110 t108).bind fun t111 => (if t111 = true then ((laws_toNet.f k a0_0 l0_1).bind fun bt112 => ((laws_eqNet.f k bt109.1 bt109.2 bt112.1 bt112.2).bind fun t113 => (if t113 = true then ((laws_markNet.f k bt109.1 bt109.2 1).bind fun bt114 => (if bt114.1 < 0 then (laws_FnExactBridgeList.j0 k t108 t110 true a0_0 l0_1) else ((laws_eqTieS.f k t110 t108).bind fun t115 => (laws_FnExactBridgeList.j0 k t108 t110 (!t115) a0_0 l0_1)))) else (some false)))) else (some false))))))))) = some r := h
 clear h
 replace H := Option.bind_eq_some_iff.mp H
 obtain ⟨t100, A20, H⟩ := H
 replace H : (if t100 < 0 then (some true) else ((laws_toNet.f k a0_0 l0_1).bind fun bt107 => ((spec_BridgeList.f k bt107.1 bt107.2).bind fun t108 => ((laws_toNet.f k a0_0 l0_1).bind fun bt109 => ((impl_BridgeList.f k bt109.1 bt109.2).bind fun t110 => ((laws_eqTieS.f k t110 t108).bind fun t111 => (if t111 = true then ((laws_toNet.f k a0_0 l0_1).bind fun bt112 => ((laws_eqNet.f k bt109.1 bt109.2 bt112.1 bt112.2).bind fun t113 => (if t113 = true then ((laws_markNet.f k bt109.1 bt109.2 1).bind fun bt114 => (if bt114.1 < 0 then (laws_FnExactBridgeList.j0 k t108 t110 true a0_0 l0_1) else ((laws_eqTieS.f k t110 t108).bind fun t115 => (laws_FnExactBridgeList.j0 k t108 t110 (!t115) a0_0 l0_1)))) else (some false)))) else (some false)))))))) = some r := H
 have A2 := Aside0.mk A20
 clear A20
 by_cases c3 : t100 < 0
 · rw [if_pos c3] at H
   have c3b0 : decide (t100 < 0) = true := decide_eq_true c3
   clear c3
   obtain rfl := Option.some.inj H
   go_enter Try.func5, Try.ntmps5
   go_wp2_with (first | ((with_reducible refine gate_dst (N := 1) rfl ?_); refine be 1 #[.int .i64 a0_0, .slice A0_1 l0_1.length c0_1] 24 ?_; intro gb116 hg w4 hbox hb; have n0_ := q0 (below_step (qb HB.out) hb); have n1_ := q0 (hbox); have n2_ := q0 ((bs HB.out hg : w.heap.size ≤ gb116)); have n3_ := q0 ((bs HB.out hg : w.heap.size ≤ gb116)); clear HB; have HB := n0_; have BK116 := n1_; have GW116 := n2_; have GE116 := n3_; clear n0_ n1_ n2_ n3_ hb hbox hg; have hcz5_0 : w4.cell? ⟨gb116, 0, none⟩ = some (.int .i64 a0_0) := (blk_cell BK116.out 0).trans rfl; have hcz5_1 : w4.cell? ⟨gb116, 1, none⟩ = some (.slice A0_1 l0_1.length c0_1) := (blk_cell BK116.out 1).trans rfl; have hfz5_0 := blk_frozen BK116.out 0; have hfz5_1 := blk_frozen BK116.out 1) | ((with_reducible refine gate_callee (f := 13) rfl ?_); refine goesL_ (some 13) rfl rfl Try.func13 (by kernel_rfl) rfl #[.agg #[.int .i64 a0_0, .slice A0_1 l0_1.length c0_1], .int .i64 1048576] rfl qm ?_; (with_reducible refine (laws_szNet.calls a0_0 _ _ l0_1 1048576 t100 _ ?side1 ?side2 A2.out).mono ?_); (case side1 => exact qc (Kd.C_below HR0_1.out HB.out)); (case side2 => exact HC0_1.out); rintro e w6 ⟨rfl, hb⟩; refine ⟨_, rfl, ?_⟩; have n0_ := q0 (kb BK116.out hb); have n1_ := q0 (below_step (qb HB.out) hb); clear BK116 HB; have BK116 := n0_; have HB := n1_; clear n0_ n1_; (try clear hb); (try clear hb2); (try clear hk); (try clear hi)))
   go_ret
   exact ⟨qe, qb HB.out⟩
 rw [if_neg c3] at H
 have c3b0 : decide (t100 < 0) = false := decide_eq_false c3
 clear c3
 replace H := Option.bind_eq_some_iff.mp H
 obtain ⟨⟨t107, t117⟩, A70, H⟩ := H
 replace H : ((spec_BridgeList.f k t107 t117).bind fun t108 => ((laws_toNet.f k a0_0 l0_1).bind fun bt109 => ((impl_BridgeList.f k bt109.1 bt109.2).bind fun t110 => ((laws_eqTieS.f k t110 t108).bind fun t111 => (if t111 = true then ((laws_toNet.f k a0_0 l0_1).bind fun bt112 => ((laws_eqNet.f k bt109.1 bt109.2 bt112.1 bt112.2).bind fun t113 => (if t113 = true then ((laws_markNet.f k bt109.1 bt109.2 1).bind fun bt114 => (if bt114.1 < 0 then (laws_FnExactBridgeList.j0 k t108 t110 true a0_0 l0_1) else ((laws_eqTieS.f k t110 t108).bind fun t115 => (laws_FnExactBridgeList.j0 k t108 t110 (!t115) a0_0 l0_1)))) else (some false)))) else (some false)))))) = some r := H
 have A7 := Aside0.mk A70
 clear A70
 replace H := Option.bind_eq_some_iff.mp H
 obtain ⟨t108, A80, H⟩ := H
 replace H : ((laws_toNet.f k a0_0 l0_1).bind fun bt109 => ((impl_BridgeList.f k bt109.1 bt109.2).bind fun t110 => ((laws_eqTieS.f k t110 t108).bind fun t111 => (if t111 = true then ((laws_toNet.f k a0_0 l0_1).bind fun bt112 => ((laws_eqNet.f k bt109.1 bt109.2 bt112.1 bt112.2).bind fun t113 => (if t113 = true then ((laws_markNet.f k bt109.1 bt109.2 1).bind fun bt114 => (if bt114.1 < 0 then (laws_FnExactBridgeList.j0 k t108 t110 true a0_0 l0_1) else ((laws_eqTieS.f k t110 t108).bind fun t115 => (laws_FnExactBridgeList.j0 k t108 t110 (!t115) a0_0 l0_1)))) else (some false)))) else (some false))))) = some r := H
 have A8 := Aside0.mk A80
 clear A80
 replace H := Option.bind_eq_some_iff.mp H
 obtain ⟨⟨t109, t118⟩, A90, H⟩ := H
 replace H : ((impl_BridgeList.f k t109 t118).bind fun t110 => ((laws_eqTieS.f k t110 t108).bind fun t111 => (if t111 = true then ((laws_toNet.f k a0_0 l0_1).bind fun bt112 => ((laws_eqNet.f k t109 t118 bt112.1 bt112.2).bind fun t113 => (if t113 = true then ((laws_markNet.f k t109 t118 1).bind fun bt114 => (if bt114.1 < 0 then (laws_FnExactBridgeList.j0 k t108 t110 true a0_0 l0_1) else ((laws_eqTieS.f k t110 t108).bind fun t115 => (laws_FnExactBridgeList.j0 k t108 t110 (!t115) a0_0 l0_1)))) else (some false)))) else (some false)))) = some r := H
 have A9 := Aside0.mk A90
 clear A90
 replace H := Option.bind_eq_some_iff.mp H
 obtain ⟨t110, A119, H⟩ := H
 replace H : ((laws_eqTieS.f k t110 t108).bind fun t111 => (if t111 = true then ((laws_toNet.f k a0_0 l0_1).bind fun bt112 => ((laws_eqNet.f k t109 t118 bt112.1 bt112.2).bind fun t113 => (if t113 = true then ((laws_markNet.f k t109 t118 1).bind fun bt114 => (if bt114.1 < 0 then (laws_FnExactBridgeList.j0 k t108 t110 true a0_0 l0_1) else ((laws_eqTieS.f k t110 t108).bind fun t115 => (laws_FnExactBridgeList.j0 k t108 t110 (!t115) a0_0 l0_1)))) else (some false)))) else (some false))) = some r := H
 have A10 := Aside0.mk A119
 clear A119
 replace H := Option.bind_eq_some_iff.mp H
 obtain ⟨t111, A120, H⟩ := H
 replace H : (if t111 = true then ((laws_toNet.f k a0_0 l0_1).bind fun bt112 => ((laws_eqNet.f k t109 t118 bt112.1 bt112.2).bind fun t113 => (if t113 = true then ((laws_markNet.f k t109 t118 1).bind fun bt114 => (if bt114.1 < 0 then (laws_FnExactBridgeList.j0 k t108 t110 true a0_0 l0_1) else ((laws_eqTieS.f k t110 t108).bind fun t115 => (laws_FnExactBridgeList.j0 k t108 t110 (!t115) a0_0 l0_1)))) else (some false)))) else (some false)) = some r := H
 have A11 := Aside0.mk A120
 clear A120
 by_cases c12 : t111 = true
 rotate_left
 · replace c12 := Bool.eq_false_iff.mpr c12
   subst c12
   have H1 : (some false) = some r := by rw [if_neg (show ¬ (false = true) by decide)] at H; exact H
   clear H
   have H := H1
   clear H1
   obtain rfl := Option.some.inj H
   go_enter Try.func5, Try.ntmps5
   go_wp2_with (first | ((with_reducible refine gate_dst (N := 1) rfl ?_); refine be 1 #[.int .i64 a0_0, .slice A0_1 l0_1.length c0_1] 24 ?_; intro gb116 hg w159 hbox hb; have n0_ := q0 (below_step (qb HB.out) hb); have n1_ := q0 (hbox); have n2_ := q0 ((bs HB.out hg : w.heap.size ≤ gb116)); have n3_ := q0 ((bs HB.out hg : w.heap.size ≤ gb116)); clear HB; have HB := n0_; have BK116 := n1_; have GW116 := n2_; have GE116 := n3_; clear n0_ n1_ n2_ n3_ hb hbox hg; have hcz160_0 : w159.cell? ⟨gb116, 0, none⟩ = some (.int .i64 a0_0) := (blk_cell BK116.out 0).trans rfl; have hcz160_1 : w159.cell? ⟨gb116, 1, none⟩ = some (.slice A0_1 l0_1.length c0_1) := (blk_cell BK116.out 1).trans rfl; have hfz160_0 := blk_frozen BK116.out 0; have hfz160_1 := blk_frozen BK116.out 1) | ((with_reducible refine gate_callee (f := 13) rfl ?_); refine goesL_ (some 13) rfl rfl Try.func13 (by kernel_rfl) rfl #[.agg #[.int .i64 a0_0, .slice A0_1 l0_1.length c0_1], .int .i64 1048576] rfl qm ?_; (with_reducible refine (laws_szNet.calls a0_0 _ _ l0_1 1048576 t100 _ ?side1 ?side2 A2.out).mono ?_); (case side1 => exact qc (Kd.C_below HR0_1.out HB.out)); (case side2 => exact HC0_1.out); rintro e w161 ⟨rfl, hb⟩; refine ⟨_, rfl, ?_⟩; have n0_ := q0 (kb BK116.out hb); have n1_ := q0 (below_step (qb HB.out) hb); clear BK116 HB; have BK116 := n0_; have HB := n1_; clear n0_ n1_; (try clear hb); (try clear hb2); (try clear hk); (try clear hi); have hcz162_0 : w161.cell? ⟨gb116, 0, none⟩ = some (.int .i64 a0_0) := (blk_cell BK116.out 0).trans rfl; have hcz162_1 : w161.cell? ⟨gb116, 1, none⟩ = some (.slice A0_1 l0_1.length c0_1) := (blk_cell BK116.out 1).trans rfl; have hfz162_0 := blk_frozen BK116.out 0; have hfz162_1 := blk_frozen BK116.out 1) | ((with_reducible refine gate_callee (f := 15) rfl ?_); refine goesL_ (some 17) rfl rfl Try.func15 (by kernel_rfl) rfl #[.agg #[.int .i64 a0_0, .slice A0_1 l0_1.length c0_1]] rfl qm ?_; (with_reducible refine (laws_toNet.calls k a0_0 _ _ l0_1 t107 t117 _ ?side1 ?side2 A7.out).mono ?_); (case side1 => exact qc (Kd.C_below HR0_1.out HB.out)); (case side2 => exact HC0_1.out); rintro e w163 ⟨v126, rfl, ho0, hb⟩; refine ⟨_, rfl, ?_⟩; have n0_ := q0 (Kd.R_lower ho0 (below_size (qb HB.out))); have n1_ := q0 (kb BK116.out hb); have n2_ := q0 (below_step (qb HB.out) hb); clear BK116 HB; have HO127 := n0_; have BK116 := n1_; have HB := n2_; clear n0_ n1_ n2_; (try clear hb); (try clear hb2); (try clear hk); (try clear hi); (try clear ho0); obtain ⟨Ao164, co164, eo164⟩ := Kd.R_slice HO127.out; subst eo164) | ((with_reducible refine gate_callee (f := 26) rfl ?_); refine goesL_ (some 18) rfl rfl Try.func26 (by kernel_rfl) rfl #[.agg #[.int .i64 t107, .slice Ao164 t117.length co164]] rfl qm ?_; (with_reducible refine (spec_BridgeList.calls k t107 _ _ t117 t108 _ ?side1 ?side2 A8.out).mono ?_); (case side1 => exact qc (Kd.R_reads' HO127.out).2.2); (case side2 => exact (Kd.R_reads' HO127.out).2.1); rintro e w165 ⟨v128, rfl, ho0, hb⟩; refine ⟨_, rfl, ?_⟩; have n0_ := q0 (Kd.R_elder' (qr HO127.out) (Kd.R_base ho0) hb); have n1_ := q0 (Kd.R_lower (Kd.R_new' ho0 (Kd.R_lt (qr HO127.out))) (below_size (qb HB.out))); have n2_ := q0 (kb BK116.out hb); have n3_ := q0 (below_step (qb HB.out) hb); clear HO127 BK116 HB; have HO127 := n0_; have HO129 := n1_; have BK116 := n2_; have HB := n3_; clear n0_ n1_ n2_ n3_; (try clear hb); (try clear hb2); (try clear hk); (try clear hi); (try clear ho0); have hcz166_0 : w165.cell? ⟨gb116, 0, none⟩ = some (.int .i64 a0_0) := (blk_cell BK116.out 0).trans rfl; have hcz166_1 : w165.cell? ⟨gb116, 1, none⟩ = some (.slice A0_1 l0_1.length c0_1) := (blk_cell BK116.out 1).trans rfl; have hfz166_0 := blk_frozen BK116.out 0; have hfz166_1 := blk_frozen BK116.out 1) | ((with_reducible refine gate_callee (f := 15) rfl ?_); refine goesL_ (some 20) rfl rfl Try.func15 (by kernel_rfl) rfl #[.agg #[.int .i64 a0_0, .slice A0_1 l0_1.length c0_1]] rfl qm ?_; (with_reducible refine (laws_toNet.calls k a0_0 _ _ l0_1 t109 t118 _ ?side1 ?side2 A9.out).mono ?_); (case side1 => exact qc (Kd.C_below HR0_1.out HB.out)); (case side2 => exact HC0_1.out); rintro e w167 ⟨v130, rfl, ho0, hb⟩; refine ⟨_, rfl, ?_⟩; have n0_ := q0 (Kd.R_elder' (qr HO127.out) (Kd.R_base ho0) hb); have n1_ := q0 (Kd.R_elder' (qr HO129.out) (Kd.R_base ho0) hb); have n2_ := q0 (Kd.R_lower (Kd.R_new' (Kd.R_new' ho0 (Kd.R_lt (qr HO127.out))) (Kd.R_lt (qr HO129.out))) (below_size (qb HB.out))); have n3_ := q0 (kb BK116.out hb); have n4_ := q0 (below_step (qb HB.out) hb); clear HO127 HO129 BK116 HB; have HO127 := n0_; have HO129 := n1_; have HO131 := n2_; have BK116 := n3_; have HB := n4_; clear n0_ n1_ n2_ n3_ n4_; (try clear hb); (try clear hb2); (try clear hk); (try clear hi); (try clear ho0)) | ((with_reducible refine gate_dst (N := 5) rfl ?_); refine be 5 #[.int .i64 0, .slice none 0 0] 32 ?_; intro gb132 hg w168 hbox hb; have n0_ := q0 (Kd.R_below (qr HO127.out) hb); have n1_ := q0 (Kd.R_below (qr HO129.out) hb); have n2_ := q0 (Kd.R_below (qr HO131.out) hb); have n3_ := q0 (kb BK116.out hb); have n4_ := q0 (below_step (qb HB.out) hb); have n5_ := q0 (hbox); have n6_ := q0 ((bs HB.out hg : w.heap.size ≤ gb132)); have n7_ := q0 ((bs HB.out hg : w.heap.size ≤ gb132)); have n8_ := q0 ((bl BK116.out hg : gb116 ≠ gb132)); have n9_ := q0 ((bg BK116.out hg : gb132 ≠ gb116)); clear HO127 HO129 HO131 BK116 HB; have HO127 := n0_; have HO129 := n1_; have HO131 := n2_; have BK116 := n3_; have HB := n4_; have BK132 := n5_; have GW132 := n6_; have GE132 := n7_; have NB116_132 := n8_; have NB132_116 := n9_; clear n0_ n1_ n2_ n3_ n4_ n5_ n6_ n7_ n8_ n9_ hb hbox hg; have hnb169 := NB132_116.out; have hnc169 := NB116_132.out; have hcz170_0 : w168.cell? ⟨gb132, 0, none⟩ = some (.int .i64 0) := (blk_cell BK132.out 0).trans rfl; have hcz170_1 : w168.cell? ⟨gb132, 1, none⟩ = some (.slice none 0 0) := (blk_cell BK132.out 1).trans rfl; have hfz170_0 := blk_frozen BK132.out 0; have hfz170_1 := blk_frozen BK132.out 1; obtain ⟨Ao171, co171, eo171⟩ := Kd.R_slice HO131.out; subst eo171) | ((with_reducible refine gate_callee (f := 27) rfl ?_); refine goesL_ (some 22) rfl rfl Try.func27 (by kernel_rfl) rfl #[.agg #[.int .i64 t109, .slice Ao171 t118.length co171]] rfl qm ?_; (with_reducible refine (impl_BridgeList.calls k t109 _ _ t118 t110 _ ?side1 ?side2 A10.out).mono ?_); (case side1 => refine (Kd.R_reads' (e := 27) (base := w.heap.size) (ok := fun k_ => ((True ∧ some k_ ≠ (.slice Ao164 t117.length co164 : Value).ownBlock) ∧ some k_ ≠ (v128 : Value).ownBlock)) (n := t118.length) (c := co171) ?_).2.2; exact (by (with_reducible repeat (first | apply Kd.R_alloc | apply Kd.R_drewN | apply Kd.R_drew)); exact (Kd.R_mono (Kd.R_far (p := ⟨gb132, 1, none⟩) (Kd.R_far (p := ⟨gb132, 0, none⟩) (Kd.R_types HO131.out BK132.out (by decide)) (fun _ hk => hk.2) (.int .i64 t109)) (fun _ hk => hk.2) (.slice Ao171 t118.length co171)) (fun _ h_ => h_.1)))); (case side2 => exact (Kd.R_reads' HO131.out).2.1); rintro e w172 ⟨v133, rfl, ho0, hb⟩; refine ⟨_, rfl, ?_⟩; have n0_ := q0 (Kd.R_elder' (by (with_reducible repeat (first | apply Kd.R_alloc | apply Kd.R_drewN | apply Kd.R_drew)); exact (Kd.R_mono (Kd.R_far (p := ⟨gb132, 1, none⟩) (Kd.R_far (p := ⟨gb132, 0, none⟩) (Kd.R_types HO127.out BK132.out (by decide)) (fun _ hk => hk.2) (.int .i64 t109)) (fun _ hk => hk.2) (.slice Ao171 t118.length co171)) (fun _ h_ => h_.1))) (Kd.R_base ho0) hb); have n1_ := q0 (Kd.R_elder' (by (with_reducible repeat (first | apply Kd.R_alloc | apply Kd.R_drewN | apply Kd.R_drew)); exact (Kd.R_mono (Kd.R_far (p := ⟨gb132, 1, none⟩) (Kd.R_far (p := ⟨gb132, 0, none⟩) (Kd.R_types HO129.out BK132.out (by decide)) (fun _ hk => hk.2) (.int .i64 t109)) (fun _ hk => hk.2) (.slice Ao171 t118.length co171)) (fun _ h_ => h_.1))) (Kd.R_base ho0) hb); have n2_ := q0 (Kd.R_elder' (by (with_reducible repeat (first | apply Kd.R_alloc | apply Kd.R_drewN | apply Kd.R_drew)); exact (Kd.R_mono (Kd.R_far (p := ⟨gb132, 1, none⟩) (Kd.R_far (p := ⟨gb132, 0, none⟩) (Kd.R_types HO131.out BK132.out (by decide)) (fun _ hk => hk.2) (.int .i64 t109)) (fun _ hk => hk.2) (.slice Ao171 t118.length co171)) (fun _ h_ => h_.1))) (Kd.R_base ho0) hb); have n3_ := q0 (Kd.R_lower (Kd.R_new' (Kd.R_new' (Kd.R_new' ho0 (Kd.R_lt (by (with_reducible repeat (first | apply Kd.R_alloc | apply Kd.R_drewN | apply Kd.R_drew)); exact (Kd.R_mono (Kd.R_far (p := ⟨gb132, 1, none⟩) (Kd.R_far (p := ⟨gb132, 0, none⟩) (Kd.R_types HO127.out BK132.out (by decide)) (fun _ hk => hk.2) (.int .i64 t109)) (fun _ hk => hk.2) (.slice Ao171 t118.length co171)) (fun _ h_ => h_.1))))) (Kd.R_lt (by (with_reducible repeat (first | apply Kd.R_alloc | apply Kd.R_drewN | apply Kd.R_drew)); exact (Kd.R_mono (Kd.R_far (p := ⟨gb132, 1, none⟩) (Kd.R_far (p := ⟨gb132, 0, none⟩) (Kd.R_types HO129.out BK132.out (by decide)) (fun _ hk => hk.2) (.int .i64 t109)) (fun _ hk => hk.2) (.slice Ao171 t118.length co171)) (fun _ h_ => h_.1))))) (Kd.R_lt (by (with_reducible repeat (first | apply Kd.R_alloc | apply Kd.R_drewN | apply Kd.R_drew)); exact (Kd.R_mono (Kd.R_far (p := ⟨gb132, 1, none⟩) (Kd.R_far (p := ⟨gb132, 0, none⟩) (Kd.R_types HO131.out BK132.out (by decide)) (fun _ hk => hk.2) (.int .i64 t109)) (fun _ hk => hk.2) (.slice Ao171 t118.length co171)) (fun _ h_ => h_.1))))) (below_size (qb HB.out))); have n4_ := q0 (blk_below (g := gb116) (o := .cells #[.int .i64 a0_0, .slice A0_1 l0_1.length c0_1] 24 (0, 0)) (qf BK116.out) hb); have n5_ := q0 (blk_below (g := gb132) (o := .cells #[.int .i64 t109, .slice Ao171 t118.length co171] 32 (0, 0)) (by (with_reducible repeat (first | refine blk_drewN ?_ _ | refine blk_drew ?_ | refine blk_alloc ?_ _)); refine blk_put (cs := #[.int .i64 t109, .slice none 0 0]) ?_ 1 _ rfl; (with_reducible repeat (first | refine blk_drewN ?_ _ | refine blk_drew ?_ | refine blk_alloc ?_ _)); refine blk_put (cs := #[.int .i64 0, .slice none 0 0]) ?_ 0 _ rfl; (with_reducible repeat (first | refine blk_drewN ?_ _ | refine blk_drew ?_ | refine blk_alloc ?_ _)); exact BK132.out) hb); have n6_ := q0 (below_step (qb HB.out) hb); clear HO127 HO129 HO131 BK116 BK132 HB; have HO127 := n0_; have HO129 := n1_; have HO131 := n2_; have HO134 := n3_; have BK116 := n4_; have BK132 := n5_; have HB := n6_; clear n0_ n1_ n2_ n3_ n4_ n5_ n6_; (try clear hb); (try clear hb2); (try clear hk); (try clear hi); (try clear ho0); obtain ⟨Ao173, co173, eo173⟩ := Kd.R_slice HO134.out; subst eo173; obtain ⟨Ao174, co174, eo174⟩ := Kd.R_slice HO129.out; subst eo174) | ((with_reducible refine gate_callee (f := 28) rfl ?_); refine goesL_ (some 25) rfl rfl Try.func28 (by kernel_rfl) rfl #[.slice Ao173 t110.length co173, .slice Ao174 t108.length co174] rfl qm ?_; (with_reducible refine (laws_eqTieS.calls k _ _ t110 _ _ t108 false _ ?side1 ?side2 ?side3 ?side4 A11.out).mono ?_); (case side1 => exact qc (Kd.R_reads' HO134.out).2.2); (case side2 => exact (Kd.R_reads' HO134.out).2.1); (case side3 => exact qc (Kd.R_reads' HO129.out).2.2); (case side4 => exact (Kd.R_reads' HO129.out).2.1); rintro e w175 ⟨rfl, hb⟩; refine ⟨_, rfl, ?_⟩; have n0_ := q0 (Kd.R_below (qr HO127.out) hb); have n1_ := q0 (Kd.R_below (qr HO129.out) hb); have n2_ := q0 (Kd.R_below (qr HO131.out) hb); have n3_ := q0 (Kd.R_below (qr HO134.out) hb); have n4_ := q0 (kb BK116.out hb); have n5_ := q0 (kb BK132.out hb); have n6_ := q0 (below_step (qb HB.out) hb); clear HO127 HO129 HO131 HO134 BK116 BK132 HB; have HO127 := n0_; have HO129 := n1_; have HO131 := n2_; have HO134 := n3_; have BK116 := n4_; have BK132 := n5_; have HB := n6_; clear n0_ n1_ n2_ n3_ n4_ n5_ n6_; (try clear hb); (try clear hb2); (try clear hk); (try clear hi)))
   go_ret
   exact ⟨qe, qb HB.out⟩
 subst c12
 have H1 : ((laws_toNet.f k a0_0 l0_1).bind fun bt112 => ((laws_eqNet.f k t109 t118 bt112.1 bt112.2).bind fun t113 => (if t113 = true then ((laws_markNet.f k t109 t118 1).bind fun bt114 => (if bt114.1 < 0 then (laws_FnExactBridgeList.j0 k t108 t110 true a0_0 l0_1) else ((laws_eqTieS.f k t110 t108).bind fun t115 => (laws_FnExactBridgeList.j0 k t108 t110 (!t115) a0_0 l0_1)))) else (some false)))) = some r := by rw [if_pos rfl] at H; exact H
 clear H
 have H := H1
 clear H1
 replace H := Option.bind_eq_some_iff.mp H
 obtain ⟨⟨t112, t121⟩, A122, H⟩ := H
 replace H : ((laws_eqNet.f k t109 t118 t112 t121).bind fun t113 => (if t113 = true then ((laws_markNet.f k t109 t118 1).bind fun bt114 => (if bt114.1 < 0 then (laws_FnExactBridgeList.j0 k t108 t110 true a0_0 l0_1) else ((laws_eqTieS.f k t110 t108).bind fun t115 => (laws_FnExactBridgeList.j0 k t108 t110 (!t115) a0_0 l0_1)))) else (some false))) = some r := H
 have A13 := Aside0.mk A122
 clear A122
 replace H := Option.bind_eq_some_iff.mp H
 obtain ⟨t113, A123, H⟩ := H
 replace H : (if t113 = true then ((laws_markNet.f k t109 t118 1).bind fun bt114 => (if bt114.1 < 0 then (laws_FnExactBridgeList.j0 k t108 t110 true a0_0 l0_1) else ((laws_eqTieS.f k t110 t108).bind fun t115 => (laws_FnExactBridgeList.j0 k t108 t110 (!t115) a0_0 l0_1)))) else (some false)) = some r := H
 have A14 := Aside0.mk A123
 clear A123
 by_cases c15 : t113 = true
 rotate_left
 · replace c15 := Bool.eq_false_iff.mpr c15
   subst c15
   have H1 : (some false) = some r := by rw [if_neg (show ¬ (false = true) by decide)] at H; exact H
   clear H
   have H := H1
   clear H1
   obtain rfl := Option.some.inj H
   go_enter Try.func5, Try.ntmps5
   try go_wp2_with (first | ((with_reducible refine gate_dst (N := 1) rfl ?_); refine be 1 #[.int .i64 a0_0, .slice A0_1 l0_1.length c0_1] 24 ?_; intro gb116 hg w90 hbox hb; have n0_ := q0 (below_step (qb HB.out) hb); have n1_ := q0 (hbox); have n2_ := q0 ((bs HB.out hg : w.heap.size ≤ gb116)); have n3_ := q0 ((bs HB.out hg : w.heap.size ≤ gb116)); clear HB; have HB := n0_; have BK116 := n1_; have GW116 := n2_; have GE116 := n3_; clear n0_ n1_ n2_ n3_ hb hbox hg; have hcz91_0 : w90.cell? ⟨gb116, 0, none⟩ = some (.int .i64 a0_0) := (blk_cell BK116.out 0).trans rfl; have hcz91_1 : w90.cell? ⟨gb116, 1, none⟩ = some (.slice A0_1 l0_1.length c0_1) := (blk_cell BK116.out 1).trans rfl; have hfz91_0 := blk_frozen BK116.out 0; have hfz91_1 := blk_frozen BK116.out 1) | ((with_reducible refine gate_callee (f := 13) rfl ?_); refine goesL_ (some 13) rfl rfl Try.func13 (by kernel_rfl) rfl #[.agg #[.int .i64 a0_0, .slice A0_1 l0_1.length c0_1], .int .i64 1048576] rfl qm ?_; (with_reducible refine (laws_szNet.calls a0_0 _ _ l0_1 1048576 t100 _ ?side1 ?side2 A2.out).mono ?_); (case side1 => exact qc (Kd.C_below HR0_1.out HB.out)); (case side2 => exact HC0_1.out); rintro e w92 ⟨rfl, hb⟩; refine ⟨_, rfl, ?_⟩; have n0_ := q0 (kb BK116.out hb); have n1_ := q0 (below_step (qb HB.out) hb); clear BK116 HB; have BK116 := n0_; have HB := n1_; clear n0_ n1_; (try clear hb); (try clear hb2); (try clear hk); (try clear hi); have hcz93_0 : w92.cell? ⟨gb116, 0, none⟩ = some (.int .i64 a0_0) := (blk_cell BK116.out 0).trans rfl; have hcz93_1 : w92.cell? ⟨gb116, 1, none⟩ = some (.slice A0_1 l0_1.length c0_1) := (blk_cell BK116.out 1).trans rfl; have hfz93_0 := blk_frozen BK116.out 0; have hfz93_1 := blk_frozen BK116.out 1) | ((with_reducible refine gate_callee (f := 15) rfl ?_); refine goesL_ (some 17) rfl rfl Try.func15 (by kernel_rfl) rfl #[.agg #[.int .i64 a0_0, .slice A0_1 l0_1.length c0_1]] rfl qm ?_; (with_reducible refine (laws_toNet.calls k a0_0 _ _ l0_1 t107 t117 _ ?side1 ?side2 A7.out).mono ?_); (case side1 => exact qc (Kd.C_below HR0_1.out HB.out)); (case side2 => exact HC0_1.out); rintro e w94 ⟨v126, rfl, ho0, hb⟩; refine ⟨_, rfl, ?_⟩; have n0_ := q0 (Kd.R_lower ho0 (below_size (qb HB.out))); have n1_ := q0 (kb BK116.out hb); have n2_ := q0 (below_step (qb HB.out) hb); clear BK116 HB; have HO127 := n0_; have BK116 := n1_; have HB := n2_; clear n0_ n1_ n2_; (try clear hb); (try clear hb2); (try clear hk); (try clear hi); (try clear ho0); obtain ⟨Ao95, co95, eo95⟩ := Kd.R_slice HO127.out; subst eo95) | ((with_reducible refine gate_callee (f := 26) rfl ?_); refine goesL_ (some 18) rfl rfl Try.func26 (by kernel_rfl) rfl #[.agg #[.int .i64 t107, .slice Ao95 t117.length co95]] rfl qm ?_; (with_reducible refine (spec_BridgeList.calls k t107 _ _ t117 t108 _ ?side1 ?side2 A8.out).mono ?_); (case side1 => exact qc (Kd.R_reads' HO127.out).2.2); (case side2 => exact (Kd.R_reads' HO127.out).2.1); rintro e w96 ⟨v128, rfl, ho0, hb⟩; refine ⟨_, rfl, ?_⟩; have n0_ := q0 (Kd.R_elder' (qr HO127.out) (Kd.R_base ho0) hb); have n1_ := q0 (Kd.R_lower (Kd.R_new' ho0 (Kd.R_lt (qr HO127.out))) (below_size (qb HB.out))); have n2_ := q0 (kb BK116.out hb); have n3_ := q0 (below_step (qb HB.out) hb); clear HO127 BK116 HB; have HO127 := n0_; have HO129 := n1_; have BK116 := n2_; have HB := n3_; clear n0_ n1_ n2_ n3_; (try clear hb); (try clear hb2); (try clear hk); (try clear hi); (try clear ho0); have hcz97_0 : w96.cell? ⟨gb116, 0, none⟩ = some (.int .i64 a0_0) := (blk_cell BK116.out 0).trans rfl; have hcz97_1 : w96.cell? ⟨gb116, 1, none⟩ = some (.slice A0_1 l0_1.length c0_1) := (blk_cell BK116.out 1).trans rfl; have hfz97_0 := blk_frozen BK116.out 0; have hfz97_1 := blk_frozen BK116.out 1) | ((with_reducible refine gate_callee (f := 15) rfl ?_); refine goesL_ (some 20) rfl rfl Try.func15 (by kernel_rfl) rfl #[.agg #[.int .i64 a0_0, .slice A0_1 l0_1.length c0_1]] rfl qm ?_; (with_reducible refine (laws_toNet.calls k a0_0 _ _ l0_1 t109 t118 _ ?side1 ?side2 A9.out).mono ?_); (case side1 => exact qc (Kd.C_below HR0_1.out HB.out)); (case side2 => exact HC0_1.out); rintro e w98 ⟨v130, rfl, ho0, hb⟩; refine ⟨_, rfl, ?_⟩; have n0_ := q0 (Kd.R_elder' (qr HO127.out) (Kd.R_base ho0) hb); have n1_ := q0 (Kd.R_elder' (qr HO129.out) (Kd.R_base ho0) hb); have n2_ := q0 (Kd.R_lower (Kd.R_new' (Kd.R_new' ho0 (Kd.R_lt (qr HO127.out))) (Kd.R_lt (qr HO129.out))) (below_size (qb HB.out))); have n3_ := q0 (kb BK116.out hb); have n4_ := q0 (below_step (qb HB.out) hb); clear HO127 HO129 BK116 HB; have HO127 := n0_; have HO129 := n1_; have HO131 := n2_; have BK116 := n3_; have HB := n4_; clear n0_ n1_ n2_ n3_ n4_; (try clear hb); (try clear hb2); (try clear hk); (try clear hi); (try clear ho0)) | ((with_reducible refine gate_dst (N := 5) rfl ?_); refine be 5 #[.int .i64 0, .slice none 0 0] 32 ?_; intro gb132 hg w99 hbox hb; have n0_ := q0 (Kd.R_below (qr HO127.out) hb); have n1_ := q0 (Kd.R_below (qr HO129.out) hb); have n2_ := q0 (Kd.R_below (qr HO131.out) hb); have n3_ := q0 (kb BK116.out hb); have n4_ := q0 (below_step (qb HB.out) hb); have n5_ := q0 (hbox); have n6_ := q0 ((bs HB.out hg : w.heap.size ≤ gb132)); have n7_ := q0 ((bs HB.out hg : w.heap.size ≤ gb132)); have n8_ := q0 ((bl BK116.out hg : gb116 ≠ gb132)); have n9_ := q0 ((bg BK116.out hg : gb132 ≠ gb116)); clear HO127 HO129 HO131 BK116 HB; have HO127 := n0_; have HO129 := n1_; have HO131 := n2_; have BK116 := n3_; have HB := n4_; have BK132 := n5_; have GW132 := n6_; have GE132 := n7_; have NB116_132 := n8_; have NB132_116 := n9_; clear n0_ n1_ n2_ n3_ n4_ n5_ n6_ n7_ n8_ n9_ hb hbox hg; have hnb119 := NB132_116.out; have hnc119 := NB116_132.out; have hcz150_0 : w99.cell? ⟨gb132, 0, none⟩ = some (.int .i64 0) := (blk_cell BK132.out 0).trans rfl; have hcz150_1 : w99.cell? ⟨gb132, 1, none⟩ = some (.slice none 0 0) := (blk_cell BK132.out 1).trans rfl; have hfz150_0 := blk_frozen BK132.out 0; have hfz150_1 := blk_frozen BK132.out 1; obtain ⟨Ao151, co151, eo151⟩ := Kd.R_slice HO131.out; subst eo151) | ((with_reducible refine gate_callee (f := 27) rfl ?_); refine goesL_ (some 22) rfl rfl Try.func27 (by kernel_rfl) rfl #[.agg #[.int .i64 t109, .slice Ao151 t118.length co151]] rfl qm ?_; (with_reducible refine (impl_BridgeList.calls k t109 _ _ t118 t110 _ ?side1 ?side2 A10.out).mono ?_); (case side1 => refine (Kd.R_reads' (e := 27) (base := w.heap.size) (ok := fun k_ => ((True ∧ some k_ ≠ (.slice Ao95 t117.length co95 : Value).ownBlock) ∧ some k_ ≠ (v128 : Value).ownBlock)) (n := t118.length) (c := co151) ?_).2.2; exact (by (with_reducible repeat (first | apply Kd.R_alloc | apply Kd.R_drewN | apply Kd.R_drew)); exact (Kd.R_mono (Kd.R_far (p := ⟨gb132, 1, none⟩) (Kd.R_far (p := ⟨gb132, 0, none⟩) (Kd.R_types HO131.out BK132.out (by decide)) (fun _ hk => hk.2) (.int .i64 t109)) (fun _ hk => hk.2) (.slice Ao151 t118.length co151)) (fun _ h_ => h_.1)))); (case side2 => exact (Kd.R_reads' HO131.out).2.1); rintro e w152 ⟨v133, rfl, ho0, hb⟩; refine ⟨_, rfl, ?_⟩; have n0_ := q0 (Kd.R_elder' (by (with_reducible repeat (first | apply Kd.R_alloc | apply Kd.R_drewN | apply Kd.R_drew)); exact (Kd.R_mono (Kd.R_far (p := ⟨gb132, 1, none⟩) (Kd.R_far (p := ⟨gb132, 0, none⟩) (Kd.R_types HO127.out BK132.out (by decide)) (fun _ hk => hk.2) (.int .i64 t109)) (fun _ hk => hk.2) (.slice Ao151 t118.length co151)) (fun _ h_ => h_.1))) (Kd.R_base ho0) hb); have n1_ := q0 (Kd.R_elder' (by (with_reducible repeat (first | apply Kd.R_alloc | apply Kd.R_drewN | apply Kd.R_drew)); exact (Kd.R_mono (Kd.R_far (p := ⟨gb132, 1, none⟩) (Kd.R_far (p := ⟨gb132, 0, none⟩) (Kd.R_types HO129.out BK132.out (by decide)) (fun _ hk => hk.2) (.int .i64 t109)) (fun _ hk => hk.2) (.slice Ao151 t118.length co151)) (fun _ h_ => h_.1))) (Kd.R_base ho0) hb); have n2_ := q0 (Kd.R_elder' (by (with_reducible repeat (first | apply Kd.R_alloc | apply Kd.R_drewN | apply Kd.R_drew)); exact (Kd.R_mono (Kd.R_far (p := ⟨gb132, 1, none⟩) (Kd.R_far (p := ⟨gb132, 0, none⟩) (Kd.R_types HO131.out BK132.out (by decide)) (fun _ hk => hk.2) (.int .i64 t109)) (fun _ hk => hk.2) (.slice Ao151 t118.length co151)) (fun _ h_ => h_.1))) (Kd.R_base ho0) hb); have n3_ := q0 (Kd.R_lower (Kd.R_new' (Kd.R_new' (Kd.R_new' ho0 (Kd.R_lt (by (with_reducible repeat (first | apply Kd.R_alloc | apply Kd.R_drewN | apply Kd.R_drew)); exact (Kd.R_mono (Kd.R_far (p := ⟨gb132, 1, none⟩) (Kd.R_far (p := ⟨gb132, 0, none⟩) (Kd.R_types HO127.out BK132.out (by decide)) (fun _ hk => hk.2) (.int .i64 t109)) (fun _ hk => hk.2) (.slice Ao151 t118.length co151)) (fun _ h_ => h_.1))))) (Kd.R_lt (by (with_reducible repeat (first | apply Kd.R_alloc | apply Kd.R_drewN | apply Kd.R_drew)); exact (Kd.R_mono (Kd.R_far (p := ⟨gb132, 1, none⟩) (Kd.R_far (p := ⟨gb132, 0, none⟩) (Kd.R_types HO129.out BK132.out (by decide)) (fun _ hk => hk.2) (.int .i64 t109)) (fun _ hk => hk.2) (.slice Ao151 t118.length co151)) (fun _ h_ => h_.1))))) (Kd.R_lt (by (with_reducible repeat (first | apply Kd.R_alloc | apply Kd.R_drewN | apply Kd.R_drew)); exact (Kd.R_mono (Kd.R_far (p := ⟨gb132, 1, none⟩) (Kd.R_far (p := ⟨gb132, 0, none⟩) (Kd.R_types HO131.out BK132.out (by decide)) (fun _ hk => hk.2) (.int .i64 t109)) (fun _ hk => hk.2) (.slice Ao151 t118.length co151)) (fun _ h_ => h_.1))))) (below_size (qb HB.out))); have n4_ := q0 (blk_below (g := gb116) (o := .cells #[.int .i64 a0_0, .slice A0_1 l0_1.length c0_1] 24 (0, 0)) (qf BK116.out) hb); have n5_ := q0 (blk_below (g := gb132) (o := .cells #[.int .i64 t109, .slice Ao151 t118.length co151] 32 (0, 0)) (by (with_reducible repeat (first | refine blk_drewN ?_ _ | refine blk_drew ?_ | refine blk_alloc ?_ _)); refine blk_put (cs := #[.int .i64 t109, .slice none 0 0]) ?_ 1 _ rfl; (with_reducible repeat (first | refine blk_drewN ?_ _ | refine blk_drew ?_ | refine blk_alloc ?_ _)); refine blk_put (cs := #[.int .i64 0, .slice none 0 0]) ?_ 0 _ rfl; (with_reducible repeat (first | refine blk_drewN ?_ _ | refine blk_drew ?_ | refine blk_alloc ?_ _)); exact BK132.out) hb); have n6_ := q0 (below_step (qb HB.out) hb); clear HO127 HO129 HO131 BK116 BK132 HB; have HO127 := n0_; have HO129 := n1_; have HO131 := n2_; have HO134 := n3_; have BK116 := n4_; have BK132 := n5_; have HB := n6_; clear n0_ n1_ n2_ n3_ n4_ n5_ n6_; (try clear hb); (try clear hb2); (try clear hk); (try clear hi); (try clear ho0); obtain ⟨Ao153, co153, eo153⟩ := Kd.R_slice HO134.out; subst eo153; obtain ⟨Ao154, co154, eo154⟩ := Kd.R_slice HO129.out; subst eo154) | ((with_reducible refine gate_callee (f := 28) rfl ?_); refine goesL_ (some 25) rfl rfl Try.func28 (by kernel_rfl) rfl #[.slice Ao153 t110.length co153, .slice Ao154 t108.length co154] rfl qm ?_; (with_reducible refine (laws_eqTieS.calls k _ _ t110 _ _ t108 true _ ?side1 ?side2 ?side3 ?side4 A11.out).mono ?_); (case side1 => exact qc (Kd.R_reads' HO134.out).2.2); (case side2 => exact (Kd.R_reads' HO134.out).2.1); (case side3 => exact qc (Kd.R_reads' HO129.out).2.2); (case side4 => exact (Kd.R_reads' HO129.out).2.1); rintro e w155 ⟨rfl, hb⟩; refine ⟨_, rfl, ?_⟩; have n0_ := q0 (Kd.R_below (qr HO127.out) hb); have n1_ := q0 (Kd.R_below (qr HO129.out) hb); have n2_ := q0 (Kd.R_below (qr HO131.out) hb); have n3_ := q0 (Kd.R_below (qr HO134.out) hb); have n4_ := q0 (kb BK116.out hb); have n5_ := q0 (kb BK132.out hb); have n6_ := q0 (below_step (qb HB.out) hb); clear HO127 HO129 HO131 HO134 BK116 BK132 HB; have HO127 := n0_; have HO129 := n1_; have HO131 := n2_; have HO134 := n3_; have BK116 := n4_; have BK132 := n5_; have HB := n6_; clear n0_ n1_ n2_ n3_ n4_ n5_ n6_; (try clear hb); (try clear hb2); (try clear hk); (try clear hi)))
   have n0_ := q0 (Kd.R_drew HO127.out)
   have n1_ := q0 (Kd.R_drew HO129.out)
   have n2_ := q0 (Kd.R_drew HO131.out)
   have n3_ := q0 (Kd.R_drew HO134.out)
   have n4_ := q0 (blk_drew BK116.out)
   have n5_ := q0 (blk_drew BK132.out)
   have n6_ := q0 (below_drew1 HB.out)
   clear HO127
   clear HO129
   clear HO131
   clear HO134
   clear BK116
   clear BK132
   clear HB
   have HO127 := n0_
   have HO129 := n1_
   have HO131 := n2_
   have HO134 := n3_
   have BK116 := n4_
   have BK132 := n5_
   have HB := n6_
   clear n0_ n1_ n2_ n3_ n4_ n5_ n6_
   refine start_ (n := 5) (S := fun w' => w'.cell? ⟨gb132, 0, none⟩ = some (.int .i64 t109) ∧ w'.cell? ⟨gb132, 1, none⟩ = some (.slice Ao151 t118.length co151) ∧ w'.cell? ⟨gb116, 0, none⟩ = some (.int .i64 a0_0) ∧ w'.cell? ⟨gb116, 1, none⟩ = some (.slice A0_1 l0_1.length c0_1)) (ds := []) (ba 5 0) (by kernel_rfl) rfl (by kernel_rfl) ⟨(blk_cell BK132.out 0).trans rfl, (blk_cell BK132.out 1).trans rfl, (blk_cell BK116.out 0).trans rfl, (blk_cell BK116.out 1).trans rfl⟩ (fun hHeld => ?_)
   generalize w155.drew = w156 at HO127 HO129 HO131 HO134 BK116 BK132 HB hHeld ⊢
   refine tw 0 (some 27) (ba 5 1) hHeld ?_
   refine tw 1 (some 28) (ba 5 3) hHeld ?_
   refine one_ (i := 2) (N := some 29) (ba 5 7) rfl rfl (by kernel_rfl) (by decide) (fun K hK => ?_)
   refine goes_ Try.func15 (by kernel_rfl) rfl #[.agg #[.int .i64 a0_0, .slice A0_1 l0_1.length c0_1]] (by rfl) rfl rfl qm ?_
   with_reducible refine (laws_toNet.calls k a0_0 _ _ l0_1 t112 t121 _ ?side1 ?side2 A13.out).mono ?_
   (case side1 => exact qc (Kd.C_below HR0_1.out HB.out))
   (case side2 => exact HC0_1.out)
   rintro e w157 ⟨v135, rfl, ho0, hb⟩
   refine ⟨_, rfl, ?_⟩
   have n0_ := q0 (Kd.R_elder' (qr HO127.out) (Kd.R_base ho0) hb)
   have n1_ := q0 (Kd.R_elder' (qr HO129.out) (Kd.R_base ho0) hb)
   have n2_ := q0 (Kd.R_elder' (qr HO131.out) (Kd.R_base ho0) hb)
   have n3_ := q0 (Kd.R_elder' (qr HO134.out) (Kd.R_base ho0) hb)
   have n4_ := q0 (Kd.R_lower (Kd.R_new' (Kd.R_new' (Kd.R_new' (Kd.R_new' ho0 (Kd.R_lt (qr HO127.out))) (Kd.R_lt (qr HO129.out))) (Kd.R_lt (qr HO131.out))) (Kd.R_lt (qr HO134.out))) (below_size (qb HB.out)))
   have n5_ := q0 (kb BK116.out hb)
   have n6_ := q0 (kb BK132.out hb)
   have n7_ := q0 (below_step (qb HB.out) hb)
   clear HO127
   clear HO129
   clear HO131
   clear HO134
   clear BK116
   clear BK132
   clear HB
   have HO127 := n0_
   have HO129 := n1_
   have HO131 := n2_
   have HO134 := n3_
   have HO136 := n4_
   have BK116 := n5_
   have BK132 := n6_
   have HB := n7_
   clear n0_ n1_ n2_ n3_ n4_ n5_ n6_ n7_
   (try clear hb)
   (try clear hb2)
   (try clear hk)
   (try clear hi)
   (try clear ho0)
   obtain ⟨Ao158, co158, eo158⟩ := Kd.R_slice HO136.out
   (first | subst eo158 | (injection eo158 with f1_ f2_ f3_; have f4_ := f1_.symm; have f5_ := f3_.symm; clear f1_ f2_ f3_; subst f4_; subst f5_))
   refine hK.out _ _ ⟨(blk_cell BK132.out 0).trans rfl, (blk_cell BK132.out 1).trans rfl, (blk_cell BK116.out 0).trans rfl, (blk_cell BK116.out 1).trans rfl⟩ (fun hHeld => ?_)
   clear hK K
   refine nu 29 ?_
   refine one_ (i := 3) (N := some 30) (ba 5 15) rfl rfl (by kernel_rfl) (by decide) (fun K hK => ?_)
   refine goes_ Try.func18 (by kernel_rfl) rfl #[.agg #[.int .i64 t109, .slice Ao151 t118.length co151], .agg #[.int .i64 t112, .slice Ao158 t121.length co158]] (by rfl) rfl rfl qm ?_
   with_reducible refine (laws_eqNet.calls k t109 _ _ t118 t112 _ _ t121 false _ ?side1 ?side2 ?side3 ?side4 A14.out).mono ?_
   (case side1 => exact qc (Kd.R_reads' HO131.out).2.2)
   (case side2 => exact (Kd.R_reads' HO131.out).2.1)
   (case side3 => exact qc (Kd.R_reads' HO136.out).2.2)
   (case side4 => exact (Kd.R_reads' HO136.out).2.1)
   rintro e w120 ⟨rfl, hb⟩
   refine ⟨_, rfl, ?_⟩
   have n0_ := q0 (Kd.R_below (qr HO127.out) hb)
   have n1_ := q0 (Kd.R_below (qr HO129.out) hb)
   have n2_ := q0 (Kd.R_below (qr HO131.out) hb)
   have n3_ := q0 (Kd.R_below (qr HO134.out) hb)
   have n4_ := q0 (Kd.R_below (qr HO136.out) hb)
   have n5_ := q0 (kb BK116.out hb)
   have n6_ := q0 (kb BK132.out hb)
   have n7_ := q0 (below_step (qb HB.out) hb)
   clear HO127
   clear HO129
   clear HO131
   clear HO134
   clear HO136
   clear BK116
   clear BK132
   clear HB
   have HO127 := n0_
   have HO129 := n1_
   have HO131 := n2_
   have HO134 := n3_
   have HO136 := n4_
   have BK116 := n5_
   have BK132 := n6_
   have HB := n7_
   clear n0_ n1_ n2_ n3_ n4_ n5_ n6_ n7_
   (try clear hb)
   (try clear hb2)
   (try clear hk)
   (try clear hi)
   refine hK.out _ _ ⟨(blk_cell BK132.out 0).trans rfl, (blk_cell BK132.out 1).trans rfl, (blk_cell BK116.out 0).trans rfl, (blk_cell BK116.out 1).trans rfl⟩ (fun hHeld => ?_)
   clear hK K
   refine nu 30 ?_
   refine pw 4 (some 31) (ba 5 31) ?_
   refine done_ (by kernel_rfl) ?_
   try go_wp2
   go_ret
   exact ⟨qe, qb HB.out⟩
 subst c15
 have H1 : ((laws_markNet.f k t109 t118 1).bind fun bt114 => (if bt114.1 < 0 then (laws_FnExactBridgeList.j0 k t108 t110 true a0_0 l0_1) else ((laws_eqTieS.f k t110 t108).bind fun t115 => (laws_FnExactBridgeList.j0 k t108 t110 (!t115) a0_0 l0_1)))) = some r := by rw [if_pos rfl] at H; exact H
 clear H
 have H := H1
 clear H1
 replace H := Option.bind_eq_some_iff.mp H
 obtain ⟨⟨t114, t124⟩, A125, H⟩ := H
 replace H : (if t114 < 0 then (laws_FnExactBridgeList.j0 k t108 t110 true a0_0 l0_1) else ((laws_eqTieS.f k t110 t108).bind fun t115 => (laws_FnExactBridgeList.j0 k t108 t110 (!t115) a0_0 l0_1))) = some r := H
 have A16 := Aside0.mk A125
 clear A125
 have HC17 := Aside0.mk H
 clear H
 go_enter Try.func5, Try.ntmps5
 try go_wp2_with (first | ((with_reducible refine gate_dst (N := 1) rfl ?_); refine be 1 #[.int .i64 a0_0, .slice A0_1 l0_1.length c0_1] 24 ?_; intro gb116 hg w18 hbox hb; have n0_ := q0 (below_step (qb HB.out) hb); have n1_ := q0 (hbox); have n2_ := q0 ((bs HB.out hg : w.heap.size ≤ gb116)); have n3_ := q0 ((bs HB.out hg : w.heap.size ≤ gb116)); clear HB; have HB := n0_; have BK116 := n1_; have GW116 := n2_; have GE116 := n3_; clear n0_ n1_ n2_ n3_ hb hbox hg; have hcz19_0 : w18.cell? ⟨gb116, 0, none⟩ = some (.int .i64 a0_0) := (blk_cell BK116.out 0).trans rfl; have hcz19_1 : w18.cell? ⟨gb116, 1, none⟩ = some (.slice A0_1 l0_1.length c0_1) := (blk_cell BK116.out 1).trans rfl; have hfz19_0 := blk_frozen BK116.out 0; have hfz19_1 := blk_frozen BK116.out 1) | ((with_reducible refine gate_callee (f := 13) rfl ?_); refine goesL_ (some 13) rfl rfl Try.func13 (by kernel_rfl) rfl #[.agg #[.int .i64 a0_0, .slice A0_1 l0_1.length c0_1], .int .i64 1048576] rfl qm ?_; (with_reducible refine (laws_szNet.calls a0_0 _ _ l0_1 1048576 t100 _ ?side1 ?side2 A2.out).mono ?_); (case side1 => exact qc (Kd.C_below HR0_1.out HB.out)); (case side2 => exact HC0_1.out); rintro e w20 ⟨rfl, hb⟩; refine ⟨_, rfl, ?_⟩; have n0_ := q0 (kb BK116.out hb); have n1_ := q0 (below_step (qb HB.out) hb); clear BK116 HB; have BK116 := n0_; have HB := n1_; clear n0_ n1_; (try clear hb); (try clear hb2); (try clear hk); (try clear hi); have hcz21_0 : w20.cell? ⟨gb116, 0, none⟩ = some (.int .i64 a0_0) := (blk_cell BK116.out 0).trans rfl; have hcz21_1 : w20.cell? ⟨gb116, 1, none⟩ = some (.slice A0_1 l0_1.length c0_1) := (blk_cell BK116.out 1).trans rfl; have hfz21_0 := blk_frozen BK116.out 0; have hfz21_1 := blk_frozen BK116.out 1) | ((with_reducible refine gate_callee (f := 15) rfl ?_); refine goesL_ (some 17) rfl rfl Try.func15 (by kernel_rfl) rfl #[.agg #[.int .i64 a0_0, .slice A0_1 l0_1.length c0_1]] rfl qm ?_; (with_reducible refine (laws_toNet.calls k a0_0 _ _ l0_1 t107 t117 _ ?side1 ?side2 A7.out).mono ?_); (case side1 => exact qc (Kd.C_below HR0_1.out HB.out)); (case side2 => exact HC0_1.out); rintro e w22 ⟨v126, rfl, ho0, hb⟩; refine ⟨_, rfl, ?_⟩; have n0_ := q0 (Kd.R_lower ho0 (below_size (qb HB.out))); have n1_ := q0 (kb BK116.out hb); have n2_ := q0 (below_step (qb HB.out) hb); clear BK116 HB; have HO127 := n0_; have BK116 := n1_; have HB := n2_; clear n0_ n1_ n2_; (try clear hb); (try clear hb2); (try clear hk); (try clear hi); (try clear ho0); obtain ⟨Ao23, co23, eo23⟩ := Kd.R_slice HO127.out; subst eo23) | ((with_reducible refine gate_callee (f := 26) rfl ?_); refine goesL_ (some 18) rfl rfl Try.func26 (by kernel_rfl) rfl #[.agg #[.int .i64 t107, .slice Ao23 t117.length co23]] rfl qm ?_; (with_reducible refine (spec_BridgeList.calls k t107 _ _ t117 t108 _ ?side1 ?side2 A8.out).mono ?_); (case side1 => exact qc (Kd.R_reads' HO127.out).2.2); (case side2 => exact (Kd.R_reads' HO127.out).2.1); rintro e w24 ⟨v128, rfl, ho0, hb⟩; refine ⟨_, rfl, ?_⟩; have n0_ := q0 (Kd.R_elder' (qr HO127.out) (Kd.R_base ho0) hb); have n1_ := q0 (Kd.R_lower (Kd.R_new' ho0 (Kd.R_lt (qr HO127.out))) (below_size (qb HB.out))); have n2_ := q0 (kb BK116.out hb); have n3_ := q0 (below_step (qb HB.out) hb); clear HO127 BK116 HB; have HO127 := n0_; have HO129 := n1_; have BK116 := n2_; have HB := n3_; clear n0_ n1_ n2_ n3_; (try clear hb); (try clear hb2); (try clear hk); (try clear hi); (try clear ho0); have hcz25_0 : w24.cell? ⟨gb116, 0, none⟩ = some (.int .i64 a0_0) := (blk_cell BK116.out 0).trans rfl; have hcz25_1 : w24.cell? ⟨gb116, 1, none⟩ = some (.slice A0_1 l0_1.length c0_1) := (blk_cell BK116.out 1).trans rfl; have hfz25_0 := blk_frozen BK116.out 0; have hfz25_1 := blk_frozen BK116.out 1) | ((with_reducible refine gate_callee (f := 15) rfl ?_); refine goesL_ (some 20) rfl rfl Try.func15 (by kernel_rfl) rfl #[.agg #[.int .i64 a0_0, .slice A0_1 l0_1.length c0_1]] rfl qm ?_; (with_reducible refine (laws_toNet.calls k a0_0 _ _ l0_1 t109 t118 _ ?side1 ?side2 A9.out).mono ?_); (case side1 => exact qc (Kd.C_below HR0_1.out HB.out)); (case side2 => exact HC0_1.out); rintro e w26 ⟨v130, rfl, ho0, hb⟩; refine ⟨_, rfl, ?_⟩; have n0_ := q0 (Kd.R_elder' (qr HO127.out) (Kd.R_base ho0) hb); have n1_ := q0 (Kd.R_elder' (qr HO129.out) (Kd.R_base ho0) hb); have n2_ := q0 (Kd.R_lower (Kd.R_new' (Kd.R_new' ho0 (Kd.R_lt (qr HO127.out))) (Kd.R_lt (qr HO129.out))) (below_size (qb HB.out))); have n3_ := q0 (kb BK116.out hb); have n4_ := q0 (below_step (qb HB.out) hb); clear HO127 HO129 BK116 HB; have HO127 := n0_; have HO129 := n1_; have HO131 := n2_; have BK116 := n3_; have HB := n4_; clear n0_ n1_ n2_ n3_ n4_; (try clear hb); (try clear hb2); (try clear hk); (try clear hi); (try clear ho0)) | ((with_reducible refine gate_dst (N := 5) rfl ?_); refine be 5 #[.int .i64 0, .slice none 0 0] 32 ?_; intro gb132 hg w27 hbox hb; have n0_ := q0 (Kd.R_below (qr HO127.out) hb); have n1_ := q0 (Kd.R_below (qr HO129.out) hb); have n2_ := q0 (Kd.R_below (qr HO131.out) hb); have n3_ := q0 (kb BK116.out hb); have n4_ := q0 (below_step (qb HB.out) hb); have n5_ := q0 (hbox); have n6_ := q0 ((bs HB.out hg : w.heap.size ≤ gb132)); have n7_ := q0 ((bs HB.out hg : w.heap.size ≤ gb132)); have n8_ := q0 ((bl BK116.out hg : gb116 ≠ gb132)); have n9_ := q0 ((bg BK116.out hg : gb132 ≠ gb116)); clear HO127 HO129 HO131 BK116 HB; have HO127 := n0_; have HO129 := n1_; have HO131 := n2_; have BK116 := n3_; have HB := n4_; have BK132 := n5_; have GW132 := n6_; have GE132 := n7_; have NB116_132 := n8_; have NB132_116 := n9_; clear n0_ n1_ n2_ n3_ n4_ n5_ n6_ n7_ n8_ n9_ hb hbox hg; have hnb28 := NB132_116.out; have hnc28 := NB116_132.out; have hcz29_0 : w27.cell? ⟨gb132, 0, none⟩ = some (.int .i64 0) := (blk_cell BK132.out 0).trans rfl; have hcz29_1 : w27.cell? ⟨gb132, 1, none⟩ = some (.slice none 0 0) := (blk_cell BK132.out 1).trans rfl; have hfz29_0 := blk_frozen BK132.out 0; have hfz29_1 := blk_frozen BK132.out 1; obtain ⟨Ao30, co30, eo30⟩ := Kd.R_slice HO131.out; subst eo30) | ((with_reducible refine gate_callee (f := 27) rfl ?_); refine goesL_ (some 22) rfl rfl Try.func27 (by kernel_rfl) rfl #[.agg #[.int .i64 t109, .slice Ao30 t118.length co30]] rfl qm ?_; (with_reducible refine (impl_BridgeList.calls k t109 _ _ t118 t110 _ ?side1 ?side2 A10.out).mono ?_); (case side1 => refine (Kd.R_reads' (e := 27) (base := w.heap.size) (ok := fun k_ => ((True ∧ some k_ ≠ (.slice Ao23 t117.length co23 : Value).ownBlock) ∧ some k_ ≠ (v128 : Value).ownBlock)) (n := t118.length) (c := co30) ?_).2.2; exact (by (with_reducible repeat (first | apply Kd.R_alloc | apply Kd.R_drewN | apply Kd.R_drew)); exact (Kd.R_mono (Kd.R_far (p := ⟨gb132, 1, none⟩) (Kd.R_far (p := ⟨gb132, 0, none⟩) (Kd.R_types HO131.out BK132.out (by decide)) (fun _ hk => hk.2) (.int .i64 t109)) (fun _ hk => hk.2) (.slice Ao30 t118.length co30)) (fun _ h_ => h_.1)))); (case side2 => exact (Kd.R_reads' HO131.out).2.1); rintro e w31 ⟨v133, rfl, ho0, hb⟩; refine ⟨_, rfl, ?_⟩; have n0_ := q0 (Kd.R_elder' (by (with_reducible repeat (first | apply Kd.R_alloc | apply Kd.R_drewN | apply Kd.R_drew)); exact (Kd.R_mono (Kd.R_far (p := ⟨gb132, 1, none⟩) (Kd.R_far (p := ⟨gb132, 0, none⟩) (Kd.R_types HO127.out BK132.out (by decide)) (fun _ hk => hk.2) (.int .i64 t109)) (fun _ hk => hk.2) (.slice Ao30 t118.length co30)) (fun _ h_ => h_.1))) (Kd.R_base ho0) hb); have n1_ := q0 (Kd.R_elder' (by (with_reducible repeat (first | apply Kd.R_alloc | apply Kd.R_drewN | apply Kd.R_drew)); exact (Kd.R_mono (Kd.R_far (p := ⟨gb132, 1, none⟩) (Kd.R_far (p := ⟨gb132, 0, none⟩) (Kd.R_types HO129.out BK132.out (by decide)) (fun _ hk => hk.2) (.int .i64 t109)) (fun _ hk => hk.2) (.slice Ao30 t118.length co30)) (fun _ h_ => h_.1))) (Kd.R_base ho0) hb); have n2_ := q0 (Kd.R_elder' (by (with_reducible repeat (first | apply Kd.R_alloc | apply Kd.R_drewN | apply Kd.R_drew)); exact (Kd.R_mono (Kd.R_far (p := ⟨gb132, 1, none⟩) (Kd.R_far (p := ⟨gb132, 0, none⟩) (Kd.R_types HO131.out BK132.out (by decide)) (fun _ hk => hk.2) (.int .i64 t109)) (fun _ hk => hk.2) (.slice Ao30 t118.length co30)) (fun _ h_ => h_.1))) (Kd.R_base ho0) hb); have n3_ := q0 (Kd.R_lower (Kd.R_new' (Kd.R_new' (Kd.R_new' ho0 (Kd.R_lt (by (with_reducible repeat (first | apply Kd.R_alloc | apply Kd.R_drewN | apply Kd.R_drew)); exact (Kd.R_mono (Kd.R_far (p := ⟨gb132, 1, none⟩) (Kd.R_far (p := ⟨gb132, 0, none⟩) (Kd.R_types HO127.out BK132.out (by decide)) (fun _ hk => hk.2) (.int .i64 t109)) (fun _ hk => hk.2) (.slice Ao30 t118.length co30)) (fun _ h_ => h_.1))))) (Kd.R_lt (by (with_reducible repeat (first | apply Kd.R_alloc | apply Kd.R_drewN | apply Kd.R_drew)); exact (Kd.R_mono (Kd.R_far (p := ⟨gb132, 1, none⟩) (Kd.R_far (p := ⟨gb132, 0, none⟩) (Kd.R_types HO129.out BK132.out (by decide)) (fun _ hk => hk.2) (.int .i64 t109)) (fun _ hk => hk.2) (.slice Ao30 t118.length co30)) (fun _ h_ => h_.1))))) (Kd.R_lt (by (with_reducible repeat (first | apply Kd.R_alloc | apply Kd.R_drewN | apply Kd.R_drew)); exact (Kd.R_mono (Kd.R_far (p := ⟨gb132, 1, none⟩) (Kd.R_far (p := ⟨gb132, 0, none⟩) (Kd.R_types HO131.out BK132.out (by decide)) (fun _ hk => hk.2) (.int .i64 t109)) (fun _ hk => hk.2) (.slice Ao30 t118.length co30)) (fun _ h_ => h_.1))))) (below_size (qb HB.out))); have n4_ := q0 (blk_below (g := gb116) (o := .cells #[.int .i64 a0_0, .slice A0_1 l0_1.length c0_1] 24 (0, 0)) (qf BK116.out) hb); have n5_ := q0 (blk_below (g := gb132) (o := .cells #[.int .i64 t109, .slice Ao30 t118.length co30] 32 (0, 0)) (by (with_reducible repeat (first | refine blk_drewN ?_ _ | refine blk_drew ?_ | refine blk_alloc ?_ _)); refine blk_put (cs := #[.int .i64 t109, .slice none 0 0]) ?_ 1 _ rfl; (with_reducible repeat (first | refine blk_drewN ?_ _ | refine blk_drew ?_ | refine blk_alloc ?_ _)); refine blk_put (cs := #[.int .i64 0, .slice none 0 0]) ?_ 0 _ rfl; (with_reducible repeat (first | refine blk_drewN ?_ _ | refine blk_drew ?_ | refine blk_alloc ?_ _)); exact BK132.out) hb); have n6_ := q0 (below_step (qb HB.out) hb); clear HO127 HO129 HO131 BK116 BK132 HB; have HO127 := n0_; have HO129 := n1_; have HO131 := n2_; have HO134 := n3_; have BK116 := n4_; have BK132 := n5_; have HB := n6_; clear n0_ n1_ n2_ n3_ n4_ n5_ n6_; (try clear hb); (try clear hb2); (try clear hk); (try clear hi); (try clear ho0); obtain ⟨Ao32, co32, eo32⟩ := Kd.R_slice HO134.out; subst eo32; obtain ⟨Ao33, co33, eo33⟩ := Kd.R_slice HO129.out; subst eo33) | ((with_reducible refine gate_callee (f := 28) rfl ?_); refine goesL_ (some 25) rfl rfl Try.func28 (by kernel_rfl) rfl #[.slice Ao32 t110.length co32, .slice Ao33 t108.length co33] rfl qm ?_; (with_reducible refine (laws_eqTieS.calls k _ _ t110 _ _ t108 true _ ?side1 ?side2 ?side3 ?side4 A11.out).mono ?_); (case side1 => exact qc (Kd.R_reads' HO134.out).2.2); (case side2 => exact (Kd.R_reads' HO134.out).2.1); (case side3 => exact qc (Kd.R_reads' HO129.out).2.2); (case side4 => exact (Kd.R_reads' HO129.out).2.1); rintro e w34 ⟨rfl, hb⟩; refine ⟨_, rfl, ?_⟩; have n0_ := q0 (Kd.R_below (qr HO127.out) hb); have n1_ := q0 (Kd.R_below (qr HO129.out) hb); have n2_ := q0 (Kd.R_below (qr HO131.out) hb); have n3_ := q0 (Kd.R_below (qr HO134.out) hb); have n4_ := q0 (kb BK116.out hb); have n5_ := q0 (kb BK132.out hb); have n6_ := q0 (below_step (qb HB.out) hb); clear HO127 HO129 HO131 HO134 BK116 BK132 HB; have HO127 := n0_; have HO129 := n1_; have HO131 := n2_; have HO134 := n3_; have BK116 := n4_; have BK132 := n5_; have HB := n6_; clear n0_ n1_ n2_ n3_ n4_ n5_ n6_; (try clear hb); (try clear hb2); (try clear hk); (try clear hi)))
 have n0_ := q0 (Kd.R_drew HO127.out)
 have n1_ := q0 (Kd.R_drew HO129.out)
 have n2_ := q0 (Kd.R_drew HO131.out)
 have n3_ := q0 (Kd.R_drew HO134.out)
 have n4_ := q0 (blk_drew BK116.out)
 have n5_ := q0 (blk_drew BK132.out)
 have n6_ := q0 (below_drew1 HB.out)
 clear HO127
 clear HO129
 clear HO131
 clear HO134
 clear BK116
 clear BK132
 clear HB
 have HO127 := n0_
 have HO129 := n1_
 have HO131 := n2_
 have HO134 := n3_
 have BK116 := n4_
 have BK132 := n5_
 have HB := n6_
 clear n0_ n1_ n2_ n3_ n4_ n5_ n6_
 refine start_ (n := 5) (S := fun w' => w'.cell? ⟨gb132, 0, none⟩ = some (.int .i64 t109) ∧ w'.cell? ⟨gb132, 1, none⟩ = some (.slice Ao30 t118.length co30) ∧ w'.cell? ⟨gb116, 0, none⟩ = some (.int .i64 a0_0) ∧ w'.cell? ⟨gb116, 1, none⟩ = some (.slice A0_1 l0_1.length c0_1)) (ds := []) (ba 5 0) (by kernel_rfl) rfl (by kernel_rfl) ⟨(blk_cell BK132.out 0).trans rfl, (blk_cell BK132.out 1).trans rfl, (blk_cell BK116.out 0).trans rfl, (blk_cell BK116.out 1).trans rfl⟩ (fun hHeld => ?_)
 generalize w34.drew = w35 at HO127 HO129 HO131 HO134 BK116 BK132 HB hHeld ⊢
 refine tw 0 (some 27) (ba 5 1) hHeld ?_
 refine tw 1 (some 28) (ba 5 3) hHeld ?_
 refine one_ (i := 2) (N := some 29) (ba 5 7) rfl rfl (by kernel_rfl) (by decide) (fun K hK => ?_)
 refine goes_ Try.func15 (by kernel_rfl) rfl #[.agg #[.int .i64 a0_0, .slice A0_1 l0_1.length c0_1]] (by rfl) rfl rfl qm ?_
 with_reducible refine (laws_toNet.calls k a0_0 _ _ l0_1 t112 t121 _ ?side1 ?side2 A13.out).mono ?_
 (case side1 => exact qc (Kd.C_below HR0_1.out HB.out))
 (case side2 => exact HC0_1.out)
 rintro e w36 ⟨v135, rfl, ho0, hb⟩
 refine ⟨_, rfl, ?_⟩
 have n0_ := q0 (Kd.R_elder' (qr HO127.out) (Kd.R_base ho0) hb)
 have n1_ := q0 (Kd.R_elder' (qr HO129.out) (Kd.R_base ho0) hb)
 have n2_ := q0 (Kd.R_elder' (qr HO131.out) (Kd.R_base ho0) hb)
 have n3_ := q0 (Kd.R_elder' (qr HO134.out) (Kd.R_base ho0) hb)
 have n4_ := q0 (Kd.R_lower (Kd.R_new' (Kd.R_new' (Kd.R_new' (Kd.R_new' ho0 (Kd.R_lt (qr HO127.out))) (Kd.R_lt (qr HO129.out))) (Kd.R_lt (qr HO131.out))) (Kd.R_lt (qr HO134.out))) (below_size (qb HB.out)))
 have n5_ := q0 (kb BK116.out hb)
 have n6_ := q0 (kb BK132.out hb)
 have n7_ := q0 (below_step (qb HB.out) hb)
 clear HO127
 clear HO129
 clear HO131
 clear HO134
 clear BK116
 clear BK132
 clear HB
 have HO127 := n0_
 have HO129 := n1_
 have HO131 := n2_
 have HO134 := n3_
 have HO136 := n4_
 have BK116 := n5_
 have BK132 := n6_
 have HB := n7_
 clear n0_ n1_ n2_ n3_ n4_ n5_ n6_ n7_
 (try clear hb)
 (try clear hb2)
 (try clear hk)
 (try clear hi)
 (try clear ho0)
 obtain ⟨Ao37, co37, eo37⟩ := Kd.R_slice HO136.out
 (first | subst eo37 | (injection eo37 with f1_ f2_ f3_; have f4_ := f1_.symm; have f5_ := f3_.symm; clear f1_ f2_ f3_; subst f4_; subst f5_))
 refine hK.out _ _ ⟨(blk_cell BK132.out 0).trans rfl, (blk_cell BK132.out 1).trans rfl, (blk_cell BK116.out 0).trans rfl, (blk_cell BK116.out 1).trans rfl⟩ (fun hHeld => ?_)
 clear hK K
 refine nu 29 ?_
 refine one_ (i := 3) (N := some 30) (ba 5 15) rfl rfl (by kernel_rfl) (by decide) (fun K hK => ?_)
 refine goes_ Try.func18 (by kernel_rfl) rfl #[.agg #[.int .i64 t109, .slice Ao30 t118.length co30], .agg #[.int .i64 t112, .slice Ao37 t121.length co37]] (by rfl) rfl rfl qm ?_
 with_reducible refine (laws_eqNet.calls k t109 _ _ t118 t112 _ _ t121 true _ ?side1 ?side2 ?side3 ?side4 A14.out).mono ?_
 (case side1 => exact qc (Kd.R_reads' HO131.out).2.2)
 (case side2 => exact (Kd.R_reads' HO131.out).2.1)
 (case side3 => exact qc (Kd.R_reads' HO136.out).2.2)
 (case side4 => exact (Kd.R_reads' HO136.out).2.1)
 rintro e w38 ⟨rfl, hb⟩
 refine ⟨_, rfl, ?_⟩
 have n0_ := q0 (Kd.R_below (qr HO127.out) hb)
 have n1_ := q0 (Kd.R_below (qr HO129.out) hb)
 have n2_ := q0 (Kd.R_below (qr HO131.out) hb)
 have n3_ := q0 (Kd.R_below (qr HO134.out) hb)
 have n4_ := q0 (Kd.R_below (qr HO136.out) hb)
 have n5_ := q0 (kb BK116.out hb)
 have n6_ := q0 (kb BK132.out hb)
 have n7_ := q0 (below_step (qb HB.out) hb)
 clear HO127
 clear HO129
 clear HO131
 clear HO134
 clear HO136
 clear BK116
 clear BK132
 clear HB
 have HO127 := n0_
 have HO129 := n1_
 have HO131 := n2_
 have HO134 := n3_
 have HO136 := n4_
 have BK116 := n5_
 have BK132 := n6_
 have HB := n7_
 clear n0_ n1_ n2_ n3_ n4_ n5_ n6_ n7_
 (try clear hb)
 (try clear hb2)
 (try clear hk)
 (try clear hi)
 refine hK.out _ _ ⟨(blk_cell BK132.out 0).trans rfl, (blk_cell BK132.out 1).trans rfl, (blk_cell BK116.out 0).trans rfl, (blk_cell BK116.out 1).trans rfl⟩ (fun hHeld => ?_)
 clear hK K
 refine nu 30 ?_
 refine pw 4 (some 31) (ba 5 31) ?_
 refine done_ (by kernel_rfl) ?_
 have hcz39_0 : w38.cell? ⟨gb132, 0, none⟩ = some (.int .i64 t109) := (blk_cell BK132.out 0).trans rfl
 have hcz39_1 : w38.cell? ⟨gb132, 1, none⟩ = some (.slice Ao30 t118.length co30) := (blk_cell BK132.out 1).trans rfl
 have hfz39_0 := blk_frozen BK132.out 0
 have hfz39_1 := blk_frozen BK132.out 1
 go_upto_region 14 with (first | ((with_reducible refine gate_callee (f := 29) rfl ?_); refine goesL_ (some 34) rfl rfl Try.func29 (by kernel_rfl) rfl #[.agg #[.int .i64 t109, .slice Ao30 t118.length co30], .int .i64 1] rfl qm ?_; (with_reducible refine (laws_markNet.calls k t109 (fun k_ => some k_ = (.slice Ao30 t118.length co30 : Value).ownBlock) (.slice Ao30 t118.length co30) t118 1 t114 t124 w _ ?side1 ?side2 A16.out).mono ?_); (case side1 => exact qb HB.out); (case side2 => exact Kd.R_tight rfl HO131.out); rintro e w40 ⟨rfl, hy0, hb, hkp⟩; refine ⟨_, rfl, ?_⟩; have n0_ := q0 (blk_kept (qk BK116.out) hkp (fun hs_ => (fun e_ => (Kd.R_ne HO131.out BK116.out (by decide)) e_) hs_)); have n1_ := q0 (Kd.R_mono (ok' := fun k_ => some k_ ≠ (.slice Ao33 t108.length co33 : Value).ownBlock ∧ some k_ ≠ (.slice Ao30 t118.length co30 : Value).ownBlock ∧ some k_ ≠ (.slice Ao32 t110.length co32 : Value).ownBlock ∧ some k_ ≠ (.slice Ao37 t121.length co37 : Value).ownBlock) (Kd.R_keptB (HO127.out) hkp (fun k_ hk_ hs_ => (hk_.1.1.2) hs_)) (fun k_ hk_ => ⟨hk_.1.1.1.1.2, hk_.1.1.1.2, hk_.1.1.2, hk_.1.2⟩)); have n2_ := q0 (Kd.R_mono (ok' := fun k_ => some k_ ≠ (.slice Ao23 t117.length co23 : Value).ownBlock ∧ some k_ ≠ (.slice Ao30 t118.length co30 : Value).ownBlock ∧ some k_ ≠ (.slice Ao32 t110.length co32 : Value).ownBlock ∧ some k_ ≠ (.slice Ao37 t121.length co37 : Value).ownBlock) (Kd.R_keptB (HO129.out) hkp (fun k_ hk_ hs_ => (hk_.1.1.2) hs_)) (fun k_ hk_ => ⟨hk_.1.1.1.1.2, hk_.1.1.1.2, hk_.1.1.2, hk_.1.2⟩)); have n3_ := q0 (Kd.R_reok rfl hy0 (fun k_ e_ => HO131.out.1 k_ e_)); have n4_ := q0 (blk_kept (qk BK132.out) hkp (fun hs_ => (fun e_ => (Kd.R_ne HO131.out BK132.out (by decide)) e_) hs_)); have n5_ := q0 (Kd.R_mono (ok' := fun k_ => some k_ ≠ (.slice Ao23 t117.length co23 : Value).ownBlock ∧ some k_ ≠ (.slice Ao33 t108.length co33 : Value).ownBlock ∧ some k_ ≠ (.slice Ao30 t118.length co30 : Value).ownBlock ∧ some k_ ≠ (.slice Ao37 t121.length co37 : Value).ownBlock) (Kd.R_keptB (HO134.out) hkp (fun k_ hk_ hs_ => (hk_.1.2) hs_)) (fun k_ hk_ => ⟨hk_.1.1.1.1.2, hk_.1.1.1.2, hk_.1.1.2, hk_.1.2⟩)); have n6_ := q0 (Kd.R_mono (ok' := fun k_ => some k_ ≠ (.slice Ao23 t117.length co23 : Value).ownBlock ∧ some k_ ≠ (.slice Ao33 t108.length co33 : Value).ownBlock ∧ some k_ ≠ (.slice Ao30 t118.length co30 : Value).ownBlock ∧ some k_ ≠ (.slice Ao32 t110.length co32 : Value).ownBlock) (Kd.R_keptB (HO136.out) hkp (fun k_ hk_ hs_ => (hk_.1.2) hs_)) (fun k_ hk_ => ⟨hk_.1.1.1.1.2, hk_.1.1.1.2, hk_.1.1.2, hk_.1.2⟩)); have n7_ := q0 (hb); clear BK116 HO127 HO129 HO131 BK132 HO134 HO136 HB; have BK116 := n0_; have HO127 := n1_; have HO129 := n2_; have HO131 := n3_; have BK132 := n4_; have HO134 := n5_; have HO136 := n6_; have HB := n7_; clear n0_ n1_ n2_ n3_ n4_ n5_ n6_ n7_; (try clear hb); (try clear hkp); (try clear hy0)))
 (try simp only [Act.put, List.setIfInBounds_toArray, List.set_cons_zero, List.set_cons_succ])
 go_cut [42] (fun v42 wc => ∃ (kq : Nat) (x42_16 : Bool), v42 = .bool x42_16 ∧ Aside0 (laws_FnExactBridgeList.j0 kq t108 t110 x42_16 a0_0 l0_1 = some r) ∧ Aside0 (kq ≤ k) ∧ Aside0 (Kd.R kTie 27 wc w.heap.size (fun k_ => some k_ ≠ ((.slice Ao32 t110.length co32) : Value).ownBlock ∧ some k_ ≠ ((.slice Ao30 t118.length co30) : Value).ownBlock) (.slice Ao33 t108.length co33) t108) ∧ Aside0 (Kd.R kTie 27 wc w.heap.size (fun k_ => some k_ ≠ ((.slice Ao33 t108.length co33) : Value).ownBlock ∧ some k_ ≠ ((.slice Ao30 t118.length co30) : Value).ownBlock) (.slice Ao32 t110.length co32) t110) ∧ Aside0 (Kd.R kTie 27 wc w.heap.size (fun k_ => some k_ ≠ ((.slice Ao33 t108.length co33) : Value).ownBlock ∧ some k_ ≠ ((.slice Ao32 t110.length co32) : Value).ownBlock) (.slice Ao30 t118.length co30) t124) ∧ Aside0 (wc.heap[gb116]? = some (.cells #[.int .i64 a0_0, (.slice A0_1 l0_1.length c0_1)] 24 (0, 0))) ∧ Aside0 (wc.heap[gb132]? = some (.cells #[.int .i64 t109, (.slice Ao30 t118.length co30)] 32 (0, 0))) ∧ Aside0 (Below w.heap.size w wc))
 case first =>
   have H := HC17.out
   clear HC17
   by_cases c41 : t114 < 0
   · rw [if_pos c41] at H
     have c41b0 : decide (t114 < 0) = true := decide_eq_true c41
     clear c41
     (first | rw [c41b0] | (simp only [i64_w, i32_w]; rw [c41b0]) | skip)
     have H' := Aside0.mk H
     clear H
     go_wp2
     go_meet
     case rel => exact ⟨_, (true), qs, H', ⟨by first | omega | exact Nat.le_refl _⟩, ⟨by (with_reducible repeat (first | apply Kd.R_alloc | apply Kd.R_drewN | apply Kd.R_drew)); exact Kd.R_mono HO129.out (fun _ hk => ⟨hk.2.2.1, hk.2.1⟩)⟩, ⟨by (with_reducible repeat (first | apply Kd.R_alloc | apply Kd.R_drewN | apply Kd.R_drew)); exact Kd.R_mono HO134.out (fun _ hk => ⟨hk.2.1, hk.2.2.1⟩)⟩, ⟨by (with_reducible repeat (first | apply Kd.R_alloc | apply Kd.R_drewN | apply Kd.R_drew)); exact Kd.R_mono HO131.out (fun _ hk => ⟨hk.1.1.2, hk.1.2⟩)⟩, ⟨qk BK116.out⟩, ⟨qk BK132.out⟩, ⟨qb HB.out⟩⟩
   rw [if_neg c41] at H
   have c41b0 : decide (t114 < 0) = false := decide_eq_false c41
   clear c41
   (first | rw [c41b0] | (simp only [i64_w, i32_w]; rw [c41b0]) | skip)
   replace H := Option.bind_eq_some_iff.mp H
   obtain ⟨t115, A137, H⟩ := H
   replace H : (laws_FnExactBridgeList.j0 k t108 t110 (!t115) a0_0 l0_1) = some r := H
   have A42 := Aside0.mk A137
   clear A137
   have H' := Aside0.mk H
   clear H
   go_wp2_with (first | (go_at_call 28; (with_reducible refine (laws_eqTieS.calls k _ _ t110 _ _ t108 t115 _ ?side1 ?side2 ?side3 ?side4 A42.out).mono ?_); (case side1 => exact qc (Kd.R_reads' HO134.out).2.2); (case side2 => exact (Kd.R_reads' HO134.out).2.1); (case side3 => exact qc (Kd.R_reads' HO129.out).2.2); (case side4 => exact (Kd.R_reads' HO129.out).2.1); rintro e w43 ⟨rfl, hb⟩; have n0_ := q0 (Kd.R_below (qr HO127.out) hb); have n1_ := q0 (Kd.R_below (qr HO129.out) hb); have n2_ := q0 (Kd.R_below (qr HO131.out) hb); have n3_ := q0 (Kd.R_below (qr HO134.out) hb); have n4_ := q0 (Kd.R_below (qr HO136.out) hb); have n5_ := q0 (kb BK116.out hb); have n6_ := q0 (kb BK132.out hb); have n7_ := q0 (below_step (qb HB.out) hb); clear HO127 HO129 HO131 HO134 HO136 BK116 BK132 HB; have HO127 := n0_; have HO129 := n1_; have HO131 := n2_; have HO134 := n3_; have HO136 := n4_; have BK116 := n5_; have BK132 := n6_; have HB := n7_; clear n0_ n1_ n2_ n3_ n4_ n5_ n6_ n7_; (try clear hb); (try clear hb2); (try clear hk); (try clear hi)))
   go_meet
   case rel => exact ⟨_, (!t115), qs, H', ⟨by first | omega | exact Nat.le_refl _⟩, ⟨by (with_reducible repeat (first | apply Kd.R_alloc | apply Kd.R_drewN | apply Kd.R_drew)); exact Kd.R_mono HO129.out (fun _ hk => ⟨hk.2.2.1, hk.2.1⟩)⟩, ⟨by (with_reducible repeat (first | apply Kd.R_alloc | apply Kd.R_drewN | apply Kd.R_drew)); exact Kd.R_mono HO134.out (fun _ hk => ⟨hk.2.1, hk.2.2.1⟩)⟩, ⟨by (with_reducible repeat (first | apply Kd.R_alloc | apply Kd.R_drewN | apply Kd.R_drew)); exact Kd.R_mono HO131.out (fun _ hk => ⟨hk.1.1.2, hk.1.2⟩)⟩, ⟨qk BK116.out⟩, ⟨qk BK132.out⟩, ⟨qb HB.out⟩⟩
 clear HC17
 try clear c1
 try clear c2
 try clear p2
 try clear c3
 try clear c3b0
 try clear c4
 try clear c5
 try clear c12
 try clear c13
 try clear c15
 try clear c18
 try clear c26
 try clear c27
 try clear c28
 try clear c29
 try clear c41
 try clear c41b0
 try clear hcz19_0
 try clear hcz19_1
 try clear hcz21_0
 try clear hcz21_1
 try clear hcz25_0
 try clear hcz25_1
 try clear hcz29_0
 try clear hcz29_1
 try clear hcz39_0
 try clear hcz39_1
 try clear hcz5_0
 try clear hcz5_1
 try clear hfz19_0
 try clear hfz19_1
 try clear hfz21_0
 try clear hfz21_1
 try clear hfz25_0
 try clear hfz25_1
 try clear hfz29_0
 try clear hfz29_1
 try clear hfz39_0
 try clear hfz39_1
 try clear hfz5_0
 try clear hfz5_1
 obtain ⟨kq, x42_16, rfl, HA, HJ16, HO_4, HO_6, HO_110001, BK116, BK132, HB⟩ := hcut
 have hl110001_16 := (Kd.R_reads' HO_110001.out).1
 rw [hl110001_16] at HO_110001
 (try simp only [hl110001_16])
 (try simp only [hl110001_16] at BK116)
 (try simp only [hl110001_16] at BK132)
 (try simp only [hl110001_16] at HO_4)
 (try simp only [hl110001_16] at HO_6)
 rcases kq with _ | kj16
 · exact absurd HA.out (by simp [laws_FnExactBridgeList.j0])
 have H := HA.out
 clear HA
 simp only [laws_FnExactBridgeList.j0] at H
 by_cases c44 : x42_16 = true
 · subst c44
   have H1 : (some false) = some r := by rw [if_pos rfl] at H; exact H
   clear H
   have H := H1
   clear H1
   obtain rfl := Option.some.inj H
   go_wp2
   go_ret
   exact ⟨qe, qb HB.out⟩
 replace c44 := Bool.eq_false_iff.mpr c44
 subst c44
 have H1 : ((laws_markTieS.f kj16 t110 1).bind fun bt101 => ((laws_heldTieS.f kj16 bt101.2 1).bind fun t102 => (if t102 < 0 then (some false) else (if t102 = bt101.1 then ((laws_toNet.f kj16 a0_0 l0_1).bind fun bt103 => ((impl_BridgeList.f kj16 bt103.1 bt103.2).bind fun t104 => ((laws_eqTieS.f kj16 t104 t108).bind fun t105 => (if t105 = true then ((laws_heldTieS.f kj16 bt101.2 1).bind fun t106 => (if t106 < 0 then (some false) else (if t106 = bt101.1 then (some true) else (some false)))) else (some false))))) else (some false))))) = some r := by rw [if_neg (show ¬ (false = true) by decide)] at H; exact H
 clear H
 have H := H1
 clear H1
 replace H := Option.bind_eq_some_iff.mp H
 obtain ⟨⟨t101, t138⟩, A139, H⟩ := H
 replace H : ((laws_heldTieS.f kj16 t138 1).bind fun t102 => (if t102 < 0 then (some false) else (if t102 = t101 then ((laws_toNet.f kj16 a0_0 l0_1).bind fun bt103 => ((impl_BridgeList.f kj16 bt103.1 bt103.2).bind fun t104 => ((laws_eqTieS.f kj16 t104 t108).bind fun t105 => (if t105 = true then ((laws_heldTieS.f kj16 t138 1).bind fun t106 => (if t106 < 0 then (some false) else (if t106 = t101 then (some true) else (some false)))) else (some false))))) else (some false)))) = some r := H
 have A45 := Aside0.mk A139
 clear A139
 replace H := Option.bind_eq_some_iff.mp H
 obtain ⟨t102, A140, H⟩ := H
 replace H : (if t102 < 0 then (some false) else (if t102 = t101 then ((laws_toNet.f kj16 a0_0 l0_1).bind fun bt103 => ((impl_BridgeList.f kj16 bt103.1 bt103.2).bind fun t104 => ((laws_eqTieS.f kj16 t104 t108).bind fun t105 => (if t105 = true then ((laws_heldTieS.f kj16 t138 1).bind fun t106 => (if t106 < 0 then (some false) else (if t106 = t101 then (some true) else (some false)))) else (some false))))) else (some false))) = some r := H
 have A46 := Aside0.mk A140
 clear A140
 by_cases c47 : t102 < 0
 · rw [if_pos c47] at H
   have c47b0 : decide (t102 < 0) = true := decide_eq_true c47
   clear c47
   obtain rfl := Option.some.inj H
   go_wp2_with (first | ((with_reducible refine gate_callee (f := 30) rfl ?_); refine goesL_ (some 45) rfl rfl Try.func30 (by kernel_rfl) rfl #[.slice Ao32 t110.length co32, .int .i64 1] rfl qm ?_; (with_reducible refine (laws_markTieS.calls kj16 (fun k_ => some k_ = (.slice Ao32 t110.length co32 : Value).ownBlock) (.slice Ao32 t110.length co32) t110 1 t101 t138 w _ ?side1 ?side2 A45.out).mono ?_); (case side1 => exact qb HB.out); (case side2 => exact Kd.R_tight rfl HO_6.out); rintro e w48 ⟨rfl, hy0, hb, hkp⟩; refine ⟨_, rfl, ?_⟩; have n0_ := q0 (Kd.R_mono (ok' := fun k_ => some k_ ≠ (.slice Ao32 t110.length co32 : Value).ownBlock ∧ some k_ ≠ (.slice Ao30 t124.length co30 : Value).ownBlock) (Kd.R_keptB (HO_4.out) hkp (fun k_ hk_ hs_ => (hk_.1) hs_)) (fun k_ hk_ => ⟨hk_.1.1, hk_.1.2⟩)); have n1_ := q0 (Kd.R_reok rfl hy0 (fun k_ e_ => HO_6.out.1 k_ e_)); have n2_ := q0 (Kd.R_mono (ok' := fun k_ => some k_ ≠ (.slice Ao33 t108.length co33 : Value).ownBlock ∧ some k_ ≠ (.slice Ao32 t110.length co32 : Value).ownBlock) (Kd.R_keptB (HO_110001.out) hkp (fun k_ hk_ hs_ => (hk_.2) hs_)) (fun k_ hk_ => ⟨hk_.1.1, hk_.1.2⟩)); have n3_ := q0 (blk_kept (qk BK116.out) hkp (fun hs_ => (fun e_ => (Kd.R_ne HO_6.out BK116.out (by decide)) e_) hs_)); have n4_ := q0 (blk_kept (qk BK132.out) hkp (fun hs_ => (fun e_ => (Kd.R_ne HO_6.out BK132.out (by decide)) e_) hs_)); have n5_ := q0 (hb); clear HO_4 HO_6 HO_110001 BK116 BK132 HB; have HO_4 := n0_; have HO_6 := n1_; have HO_110001 := n2_; have BK116 := n3_; have BK132 := n4_; have HB := n5_; clear n0_ n1_ n2_ n3_ n4_ n5_; (try clear hb); (try clear hkp); (try clear hy0)) | ((with_reducible refine gate_callee (f := 31) rfl ?_); refine goesL_ (some 48) rfl rfl Try.func31 (by kernel_rfl) rfl #[.slice Ao32 t138.length co32, .int .i64 1] rfl (by (try simp only [List.map_toArray, List.map_cons, List.map_nil]); first | done | (rw [show t138.length = t110.length from (Kd.R_reads' HO_6.out).1.symm] <;> rfl) | rfl | (simp only [List.length_drop, List.length_take]; rfl)) ?_; (with_reducible refine (laws_heldTieS.calls kj16 _ _ t138 1 t102 _ ?side1 ?side2 A46.out).mono ?_); (case side1 => exact qc (Kd.R_reads' HO_6.out).2.2); (case side2 => rw [show t138.length = t110.length from (Kd.R_reads' HO_6.out).1.symm]; exact (Kd.R_reads' HO_6.out).2.1); rintro e w' ⟨rfl, ⟨nd, rfl⟩⟩; refine ⟨_, rfl, ?_⟩))
   go_ret
   exact ⟨qe, qb HB.out⟩
 rw [if_neg c47] at H
 have c47b0 : decide (t102 < 0) = false := decide_eq_false c47
 clear c47
 by_cases c49 : t102 = t101
 rotate_left
 · rw [if_neg c49] at H
   have c49b0 : (t102 == t101) = false := beq_eq_false_iff_ne.mpr c49
   have c49b1 : (t102 != t101) = true := bne_iff_ne.mpr c49
   obtain rfl := Option.some.inj H
   go_wp2_with (first | ((with_reducible refine gate_callee (f := 30) rfl ?_); refine goesL_ (some 45) rfl rfl Try.func30 (by kernel_rfl) rfl #[.slice Ao32 t110.length co32, .int .i64 1] rfl qm ?_; (with_reducible refine (laws_markTieS.calls kj16 (fun k_ => some k_ = (.slice Ao32 t110.length co32 : Value).ownBlock) (.slice Ao32 t110.length co32) t110 1 t101 t138 w _ ?side1 ?side2 A45.out).mono ?_); (case side1 => exact qb HB.out); (case side2 => exact Kd.R_tight rfl HO_6.out); rintro e w89 ⟨rfl, hy0, hb, hkp⟩; refine ⟨_, rfl, ?_⟩; have n0_ := q0 (Kd.R_mono (ok' := fun k_ => some k_ ≠ (.slice Ao32 t110.length co32 : Value).ownBlock ∧ some k_ ≠ (.slice Ao30 t124.length co30 : Value).ownBlock) (Kd.R_keptB (HO_4.out) hkp (fun k_ hk_ hs_ => (hk_.1) hs_)) (fun k_ hk_ => ⟨hk_.1.1, hk_.1.2⟩)); have n1_ := q0 (Kd.R_reok rfl hy0 (fun k_ e_ => HO_6.out.1 k_ e_)); have n2_ := q0 (Kd.R_mono (ok' := fun k_ => some k_ ≠ (.slice Ao33 t108.length co33 : Value).ownBlock ∧ some k_ ≠ (.slice Ao32 t110.length co32 : Value).ownBlock) (Kd.R_keptB (HO_110001.out) hkp (fun k_ hk_ hs_ => (hk_.2) hs_)) (fun k_ hk_ => ⟨hk_.1.1, hk_.1.2⟩)); have n3_ := q0 (blk_kept (qk BK116.out) hkp (fun hs_ => (fun e_ => (Kd.R_ne HO_6.out BK116.out (by decide)) e_) hs_)); have n4_ := q0 (blk_kept (qk BK132.out) hkp (fun hs_ => (fun e_ => (Kd.R_ne HO_6.out BK132.out (by decide)) e_) hs_)); have n5_ := q0 (hb); clear HO_4 HO_6 HO_110001 BK116 BK132 HB; have HO_4 := n0_; have HO_6 := n1_; have HO_110001 := n2_; have BK116 := n3_; have BK132 := n4_; have HB := n5_; clear n0_ n1_ n2_ n3_ n4_ n5_; (try clear hb); (try clear hkp); (try clear hy0)) | ((with_reducible refine gate_callee (f := 31) rfl ?_); refine goesL_ (some 48) rfl rfl Try.func31 (by kernel_rfl) rfl #[.slice Ao32 t138.length co32, .int .i64 1] rfl (by (try simp only [List.map_toArray, List.map_cons, List.map_nil]); first | done | (rw [show t138.length = t110.length from (Kd.R_reads' HO_6.out).1.symm] <;> rfl) | rfl | (simp only [List.length_drop, List.length_take]; rfl)) ?_; (with_reducible refine (laws_heldTieS.calls kj16 _ _ t138 1 t102 _ ?side1 ?side2 A46.out).mono ?_); (case side1 => exact qc (Kd.R_reads' HO_6.out).2.2); (case side2 => rw [show t138.length = t110.length from (Kd.R_reads' HO_6.out).1.symm]; exact (Kd.R_reads' HO_6.out).2.1); rintro e w' ⟨rfl, ⟨nd, rfl⟩⟩; refine ⟨_, rfl, ?_⟩))
   go_ret
   exact ⟨qe, qb HB.out⟩
 rw [if_pos c49] at H
 have c49b0 : (t102 == t101) = true := beq_iff_eq.mpr c49
 have c49b1 : (t102 != t101) = false := bne_eq_false_iff_eq.mpr c49
 clear c49
 replace H := Option.bind_eq_some_iff.mp H
 obtain ⟨⟨t103, t141⟩, A142, H⟩ := H
 replace H : ((impl_BridgeList.f kj16 t103 t141).bind fun t104 => ((laws_eqTieS.f kj16 t104 t108).bind fun t105 => (if t105 = true then ((laws_heldTieS.f kj16 t138 1).bind fun t106 => (if t106 < 0 then (some false) else (if t106 = t101 then (some true) else (some false)))) else (some false)))) = some r := H
 have A50 := Aside0.mk A142
 clear A142
 replace H := Option.bind_eq_some_iff.mp H
 obtain ⟨t104, A143, H⟩ := H
 replace H : ((laws_eqTieS.f kj16 t104 t108).bind fun t105 => (if t105 = true then ((laws_heldTieS.f kj16 t138 1).bind fun t106 => (if t106 < 0 then (some false) else (if t106 = t101 then (some true) else (some false)))) else (some false))) = some r := H
 have A51 := Aside0.mk A143
 clear A143
 replace H := Option.bind_eq_some_iff.mp H
 obtain ⟨t105, A144, H⟩ := H
 replace H : (if t105 = true then ((laws_heldTieS.f kj16 t138 1).bind fun t106 => (if t106 < 0 then (some false) else (if t106 = t101 then (some true) else (some false)))) else (some false)) = some r := H
 have A52 := Aside0.mk A144
 clear A144
 by_cases c53 : t105 = true
 rotate_left
 · replace c53 := Bool.eq_false_iff.mpr c53
   subst c53
   have H1 : (some false) = some r := by rw [if_neg (show ¬ (false = true) by decide)] at H; exact H
   clear H
   have H := H1
   clear H1
   obtain rfl := Option.some.inj H
   go_wp2_with (first | ((with_reducible refine gate_callee (f := 30) rfl ?_); refine goesL_ (some 45) rfl rfl Try.func30 (by kernel_rfl) rfl #[.slice Ao32 t110.length co32, .int .i64 1] rfl qm ?_; (with_reducible refine (laws_markTieS.calls kj16 (fun k_ => some k_ = (.slice Ao32 t110.length co32 : Value).ownBlock) (.slice Ao32 t110.length co32) t110 1 t101 t138 w _ ?side1 ?side2 A45.out).mono ?_); (case side1 => exact qb HB.out); (case side2 => exact Kd.R_tight rfl HO_6.out); rintro e w81 ⟨rfl, hy0, hb, hkp⟩; refine ⟨_, rfl, ?_⟩; have n0_ := q0 (Kd.R_mono (ok' := fun k_ => some k_ ≠ (.slice Ao32 t110.length co32 : Value).ownBlock ∧ some k_ ≠ (.slice Ao30 t124.length co30 : Value).ownBlock) (Kd.R_keptB (HO_4.out) hkp (fun k_ hk_ hs_ => (hk_.1) hs_)) (fun k_ hk_ => ⟨hk_.1.1, hk_.1.2⟩)); have n1_ := q0 (Kd.R_reok rfl hy0 (fun k_ e_ => HO_6.out.1 k_ e_)); have n2_ := q0 (Kd.R_mono (ok' := fun k_ => some k_ ≠ (.slice Ao33 t108.length co33 : Value).ownBlock ∧ some k_ ≠ (.slice Ao32 t110.length co32 : Value).ownBlock) (Kd.R_keptB (HO_110001.out) hkp (fun k_ hk_ hs_ => (hk_.2) hs_)) (fun k_ hk_ => ⟨hk_.1.1, hk_.1.2⟩)); have n3_ := q0 (blk_kept (qk BK116.out) hkp (fun hs_ => (fun e_ => (Kd.R_ne HO_6.out BK116.out (by decide)) e_) hs_)); have n4_ := q0 (blk_kept (qk BK132.out) hkp (fun hs_ => (fun e_ => (Kd.R_ne HO_6.out BK132.out (by decide)) e_) hs_)); have n5_ := q0 (hb); clear HO_4 HO_6 HO_110001 BK116 BK132 HB; have HO_4 := n0_; have HO_6 := n1_; have HO_110001 := n2_; have BK116 := n3_; have BK132 := n4_; have HB := n5_; clear n0_ n1_ n2_ n3_ n4_ n5_; (try clear hb); (try clear hkp); (try clear hy0)) | ((with_reducible refine gate_callee (f := 31) rfl ?_); refine goesL_ (some 48) rfl rfl Try.func31 (by kernel_rfl) rfl #[.slice Ao32 t138.length co32, .int .i64 1] rfl (by (try simp only [List.map_toArray, List.map_cons, List.map_nil]); first | done | (rw [show t138.length = t110.length from (Kd.R_reads' HO_6.out).1.symm] <;> rfl) | rfl | (simp only [List.length_drop, List.length_take]; rfl)) ?_; (with_reducible refine (laws_heldTieS.calls kj16 _ _ t138 1 t102 _ ?side1 ?side2 A46.out).mono ?_); (case side1 => exact qc (Kd.R_reads' HO_6.out).2.2); (case side2 => rw [show t138.length = t110.length from (Kd.R_reads' HO_6.out).1.symm]; exact (Kd.R_reads' HO_6.out).2.1); rintro e w' ⟨rfl, ⟨nd, rfl⟩⟩; refine ⟨_, rfl, ?_⟩; have hnb82 := NB116_132.out; have hnc82 := NB132_116.out; have hcz83_0 : w81.cell? ⟨gb116, 0, none⟩ = some (.int .i64 a0_0) := (blk_cell BK116.out 0).trans rfl; have hcz83_1 : w81.cell? ⟨gb116, 1, none⟩ = some (.slice A0_1 l0_1.length c0_1) := (blk_cell BK116.out 1).trans rfl; have hfz83_0 := blk_frozen BK116.out 0; have hfz83_1 := blk_frozen BK116.out 1) | ((with_reducible refine gate_callee (f := 15) rfl ?_); refine goesL_ (some 55) rfl rfl Try.func15 (by kernel_rfl) rfl #[.agg #[.int .i64 a0_0, .slice A0_1 l0_1.length c0_1]] rfl qm ?_; (with_reducible refine (laws_toNet.calls kj16 a0_0 _ _ l0_1 t103 t141 _ ?side1 ?side2 A50.out).mono ?_); (case side1 => exact qc (Kd.C_below HR0_1.out (qb HB.out))); (case side2 => exact HC0_1.out); rintro e w84 ⟨v146, rfl, ho0, hb⟩; refine ⟨_, rfl, ?_⟩; have n0_ := q0 (Kd.R_elder' (qr HO_4.out) (Kd.R_base ho0) hb); have n1_ := q0 (Kd.R_elder' (qr HO_6.out) (Kd.R_base ho0) hb); have n2_ := q0 (Kd.R_elder' (qr HO_110001.out) (Kd.R_base ho0) hb); have n3_ := q0 (Kd.R_lower (Kd.R_new' (Kd.R_new' (Kd.R_new' ho0 (Kd.R_lt (qr HO_4.out))) (Kd.R_lt (qr HO_6.out))) (Kd.R_lt (qr HO_110001.out))) (below_size (qb HB.out))); have n4_ := q0 (kb BK116.out hb); have n5_ := q0 (kb BK132.out hb); have n6_ := q0 (below_step (qb HB.out) hb); clear HO_4 HO_6 HO_110001 BK116 BK132 HB; have HO_4 := n0_; have HO_6 := n1_; have HO_110001 := n2_; have HO147 := n3_; have BK116 := n4_; have BK132 := n5_; have HB := n6_; clear n0_ n1_ n2_ n3_ n4_ n5_ n6_; (try clear hb); (try clear hb2); (try clear hk); (try clear hi); (try clear ho0); obtain ⟨Ao85, co85, eo85⟩ := Kd.R_slice HO147.out; subst eo85) | ((with_reducible refine gate_callee (f := 27) rfl ?_); refine goesL_ (some 56) rfl rfl Try.func27 (by kernel_rfl) rfl #[.agg #[.int .i64 t103, .slice Ao85 t141.length co85]] rfl qm ?_; (with_reducible refine (impl_BridgeList.calls kj16 t103 _ _ t141 t104 _ ?side1 ?side2 A51.out).mono ?_); (case side1 => exact qc (Kd.R_reads' HO147.out).2.2); (case side2 => exact (Kd.R_reads' HO147.out).2.1); rintro e w86 ⟨v148, rfl, ho0, hb⟩; refine ⟨_, rfl, ?_⟩; have n0_ := q0 (Kd.R_elder' (qr HO_4.out) (Kd.R_base ho0) hb); have n1_ := q0 (Kd.R_elder' (qr HO_6.out) (Kd.R_base ho0) hb); have n2_ := q0 (Kd.R_elder' (qr HO_110001.out) (Kd.R_base ho0) hb); have n3_ := q0 (Kd.R_elder' (qr HO147.out) (Kd.R_base ho0) hb); have n4_ := q0 (Kd.R_lower (Kd.R_new' (Kd.R_new' (Kd.R_new' (Kd.R_new' ho0 (Kd.R_lt (qr HO_4.out))) (Kd.R_lt (qr HO_6.out))) (Kd.R_lt (qr HO_110001.out))) (Kd.R_lt (qr HO147.out))) (below_size (qb HB.out))); have n5_ := q0 (kb BK116.out hb); have n6_ := q0 (kb BK132.out hb); have n7_ := q0 (below_step (qb HB.out) hb); clear HO_4 HO_6 HO_110001 HO147 BK116 BK132 HB; have HO_4 := n0_; have HO_6 := n1_; have HO_110001 := n2_; have HO147 := n3_; have HO149 := n4_; have BK116 := n5_; have BK132 := n6_; have HB := n7_; clear n0_ n1_ n2_ n3_ n4_ n5_ n6_ n7_; (try clear hb); (try clear hb2); (try clear hk); (try clear hi); (try clear ho0); obtain ⟨Ao87, co87, eo87⟩ := Kd.R_slice HO149.out; subst eo87) | ((with_reducible refine gate_callee (f := 28) rfl ?_); refine goesL_ (some 59) rfl rfl Try.func28 (by kernel_rfl) rfl #[.slice Ao87 t104.length co87, .slice Ao33 t108.length co33] rfl qm ?_; (with_reducible refine (laws_eqTieS.calls kj16 _ _ t104 _ _ t108 false _ ?side1 ?side2 ?side3 ?side4 A52.out).mono ?_); (case side1 => exact qc (Kd.R_reads' HO149.out).2.2); (case side2 => exact (Kd.R_reads' HO149.out).2.1); (case side3 => exact qc (Kd.R_reads' HO_4.out).2.2); (case side4 => exact (Kd.R_reads' HO_4.out).2.1); rintro e w88 ⟨rfl, hb⟩; refine ⟨_, rfl, ?_⟩; have n0_ := q0 (Kd.R_below (qr HO_4.out) hb); have n1_ := q0 (Kd.R_below (qr HO_6.out) hb); have n2_ := q0 (Kd.R_below (qr HO_110001.out) hb); have n3_ := q0 (Kd.R_below (qr HO147.out) hb); have n4_ := q0 (Kd.R_below (qr HO149.out) hb); have n5_ := q0 (kb BK116.out hb); have n6_ := q0 (kb BK132.out hb); have n7_ := q0 (below_step (qb HB.out) hb); clear HO_4 HO_6 HO_110001 HO147 HO149 BK116 BK132 HB; have HO_4 := n0_; have HO_6 := n1_; have HO_110001 := n2_; have HO147 := n3_; have HO149 := n4_; have BK116 := n5_; have BK132 := n6_; have HB := n7_; clear n0_ n1_ n2_ n3_ n4_ n5_ n6_ n7_; (try clear hb); (try clear hb2); (try clear hk); (try clear hi)))
   go_ret
   exact ⟨qe, qb HB.out⟩
 subst c53
 have H1 : ((laws_heldTieS.f kj16 t138 1).bind fun t106 => (if t106 < 0 then (some false) else (if t106 = t101 then (some true) else (some false)))) = some r := by rw [if_pos rfl] at H; exact H
 clear H
 have H := H1
 clear H1
 replace H := Option.bind_eq_some_iff.mp H
 obtain ⟨t106, A145, H⟩ := H
 replace H : (if t106 < 0 then (some false) else (if t106 = t101 then (some true) else (some false))) = some r := H
 have A54 := Aside0.mk A145
 clear A145
 by_cases c55 : t106 < 0
 · rw [if_pos c55] at H
   have c55b0 : decide (t106 < 0) = true := decide_eq_true c55
   clear c55
   obtain rfl := Option.some.inj H
   go_wp2_with (first | ((with_reducible refine gate_callee (f := 30) rfl ?_); refine goesL_ (some 45) rfl rfl Try.func30 (by kernel_rfl) rfl #[.slice Ao32 t110.length co32, .int .i64 1] rfl qm ?_; (with_reducible refine (laws_markTieS.calls kj16 (fun k_ => some k_ = (.slice Ao32 t110.length co32 : Value).ownBlock) (.slice Ao32 t110.length co32) t110 1 t101 t138 w _ ?side1 ?side2 A45.out).mono ?_); (case side1 => exact qb HB.out); (case side2 => exact Kd.R_tight rfl HO_6.out); rintro e w56 ⟨rfl, hy0, hb, hkp⟩; refine ⟨_, rfl, ?_⟩; have n0_ := q0 (Kd.R_mono (ok' := fun k_ => some k_ ≠ (.slice Ao32 t110.length co32 : Value).ownBlock ∧ some k_ ≠ (.slice Ao30 t124.length co30 : Value).ownBlock) (Kd.R_keptB (HO_4.out) hkp (fun k_ hk_ hs_ => (hk_.1) hs_)) (fun k_ hk_ => ⟨hk_.1.1, hk_.1.2⟩)); have n1_ := q0 (Kd.R_reok rfl hy0 (fun k_ e_ => HO_6.out.1 k_ e_)); have n2_ := q0 (Kd.R_mono (ok' := fun k_ => some k_ ≠ (.slice Ao33 t108.length co33 : Value).ownBlock ∧ some k_ ≠ (.slice Ao32 t110.length co32 : Value).ownBlock) (Kd.R_keptB (HO_110001.out) hkp (fun k_ hk_ hs_ => (hk_.2) hs_)) (fun k_ hk_ => ⟨hk_.1.1, hk_.1.2⟩)); have n3_ := q0 (blk_kept (qk BK116.out) hkp (fun hs_ => (fun e_ => (Kd.R_ne HO_6.out BK116.out (by decide)) e_) hs_)); have n4_ := q0 (blk_kept (qk BK132.out) hkp (fun hs_ => (fun e_ => (Kd.R_ne HO_6.out BK132.out (by decide)) e_) hs_)); have n5_ := q0 (hb); clear HO_4 HO_6 HO_110001 BK116 BK132 HB; have HO_4 := n0_; have HO_6 := n1_; have HO_110001 := n2_; have BK116 := n3_; have BK132 := n4_; have HB := n5_; clear n0_ n1_ n2_ n3_ n4_ n5_; (try clear hb); (try clear hkp); (try clear hy0)) | ((with_reducible refine gate_callee (f := 31) rfl ?_); refine goesL_ (some 48) rfl rfl Try.func31 (by kernel_rfl) rfl #[.slice Ao32 t138.length co32, .int .i64 1] rfl (by (try simp only [List.map_toArray, List.map_cons, List.map_nil]); first | done | (rw [show t138.length = t110.length from (Kd.R_reads' HO_6.out).1.symm] <;> rfl) | rfl | (simp only [List.length_drop, List.length_take]; rfl)) ?_; (with_reducible refine (laws_heldTieS.calls kj16 _ _ t138 1 t102 _ ?side1 ?side2 A46.out).mono ?_); (case side1 => exact qc (Kd.R_reads' HO_6.out).2.2); (case side2 => rw [show t138.length = t110.length from (Kd.R_reads' HO_6.out).1.symm]; exact (Kd.R_reads' HO_6.out).2.1); rintro e w' ⟨rfl, ⟨nd, rfl⟩⟩; refine ⟨_, rfl, ?_⟩; have hnb57 := NB116_132.out; have hnc57 := NB132_116.out; have hcz58_0 : w56.cell? ⟨gb116, 0, none⟩ = some (.int .i64 a0_0) := (blk_cell BK116.out 0).trans rfl; have hcz58_1 : w56.cell? ⟨gb116, 1, none⟩ = some (.slice A0_1 l0_1.length c0_1) := (blk_cell BK116.out 1).trans rfl; have hfz58_0 := blk_frozen BK116.out 0; have hfz58_1 := blk_frozen BK116.out 1) | ((with_reducible refine gate_callee (f := 15) rfl ?_); refine goesL_ (some 55) rfl rfl Try.func15 (by kernel_rfl) rfl #[.agg #[.int .i64 a0_0, .slice A0_1 l0_1.length c0_1]] rfl qm ?_; (with_reducible refine (laws_toNet.calls kj16 a0_0 _ _ l0_1 t103 t141 _ ?side1 ?side2 A50.out).mono ?_); (case side1 => exact qc (Kd.C_below HR0_1.out (qb HB.out))); (case side2 => exact HC0_1.out); rintro e w59 ⟨v146, rfl, ho0, hb⟩; refine ⟨_, rfl, ?_⟩; have n0_ := q0 (Kd.R_elder' (qr HO_4.out) (Kd.R_base ho0) hb); have n1_ := q0 (Kd.R_elder' (qr HO_6.out) (Kd.R_base ho0) hb); have n2_ := q0 (Kd.R_elder' (qr HO_110001.out) (Kd.R_base ho0) hb); have n3_ := q0 (Kd.R_lower (Kd.R_new' (Kd.R_new' (Kd.R_new' ho0 (Kd.R_lt (qr HO_4.out))) (Kd.R_lt (qr HO_6.out))) (Kd.R_lt (qr HO_110001.out))) (below_size (qb HB.out))); have n4_ := q0 (kb BK116.out hb); have n5_ := q0 (kb BK132.out hb); have n6_ := q0 (below_step (qb HB.out) hb); clear HO_4 HO_6 HO_110001 BK116 BK132 HB; have HO_4 := n0_; have HO_6 := n1_; have HO_110001 := n2_; have HO147 := n3_; have BK116 := n4_; have BK132 := n5_; have HB := n6_; clear n0_ n1_ n2_ n3_ n4_ n5_ n6_; (try clear hb); (try clear hb2); (try clear hk); (try clear hi); (try clear ho0); obtain ⟨Ao60, co60, eo60⟩ := Kd.R_slice HO147.out; subst eo60) | ((with_reducible refine gate_callee (f := 27) rfl ?_); refine goesL_ (some 56) rfl rfl Try.func27 (by kernel_rfl) rfl #[.agg #[.int .i64 t103, .slice Ao60 t141.length co60]] rfl qm ?_; (with_reducible refine (impl_BridgeList.calls kj16 t103 _ _ t141 t104 _ ?side1 ?side2 A51.out).mono ?_); (case side1 => exact qc (Kd.R_reads' HO147.out).2.2); (case side2 => exact (Kd.R_reads' HO147.out).2.1); rintro e w61 ⟨v148, rfl, ho0, hb⟩; refine ⟨_, rfl, ?_⟩; have n0_ := q0 (Kd.R_elder' (qr HO_4.out) (Kd.R_base ho0) hb); have n1_ := q0 (Kd.R_elder' (qr HO_6.out) (Kd.R_base ho0) hb); have n2_ := q0 (Kd.R_elder' (qr HO_110001.out) (Kd.R_base ho0) hb); have n3_ := q0 (Kd.R_elder' (qr HO147.out) (Kd.R_base ho0) hb); have n4_ := q0 (Kd.R_lower (Kd.R_new' (Kd.R_new' (Kd.R_new' (Kd.R_new' ho0 (Kd.R_lt (qr HO_4.out))) (Kd.R_lt (qr HO_6.out))) (Kd.R_lt (qr HO_110001.out))) (Kd.R_lt (qr HO147.out))) (below_size (qb HB.out))); have n5_ := q0 (kb BK116.out hb); have n6_ := q0 (kb BK132.out hb); have n7_ := q0 (below_step (qb HB.out) hb); clear HO_4 HO_6 HO_110001 HO147 BK116 BK132 HB; have HO_4 := n0_; have HO_6 := n1_; have HO_110001 := n2_; have HO147 := n3_; have HO149 := n4_; have BK116 := n5_; have BK132 := n6_; have HB := n7_; clear n0_ n1_ n2_ n3_ n4_ n5_ n6_ n7_; (try clear hb); (try clear hb2); (try clear hk); (try clear hi); (try clear ho0); obtain ⟨Ao62, co62, eo62⟩ := Kd.R_slice HO149.out; subst eo62) | ((with_reducible refine gate_callee (f := 28) rfl ?_); refine goesL_ (some 59) rfl rfl Try.func28 (by kernel_rfl) rfl #[.slice Ao62 t104.length co62, .slice Ao33 t108.length co33] rfl qm ?_; (with_reducible refine (laws_eqTieS.calls kj16 _ _ t104 _ _ t108 true _ ?side1 ?side2 ?side3 ?side4 A52.out).mono ?_); (case side1 => exact qc (Kd.R_reads' HO149.out).2.2); (case side2 => exact (Kd.R_reads' HO149.out).2.1); (case side3 => exact qc (Kd.R_reads' HO_4.out).2.2); (case side4 => exact (Kd.R_reads' HO_4.out).2.1); rintro e w63 ⟨rfl, hb⟩; refine ⟨_, rfl, ?_⟩; have n0_ := q0 (Kd.R_below (qr HO_4.out) hb); have n1_ := q0 (Kd.R_below (qr HO_6.out) hb); have n2_ := q0 (Kd.R_below (qr HO_110001.out) hb); have n3_ := q0 (Kd.R_below (qr HO147.out) hb); have n4_ := q0 (Kd.R_below (qr HO149.out) hb); have n5_ := q0 (kb BK116.out hb); have n6_ := q0 (kb BK132.out hb); have n7_ := q0 (below_step (qb HB.out) hb); clear HO_4 HO_6 HO_110001 HO147 HO149 BK116 BK132 HB; have HO_4 := n0_; have HO_6 := n1_; have HO_110001 := n2_; have HO147 := n3_; have HO149 := n4_; have BK116 := n5_; have BK132 := n6_; have HB := n7_; clear n0_ n1_ n2_ n3_ n4_ n5_ n6_ n7_; (try clear hb); (try clear hb2); (try clear hk); (try clear hi)) | ((with_reducible refine gate_callee (f := 31) rfl ?_); refine goesL_ (some 63) rfl rfl Try.func31 (by kernel_rfl) rfl #[.slice Ao32 t138.length co32, .int .i64 1] rfl (by (try simp only [List.map_toArray, List.map_cons, List.map_nil]); first | done | (rw [show t138.length = t110.length from (Kd.R_reads' HO_6.out).1.symm] <;> rfl) | rfl | (simp only [List.length_drop, List.length_take]; rfl)) ?_; (with_reducible refine (laws_heldTieS.calls kj16 _ _ t138 1 t106 _ ?side1 ?side2 A54.out).mono ?_); (case side1 => exact qc (Kd.R_reads' HO_6.out).2.2); (case side2 => rw [show t138.length = t110.length from (Kd.R_reads' HO_6.out).1.symm]; exact (Kd.R_reads' HO_6.out).2.1); rintro e w' ⟨rfl, ⟨nd, rfl⟩⟩; refine ⟨_, rfl, ?_⟩))
   go_ret
   exact ⟨qe, qb HB.out⟩
 rw [if_neg c55] at H
 have c55b0 : decide (t106 < 0) = false := decide_eq_false c55
 clear c55
 by_cases c64 : t106 = t101
 rotate_left
 · rw [if_neg c64] at H
   have c64b0 : (t106 == t101) = false := beq_eq_false_iff_ne.mpr c64
   have c64b1 : (t106 != t101) = true := bne_iff_ne.mpr c64
   obtain rfl := Option.some.inj H
   go_wp2_with (first | ((with_reducible refine gate_callee (f := 30) rfl ?_); refine goesL_ (some 45) rfl rfl Try.func30 (by kernel_rfl) rfl #[.slice Ao32 t110.length co32, .int .i64 1] rfl qm ?_; (with_reducible refine (laws_markTieS.calls kj16 (fun k_ => some k_ = (.slice Ao32 t110.length co32 : Value).ownBlock) (.slice Ao32 t110.length co32) t110 1 t101 t138 w _ ?side1 ?side2 A45.out).mono ?_); (case side1 => exact qb HB.out); (case side2 => exact Kd.R_tight rfl HO_6.out); rintro e w73 ⟨rfl, hy0, hb, hkp⟩; refine ⟨_, rfl, ?_⟩; have n0_ := q0 (Kd.R_mono (ok' := fun k_ => some k_ ≠ (.slice Ao32 t110.length co32 : Value).ownBlock ∧ some k_ ≠ (.slice Ao30 t124.length co30 : Value).ownBlock) (Kd.R_keptB (HO_4.out) hkp (fun k_ hk_ hs_ => (hk_.1) hs_)) (fun k_ hk_ => ⟨hk_.1.1, hk_.1.2⟩)); have n1_ := q0 (Kd.R_reok rfl hy0 (fun k_ e_ => HO_6.out.1 k_ e_)); have n2_ := q0 (Kd.R_mono (ok' := fun k_ => some k_ ≠ (.slice Ao33 t108.length co33 : Value).ownBlock ∧ some k_ ≠ (.slice Ao32 t110.length co32 : Value).ownBlock) (Kd.R_keptB (HO_110001.out) hkp (fun k_ hk_ hs_ => (hk_.2) hs_)) (fun k_ hk_ => ⟨hk_.1.1, hk_.1.2⟩)); have n3_ := q0 (blk_kept (qk BK116.out) hkp (fun hs_ => (fun e_ => (Kd.R_ne HO_6.out BK116.out (by decide)) e_) hs_)); have n4_ := q0 (blk_kept (qk BK132.out) hkp (fun hs_ => (fun e_ => (Kd.R_ne HO_6.out BK132.out (by decide)) e_) hs_)); have n5_ := q0 (hb); clear HO_4 HO_6 HO_110001 BK116 BK132 HB; have HO_4 := n0_; have HO_6 := n1_; have HO_110001 := n2_; have BK116 := n3_; have BK132 := n4_; have HB := n5_; clear n0_ n1_ n2_ n3_ n4_ n5_; (try clear hb); (try clear hkp); (try clear hy0)) | ((with_reducible refine gate_callee (f := 31) rfl ?_); refine goesL_ (some 48) rfl rfl Try.func31 (by kernel_rfl) rfl #[.slice Ao32 t138.length co32, .int .i64 1] rfl (by (try simp only [List.map_toArray, List.map_cons, List.map_nil]); first | done | (rw [show t138.length = t110.length from (Kd.R_reads' HO_6.out).1.symm] <;> rfl) | rfl | (simp only [List.length_drop, List.length_take]; rfl)) ?_; (with_reducible refine (laws_heldTieS.calls kj16 _ _ t138 1 t102 _ ?side1 ?side2 A46.out).mono ?_); (case side1 => exact qc (Kd.R_reads' HO_6.out).2.2); (case side2 => rw [show t138.length = t110.length from (Kd.R_reads' HO_6.out).1.symm]; exact (Kd.R_reads' HO_6.out).2.1); rintro e w' ⟨rfl, ⟨nd, rfl⟩⟩; refine ⟨_, rfl, ?_⟩; have hnb74 := NB116_132.out; have hnc74 := NB132_116.out; have hcz75_0 : w73.cell? ⟨gb116, 0, none⟩ = some (.int .i64 a0_0) := (blk_cell BK116.out 0).trans rfl; have hcz75_1 : w73.cell? ⟨gb116, 1, none⟩ = some (.slice A0_1 l0_1.length c0_1) := (blk_cell BK116.out 1).trans rfl; have hfz75_0 := blk_frozen BK116.out 0; have hfz75_1 := blk_frozen BK116.out 1) | ((with_reducible refine gate_callee (f := 15) rfl ?_); refine goesL_ (some 55) rfl rfl Try.func15 (by kernel_rfl) rfl #[.agg #[.int .i64 a0_0, .slice A0_1 l0_1.length c0_1]] rfl qm ?_; (with_reducible refine (laws_toNet.calls kj16 a0_0 _ _ l0_1 t103 t141 _ ?side1 ?side2 A50.out).mono ?_); (case side1 => exact qc (Kd.C_below HR0_1.out (qb HB.out))); (case side2 => exact HC0_1.out); rintro e w76 ⟨v146, rfl, ho0, hb⟩; refine ⟨_, rfl, ?_⟩; have n0_ := q0 (Kd.R_elder' (qr HO_4.out) (Kd.R_base ho0) hb); have n1_ := q0 (Kd.R_elder' (qr HO_6.out) (Kd.R_base ho0) hb); have n2_ := q0 (Kd.R_elder' (qr HO_110001.out) (Kd.R_base ho0) hb); have n3_ := q0 (Kd.R_lower (Kd.R_new' (Kd.R_new' (Kd.R_new' ho0 (Kd.R_lt (qr HO_4.out))) (Kd.R_lt (qr HO_6.out))) (Kd.R_lt (qr HO_110001.out))) (below_size (qb HB.out))); have n4_ := q0 (kb BK116.out hb); have n5_ := q0 (kb BK132.out hb); have n6_ := q0 (below_step (qb HB.out) hb); clear HO_4 HO_6 HO_110001 BK116 BK132 HB; have HO_4 := n0_; have HO_6 := n1_; have HO_110001 := n2_; have HO147 := n3_; have BK116 := n4_; have BK132 := n5_; have HB := n6_; clear n0_ n1_ n2_ n3_ n4_ n5_ n6_; (try clear hb); (try clear hb2); (try clear hk); (try clear hi); (try clear ho0); obtain ⟨Ao77, co77, eo77⟩ := Kd.R_slice HO147.out; subst eo77) | ((with_reducible refine gate_callee (f := 27) rfl ?_); refine goesL_ (some 56) rfl rfl Try.func27 (by kernel_rfl) rfl #[.agg #[.int .i64 t103, .slice Ao77 t141.length co77]] rfl qm ?_; (with_reducible refine (impl_BridgeList.calls kj16 t103 _ _ t141 t104 _ ?side1 ?side2 A51.out).mono ?_); (case side1 => exact qc (Kd.R_reads' HO147.out).2.2); (case side2 => exact (Kd.R_reads' HO147.out).2.1); rintro e w78 ⟨v148, rfl, ho0, hb⟩; refine ⟨_, rfl, ?_⟩; have n0_ := q0 (Kd.R_elder' (qr HO_4.out) (Kd.R_base ho0) hb); have n1_ := q0 (Kd.R_elder' (qr HO_6.out) (Kd.R_base ho0) hb); have n2_ := q0 (Kd.R_elder' (qr HO_110001.out) (Kd.R_base ho0) hb); have n3_ := q0 (Kd.R_elder' (qr HO147.out) (Kd.R_base ho0) hb); have n4_ := q0 (Kd.R_lower (Kd.R_new' (Kd.R_new' (Kd.R_new' (Kd.R_new' ho0 (Kd.R_lt (qr HO_4.out))) (Kd.R_lt (qr HO_6.out))) (Kd.R_lt (qr HO_110001.out))) (Kd.R_lt (qr HO147.out))) (below_size (qb HB.out))); have n5_ := q0 (kb BK116.out hb); have n6_ := q0 (kb BK132.out hb); have n7_ := q0 (below_step (qb HB.out) hb); clear HO_4 HO_6 HO_110001 HO147 BK116 BK132 HB; have HO_4 := n0_; have HO_6 := n1_; have HO_110001 := n2_; have HO147 := n3_; have HO149 := n4_; have BK116 := n5_; have BK132 := n6_; have HB := n7_; clear n0_ n1_ n2_ n3_ n4_ n5_ n6_ n7_; (try clear hb); (try clear hb2); (try clear hk); (try clear hi); (try clear ho0); obtain ⟨Ao79, co79, eo79⟩ := Kd.R_slice HO149.out; subst eo79) | ((with_reducible refine gate_callee (f := 28) rfl ?_); refine goesL_ (some 59) rfl rfl Try.func28 (by kernel_rfl) rfl #[.slice Ao79 t104.length co79, .slice Ao33 t108.length co33] rfl qm ?_; (with_reducible refine (laws_eqTieS.calls kj16 _ _ t104 _ _ t108 true _ ?side1 ?side2 ?side3 ?side4 A52.out).mono ?_); (case side1 => exact qc (Kd.R_reads' HO149.out).2.2); (case side2 => exact (Kd.R_reads' HO149.out).2.1); (case side3 => exact qc (Kd.R_reads' HO_4.out).2.2); (case side4 => exact (Kd.R_reads' HO_4.out).2.1); rintro e w80 ⟨rfl, hb⟩; refine ⟨_, rfl, ?_⟩; have n0_ := q0 (Kd.R_below (qr HO_4.out) hb); have n1_ := q0 (Kd.R_below (qr HO_6.out) hb); have n2_ := q0 (Kd.R_below (qr HO_110001.out) hb); have n3_ := q0 (Kd.R_below (qr HO147.out) hb); have n4_ := q0 (Kd.R_below (qr HO149.out) hb); have n5_ := q0 (kb BK116.out hb); have n6_ := q0 (kb BK132.out hb); have n7_ := q0 (below_step (qb HB.out) hb); clear HO_4 HO_6 HO_110001 HO147 HO149 BK116 BK132 HB; have HO_4 := n0_; have HO_6 := n1_; have HO_110001 := n2_; have HO147 := n3_; have HO149 := n4_; have BK116 := n5_; have BK132 := n6_; have HB := n7_; clear n0_ n1_ n2_ n3_ n4_ n5_ n6_ n7_; (try clear hb); (try clear hb2); (try clear hk); (try clear hi)) | ((with_reducible refine gate_callee (f := 31) rfl ?_); refine goesL_ (some 63) rfl rfl Try.func31 (by kernel_rfl) rfl #[.slice Ao32 t138.length co32, .int .i64 1] rfl (by (try simp only [List.map_toArray, List.map_cons, List.map_nil]); first | done | (rw [show t138.length = t110.length from (Kd.R_reads' HO_6.out).1.symm] <;> rfl) | rfl | (simp only [List.length_drop, List.length_take]; rfl)) ?_; (with_reducible refine (laws_heldTieS.calls kj16 _ _ t138 1 t106 _ ?side1 ?side2 A54.out).mono ?_); (case side1 => exact qc (Kd.R_reads' HO_6.out).2.2); (case side2 => rw [show t138.length = t110.length from (Kd.R_reads' HO_6.out).1.symm]; exact (Kd.R_reads' HO_6.out).2.1); rintro e w' ⟨rfl, ⟨nd, rfl⟩⟩; refine ⟨_, rfl, ?_⟩))
   go_ret
   exact ⟨qe, qb HB.out⟩
 rw [if_pos c64] at H
 have c64b0 : (t106 == t101) = true := beq_iff_eq.mpr c64
 have c64b1 : (t106 != t101) = false := bne_eq_false_iff_eq.mpr c64
 clear c64
 obtain rfl := Option.some.inj H
 go_wp2_with (first | ((with_reducible refine gate_callee (f := 30) rfl ?_); refine goesL_ (some 45) rfl rfl Try.func30 (by kernel_rfl) rfl #[.slice Ao32 t110.length co32, .int .i64 1] rfl qm ?_; (with_reducible refine (laws_markTieS.calls kj16 (fun k_ => some k_ = (.slice Ao32 t110.length co32 : Value).ownBlock) (.slice Ao32 t110.length co32) t110 1 t101 t138 w _ ?side1 ?side2 A45.out).mono ?_); (case side1 => exact qb HB.out); (case side2 => exact Kd.R_tight rfl HO_6.out); rintro e w65 ⟨rfl, hy0, hb, hkp⟩; refine ⟨_, rfl, ?_⟩; have n0_ := q0 (Kd.R_mono (ok' := fun k_ => some k_ ≠ (.slice Ao32 t110.length co32 : Value).ownBlock ∧ some k_ ≠ (.slice Ao30 t124.length co30 : Value).ownBlock) (Kd.R_keptB (HO_4.out) hkp (fun k_ hk_ hs_ => (hk_.1) hs_)) (fun k_ hk_ => ⟨hk_.1.1, hk_.1.2⟩)); have n1_ := q0 (Kd.R_reok rfl hy0 (fun k_ e_ => HO_6.out.1 k_ e_)); have n2_ := q0 (Kd.R_mono (ok' := fun k_ => some k_ ≠ (.slice Ao33 t108.length co33 : Value).ownBlock ∧ some k_ ≠ (.slice Ao32 t110.length co32 : Value).ownBlock) (Kd.R_keptB (HO_110001.out) hkp (fun k_ hk_ hs_ => (hk_.2) hs_)) (fun k_ hk_ => ⟨hk_.1.1, hk_.1.2⟩)); have n3_ := q0 (blk_kept (qk BK116.out) hkp (fun hs_ => (fun e_ => (Kd.R_ne HO_6.out BK116.out (by decide)) e_) hs_)); have n4_ := q0 (blk_kept (qk BK132.out) hkp (fun hs_ => (fun e_ => (Kd.R_ne HO_6.out BK132.out (by decide)) e_) hs_)); have n5_ := q0 (hb); clear HO_4 HO_6 HO_110001 BK116 BK132 HB; have HO_4 := n0_; have HO_6 := n1_; have HO_110001 := n2_; have BK116 := n3_; have BK132 := n4_; have HB := n5_; clear n0_ n1_ n2_ n3_ n4_ n5_; (try clear hb); (try clear hkp); (try clear hy0)) | ((with_reducible refine gate_callee (f := 31) rfl ?_); refine goesL_ (some 48) rfl rfl Try.func31 (by kernel_rfl) rfl #[.slice Ao32 t138.length co32, .int .i64 1] rfl (by (try simp only [List.map_toArray, List.map_cons, List.map_nil]); first | done | (rw [show t138.length = t110.length from (Kd.R_reads' HO_6.out).1.symm] <;> rfl) | rfl | (simp only [List.length_drop, List.length_take]; rfl)) ?_; (with_reducible refine (laws_heldTieS.calls kj16 _ _ t138 1 t102 _ ?side1 ?side2 A46.out).mono ?_); (case side1 => exact qc (Kd.R_reads' HO_6.out).2.2); (case side2 => rw [show t138.length = t110.length from (Kd.R_reads' HO_6.out).1.symm]; exact (Kd.R_reads' HO_6.out).2.1); rintro e w' ⟨rfl, ⟨nd, rfl⟩⟩; refine ⟨_, rfl, ?_⟩; have hnb66 := NB116_132.out; have hnc66 := NB132_116.out; have hcz67_0 : w65.cell? ⟨gb116, 0, none⟩ = some (.int .i64 a0_0) := (blk_cell BK116.out 0).trans rfl; have hcz67_1 : w65.cell? ⟨gb116, 1, none⟩ = some (.slice A0_1 l0_1.length c0_1) := (blk_cell BK116.out 1).trans rfl; have hfz67_0 := blk_frozen BK116.out 0; have hfz67_1 := blk_frozen BK116.out 1) | ((with_reducible refine gate_callee (f := 15) rfl ?_); refine goesL_ (some 55) rfl rfl Try.func15 (by kernel_rfl) rfl #[.agg #[.int .i64 a0_0, .slice A0_1 l0_1.length c0_1]] rfl qm ?_; (with_reducible refine (laws_toNet.calls kj16 a0_0 _ _ l0_1 t103 t141 _ ?side1 ?side2 A50.out).mono ?_); (case side1 => exact qc (Kd.C_below HR0_1.out (qb HB.out))); (case side2 => exact HC0_1.out); rintro e w68 ⟨v146, rfl, ho0, hb⟩; refine ⟨_, rfl, ?_⟩; have n0_ := q0 (Kd.R_elder' (qr HO_4.out) (Kd.R_base ho0) hb); have n1_ := q0 (Kd.R_elder' (qr HO_6.out) (Kd.R_base ho0) hb); have n2_ := q0 (Kd.R_elder' (qr HO_110001.out) (Kd.R_base ho0) hb); have n3_ := q0 (Kd.R_lower (Kd.R_new' (Kd.R_new' (Kd.R_new' ho0 (Kd.R_lt (qr HO_4.out))) (Kd.R_lt (qr HO_6.out))) (Kd.R_lt (qr HO_110001.out))) (below_size (qb HB.out))); have n4_ := q0 (kb BK116.out hb); have n5_ := q0 (kb BK132.out hb); have n6_ := q0 (below_step (qb HB.out) hb); clear HO_4 HO_6 HO_110001 BK116 BK132 HB; have HO_4 := n0_; have HO_6 := n1_; have HO_110001 := n2_; have HO147 := n3_; have BK116 := n4_; have BK132 := n5_; have HB := n6_; clear n0_ n1_ n2_ n3_ n4_ n5_ n6_; (try clear hb); (try clear hb2); (try clear hk); (try clear hi); (try clear ho0); obtain ⟨Ao69, co69, eo69⟩ := Kd.R_slice HO147.out; subst eo69) | ((with_reducible refine gate_callee (f := 27) rfl ?_); refine goesL_ (some 56) rfl rfl Try.func27 (by kernel_rfl) rfl #[.agg #[.int .i64 t103, .slice Ao69 t141.length co69]] rfl qm ?_; (with_reducible refine (impl_BridgeList.calls kj16 t103 _ _ t141 t104 _ ?side1 ?side2 A51.out).mono ?_); (case side1 => exact qc (Kd.R_reads' HO147.out).2.2); (case side2 => exact (Kd.R_reads' HO147.out).2.1); rintro e w70 ⟨v148, rfl, ho0, hb⟩; refine ⟨_, rfl, ?_⟩; have n0_ := q0 (Kd.R_elder' (qr HO_4.out) (Kd.R_base ho0) hb); have n1_ := q0 (Kd.R_elder' (qr HO_6.out) (Kd.R_base ho0) hb); have n2_ := q0 (Kd.R_elder' (qr HO_110001.out) (Kd.R_base ho0) hb); have n3_ := q0 (Kd.R_elder' (qr HO147.out) (Kd.R_base ho0) hb); have n4_ := q0 (Kd.R_lower (Kd.R_new' (Kd.R_new' (Kd.R_new' (Kd.R_new' ho0 (Kd.R_lt (qr HO_4.out))) (Kd.R_lt (qr HO_6.out))) (Kd.R_lt (qr HO_110001.out))) (Kd.R_lt (qr HO147.out))) (below_size (qb HB.out))); have n5_ := q0 (kb BK116.out hb); have n6_ := q0 (kb BK132.out hb); have n7_ := q0 (below_step (qb HB.out) hb); clear HO_4 HO_6 HO_110001 HO147 BK116 BK132 HB; have HO_4 := n0_; have HO_6 := n1_; have HO_110001 := n2_; have HO147 := n3_; have HO149 := n4_; have BK116 := n5_; have BK132 := n6_; have HB := n7_; clear n0_ n1_ n2_ n3_ n4_ n5_ n6_ n7_; (try clear hb); (try clear hb2); (try clear hk); (try clear hi); (try clear ho0); obtain ⟨Ao71, co71, eo71⟩ := Kd.R_slice HO149.out; subst eo71) | ((with_reducible refine gate_callee (f := 28) rfl ?_); refine goesL_ (some 59) rfl rfl Try.func28 (by kernel_rfl) rfl #[.slice Ao71 t104.length co71, .slice Ao33 t108.length co33] rfl qm ?_; (with_reducible refine (laws_eqTieS.calls kj16 _ _ t104 _ _ t108 true _ ?side1 ?side2 ?side3 ?side4 A52.out).mono ?_); (case side1 => exact qc (Kd.R_reads' HO149.out).2.2); (case side2 => exact (Kd.R_reads' HO149.out).2.1); (case side3 => exact qc (Kd.R_reads' HO_4.out).2.2); (case side4 => exact (Kd.R_reads' HO_4.out).2.1); rintro e w72 ⟨rfl, hb⟩; refine ⟨_, rfl, ?_⟩; have n0_ := q0 (Kd.R_below (qr HO_4.out) hb); have n1_ := q0 (Kd.R_below (qr HO_6.out) hb); have n2_ := q0 (Kd.R_below (qr HO_110001.out) hb); have n3_ := q0 (Kd.R_below (qr HO147.out) hb); have n4_ := q0 (Kd.R_below (qr HO149.out) hb); have n5_ := q0 (kb BK116.out hb); have n6_ := q0 (kb BK132.out hb); have n7_ := q0 (below_step (qb HB.out) hb); clear HO_4 HO_6 HO_110001 HO147 HO149 BK116 BK132 HB; have HO_4 := n0_; have HO_6 := n1_; have HO_110001 := n2_; have HO147 := n3_; have HO149 := n4_; have BK116 := n5_; have BK132 := n6_; have HB := n7_; clear n0_ n1_ n2_ n3_ n4_ n5_ n6_ n7_; (try clear hb); (try clear hb2); (try clear hk); (try clear hi)) | ((with_reducible refine gate_callee (f := 31) rfl ?_); refine goesL_ (some 63) rfl rfl Try.func31 (by kernel_rfl) rfl #[.slice Ao32 t138.length co32, .int .i64 1] rfl (by (try simp only [List.map_toArray, List.map_cons, List.map_nil]); first | done | (rw [show t138.length = t110.length from (Kd.R_reads' HO_6.out).1.symm] <;> rfl) | rfl | (simp only [List.length_drop, List.length_take]; rfl)) ?_; (with_reducible refine (laws_heldTieS.calls kj16 _ _ t138 1 t106 _ ?side1 ?side2 A54.out).mono ?_); (case side1 => exact qc (Kd.R_reads' HO_6.out).2.2); (case side2 => rw [show t138.length = t110.length from (Kd.R_reads' HO_6.out).1.symm]; exact (Kd.R_reads' HO_6.out).2.1); rintro e w' ⟨rfl, ⟨nd, rfl⟩⟩; refine ⟨_, rfl, ?_⟩))
 go_ret
 exact ⟨qe, qb HB.out⟩

end Go.Proofs.Ytheoebelhgbejab.P
