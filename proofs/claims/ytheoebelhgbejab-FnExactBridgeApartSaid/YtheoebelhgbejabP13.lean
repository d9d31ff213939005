import Derived.Test.YtheoebelhgbejabP0
import Derived.Test.YtheoebelhgbejabP1
import Derived.Test.YtheoebelhgbejabP2
import Derived.Test.YtheoebelhgbejabP3
import Derived.Test.YtheoebelhgbejabP7
import Derived.Test.YtheoebelhgbejabP9
namespace Go.Proofs.Ytheoebelhgbejab.P
open Go.RowKit Go.Proofs.YtheoebelhgbejabW.PrintWords Go.Proofs.YtheoebelhgbejabW.PrintLast Go.Proofs.YtheoebelhgbejabW.PrintMore
attribute [local go_sem] max2_int min2_int max_two min_two max_three min_three max_four min_four
set_option linter.unusedVariables false
set_option linter.unusedSimpArgs false
attribute [local go_sem high] eqATie
def spec_BridgeApart.T7 : Bool × List (List Nat × List Nat) := (true, [([], []), ([], []), ([], []), ([1, 2], [1, 2]), ([3], [3]), ([4], [4]), ([], []), ([], []), ([6, 7], [6, 7]), ([8], [8]), ([9], [9]), ([0, 5, 10], [0, 5, 10]), ([11], [11]), ([12], [12]), ([12], [12]), ([], []), ([15, 13, 11, 0, 1, 2, 3, 4, 5, 6, 7, 8, 9, 10, 11, 12, 13, 15], [13, 15]), ([14, 16, 0, 1, 2, 3, 4, 5, 6, 7, 8, 9, 10, 11, 12, 13, 14, 15, 16], [14])])
def spec_BridgeApart.B7 : List Nat := [0, 0, 0, 6, 14, 30, 0, 0, 192, 448, 960, 2047, 4095, 8191, 8191, 0, 49151, 131071]
theorem spec_BridgeApart.tab7 : rtab .any (opsOf Try.f14 7) = spec_BridgeApart.T7 := by kernel_rfl
theorem spec_BridgeApart.bits7 : waitsOk spec_BridgeApart.T7.2 spec_BridgeApart.B7 = true := by kernel_rfl
set_option maxHeartbeats 8000000 in
set_option maxRecDepth 100000 in
theorem spec_BridgeApart.calls (k : Nat) (a0_0 : Int) (A0_1 : Option Addr) (c0_1 : Nat) (l0_1 : List (STie)) (a1 : Int) (a2 : Int) (r1 : Int) (r2 : Int) (r3 : Bool) (w : World) (hr0_1 : Kd.C kTie w A0_1 l0_1.length l0_1) (hc0_1 : l0_1.length ≤ c0_1) (h : spec_BridgeApart.f k a0_0 l0_1 a1 a2 = some (r1, r2, r3)) :
    Calls Try.prog 14 #[.agg #[.int .i64 a0_0, .slice A0_1 l0_1.length c0_1], .int .i64 a1, .int .i64 a2] w fun e w' => e = .returned (.tuple #[.agg #[.int .i64 r1, .int .i64 r2], .bool r3]) ∧ Below w.heap.size w w' := by
 have hu32 := Try.underlying32
 have hu27 := Try.underlying27
 have HR0_1 := Aside0.mk hr0_1
 have HC0_1 := Aside0.mk hc0_1
 clear hr0_1 hc0_1
 have HB := q0 (Below.refl w.heap.size w)
 have H : ((spec_l1Knot.f k a0_0 l0_1 a1).bind fun t104 => (if t104 = true then ((spec_l1Knot.f k a0_0 l0_1 a2).bind fun t105 => (if t105 = true then ((spec_WayReach.f k a0_0 l0_1 a1).bind fun t106 => (if 0 ≤ a2 then (if a2 < (t106.length : Int) then (spec_BridgeApart.j0 k a1 a2 (!(rdOf false t106 a2)) a0_0 l0_1) else (none)) else (none))) else (spec_BridgeApart.j0 k a1 a2 true a0_0 l0_1))) else (spec_BridgeApart.j0 k a1 a2 true a0_0 l0_1))) = some (r1, r2, r3) := h
 clear h
 have HC4 := Aside0.mk H
 clear H
 go_enter Try.func14, Try.ntmps14
 go_upto_region 1 with (first | ((with_reducible refine gate_dst (N := 3) rfl ?_); refine be 3 #[.int .i64 a0_0, .slice A0_1 l0_1.length c0_1] 32 ?_; intro gb107 hg w5 hbox hb; have n0_ := q0 (below_step (qb HB.out) hb); have n1_ := q0 (hbox); have n2_ := q0 ((bs HB.out hg : w.heap.size ≤ gb107)); have n3_ := q0 ((bs HB.out hg : w.heap.size ≤ gb107)); clear HB; have HB := n0_; have BK107 := n1_; have GW107 := n2_; have GE107 := n3_; clear n0_ n1_ n2_ n3_ hb hbox hg) | ((with_reducible refine gate_dst (N := 6) rfl ?_); refine be 6 #[.int .i64 0, .int .i64 0] 27 ?_; intro gb100 hg w6 hbox hb; have n0_ := q0 (kb BK107.out hb); have n1_ := q0 (below_step (qb HB.out) hb); have n2_ := q0 (hbox); have n3_ := q0 ((bs HB.out hg : w.heap.size ≤ gb100)); have n4_ := q0 ((bs HB.out hg : w.heap.size ≤ gb100)); have n5_ := q0 ((bl BK107.out hg : gb107 ≠ gb100)); have n6_ := q0 ((bg BK107.out hg : gb100 ≠ gb107)); clear BK107 HB; have BK107 := n0_; have HB := n1_; have BK100 := n2_; have GW100 := n3_; have GE100 := n4_; have NB107_100 := n5_; have NB100_107 := n6_; clear n0_ n1_ n2_ n3_ n4_ n5_ n6_ hb hbox hg))
 (try simp only [Act.put, List.setIfInBounds_toArray, List.set_cons_zero, List.set_cons_succ])
 go_cut [30] (fun v30 wc => ∃ (kq : Nat) (x30_3 : Bool), v30 = .bool x30_3 ∧ Aside0 (spec_BridgeApart.j0 kq a1 a2 x30_3 a0_0 l0_1 = some (r1, r2, r3)) ∧ Aside0 (kq ≤ k) ∧ Aside0 (wc.heap[gb107]? = some (.cells #[.int .i64 a0_0, (.slice A0_1 l0_1.length c0_1)] 32 (0, 0))) ∧ Aside0 (wc.heap[gb100]? = some (.cells #[.int .i64 0, .int .i64 0] 27 (0, 0))) ∧ Aside0 (Below w.heap.size w wc))
 case first =>
   have H := HC4.out
   clear HC4
   replace H := Option.bind_eq_some_iff.mp H
   obtain ⟨t104, A70, H⟩ := H
   replace H : (if t104 = true then ((spec_l1Knot.f k a0_0 l0_1 a2).bind fun t105 => (if t105 = true then ((spec_WayReach.f k a0_0 l0_1 a1).bind fun t106 => (if 0 ≤ a2 then (if a2 < (t106.length : Int) then (spec_BridgeApart.j0 k a1 a2 (!(rdOf false t106 a2)) a0_0 l0_1) else (none)) else (none))) else (spec_BridgeApart.j0 k a1 a2 true a0_0 l0_1))) else (spec_BridgeApart.j0 k a1 a2 true a0_0 l0_1)) = some (r1, r2, r3) := H
   have A7 := Aside0.mk A70
   clear A70
   by_cases c8 : t104 = true
   rotate_left
   · replace c8 := Bool.eq_false_iff.mpr c8
     subst c8
     have H1 : (spec_BridgeApart.j0 k a1 a2 true a0_0 l0_1) = some (r1, r2, r3) := by rw [if_neg (show ¬ (false = true) by decide)] at H; exact H
     clear H
     have H := H1
     clear H1
     have H' := Aside0.mk H
     clear H
     have hnb27 := NB107_100.out
     have hnc27 := NB100_107.out
     have hcz28_0 : w6.cell? ⟨gb107, 0, none⟩ = some (.int .i64 a0_0) := (blk_cell BK107.out 0).trans rfl
     have hcz28_1 : w6.cell? ⟨gb107, 1, none⟩ = some (.slice A0_1 l0_1.length c0_1) := (blk_cell BK107.out 1).trans rfl
     have hfz28_0 := blk_frozen BK107.out 0
     have hfz28_1 := blk_frozen BK107.out 1
     go_wp2_with (first | ((with_reducible refine gate_callee (f := 50) rfl ?_); refine goesL_ (some 14) rfl rfl Try.func50 (by kernel_rfl) rfl #[.agg #[.int .i64 a0_0, .slice A0_1 l0_1.length c0_1], .int .i64 a1] rfl qm ?_; (with_reducible refine (spec_l1Knot.calls k a0_0 _ _ l0_1 a1 false _ ?side1 ?side2 A7.out).mono ?_); (case side1 => exact qc (Kd.C_below HR0_1.out HB.out)); (case side2 => exact HC0_1.out); rintro e w29 ⟨rfl, hb⟩; refine ⟨_, rfl, ?_⟩; have n0_ := q0 (kb BK107.out hb); have n1_ := q0 (kb BK100.out hb); have n2_ := q0 (below_step (qb HB.out) hb); clear BK107 BK100 HB; have BK107 := n0_; have BK100 := n1_; have HB := n2_; clear n0_ n1_ n2_; (try clear hb); (try clear hb2); (try clear hk); (try clear hi)))
     go_meet
     case rel => exact ⟨_, (true), qs, H', ⟨by first | omega | exact Nat.le_refl _⟩, ⟨qk BK107.out⟩, ⟨qk BK100.out⟩, ⟨qb HB.out⟩⟩
   subst c8
   have H1 : ((spec_l1Knot.f k a0_0 l0_1 a2).bind fun t105 => (if t105 = true then ((spec_WayReach.f k a0_0 l0_1 a1).bind fun t106 => (if 0 ≤ a2 then (if a2 < (t106.length : Int) then (spec_BridgeApart.j0 k a1 a2 (!(rdOf false t106 a2)) a0_0 l0_1) else (none)) else (none))) else (spec_BridgeApart.j0 k a1 a2 true a0_0 l0_1))) = some (r1, r2, r3) := by rw [if_pos rfl] at H; exact H
   clear H
   have H := H1
   clear H1
   replace H := Option.bind_eq_some_iff.mp H
   obtain ⟨t105, A90, H⟩ := H
   replace H : (if t105 = true then ((spec_WayReach.f k a0_0 l0_1 a1).bind fun t106 => (if 0 ≤ a2 then (if a2 < (t106.length : Int) then (spec_BridgeApart.j0 k a1 a2 (!(rdOf false t106 a2)) a0_0 l0_1) else (none)) else (none))) else (spec_BridgeApart.j0 k a1 a2 true a0_0 l0_1)) = some (r1, r2, r3) := H
   have A9 := Aside0.mk A90
   clear A90
   by_cases c10 : t105 = true
   rotate_left
   · replace c10 := Bool.eq_false_iff.mpr c10
     subst c10
     have H1 : (spec_BridgeApart.j0 k a1 a2 true a0_0 l0_1) = some (r1, r2, r3) := by rw [if_neg (show ¬ (false = true) by decide)] at H; exact H
     clear H
     have H := H1
     clear H1
     have H' := Aside0.mk H
     clear H
     have hnb22 := NB107_100.out
     have hnc22 := NB100_107.out
     have hcz23_0 : w6.cell? ⟨gb107, 0, none⟩ = some (.int .i64 a0_0) := (blk_cell BK107.out 0).trans rfl
     have hcz23_1 : w6.cell? ⟨gb107, 1, none⟩ = some (.slice A0_1 l0_1.length c0_1) := (blk_cell BK107.out 1).trans rfl
     have hfz23_0 := blk_frozen BK107.out 0
     have hfz23_1 := blk_frozen BK107.out 1
     go_wp2_with (first | ((with_reducible refine gate_callee (f := 50) rfl ?_); refine goesL_ (some 14) rfl rfl Try.func50 (by kernel_rfl) rfl #[.agg #[.int .i64 a0_0, .slice A0_1 l0_1.length c0_1], .int .i64 a1] rfl qm ?_; (with_reducible refine (spec_l1Knot.calls k a0_0 _ _ l0_1 a1 true _ ?side1 ?side2 A7.out).mono ?_); (case side1 => exact qc (Kd.C_below HR0_1.out HB.out)); (case side2 => exact HC0_1.out); rintro e w24 ⟨rfl, hb⟩; refine ⟨_, rfl, ?_⟩; have n0_ := q0 (kb BK107.out hb); have n1_ := q0 (kb BK100.out hb); have n2_ := q0 (below_step (qb HB.out) hb); clear BK107 BK100 HB; have BK107 := n0_; have BK100 := n1_; have HB := n2_; clear n0_ n1_ n2_; (try clear hb); (try clear hb2); (try clear hk); (try clear hi); have hcz25_0 : w24.cell? ⟨gb107, 0, none⟩ = some (.int .i64 a0_0) := (blk_cell BK107.out 0).trans rfl; have hcz25_1 : w24.cell? ⟨gb107, 1, none⟩ = some (.slice A0_1 l0_1.length c0_1) := (blk_cell BK107.out 1).trans rfl; have hfz25_0 := blk_frozen BK107.out 0; have hfz25_1 := blk_frozen BK107.out 1) | (go_at_call 50; (with_reducible refine (spec_l1Knot.calls k a0_0 _ _ l0_1 a2 false _ ?side1 ?side2 A9.out).mono ?_); (case side1 => exact qc (Kd.C_below HR0_1.out HB.out)); (case side2 => exact HC0_1.out); rintro e w26 ⟨rfl, hb⟩; have n0_ := q0 (kb BK107.out hb); have n1_ := q0 (kb BK100.out hb); have n2_ := q0 (below_step (qb HB.out) hb); clear BK107 BK100 HB; have BK107 := n0_; have BK100 := n1_; have HB := n2_; clear n0_ n1_ n2_; (try clear hb); (try clear hb2); (try clear hk); (try clear hi)))
     go_meet
     case rel => exact ⟨_, (true), qs, H', ⟨by first | omega | exact Nat.le_refl _⟩, ⟨qk BK107.out⟩, ⟨qk BK100.out⟩, ⟨qb HB.out⟩⟩
   subst c10
   have H1 : ((spec_WayReach.f k a0_0 l0_1 a1).bind fun t106 => (if 0 ≤ a2 then (if a2 < (t106.length : Int) then (spec_BridgeApart.j0 k a1 a2 (!(rdOf false t106 a2)) a0_0 l0_1) else (none)) else (none))) = some (r1, r2, r3) := by rw [if_pos rfl] at H; exact H
   clear H
   have H := H1
   clear H1
   replace H := Option.bind_eq_some_iff.mp H
   obtain ⟨t106, A108, H⟩ := H
   replace H : (if 0 ≤ a2 then (if a2 < (t106.length : Int) then (spec_BridgeApart.j0 k a1 a2 (!(rdOf false t106 a2)) a0_0 l0_1) else (none)) else (none)) = some (r1, r2, r3) := H
   have A11 := Aside0.mk A108
   clear A108
   by_cases c12 : 0 ≤ a2
   rotate_left
   · rw [if_neg c12] at H
     exact absurd H (by simp)
   rw [if_pos c12] at H
   have c12b0 : decide (0 ≤ a2) = true := decide_eq_true c12
   clear c12
   (first | rw [c12b0] | (simp only [i64_w, i32_w]; rw [c12b0]) | skip)
   by_cases c13 : a2 < (t106.length : Int)
   rotate_left
   · rw [if_neg c13] at H
     exact absurd H (by simp)
   rw [if_pos c13] at H
   have c13b0 : decide (a2 < (t106.length : Int)) = true := decide_eq_true c13
   clear c13
   have H' := Aside0.mk H
   clear H
   have hnb14 := NB107_100.out
   have hnc14 := NB100_107.out
   have hcz15_0 : w6.cell? ⟨gb107, 0, none⟩ = some (.int .i64 a0_0) := (blk_cell BK107.out 0).trans rfl
   have hcz15_1 : w6.cell? ⟨gb107, 1, none⟩ = some (.slice A0_1 l0_1.length c0_1) := (blk_cell BK107.out 1).trans rfl
   have hfz15_0 := blk_frozen BK107.out 0
   have hfz15_1 := blk_frozen BK107.out 1
   go_wp2_with (first | ((with_reducible refine gate_callee (f := 50) rfl ?_); refine goesL_ (some 14) rfl rfl Try.func50 (by kernel_rfl) rfl #[.agg #[.int .i64 a0_0, .slice A0_1 l0_1.length c0_1], .int .i64 a1] rfl qm ?_; (with_reducible refine (spec_l1Knot.calls k a0_0 _ _ l0_1 a1 true _ ?side1 ?side2 A7.out).mono ?_); (case side1 => exact qc (Kd.C_below HR0_1.out HB.out)); (case side2 => exact HC0_1.out); rintro e w16 ⟨rfl, hb⟩; refine ⟨_, rfl, ?_⟩; have n0_ := q0 (kb BK107.out hb); have n1_ := q0 (kb BK100.out hb); have n2_ := q0 (below_step (qb HB.out) hb); clear BK107 BK100 HB; have BK107 := n0_; have BK100 := n1_; have HB := n2_; clear n0_ n1_ n2_; (try clear hb); (try clear hb2); (try clear hk); (try clear hi); have hcz17_0 : w16.cell? ⟨gb107, 0, none⟩ = some (.int .i64 a0_0) := (blk_cell BK107.out 0).trans rfl; have hcz17_1 : w16.cell? ⟨gb107, 1, none⟩ = some (.slice A0_1 l0_1.length c0_1) := (blk_cell BK107.out 1).trans rfl; have hfz17_0 := blk_frozen BK107.out 0; have hfz17_1 := blk_frozen BK107.out 1) | (go_at_call 50; (with_reducible refine (spec_l1Knot.calls k a0_0 _ _ l0_1 a2 true _ ?side1 ?side2 A9.out).mono ?_); (case side1 => exact qc (Kd.C_below HR0_1.out HB.out)); (case side2 => exact HC0_1.out); rintro e w18 ⟨rfl, hb⟩; have n0_ := q0 (kb BK107.out hb); have n1_ := q0 (kb BK100.out hb); have n2_ := q0 (below_step (qb HB.out) hb); clear BK107 BK100 HB; have BK107 := n0_; have BK100 := n1_; have HB := n2_; clear n0_ n1_ n2_; (try clear hb); (try clear hb2); (try clear hk); (try clear hi); have hcz19_0 : w18.cell? ⟨gb107, 0, none⟩ = some (.int .i64 a0_0) := (blk_cell BK107.out 0).trans rfl; have hcz19_1 : w18.cell? ⟨gb107, 1, none⟩ = some (.slice A0_1 l0_1.length c0_1) := (blk_cell BK107.out 1).trans rfl; have hfz19_0 := blk_frozen BK107.out 0; have hfz19_1 := blk_frozen BK107.out 1) | (go_at_call 51; (with_reducible refine (spec_WayReach.calls k a0_0 _ _ l0_1 a1 t106 _ ?side1 ?side2 A11.out).mono ?_); (case side1 => exact qc (Kd.C_below HR0_1.out HB.out)); (case side2 => exact HC0_1.out); rintro e w20 ⟨v109, rfl, ho0, hb⟩; have n0_ := q0 (Kd.R_lower ho0 (below_size (qb HB.out))); have n1_ := q0 (kb BK107.out hb); have n2_ := q0 (kb BK100.out hb); have n3_ := q0 (below_step (qb HB.out) hb); clear BK107 BK100 HB; have HO110 := n0_; have BK107 := n1_; have BK100 := n2_; have HB := n3_; clear n0_ n1_ n2_ n3_; (try clear hb); (try clear hb2); (try clear hk); (try clear hi); (try clear ho0); obtain ⟨Ao21, co21, eo21⟩ := Kd.R_slice HO110.out; subst eo21; have p111 : 0 ≤ (a2 : Int) := of_decide_eq_true qa; have q111 : a2 < (t106.length : Int) := of_decide_eq_true qa; obtain ⟨ad111, e111, hx111_0⟩ := Kd.at_bool (Kd.R_reads' HO110.out).2.2 a2 p111 q111; cases e111; replace p111 := eq_true p111; replace q111 := eq_true q111))
   go_meet
   case rel => exact ⟨_, (!(rdOf false t106 a2)), qs, H', ⟨by first | omega | exact Nat.le_refl _⟩, ⟨qk BK107.out⟩, ⟨qk BK100.out⟩, ⟨qb HB.out⟩⟩
 clear HC4
 try clear c1
 try clear c2
 try clear p2
 try clear q2
 try clear hx2
 try clear c5
 try clear c8
 try clear c10
 try clear c12
 try clear c12b0
 try clear c13
 try clear c13b0
 try clear c14
 try clear p21
 try clear q21
 try clear hx21
 try clear c22
 try clear c27
 try clear hcz15_0
 try clear hcz15_1
 try clear hcz17_0
 try clear hcz17_1
 try clear hcz19_0
 try clear hcz19_1
 try clear hcz23_0
 try clear hcz23_1
 try clear hcz25_0
 try clear hcz25_1
 try clear hcz28_0
 try clear hcz28_1
 try clear hfz15_0
 try clear hfz15_1
 try clear hfz17_0
 try clear hfz17_1
 try clear hfz19_0
 try clear hfz19_1
 try clear hfz23_0
 try clear hfz23_1
 try clear hfz25_0
 try clear hfz25_1
 try clear hfz28_0
 try clear hfz28_1
 try clear hx111_0
 try clear p111
 try clear q111
 obtain ⟨kq, x30_3, rfl, HA, HJ3, BK107, BK100, HB⟩ := hcut
 rcases kq with _ | kj3
 · exact absurd HA.out (by simp [spec_BridgeApart.j0])
 have H := HA.out
 clear HA
 simp only [spec_BridgeApart.j0] at H
 by_cases c30 : x30_3 = true
 · subst c30
   have H1 : (some (0, 0, false)) = some (r1, r2, r3) := by rw [if_pos rfl] at H; exact H
   clear H
   have H := H1
   clear H1
   simp only [Option.some.injEq, Prod.mk.injEq] at H
   obtain ⟨rfl, rfl, rfl⟩ := H
   have hnb31 := NB100_107.out
   have hnc31 := NB107_100.out
   have hcz32_0 : wc.cell? ⟨gb100, 0, none⟩ = some (.int .i64 0) := (blk_cell BK100.out 0).trans rfl
   have hcz32_1 : wc.cell? ⟨gb100, 1, none⟩ = some (.int .i64 0) := (blk_cell BK100.out 1).trans rfl
   have hfz32_0 := blk_frozen BK100.out 0
   have hfz32_1 := blk_frozen BK100.out 1
   go_wp2
   refine bodyPost_ret (results_ct rfl _ _ gb100 27 #[.int .i64 0, .int .i64 0] (0, 0) _ rfl (by (with_reducible repeat (first | refine blk_drewN ?_ _ | refine blk_drew ?_ | refine blk_alloc ?_ _)); refine blk_put (cs := #[.int .i64 0, .int .i64 0]) ?_ 1 _ rfl; (with_reducible repeat (first | refine blk_drewN ?_ _ | refine blk_drew ?_ | refine blk_alloc ?_ _)); refine blk_put (cs := #[.int .i64 0, .int .i64 0]) ?_ 0 _ rfl; (with_reducible repeat (first | refine blk_drewN ?_ _ | refine blk_drew ?_ | refine blk_alloc ?_ _)); exact BK100.out) Try.underlying27 rfl (by kernel_rfl)) rfl ?_
   exact ⟨qe, qb HB.out⟩
 replace c30 := Bool.eq_false_iff.mpr c30
 subst c30
 have H1 : ((spec_BridgeList.f kj3 a0_0 l0_1).bind fun t101 => (spec_BridgeApart.l0 kj3 a1 a2 t101 0 a0_0 l0_1)) = some (r1, r2, r3) := by rw [if_neg (show ¬ (false = true) by decide)] at H; exact H
 clear H
 have H := H1
 clear H1
 replace H := Option.bind_eq_some_iff.mp H
 obtain ⟨t101, A112, H⟩ := H
 replace H : (spec_BridgeApart.l0 kj3 a1 a2 t101 0 a0_0 l0_1) = some (r1, r2, r3) := H
 have A33 := Aside0.mk A112
 clear A112
 have H' := Aside0.mk H
 clear H
 have hnb34 := NB107_100.out
 have hnc34 := NB100_107.out
 have hcz35_0 : wc.cell? ⟨gb107, 0, none⟩ = some (.int .i64 a0_0) := (blk_cell BK107.out 0).trans rfl
 have hcz35_1 : wc.cell? ⟨gb107, 1, none⟩ = some (.slice A0_1 l0_1.length c0_1) := (blk_cell BK107.out 1).trans rfl
 have hfz35_0 := blk_frozen BK107.out 0
 have hfz35_1 := blk_frozen BK107.out 1
 go_wp2_with (first | ((with_reducible refine gate_callee (f := 26) rfl ?_); refine goesL_ (some 33) rfl rfl Try.func26 (by kernel_rfl) rfl #[.agg #[.int .i64 a0_0, .slice A0_1 l0_1.length c0_1]] rfl qm ?_; (with_reducible refine (spec_BridgeList.calls kj3 a0_0 _ _ l0_1 t101 _ ?side1 ?side2 A33.out).mono ?_); (case side1 => exact qc (Kd.C_below HR0_1.out HB.out)); (case side2 => exact HC0_1.out); rintro e w36 ⟨v113, rfl, ho0, hb⟩; refine ⟨_, rfl, ?_⟩; have n0_ := q0 (Kd.R_lower (Kd.R_newB ho0 (g := gb100) (o := .cells #[.int .i64 0, .int .i64 0] 27 (0, 0)) (qk BK100.out)) (below_size (qb HB.out))); have n1_ := q0 (kb BK107.out hb); have n2_ := q0 (kb BK100.out hb); have n3_ := q0 (below_step (qb HB.out) hb); clear BK107 BK100 HB; have HO114 := n0_; have BK107 := n1_; have BK100 := n2_; have HB := n3_; clear n0_ n1_ n2_ n3_; (try clear hb); (try clear hb2); (try clear hk); (try clear hi); (try clear ho0)))
 go_loopg [9] kj3 (fun kq v9 w' => ∃ (x9_2 : Int) (x104000_2 : Int) (x104001_2 : Int), v9 = .int .i64 x9_2 ∧ Aside0 (spec_BridgeApart.l0 kq a1 a2 t101 x9_2 a0_0 l0_1 = some (r1, r2, r3)) ∧ Aside0 (kq ≤ kj3) ∧ Aside0 (Kd.R kTie 27 w' w.heap.size (fun k_ => k_ ≠ gb100) v113 t101) ∧ Aside0 (w'.heap[gb107]? = some (.cells #[.int .i64 a0_0, (.slice A0_1 l0_1.length c0_1)] 32 (0, 0))) ∧ Aside0 (w'.heap[gb100]? = some (.cells #[.int .i64 x104000_2, .int .i64 x104001_2] 27 (0, 0))) ∧ Aside0 (Below w.heap.size w w'))
 case atStart => exact ⟨(0), (0), (0), qs, H', ⟨Nat.le_refl _⟩, ⟨by (with_reducible repeat (first | apply Kd.R_alloc | apply Kd.R_drewN | apply Kd.R_drew)); exact Kd.R_mono HO114.out (fun _ hk => hk.2)⟩, ⟨qk BK107.out⟩, ⟨qk BK100.out⟩, ⟨qb HB.out⟩⟩
 clear H'
 try clear c1
 try clear c2
 try clear p2
 try clear q2
 try clear hx2
 try clear c3
 try clear c5
 try clear c8
 try clear c10
 try clear c12
 try clear c12b0
 try clear c13
 try clear c13b0
 try clear c14
 try clear p21
 try clear q21
 try clear hx21
 try clear c22
 try clear c26
 try clear c27
 try clear c30
 try clear c31
 try clear c34
 try clear hcz15_0
 try clear hcz15_1
 try clear hcz17_0
 try clear hcz17_1
 try clear hcz19_0
 try clear hcz19_1
 try clear hcz23_0
 try clear hcz23_1
 try clear hcz25_0
 try clear hcz25_1
 try clear hcz28_0
 try clear hcz28_1
 try clear hcz32_0
 try clear hcz32_1
 try clear hcz35_0
 try clear hcz35_1
 try clear hfz15_0
 try clear hfz15_1
 try clear hfz17_0
 try clear hfz17_1
 try clear hfz19_0
 try clear hfz19_1
 try clear hfz23_0
 try clear hfz23_1
 try clear hfz25_0
 try clear hfz25_1
 try clear hfz28_0
 try clear hfz28_1
 try clear hfz32_0
 try clear hfz32_1
 try clear hfz35_0
 try clear hfz35_1
 try clear hx111_0
 try clear p2
 try clear p21
 try clear p111
 try clear q2
 try clear q21
 try clear q111
 obtain ⟨x9_2, x104000_2, x104001_2, rfl, HA, HK2, HO_8, BK107, BK100, HB⟩ := hrel
 rcases gk with _ | k2
 · exact absurd HA.out (by simp [spec_BridgeApart.l0])
 have H := HA.out
 clear HA
 simp only [spec_BridgeApart.l0] at H
 by_cases c37 : x9_2 < (t101.length : Int)
 rotate_left
 · rw [if_neg c37] at H
   have c37b0 : decide (x9_2 < (t101.length : Int)) = false := decide_eq_false c37
   clear c37
   simp only [Option.some.injEq, Prod.mk.injEq] at H
   obtain ⟨rfl, rfl, rfl⟩ := H
   obtain ⟨Ao73, co73, eo73⟩ := Kd.R_slice HO_8.out
   subst eo73
   have hnb74 := NB100_107.out
   have hnc74 := NB107_100.out
   have hcz75_0 : wr.cell? ⟨gb100, 0, none⟩ = some (.int .i64 x104000_2) := (blk_cell BK100.out 0).trans rfl
   have hcz75_1 : wr.cell? ⟨gb100, 1, none⟩ = some (.int .i64 x104001_2) := (blk_cell BK100.out 1).trans rfl
   have hfz75_0 := blk_frozen BK100.out 0
   have hfz75_1 := blk_frozen BK100.out 1
   go_wp2
   refine bodyPost_ret (results_ct rfl _ _ gb100 27 #[.int .i64 0, .int .i64 0] (0, 0) _ rfl (by (with_reducible repeat (first | refine blk_drewN ?_ _ | refine blk_drew ?_ | refine blk_alloc ?_ _)); refine blk_put (cs := #[.int .i64 0, .int .i64 x104001_2]) ?_ 1 _ rfl; (with_reducible repeat (first | refine blk_drewN ?_ _ | refine blk_drew ?_ | refine blk_alloc ?_ _)); refine blk_put (cs := #[.int .i64 x104000_2, .int .i64 x104001_2]) ?_ 0 _ rfl; (with_reducible repeat (first | refine blk_drewN ?_ _ | refine blk_drew ?_ | refine blk_alloc ?_ _)); exact BK100.out) Try.underlying27 rfl (by kernel_rfl)) rfl ?_
   exact ⟨qe, qb HB.out⟩
 rw [if_pos c37] at H
 have c37b0 : decide (x9_2 < (t101.length : Int)) = true := decide_eq_true c37
 clear c37
 by_cases c38 : 0 ≤ x9_2
 rotate_left
 · rw [if_neg c38] at H
   exact absurd H (by simp)
 rw [if_pos c38] at H
 have c38b0 : decide (0 ≤ x9_2) = true := decide_eq_true c38
 clear c38
 replace H := Option.bind_eq_some_iff.mp H
 obtain ⟨⟨t102, t115, t116⟩, A117, H⟩ := H
 replace H : ((spec_WayReach.f k2 t102 t115 a1).bind fun t103 => (if 0 ≤ a2 then (if a2 < (t103.length : Int) then (if rdOf false t103 a2 = true then (spec_BridgeApart.l0 k2 a1 a2 t101 (wrap64 (x9_2 + 1)) a0_0 l0_1) else (some ((rd_TTie t101 x9_2).f0, (rd_TTie t101 x9_2).f1, true))) else (none)) else (none))) = some (r1, r2, r3) := H
 have A39 := Aside0.mk A117
 clear A117
 replace H := Option.bind_eq_some_iff.mp H
 obtain ⟨t103, A118, H⟩ := H
 replace H : (if 0 ≤ a2 then (if a2 < (t103.length : Int) then (if rdOf false t103 a2 = true then (spec_BridgeApart.l0 k2 a1 a2 t101 (wrap64 (x9_2 + 1)) a0_0 l0_1) else (some ((rd_TTie t101 x9_2).f0, (rd_TTie t101 x9_2).f1, true))) else (none)) else (none)) = some (r1, r2, r3) := H
 have A40 := Aside0.mk A118
 clear A118
 by_cases c41 : 0 ≤ a2
 rotate_left
 · rw [if_neg c41] at H
   exact absurd H (by simp)
 rw [if_pos c41] at H
 have c41b0 : decide (0 ≤ a2) = true := decide_eq_true c41
 clear c41
 by_cases c42 : a2 < (t103.length : Int)
 rotate_left
 · rw [if_neg c42] at H
   exact absurd H (by simp)
 rw [if_pos c42] at H
 have c42b0 : decide (a2 < (t103.length : Int)) = true := decide_eq_true c42
 clear c42
 obtain ⟨bq43, hbq43⟩ : ∃ b_ : Bool, b_ = (rdOf false t103 a2) := ⟨_, rfl⟩
 replace H : (if bq43 = true then (spec_BridgeApart.l0 k2 a1 a2 t101 (wrap64 (x9_2 + 1)) a0_0 l0_1) else (some ((rd_TTie t101 x9_2).f0, (rd_TTie t101 x9_2).f1, true))) = some (r1, r2, r3) := by rw [← hbq43] at H; exact H
 have Nbq43 := Aside0.mk hbq43
 clear hbq43
 by_cases c44 : bq43 = true
 · subst c44
   have H1 : (spec_BridgeApart.l0 k2 a1 a2 t101 (wrap64 (x9_2 + 1)) a0_0 l0_1) = some (r1, r2, r3) := by rw [if_pos rfl] at H; exact H
   clear H
   have H := H1
   clear H1
   have H' := Aside0.mk H
   clear H
   obtain ⟨Ao45, co45, eo45⟩ := Kd.R_slice HO_8.out
   subst eo45
   try go_wp2
   have n0_ := q0 (Kd.R_drew HO_8.out)
   have n1_ := q0 (blk_drew BK107.out)
   have n2_ := q0 (blk_drew BK100.out)
   have n3_ := q0 (below_drew1 HB.out)
   clear HO_8
   clear BK107
   clear BK100
   clear HB
   have HO_8 := n0_
   have BK107 := n1_
   have BK100 := n2_
   have HB := n3_
   clear n0_ n1_ n2_ n3_
   have p119 : 0 ≤ (x9_2 : Int) := of_decide_eq_true qa
   have q119 : x9_2 < (t101.length : Int) := of_decide_eq_true qa
   obtain ⟨ad119, e119, hx119_0, hx119_1⟩ := at_TTie (Kd.R_reads' HO_8.out).2.2 x9_2 p119 q119
   cases e119
   replace p119 := eq_true p119
   replace q119 := eq_true q119
   have p120 : 0 ≤ (x9_2 : Int) := of_decide_eq_true qa
   have q120 : x9_2 < (t101.length : Int) := of_decide_eq_true qa
   obtain ⟨ad120, e120, hx120_0, hx120_1⟩ := at_TTie (Kd.R_reads' HO_8.out).2.2 x9_2 p120 q120
   obtain rfl : ad119 = ad120 := (by injection e120)
   replace p120 := eq_true p120
   replace q120 := eq_true q120
   refine start_ (n := 18) (S := fun w' => w'.cell? ⟨gb107, 0, none⟩ = some (.int .i64 a0_0) ∧ w'.cell? ⟨gb107, 1, none⟩ = some (.slice A0_1 l0_1.length c0_1) ∧ w'.cell? (ad119.add ((x9_2).toNat * 2)) = some (.int .i64 ((rd_TTie t101 x9_2).f0)) ∧ w'.cell? ⟨(ad119.add ((x9_2).toNat * 2)).block, (ad119.add ((x9_2).toNat * 2)).off + 1, none⟩ = some (.int .i64 ((rd_TTie t101 x9_2).f1)) ∧ w'.cell? (ad119.add ((x9_2).toNat * 2)) = some (.int .i64 ((rd_TTie t101 x9_2).f0)) ∧ w'.cell? ⟨(ad119.add ((x9_2).toNat * 2)).block, (ad119.add ((x9_2).toNat * 2)).off + 1, none⟩ = some (.int .i64 ((rd_TTie t101 x9_2).f1))) (ds := []) (ba 18 0) (by kernel_rfl) rfl (by kernel_rfl) ⟨(blk_cell BK107.out 0).trans rfl, (blk_cell BK107.out 1).trans rfl, hx119_0, hx119_1, hx120_0, hx120_1⟩ (fun hHeld => ?_); refine with_tabW spec_BridgeApart.tab7 spec_BridgeApart.bits7 (fun HT_ HW_ => ?_)
   generalize wr.drew = w46 at HO_8 BK107 BK100 HB hx119_0 hx119_1 hx120_0 hx120_1 hHeld ⊢
   refine pu 1 (some 42) (ba 18 2) HT_.out ?_
   refine pu 2 (some 43) (ba 18 6) HT_.out ?_
   refine pu 3 (some 44) (ba 18 14) HT_.out ?_
   refine pu 4 (some 45) (ba 18 30) HT_.out ?_
   refine pu 6 (some 47) (ba 18 94) HT_.out ?_
   refine pu 7 (some 48) (ba 18 222) HT_.out ?_
   refine pu 8 (some 49) (ba 18 478) HT_.out ?_
   refine pu 9 (some 50) (ba 18 990) HT_.out ?_
   refine tu 0 (some 41) (ba 18 991) HT_.out HW_.out hHeld ?_
   refine tu 5 (some 46) (ba 18 1023) HT_.out HW_.out hHeld ?_
   refine tu 10 (some 51) (ba 18 2047) HT_.out HW_.out hHeld ?_
   refine join_ (σ := Value × Nat) 2 (ba 18 65535) (fun s_ => [(52, .tuple #[.agg #[.int .i64 t102, s_.1], .bool t116]), (10, .pointer (some ⟨s_.2, 0, none⟩)), (40, .tuple #[.agg #[.int .i64 t102, s_.1], .bool t116]), (53, .agg #[.int .i64 t102, s_.1]), (54, .bool t116)]) (fun s_ w' => (w'.cell? ⟨gb107, 0, none⟩ = some (.int .i64 a0_0) ∧ w'.cell? ⟨gb107, 1, none⟩ = some (.slice A0_1 l0_1.length c0_1) ∧ w'.cell? (ad119.add ((x9_2).toNat * 2)) = some (.int .i64 ((rd_TTie t101 x9_2).f0)) ∧ w'.cell? ⟨(ad119.add ((x9_2).toNat * 2)).block, (ad119.add ((x9_2).toNat * 2)).off + 1, none⟩ = some (.int .i64 ((rd_TTie t101 x9_2).f1)) ∧ w'.cell? (ad119.add ((x9_2).toNat * 2)) = some (.int .i64 ((rd_TTie t101 x9_2).f0)) ∧ w'.cell? ⟨(ad119.add ((x9_2).toNat * 2)).block, (ad119.add ((x9_2).toNat * 2)).off + 1, none⟩ = some (.int .i64 ((rd_TTie t101 x9_2).f1))) ∧ (Kd.R kTie 27 w' w.heap.size (fun k_ => some k_ ≠ (.slice (some ad119) t101.length co45 : Value).ownBlock ∧ k_ ≠ gb100) s_.1 t115) ∧ (Kd.R kTie 27 w' w.heap.size (fun k_ => some k_ ≠ (s_.1 : Value).ownBlock ∧ k_ ≠ gb100) (.slice (some ad119) t101.length co45) t101) ∧ (w'.heap[gb107]? = some (.cells #[.int .i64 a0_0, .slice A0_1 l0_1.length c0_1] 32 (0, 0))) ∧ (w'.heap[gb100]? = some (.cells #[.int .i64 x104000_2, .int .i64 x104001_2] 27 (0, 0))) ∧ (w'.heap[s_.2]? = some (.cells #[.int .i64 0, .slice none 0 0] 32 (0, 0))) ∧ (w.heap.size ≤ s_.2) ∧ (w.heap.size ≤ s_.2) ∧ (gb107 ≠ s_.2) ∧ (s_.2 ≠ gb107) ∧ (gb100 ≠ s_.2) ∧ (s_.2 ≠ gb100) ∧ (Below w.heap.size w w')) ?_ ?_
   rotate_left
   · intro hCont
     refine two_ (i := 11) (j := 15) (Ni := some 52) (Nj := some 10) (ba 18 4095) (ba 18 34815) rfl rfl rfl rfl (two_of HT_.out (by kernel_rfl)) (by decide) (by decide) (fun K hK => ?_) (fun K hK => ?_)
     · skip
       refine goes_ Try.func52 (by kernel_rfl) rfl #[.agg #[.int .i64 a0_0, .slice A0_1 l0_1.length c0_1], .int .i64 ((rd_TTie t101 x9_2).f0), .int .i64 ((rd_TTie t101 x9_2).f1)] (by rfl) rfl rfl qm ?_
       with_reducible refine (spec_NetCut.calls k2 a0_0 _ _ l0_1 ((rd_TTie t101 x9_2).f0) ((rd_TTie t101 x9_2).f1) t102 t115 t116 _ ?side1 ?side2 A39.out).mono ?_
       (case side1 => exact qc (Kd.C_below HR0_1.out HB.out))
       (case side2 => exact HC0_1.out)
       rintro e w47 ⟨v121, rfl, ho0, hb⟩
       have HS2_ := (hb.cell (World.block_lt_of_cell? _ _ (hHeld.2.2.1))).trans (hHeld.2.2.1)
       have HS3_ := (hb.cell (World.block_lt_of_cell? _ _ (hHeld.2.2.2.1))).trans (hHeld.2.2.2.1)
       have HS4_ := (hb.cell (World.block_lt_of_cell? _ _ (hHeld.2.2.2.2.1))).trans (hHeld.2.2.2.2.1)
       have HS5_ := (hb.cell (World.block_lt_of_cell? _ _ (hHeld.2.2.2.2.2))).trans (hHeld.2.2.2.2.2)
       refine ⟨_, rfl, ?_⟩
       have n0_ := q0 (Kd.R_elder' (qr HO_8.out) (Kd.R_base ho0) hb)
       have n1_ := q0 (Kd.R_lower (Kd.R_newB (Kd.R_new' ho0 (Kd.R_lt (qr HO_8.out))) (g := gb100) (o := .cells #[.int .i64 x104000_2, .int .i64 x104001_2] 27 (0, 0)) (qk BK100.out)) (below_size (qb HB.out)))
       have n2_ := q0 (kb BK107.out hb)
       have n3_ := q0 (kb BK100.out hb)
       have n4_ := q0 (below_step (qb HB.out) hb)
       clear HO_8
       clear BK107
       clear BK100
       clear HB
       have HO_8 := n0_
       have HO122 := n1_
       have BK107 := n2_
       have BK100 := n3_
       have HB := n4_
       clear n0_ n1_ n2_ n3_ n4_
       (try clear hb)
       (try clear hb2)
       (try clear hk)
       (try clear hi)
       (try clear ho0)
       refine hK.out _ _ ⟨(blk_cell BK107.out 0).trans rfl, (blk_cell BK107.out 1).trans rfl, HS2_, HS3_, HS4_, HS5_⟩ (fun hHeld => ?_)
       clear hK K
       refine nu 52 ?_
       refine pu 12 (some 40) (ba 18 8191) HT_.out ?_
       refine pu 13 (some 53) (ba 18 16383) HT_.out ?_
       refine pu 14 (some 54) (ba 18 32767) HT_.out ?_
       refine one_ (i := 15) (N := some 10) (ba 18 65535) rfl rfl (one_of HT_.out (by kernel_rfl)) (by decide) (fun K hK => ?_)
       refine box_step ?hg (N := 10) ?hd (cs := #[.int .i64 0, .slice none 0 0]) (t := 32) ?hr ?_; (case hd => rfl); (case hg => rfl); (case hr => first | (go_simp; done) | (go_simp; rfl))
       intro gb123 hg w48 hbox hb
       have HS2_ := (hb.cell (World.block_lt_of_cell? _ _ (hHeld.2.2.1))).trans (hHeld.2.2.1)
       have HS3_ := (hb.cell (World.block_lt_of_cell? _ _ (hHeld.2.2.2.1))).trans (hHeld.2.2.2.1)
       have HS4_ := (hb.cell (World.block_lt_of_cell? _ _ (hHeld.2.2.2.2.1))).trans (hHeld.2.2.2.2.1)
       have HS5_ := (hb.cell (World.block_lt_of_cell? _ _ (hHeld.2.2.2.2.2))).trans (hHeld.2.2.2.2.2)
       have n0_ := q0 (Kd.R_below (qr HO_8.out) hb)
       have n1_ := q0 (Kd.R_below (qr HO122.out) hb)
       have n2_ := q0 (kb BK107.out hb)
       have n3_ := q0 (kb BK100.out hb)
       have n4_ := q0 (below_step (qb HB.out) hb)
       have n5_ := q0 (hbox)
       have n6_ := q0 ((bs HB.out hg : w.heap.size ≤ gb123))
       have n7_ := q0 ((bs HB.out hg : w.heap.size ≤ gb123))
       have n8_ := q0 ((bl BK107.out hg : gb107 ≠ gb123))
       have n9_ := q0 ((bg BK107.out hg : gb123 ≠ gb107))
       have n10_ := q0 ((bl BK100.out hg : gb100 ≠ gb123))
       have n11_ := q0 ((bg BK100.out hg : gb123 ≠ gb100))
       clear HO_8
       clear HO122
       clear BK107
       clear BK100
       clear HB
       have HO_8 := n0_
       have HO122 := n1_
       have BK107 := n2_
       have BK100 := n3_
       have HB := n4_
       have BK123 := n5_
       have GW123 := n6_
       have GE123 := n7_
       have NB107_123 := n8_
       have NB123_107 := n9_
       have NB100_123 := n10_
       have NB123_100 := n11_
       clear n0_ n1_ n2_ n3_ n4_ n5_ n6_ n7_ n8_ n9_ n10_ n11_
       clear hb hbox hg
       refine hK.out _ _ ⟨(blk_cell BK107.out 0).trans rfl, (blk_cell BK107.out 1).trans rfl, HS2_, HS3_, HS4_, HS5_⟩ (fun hHeld => ?_)
       clear hK K
       refine nu 10 ?_
       exact norm_ (by simp only [putAll, Act.put, List.setIfInBounds_toArray, List.set_cons_zero, List.set_cons_succ]) (hCont (v121, gb123) _ ⟨hHeld, (by (with_reducible repeat (first | apply Kd.R_alloc | apply Kd.R_drewN | apply Kd.R_drew)); exact Kd.R_mono HO122.out (fun _ hk => ⟨hk.1.2, hk.2⟩)), (by (with_reducible repeat (first | apply Kd.R_alloc | apply Kd.R_drewN | apply Kd.R_drew)); exact Kd.R_mono HO_8.out (fun _ hk => ⟨hk.2, hk.1⟩)), (qk BK107.out), (qk BK100.out), (qk BK123.out), GW123.out, GE123.out, NB107_123.out, NB123_107.out, NB100_123.out, NB123_100.out, (qb HB.out)⟩)
     · skip
       refine box_step ?hg (N := 10) ?hd (cs := #[.int .i64 0, .slice none 0 0]) (t := 32) ?hr ?_; (case hd => rfl); (case hg => rfl); (case hr => first | (go_simp; done) | (go_simp; rfl))
       intro gb123 hg w47 hbox hb
       have HS2_ := (hb.cell (World.block_lt_of_cell? _ _ (hHeld.2.2.1))).trans (hHeld.2.2.1)
       have HS3_ := (hb.cell (World.block_lt_of_cell? _ _ (hHeld.2.2.2.1))).trans (hHeld.2.2.2.1)
       have HS4_ := (hb.cell (World.block_lt_of_cell? _ _ (hHeld.2.2.2.2.1))).trans (hHeld.2.2.2.2.1)
       have HS5_ := (hb.cell (World.block_lt_of_cell? _ _ (hHeld.2.2.2.2.2))).trans (hHeld.2.2.2.2.2)
       have n0_ := q0 (Kd.R_below (qr HO_8.out) hb)
       have n1_ := q0 (kb BK107.out hb)
       have n2_ := q0 (kb BK100.out hb)
       have n3_ := q0 (below_step (qb HB.out) hb)
       have n4_ := q0 (hbox)
       have n5_ := q0 ((bs HB.out hg : w.heap.size ≤ gb123))
       have n6_ := q0 ((bs HB.out hg : w.heap.size ≤ gb123))
       have n7_ := q0 ((bl BK107.out hg : gb107 ≠ gb123))
       have n8_ := q0 ((bg BK107.out hg : gb123 ≠ gb107))
       have n9_ := q0 ((bl BK100.out hg : gb100 ≠ gb123))
       have n10_ := q0 ((bg BK100.out hg : gb123 ≠ gb100))
       clear HO_8
       clear BK107
       clear BK100
       clear HB
       have HO_8 := n0_
       have BK107 := n1_
       have BK100 := n2_
       have HB := n3_
       have BK123 := n4_
       have GW123 := n5_
       have GE123 := n6_
       have NB107_123 := n7_
       have NB123_107 := n8_
       have NB100_123 := n9_
       have NB123_100 := n10_
       clear n0_ n1_ n2_ n3_ n4_ n5_ n6_ n7_ n8_ n9_ n10_
       clear hb hbox hg
       refine hK.out _ _ ⟨(blk_cell BK107.out 0).trans rfl, (blk_cell BK107.out 1).trans rfl, HS2_, HS3_, HS4_, HS5_⟩ (fun hHeld => ?_)
       clear hK K
       refine nu 10 ?_
       refine one_ (i := 11) (N := some 52) (ba 18 36863) rfl rfl (one_of HT_.out (by kernel_rfl)) (by decide) (fun K hK => ?_)
       refine goes_ Try.func52 (by kernel_rfl) rfl #[.agg #[.int .i64 a0_0, .slice A0_1 l0_1.length c0_1], .int .i64 ((rd_TTie t101 x9_2).f0), .int .i64 ((rd_TTie t101 x9_2).f1)] (by rfl) rfl rfl qm ?_
       with_reducible refine (spec_NetCut.calls k2 a0_0 _ _ l0_1 ((rd_TTie t101 x9_2).f0) ((rd_TTie t101 x9_2).f1) t102 t115 t116 _ ?side1 ?side2 A39.out).mono ?_
       (case side1 => exact qc (Kd.C_below HR0_1.out HB.out))
       (case side2 => exact HC0_1.out)
       rintro e w48 ⟨v121, rfl, ho0, hb⟩
       have HS2_ := (hb.cell (World.block_lt_of_cell? _ _ (hHeld.2.2.1))).trans (hHeld.2.2.1)
       have HS3_ := (hb.cell (World.block_lt_of_cell? _ _ (hHeld.2.2.2.1))).trans (hHeld.2.2.2.1)
       have HS4_ := (hb.cell (World.block_lt_of_cell? _ _ (hHeld.2.2.2.2.1))).trans (hHeld.2.2.2.2.1)
       have HS5_ := (hb.cell (World.block_lt_of_cell? _ _ (hHeld.2.2.2.2.2))).trans (hHeld.2.2.2.2.2)
       refine ⟨_, rfl, ?_⟩
       have n0_ := q0 (Kd.R_elder' (qr HO_8.out) (Kd.R_base ho0) hb)
       have n1_ := q0 (Kd.R_lower (Kd.R_newB (Kd.R_new' ho0 (Kd.R_lt (qr HO_8.out))) (g := gb100) (o := .cells #[.int .i64 x104000_2, .int .i64 x104001_2] 27 (0, 0)) (qk BK100.out)) (below_size (qb HB.out)))
       have n2_ := q0 (kb BK107.out hb)
       have n3_ := q0 (kb BK100.out hb)
       have n4_ := q0 (kb BK123.out hb)
       have n5_ := q0 (below_step (qb HB.out) hb)
       clear HO_8
       clear BK107
       clear BK100
       clear BK123
       clear HB
       have HO_8 := n0_
       have HO122 := n1_
       have BK107 := n2_
       have BK100 := n3_
       have BK123 := n4_
       have HB := n5_
       clear n0_ n1_ n2_ n3_ n4_ n5_
       (try clear hb)
       (try clear hb2)
       (try clear hk)
       (try clear hi)
       (try clear ho0)
       refine hK.out _ _ ⟨(blk_cell BK107.out 0).trans rfl, (blk_cell BK107.out 1).trans rfl, HS2_, HS3_, HS4_, HS5_⟩ (fun hHeld => ?_)
       clear hK K
       refine nu 52 ?_
       refine pu 12 (some 40) (ba 18 40959) HT_.out ?_
       refine pu 13 (some 53) (ba 18 49151) HT_.out ?_
       refine pu 14 (some 54) (ba 18 65535) HT_.out ?_
       exact norm_ (by simp only [putAll, Act.put, List.setIfInBounds_toArray, List.set_cons_zero, List.set_cons_succ]) (hCont (v121, gb123) _ ⟨hHeld, (by (with_reducible repeat (first | apply Kd.R_alloc | apply Kd.R_drewN | apply Kd.R_drew)); exact Kd.R_mono HO122.out (fun _ hk => ⟨hk.1.2, hk.2⟩)), (by (with_reducible repeat (first | apply Kd.R_alloc | apply Kd.R_drewN | apply Kd.R_drew)); exact Kd.R_mono HO_8.out (fun _ hk => ⟨hk.2, hk.1⟩)), (qk BK107.out), (qk BK100.out), (qk BK123.out), GW123.out, GE123.out, NB107_123.out, NB123_107.out, NB100_123.out, NB123_100.out, (qb HB.out)⟩)
   rintro ⟨v121, gb123⟩ w49 ⟨hS_, h0_, h1_, h2_, h3_, h4_, h5_, h6_, h7_, h8_, h9_, h10_, h11_⟩
   have n0_ : Aside0 (Kd.R kTie 27 w49 w.heap.size (fun k_ => some k_ ≠ (.slice (some ad119) t101.length co45 : Value).ownBlock ∧ k_ ≠ gb100) v121 t115) := ⟨h0_⟩
   have n1_ : Aside0 (Kd.R kTie 27 w49 w.heap.size (fun k_ => some k_ ≠ (v121 : Value).ownBlock ∧ k_ ≠ gb100) (.slice (some ad119) t101.length co45) t101) := ⟨h1_⟩
   have n2_ : Aside0 (w49.heap[gb107]? = some (.cells #[.int .i64 a0_0, .slice A0_1 l0_1.length c0_1] 32 (0, 0))) := ⟨h2_⟩
   have n3_ : Aside0 (w49.heap[gb100]? = some (.cells #[.int .i64 x104000_2, .int .i64 x104001_2] 27 (0, 0))) := ⟨h3_⟩
   have n4_ : Aside0 (w49.heap[gb123]? = some (.cells #[.int .i64 0, .slice none 0 0] 32 (0, 0))) := ⟨h4_⟩
   have n5_ : Aside0 (w.heap.size ≤ gb123) := ⟨h5_⟩
   have n6_ : Aside0 (w.heap.size ≤ gb123) := ⟨h6_⟩
   have n7_ : Aside0 (gb107 ≠ gb123) := ⟨h7_⟩
   have n8_ : Aside0 (gb123 ≠ gb107) := ⟨h8_⟩
   have n9_ : Aside0 (gb100 ≠ gb123) := ⟨h9_⟩
   have n10_ : Aside0 (gb123 ≠ gb100) := ⟨h10_⟩
   have n11_ : Aside0 (Below w.heap.size w w49) := ⟨h11_⟩
   clear HO_8
   clear BK107
   clear BK100
   clear HB
   clear h0_ h1_ h2_ h3_ h4_ h5_ h6_ h7_ h8_ h9_ h10_ h11_
   have HO122 := n0_
   have HO_8 := n1_
   have BK107 := n2_
   have BK100 := n3_
   have BK123 := n4_
   have GW123 := n5_
   have GE123 := n6_
   have NB107_123 := n7_
   have NB123_107 := n8_
   have NB100_123 := n9_
   have NB123_100 := n10_
   have HB := n11_
   clear n0_ n1_ n2_ n3_ n4_ n5_ n6_ n7_ n8_ n9_ n10_ n11_
   have hHeld : w49.cell? ⟨gb107, 0, none⟩ = some (.int .i64 a0_0) ∧ w49.cell? ⟨gb107, 1, none⟩ = some (.slice A0_1 l0_1.length c0_1) ∧ w49.cell? (ad119.add ((x9_2).toNat * 2)) = some (.int .i64 ((rd_TTie t101 x9_2).f0)) ∧ w49.cell? ⟨(ad119.add ((x9_2).toNat * 2)).block, (ad119.add ((x9_2).toNat * 2)).off + 1, none⟩ = some (.int .i64 ((rd_TTie t101 x9_2).f1)) ∧ w49.cell? (ad119.add ((x9_2).toNat * 2)) = some (.int .i64 ((rd_TTie t101 x9_2).f0)) ∧ w49.cell? ⟨(ad119.add ((x9_2).toNat * 2)).block, (ad119.add ((x9_2).toNat * 2)).off + 1, none⟩ = some (.int .i64 ((rd_TTie t101 x9_2).f1)) := hS_
   obtain ⟨Ao51, co51, eo51⟩ := Kd.R_slice HO122.out
   (first | subst eo51 | (injection eo51 with f1_ f2_ f3_; have f4_ := f1_.symm; have f5_ := f3_.symm; clear f1_ f2_ f3_; subst f4_; subst f5_))
   refine norm_ (a' := ?_) ?_ ?_
   rotate_left
   · simp only [putAll, Act.put, List.setIfInBounds_toArray, List.set_cons_zero, List.set_cons_succ]
     rfl
   refine one_ (i := 16) (N := none) (ba 18 131071) rfl rfl (one_of HT_.out (by kernel_rfl)) (by decide) (fun K hK => ?_)
   have hs50 : w49.cell? ⟨gb123, 0, none⟩ = some (.int .i64 0) := (blk_cell BK123.out 0).trans rfl
   have hfs50 := blk_frozen BK123.out 0
   have hns50_0 := NB107_123.out
   have hns50_1 := NB100_123.out
   have hms50_0 := NB123_107.out
   have hms50_1 := NB123_100.out
   have hs52 : w49.cell? ⟨gb123, 1, none⟩ = some (.slice none 0 0) := (blk_cell BK123.out 1).trans rfl
   have hfs52 := blk_frozen BK123.out 1
   have hns52_0 := NB107_123.out
   have hns52_1 := NB100_123.out
   have hms52_0 := NB123_107.out
   have hms52_1 := NB123_100.out
   refine skip_ (w1 := ?_) (by rfl) rfl ?_ ?_
   rotate_left
   · go_simp
     rfl
   refine hK.out _ _ ⟨((cell_far (p := ⟨gb123, _, none⟩) NB107_123.out _).trans (((cell_far (p := ⟨gb123, _, none⟩) NB107_123.out _).trans (hHeld.1)))), ((cell_far (p := ⟨gb123, _, none⟩) NB107_123.out _).trans (((cell_far (p := ⟨gb123, _, none⟩) NB107_123.out _).trans (hHeld.2.1)))), ((cell_far (p := ⟨gb123, _, none⟩) (by first | exact Kd.own_blk (Kd.R_ne HO_8.out BK123.out (by decide)) | (rw [add_block]; exact Kd.own_blk (Kd.R_ne HO_8.out BK123.out (by decide))) | (show (Addr.add _ _).block ≠ _; rw [add_block]; exact Kd.own_blk (Kd.R_ne HO_8.out BK123.out (by decide))) | (dsimp only; exact Kd.own_blk (Kd.R_ne HO_8.out BK123.out (by decide)))) _).trans (((cell_far (p := ⟨gb123, _, none⟩) (by first | exact Kd.own_blk (Kd.R_ne HO_8.out BK123.out (by decide)) | (rw [add_block]; exact Kd.own_blk (Kd.R_ne HO_8.out BK123.out (by decide))) | (show (Addr.add _ _).block ≠ _; rw [add_block]; exact Kd.own_blk (Kd.R_ne HO_8.out BK123.out (by decide))) | (dsimp only; exact Kd.own_blk (Kd.R_ne HO_8.out BK123.out (by decide)))) _).trans (hHeld.2.2.1)))), ((cell_far (p := ⟨gb123, _, none⟩) (by first | exact Kd.own_blk (Kd.R_ne HO_8.out BK123.out (by decide)) | (rw [add_block]; exact Kd.own_blk (Kd.R_ne HO_8.out BK123.out (by decide))) | (show (Addr.add _ _).block ≠ _; rw [add_block]; exact Kd.own_blk (Kd.R_ne HO_8.out BK123.out (by decide))) | (dsimp only; exact Kd.own_blk (Kd.R_ne HO_8.out BK123.out (by decide)))) _).trans (((cell_far (p := ⟨gb123, _, none⟩) (by first | exact Kd.own_blk (Kd.R_ne HO_8.out BK123.out (by decide)) | (rw [add_block]; exact Kd.own_blk (Kd.R_ne HO_8.out BK123.out (by decide))) | (show (Addr.add _ _).block ≠ _; rw [add_block]; exact Kd.own_blk (Kd.R_ne HO_8.out BK123.out (by decide))) | (dsimp only; exact Kd.own_blk (Kd.R_ne HO_8.out BK123.out (by decide)))) _).trans (hHeld.2.2.2.1)))), ((cell_far (p := ⟨gb123, _, none⟩) (by first | exact Kd.own_blk (Kd.R_ne HO_8.out BK123.out (by decide)) | (rw [add_block]; exact Kd.own_blk (Kd.R_ne HO_8.out BK123.out (by decide))) | (show (Addr.add _ _).block ≠ _; rw [add_block]; exact Kd.own_blk (Kd.R_ne HO_8.out BK123.out (by decide))) | (dsimp only; exact Kd.own_blk (Kd.R_ne HO_8.out BK123.out (by decide)))) _).trans (((cell_far (p := ⟨gb123, _, none⟩) (by first | exact Kd.own_blk (Kd.R_ne HO_8.out BK123.out (by decide)) | (rw [add_block]; exact Kd.own_blk (Kd.R_ne HO_8.out BK123.out (by decide))) | (show (Addr.add _ _).block ≠ _; rw [add_block]; exact Kd.own_blk (Kd.R_ne HO_8.out BK123.out (by decide))) | (dsimp only; exact Kd.own_blk (Kd.R_ne HO_8.out BK123.out (by decide)))) _).trans (hHeld.2.2.2.2.1)))), ((cell_far (p := ⟨gb123, _, none⟩) (by first | exact Kd.own_blk (Kd.R_ne HO_8.out BK123.out (by decide)) | (rw [add_block]; exact Kd.own_blk (Kd.R_ne HO_8.out BK123.out (by decide))) | (show (Addr.add _ _).block ≠ _; rw [add_block]; exact Kd.own_blk (Kd.R_ne HO_8.out BK123.out (by decide))) | (dsimp only; exact Kd.own_blk (Kd.R_ne HO_8.out BK123.out (by decide)))) _).trans (((cell_far (p := ⟨gb123, _, none⟩) (by first | exact Kd.own_blk (Kd.R_ne HO_8.out BK123.out (by decide)) | (rw [add_block]; exact Kd.own_blk (Kd.R_ne HO_8.out BK123.out (by decide))) | (show (Addr.add _ _).block ≠ _; rw [add_block]; exact Kd.own_blk (Kd.R_ne HO_8.out BK123.out (by decide))) | (dsimp only; exact Kd.own_blk (Kd.R_ne HO_8.out BK123.out (by decide)))) _).trans (hHeld.2.2.2.2.2))))⟩ (fun hHeld => ?_)
   clear hK K
   refine pu 17 (some 11) (ba 18 262143) HT_.out ?_
   refine done_ (done_of HT_.out (by kernel_rfl)) ?_
   have hnb53 := NB123_107.out
   have hnc53 := NB107_123.out
   have hnb54 := NB123_100.out
   have hnc54 := NB100_123.out
   have hcz55_0 : w49.cell? ⟨gb123, 0, none⟩ = some (.int .i64 0) := (blk_cell BK123.out 0).trans rfl
   have hcz55_1 : w49.cell? ⟨gb123, 1, none⟩ = some (.slice none 0 0) := (blk_cell BK123.out 1).trans rfl
   have hfz55_0 := blk_frozen BK123.out 0
   have hfz55_1 := blk_frozen BK123.out 1
   try go_wp2_with (first | ((with_reducible refine gate_callee (f := 51) rfl ?_); refine goesL_ (some 57) rfl rfl Try.func51 (by kernel_rfl) rfl #[.agg #[.int .i64 t102, .slice Ao51 t115.length co51], .int .i64 a1] rfl qm ?_; (with_reducible refine (spec_WayReach.calls k2 t102 _ _ t115 a1 t103 _ ?side1 ?side2 A40.out).mono ?_); (case side1 => refine (Kd.R_reads' (e := 27) (base := w.heap.size) (ok := fun k_ => (some k_ ≠ (.slice (some ad119) t101.length co45 : Value).ownBlock ∧ k_ ≠ gb100)) (n := t115.length) (c := co51) ?_).2.2; exact (by (with_reducible repeat (first | apply Kd.R_alloc | apply Kd.R_drewN | apply Kd.R_drew)); exact (Kd.R_mono (Kd.R_far (p := ⟨gb123, 1, none⟩) (Kd.R_far (p := ⟨gb123, 0, none⟩) (Kd.R_types HO122.out BK123.out (by decide)) (fun _ hk => hk.2) (.int .i64 t102)) (fun _ hk => hk.2) (.slice Ao51 t115.length co51)) (fun _ h_ => h_.1)))); (case side2 => exact (Kd.R_reads' HO122.out).2.1); rintro e w56 ⟨v124, rfl, ho0, hb⟩; refine ⟨_, rfl, ?_⟩; have n0_ := q0 (Kd.R_below (by (with_reducible repeat (first | apply Kd.R_alloc | apply Kd.R_drewN | apply Kd.R_drew)); exact (Kd.R_mono (Kd.R_far (p := ⟨gb123, 1, none⟩) (Kd.R_far (p := ⟨gb123, 0, none⟩) (Kd.R_types HO_8.out BK123.out (by decide)) (fun _ hk => hk.2) (.int .i64 t102)) (fun _ hk => hk.2) (.slice Ao51 t115.length co51)) (fun _ h_ => h_.1))) hb); have n1_ := q0 (Kd.R_below (by (with_reducible repeat (first | apply Kd.R_alloc | apply Kd.R_drewN | apply Kd.R_drew)); exact (Kd.R_mono (Kd.R_far (p := ⟨gb123, 1, none⟩) (Kd.R_far (p := ⟨gb123, 0, none⟩) (Kd.R_types HO122.out BK123.out (by decide)) (fun _ hk => hk.2) (.int .i64 t102)) (fun _ hk => hk.2) (.slice Ao51 t115.length co51)) (fun _ h_ => h_.1))) hb); have n2_ := q0 (Kd.R_lower ho0 (below_size (qb HB.out))); have n3_ := q0 (blk_below (g := gb107) (o := .cells #[.int .i64 a0_0, .slice A0_1 l0_1.length c0_1] 32 (0, 0)) (qf BK107.out) hb); have n4_ := q0 (blk_below (g := gb100) (o := .cells #[.int .i64 x104000_2, .int .i64 x104001_2] 27 (0, 0)) (qf BK100.out) hb); have n5_ := q0 (blk_below (g := gb123) (o := .cells #[.int .i64 t102, .slice Ao51 t115.length co51] 32 (0, 0)) (by (with_reducible repeat (first | refine blk_drewN ?_ _ | refine blk_drew ?_ | refine blk_alloc ?_ _)); refine blk_put (cs := #[.int .i64 t102, .slice none 0 0]) ?_ 1 _ rfl; (with_reducible repeat (first | refine blk_drewN ?_ _ | refine blk_drew ?_ | refine blk_alloc ?_ _)); refine blk_put (cs := #[.int .i64 0, .slice none 0 0]) ?_ 0 _ rfl; (with_reducible repeat (first | refine blk_drewN ?_ _ | refine blk_drew ?_ | refine blk_alloc ?_ _)); exact BK123.out) hb); have n6_ := q0 (below_step (qb HB.out) hb); clear HO_8 HO122 BK107 BK100 BK123 HB; have HO_8 := n0_; have HO122 := n1_; have HO125 := n2_; have BK107 := n3_; have BK100 := n4_; have BK123 := n5_; have HB := n6_; clear n0_ n1_ n2_ n3_ n4_ n5_ n6_; (try clear hb); (try clear hb2); (try clear hk); (try clear hi); (try clear ho0); obtain ⟨Ao57, co57, eo57⟩ := Kd.R_slice HO125.out; subst eo57; have p126 : 0 ≤ (a2 : Int) := of_decide_eq_true qa; have q126 : a2 < (t103.length : Int) := of_decide_eq_true qa; obtain ⟨ad126, e126, hx126_0⟩ := Kd.at_bool (Kd.R_reads' HO125.out).2.2 a2 p126 q126; (try rw [← Nbq43.out] at hx126_0); cases e126; replace p126 := eq_true p126; replace q126 := eq_true q126))
   go_roundg k2
   case measure => have := HJ3.out; have := HK2.out; omega
   case rel => exact ⟨(wrap64 (x9_2 + 1)), (x104000_2), (x104001_2), qs, H', ⟨by have := HJ3.out; have := HK2.out; omega⟩, ⟨by (with_reducible repeat (first | apply Kd.R_alloc | apply Kd.R_drewN | apply Kd.R_drew)); exact Kd.R_mono HO_8.out (fun _ hk => hk.2)⟩, ⟨qk BK107.out⟩, ⟨qk BK100.out⟩, ⟨qb HB.out⟩⟩
 replace c44 := Bool.eq_false_iff.mpr c44
 subst c44
 have H1 : (some ((rd_TTie t101 x9_2).f0, (rd_TTie t101 x9_2).f1, true)) = some (r1, r2, r3) := by rw [if_neg (show ¬ (false = true) by decide)] at H; exact H
 clear H
 have H := H1
 clear H1
 simp only [Option.some.injEq, Prod.mk.injEq] at H
 obtain ⟨rfl, rfl, rfl⟩ := H
 obtain ⟨Ao58, co58, eo58⟩ := Kd.R_slice HO_8.out
 subst eo58
 try go_wp2
 have n0_ := q0 (Kd.R_drew HO_8.out)
 have n1_ := q0 (blk_drew BK107.out)
 have n2_ := q0 (blk_drew BK100.out)
 have n3_ := q0 (below_drew1 HB.out)
 clear HO_8
 clear BK107
 clear BK100
 clear HB
 have HO_8 := n0_
 have BK107 := n1_
 have BK100 := n2_
 have HB := n3_
 clear n0_ n1_ n2_ n3_
 have p119 : 0 ≤ (x9_2 : Int) := of_decide_eq_true qa
 have q119 : x9_2 < (t101.length : Int) := of_decide_eq_true qa
 obtain ⟨ad119, e119, hx119_0, hx119_1⟩ := at_TTie (Kd.R_reads' HO_8.out).2.2 x9_2 p119 q119
 cases e119
 replace p119 := eq_true p119
 replace q119 := eq_true q119
 have p120 : 0 ≤ (x9_2 : Int) := of_decide_eq_true qa
 have q120 : x9_2 < (t101.length : Int) := of_decide_eq_true qa
 obtain ⟨ad120, e120, hx120_0, hx120_1⟩ := at_TTie (Kd.R_reads' HO_8.out).2.2 x9_2 p120 q120
 obtain rfl : ad119 = ad120 := (by injection e120)
 replace p120 := eq_true p120
 replace q120 := eq_true q120
 refine start_ (n := 18) (S := fun w' => w'.cell? ⟨gb107, 0, none⟩ = some (.int .i64 a0_0) ∧ w'.cell? ⟨gb107, 1, none⟩ = some (.slice A0_1 l0_1.length c0_1) ∧ w'.cell? (ad119.add ((x9_2).toNat * 2)) = some (.int .i64 ((rd_TTie t101 x9_2).f0)) ∧ w'.cell? ⟨(ad119.add ((x9_2).toNat * 2)).block, (ad119.add ((x9_2).toNat * 2)).off + 1, none⟩ = some (.int .i64 ((rd_TTie t101 x9_2).f1)) ∧ w'.cell? (ad119.add ((x9_2).toNat * 2)) = some (.int .i64 ((rd_TTie t101 x9_2).f0)) ∧ w'.cell? ⟨(ad119.add ((x9_2).toNat * 2)).block, (ad119.add ((x9_2).toNat * 2)).off + 1, none⟩ = some (.int .i64 ((rd_TTie t101 x9_2).f1))) (ds := []) (ba 18 0) (by kernel_rfl) rfl (by kernel_rfl) ⟨(blk_cell BK107.out 0).trans rfl, (blk_cell BK107.out 1).trans rfl, hx119_0, hx119_1, hx120_0, hx120_1⟩ (fun hHeld => ?_); refine with_tabW spec_BridgeApart.tab7 spec_BridgeApart.bits7 (fun HT_ HW_ => ?_)
 generalize wr.drew = w59 at HO_8 BK107 BK100 HB hx119_0 hx119_1 hx120_0 hx120_1 hHeld ⊢
 refine pu 1 (some 42) (ba 18 2) HT_.out ?_
 refine pu 2 (some 43) (ba 18 6) HT_.out ?_
 refine pu 3 (some 44) (ba 18 14) HT_.out ?_
 refine pu 4 (some 45) (ba 18 30) HT_.out ?_
 refine pu 6 (some 47) (ba 18 94) HT_.out ?_
 refine pu 7 (some 48) (ba 18 222) HT_.out ?_
 refine pu 8 (some 49) (ba 18 478) HT_.out ?_
 refine pu 9 (some 50) (ba 18 990) HT_.out ?_
 refine tu 0 (some 41) (ba 18 991) HT_.out HW_.out hHeld ?_
 refine tu 5 (some 46) (ba 18 1023) HT_.out HW_.out hHeld ?_
 refine tu 10 (some 51) (ba 18 2047) HT_.out HW_.out hHeld ?_
 refine join_ (σ := Value × Nat) 2 (ba 18 65535) (fun s_ => [(52, .tuple #[.agg #[.int .i64 t102, s_.1], .bool t116]), (10, .pointer (some ⟨s_.2, 0, none⟩)), (40, .tuple #[.agg #[.int .i64 t102, s_.1], .bool t116]), (53, .agg #[.int .i64 t102, s_.1]), (54, .bool t116)]) (fun s_ w' => (w'.cell? ⟨gb107, 0, none⟩ = some (.int .i64 a0_0) ∧ w'.cell? ⟨gb107, 1, none⟩ = some (.slice A0_1 l0_1.length c0_1) ∧ w'.cell? (ad119.add ((x9_2).toNat * 2)) = some (.int .i64 ((rd_TTie t101 x9_2).f0)) ∧ w'.cell? ⟨(ad119.add ((x9_2).toNat * 2)).block, (ad119.add ((x9_2).toNat * 2)).off + 1, none⟩ = some (.int .i64 ((rd_TTie t101 x9_2).f1)) ∧ w'.cell? (ad119.add ((x9_2).toNat * 2)) = some (.int .i64 ((rd_TTie t101 x9_2).f0)) ∧ w'.cell? ⟨(ad119.add ((x9_2).toNat * 2)).block, (ad119.add ((x9_2).toNat * 2)).off + 1, none⟩ = some (.int .i64 ((rd_TTie t101 x9_2).f1))) ∧ (Kd.R kTie 27 w' w.heap.size (fun k_ => some k_ ≠ (.slice (some ad119) t101.length co58 : Value).ownBlock ∧ k_ ≠ gb100) s_.1 t115) ∧ (Kd.R kTie 27 w' w.heap.size (fun k_ => some k_ ≠ (s_.1 : Value).ownBlock ∧ k_ ≠ gb100) (.slice (some ad119) t101.length co58) t101) ∧ (w'.heap[gb107]? = some (.cells #[.int .i64 a0_0, .slice A0_1 l0_1.length c0_1] 32 (0, 0))) ∧ (w'.heap[gb100]? = some (.cells #[.int .i64 x104000_2, .int .i64 x104001_2] 27 (0, 0))) ∧ (w'.heap[s_.2]? = some (.cells #[.int .i64 0, .slice none 0 0] 32 (0, 0))) ∧ (w.heap.size ≤ s_.2) ∧ (w.heap.size ≤ s_.2) ∧ (gb107 ≠ s_.2) ∧ (s_.2 ≠ gb107) ∧ (gb100 ≠ s_.2) ∧ (s_.2 ≠ gb100) ∧ (Below w.heap.size w w')) ?_ ?_
 rotate_left
 · intro hCont
   refine two_ (i := 11) (j := 15) (Ni := some 52) (Nj := some 10) (ba 18 4095) (ba 18 34815) rfl rfl rfl rfl (two_of HT_.out (by kernel_rfl)) (by decide) (by decide) (fun K hK => ?_) (fun K hK => ?_)
   · skip
     refine goes_ Try.func52 (by kernel_rfl) rfl #[.agg #[.int .i64 a0_0, .slice A0_1 l0_1.length c0_1], .int .i64 ((rd_TTie t101 x9_2).f0), .int .i64 ((rd_TTie t101 x9_2).f1)] (by rfl) rfl rfl qm ?_
     with_reducible refine (spec_NetCut.calls k2 a0_0 _ _ l0_1 ((rd_TTie t101 x9_2).f0) ((rd_TTie t101 x9_2).f1) t102 t115 t116 _ ?side1 ?side2 A39.out).mono ?_
     (case side1 => exact qc (Kd.C_below HR0_1.out HB.out))
     (case side2 => exact HC0_1.out)
     rintro e w60 ⟨v121, rfl, ho0, hb⟩
     have HS2_ := (hb.cell (World.block_lt_of_cell? _ _ (hHeld.2.2.1))).trans (hHeld.2.2.1)
     have HS3_ := (hb.cell (World.block_lt_of_cell? _ _ (hHeld.2.2.2.1))).trans (hHeld.2.2.2.1)
     have HS4_ := (hb.cell (World.block_lt_of_cell? _ _ (hHeld.2.2.2.2.1))).trans (hHeld.2.2.2.2.1)
     have HS5_ := (hb.cell (World.block_lt_of_cell? _ _ (hHeld.2.2.2.2.2))).trans (hHeld.2.2.2.2.2)
     refine ⟨_, rfl, ?_⟩
     have n0_ := q0 (Kd.R_elder' (qr HO_8.out) (Kd.R_base ho0) hb)
     have n1_ := q0 (Kd.R_lower (Kd.R_newB (Kd.R_new' ho0 (Kd.R_lt (qr HO_8.out))) (g := gb100) (o := .cells #[.int .i64 x104000_2, .int .i64 x104001_2] 27 (0, 0)) (qk BK100.out)) (below_size (qb HB.out)))
     have n2_ := q0 (kb BK107.out hb)
     have n3_ := q0 (kb BK100.out hb)
     have n4_ := q0 (below_step (qb HB.out) hb)
     clear HO_8
     clear BK107
     clear BK100
     clear HB
     have HO_8 := n0_
     have HO122 := n1_
     have BK107 := n2_
     have BK100 := n3_
     have HB := n4_
     clear n0_ n1_ n2_ n3_ n4_
     (try clear hb)
     (try clear hb2)
     (try clear hk)
     (try clear hi)
     (try clear ho0)
     refine hK.out _ _ ⟨(blk_cell BK107.out 0).trans rfl, (blk_cell BK107.out 1).trans rfl, HS2_, HS3_, HS4_, HS5_⟩ (fun hHeld => ?_)
     clear hK K
     refine nu 52 ?_
     refine pu 12 (some 40) (ba 18 8191) HT_.out ?_
     refine pu 13 (some 53) (ba 18 16383) HT_.out ?_
     refine pu 14 (some 54) (ba 18 32767) HT_.out ?_
     refine one_ (i := 15) (N := some 10) (ba 18 65535) rfl rfl (one_of HT_.out (by kernel_rfl)) (by decide) (fun K hK => ?_)
     refine box_step ?hg (N := 10) ?hd (cs := #[.int .i64 0, .slice none 0 0]) (t := 32) ?hr ?_; (case hd => rfl); (case hg => rfl); (case hr => first | (go_simp; done) | (go_simp; rfl))
     intro gb123 hg w61 hbox hb
     have HS2_ := (hb.cell (World.block_lt_of_cell? _ _ (hHeld.2.2.1))).trans (hHeld.2.2.1)
     have HS3_ := (hb.cell (World.block_lt_of_cell? _ _ (hHeld.2.2.2.1))).trans (hHeld.2.2.2.1)
     have HS4_ := (hb.cell (World.block_lt_of_cell? _ _ (hHeld.2.2.2.2.1))).trans (hHeld.2.2.2.2.1)
     have HS5_ := (hb.cell (World.block_lt_of_cell? _ _ (hHeld.2.2.2.2.2))).trans (hHeld.2.2.2.2.2)
     have n0_ := q0 (Kd.R_below (qr HO_8.out) hb)
     have n1_ := q0 (Kd.R_below (qr HO122.out) hb)
     have n2_ := q0 (kb BK107.out hb)
     have n3_ := q0 (kb BK100.out hb)
     have n4_ := q0 (below_step (qb HB.out) hb)
     have n5_ := q0 (hbox)
     have n6_ := q0 ((bs HB.out hg : w.heap.size ≤ gb123))
     have n7_ := q0 ((bs HB.out hg : w.heap.size ≤ gb123))
     have n8_ := q0 ((bl BK107.out hg : gb107 ≠ gb123))
     have n9_ := q0 ((bg BK107.out hg : gb123 ≠ gb107))
     have n10_ := q0 ((bl BK100.out hg : gb100 ≠ gb123))
     have n11_ := q0 ((bg BK100.out hg : gb123 ≠ gb100))
     clear HO_8
     clear HO122
     clear BK107
     clear BK100
     clear HB
     have HO_8 := n0_
     have HO122 := n1_
     have BK107 := n2_
     have BK100 := n3_
     have HB := n4_
     have BK123 := n5_
     have GW123 := n6_
     have GE123 := n7_
     have NB107_123 := n8_
     have NB123_107 := n9_
     have NB100_123 := n10_
     have NB123_100 := n11_
     clear n0_ n1_ n2_ n3_ n4_ n5_ n6_ n7_ n8_ n9_ n10_ n11_
     clear hb hbox hg
     refine hK.out _ _ ⟨(blk_cell BK107.out 0).trans rfl, (blk_cell BK107.out 1).trans rfl, HS2_, HS3_, HS4_, HS5_⟩ (fun hHeld => ?_)
     clear hK K
     refine nu 10 ?_
     exact norm_ (by simp only [putAll, Act.put, List.setIfInBounds_toArray, List.set_cons_zero, List.set_cons_succ]) (hCont (v121, gb123) _ ⟨hHeld, (by (with_reducible repeat (first | apply Kd.R_alloc | apply Kd.R_drewN | apply Kd.R_drew)); exact Kd.R_mono HO122.out (fun _ hk => ⟨hk.1.2, hk.2⟩)), (by (with_reducible repeat (first | apply Kd.R_alloc | apply Kd.R_drewN | apply Kd.R_drew)); exact Kd.R_mono HO_8.out (fun _ hk => ⟨hk.2, hk.1⟩)), (qk BK107.out), (qk BK100.out), (qk BK123.out), GW123.out, GE123.out, NB107_123.out, NB123_107.out, NB100_123.out, NB123_100.out, (qb HB.out)⟩)
   · skip
     refine box_step ?hg (N := 10) ?hd (cs := #[.int .i64 0, .slice none 0 0]) (t := 32) ?hr ?_; (case hd => rfl); (case hg => rfl); (case hr => first | (go_simp; done) | (go_simp; rfl))
     intro gb123 hg w60 hbox hb
     have HS2_ := (hb.cell (World.block_lt_of_cell? _ _ (hHeld.2.2.1))).trans (hHeld.2.2.1)
     have HS3_ := (hb.cell (World.block_lt_of_cell? _ _ (hHeld.2.2.2.1))).trans (hHeld.2.2.2.1)
     have HS4_ := (hb.cell (World.block_lt_of_cell? _ _ (hHeld.2.2.2.2.1))).trans (hHeld.2.2.2.2.1)
     have HS5_ := (hb.cell (World.block_lt_of_cell? _ _ (hHeld.2.2.2.2.2))).trans (hHeld.2.2.2.2.2)
     have n0_ := q0 (Kd.R_below (qr HO_8.out) hb)
     have n1_ := q0 (kb BK107.out hb)
     have n2_ := q0 (kb BK100.out hb)
     have n3_ := q0 (below_step (qb HB.out) hb)
     have n4_ := q0 (hbox)
     have n5_ := q0 ((bs HB.out hg : w.heap.size ≤ gb123))
     have n6_ := q0 ((bs HB.out hg : w.heap.size ≤ gb123))
     have n7_ := q0 ((bl BK107.out hg : gb107 ≠ gb123))
     have n8_ := q0 ((bg BK107.out hg : gb123 ≠ gb107))
     have n9_ := q0 ((bl BK100.out hg : gb100 ≠ gb123))
     have n10_ := q0 ((bg BK100.out hg : gb123 ≠ gb100))
     clear HO_8
     clear BK107
     clear BK100
     clear HB
     have HO_8 := n0_
     have BK107 := n1_
     have BK100 := n2_
     have HB := n3_
     have BK123 := n4_
     have GW123 := n5_
     have GE123 := n6_
     have NB107_123 := n7_
     have NB123_107 := n8_
     have NB100_123 := n9_
     have NB123_100 := n10_
     clear n0_ n1_ n2_ n3_ n4_ n5_ n6_ n7_ n8_ n9_ n10_
     clear hb hbox hg
     refine hK.out _ _ ⟨(blk_cell BK107.out 0).trans rfl, (blk_cell BK107.out 1).trans rfl, HS2_, HS3_, HS4_, HS5_⟩ (fun hHeld => ?_)
     clear hK K
     refine nu 10 ?_
     refine one_ (i := 11) (N := some 52) (ba 18 36863) rfl rfl (one_of HT_.out (by kernel_rfl)) (by decide) (fun K hK => ?_)
     refine goes_ Try.func52 (by kernel_rfl) rfl #[.agg #[.int .i64 a0_0, .slice A0_1 l0_1.length c0_1], .int .i64 ((rd_TTie t101 x9_2).f0), .int .i64 ((rd_TTie t101 x9_2).f1)] (by rfl) rfl rfl qm ?_
     with_reducible refine (spec_NetCut.calls k2 a0_0 _ _ l0_1 ((rd_TTie t101 x9_2).f0) ((rd_TTie t101 x9_2).f1) t102 t115 t116 _ ?side1 ?side2 A39.out).mono ?_
     (case side1 => exact qc (Kd.C_below HR0_1.out HB.out))
     (case side2 => exact HC0_1.out)
     rintro e w61 ⟨v121, rfl, ho0, hb⟩
     have HS2_ := (hb.cell (World.block_lt_of_cell? _ _ (hHeld.2.2.1))).trans (hHeld.2.2.1)
     have HS3_ := (hb.cell (World.block_lt_of_cell? _ _ (hHeld.2.2.2.1))).trans (hHeld.2.2.2.1)
     have HS4_ := (hb.cell (World.block_lt_of_cell? _ _ (hHeld.2.2.2.2.1))).trans (hHeld.2.2.2.2.1)
     have HS5_ := (hb.cell (World.block_lt_of_cell? _ _ (hHeld.2.2.2.2.2))).trans (hHeld.2.2.2.2.2)
     refine ⟨_, rfl, ?_⟩
     have n0_ := q0 (Kd.R_elder' (qr HO_8.out) (Kd.R_base ho0) hb)
     have n1_ := q0 (Kd.R_lower (Kd.R_newB (Kd.R_new' ho0 (Kd.R_lt (qr HO_8.out))) (g := gb100) (o := .cells #[.int .i64 x104000_2, .int .i64 x104001_2] 27 (0, 0)) (qk BK100.out)) (below_size (qb HB.out)))
     have n2_ := q0 (kb BK107.out hb)
     have n3_ := q0 (kb BK100.out hb)
     have n4_ := q0 (kb BK123.out hb)
     have n5_ := q0 (below_step (qb HB.out) hb)
     clear HO_8
     clear BK107
     clear BK100
     clear BK123
     clear HB
     have HO_8 := n0_
     have HO122 := n1_
     have BK107 := n2_
     have BK100 := n3_
     have BK123 := n4_
     have HB := n5_
     clear n0_ n1_ n2_ n3_ n4_ n5_
     (try clear hb)
     (try clear hb2)
     (try clear hk)
     (try clear hi)
     (try clear ho0)
     refine hK.out _ _ ⟨(blk_cell BK107.out 0).trans rfl, (blk_cell BK107.out 1).trans rfl, HS2_, HS3_, HS4_, HS5_⟩ (fun hHeld => ?_)
     clear hK K
     refine nu 52 ?_
     refine pu 12 (some 40) (ba 18 40959) HT_.out ?_
     refine pu 13 (some 53) (ba 18 49151) HT_.out ?_
     refine pu 14 (some 54) (ba 18 65535) HT_.out ?_
     exact norm_ (by simp only [putAll, Act.put, List.setIfInBounds_toArray, List.set_cons_zero, List.set_cons_succ]) (hCont (v121, gb123) _ ⟨hHeld, (by (with_reducible repeat (first | apply Kd.R_alloc | apply Kd.R_drewN | apply Kd.R_drew)); exact Kd.R_mono HO122.out (fun _ hk => ⟨hk.1.2, hk.2⟩)), (by (with_reducible repeat (first | apply Kd.R_alloc | apply Kd.R_drewN | apply Kd.R_drew)); exact Kd.R_mono HO_8.out (fun _ hk => ⟨hk.2, hk.1⟩)), (qk BK107.out), (qk BK100.out), (qk BK123.out), GW123.out, GE123.out, NB107_123.out, NB123_107.out, NB100_123.out, NB123_100.out, (qb HB.out)⟩)
 rintro ⟨v121, gb123⟩ w62 ⟨hS_, h0_, h1_, h2_, h3_, h4_, h5_, h6_, h7_, h8_, h9_, h10_, h11_⟩
 have n0_ : Aside0 (Kd.R kTie 27 w62 w.heap.size (fun k_ => some k_ ≠ (.slice (some ad119) t101.length co58 : Value).ownBlock ∧ k_ ≠ gb100) v121 t115) := ⟨h0_⟩
 have n1_ : Aside0 (Kd.R kTie 27 w62 w.heap.size (fun k_ => some k_ ≠ (v121 : Value).ownBlock ∧ k_ ≠ gb100) (.slice (some ad119) t101.length co58) t101) := ⟨h1_⟩
 have n2_ : Aside0 (w62.heap[gb107]? = some (.cells #[.int .i64 a0_0, .slice A0_1 l0_1.length c0_1] 32 (0, 0))) := ⟨h2_⟩
 have n3_ : Aside0 (w62.heap[gb100]? = some (.cells #[.int .i64 x104000_2, .int .i64 x104001_2] 27 (0, 0))) := ⟨h3_⟩
 have n4_ : Aside0 (w62.heap[gb123]? = some (.cells #[.int .i64 0, .slice none 0 0] 32 (0, 0))) := ⟨h4_⟩
 have n5_ : Aside0 (w.heap.size ≤ gb123) := ⟨h5_⟩
 have n6_ : Aside0 (w.heap.size ≤ gb123) := ⟨h6_⟩
 have n7_ : Aside0 (gb107 ≠ gb123) := ⟨h7_⟩
 have n8_ : Aside0 (gb123 ≠ gb107) := ⟨h8_⟩
 have n9_ : Aside0 (gb100 ≠ gb123) := ⟨h9_⟩
 have n10_ : Aside0 (gb123 ≠ gb100) := ⟨h10_⟩
 have n11_ : Aside0 (Below w.heap.size w w62) := ⟨h11_⟩
 clear HO_8
 clear BK107
 clear BK100
 clear HB
 clear h0_ h1_ h2_ h3_ h4_ h5_ h6_ h7_ h8_ h9_ h10_ h11_
 have HO122 := n0_
 have HO_8 := n1_
 have BK107 := n2_
 have BK100 := n3_
 have BK123 := n4_
 have GW123 := n5_
 have GE123 := n6_
 have NB107_123 := n7_
 have NB123_107 := n8_
 have NB100_123 := n9_
 have NB123_100 := n10_
 have HB := n11_
 clear n0_ n1_ n2_ n3_ n4_ n5_ n6_ n7_ n8_ n9_ n10_ n11_
 have hHeld : w62.cell? ⟨gb107, 0, none⟩ = some (.int .i64 a0_0) ∧ w62.cell? ⟨gb107, 1, none⟩ = some (.slice A0_1 l0_1.length c0_1) ∧ w62.cell? (ad119.add ((x9_2).toNat * 2)) = some (.int .i64 ((rd_TTie t101 x9_2).f0)) ∧ w62.cell? ⟨(ad119.add ((x9_2).toNat * 2)).block, (ad119.add ((x9_2).toNat * 2)).off + 1, none⟩ = some (.int .i64 ((rd_TTie t101 x9_2).f1)) ∧ w62.cell? (ad119.add ((x9_2).toNat * 2)) = some (.int .i64 ((rd_TTie t101 x9_2).f0)) ∧ w62.cell? ⟨(ad119.add ((x9_2).toNat * 2)).block, (ad119.add ((x9_2).toNat * 2)).off + 1, none⟩ = some (.int .i64 ((rd_TTie t101 x9_2).f1)) := hS_
 obtain ⟨Ao64, co64, eo64⟩ := Kd.R_slice HO122.out
 (first | subst eo64 | (injection eo64 with f1_ f2_ f3_; have f4_ := f1_.symm; have f5_ := f3_.symm; clear f1_ f2_ f3_; subst f4_; subst f5_))
 refine norm_ (a' := ?_) ?_ ?_
 rotate_left
 · simp only [putAll, Act.put, List.setIfInBounds_toArray, List.set_cons_zero, List.set_cons_succ]
   rfl
 refine one_ (i := 16) (N := none) (ba 18 131071) rfl rfl (one_of HT_.out (by kernel_rfl)) (by decide) (fun K hK => ?_)
 have hs63 : w62.cell? ⟨gb123, 0, none⟩ = some (.int .i64 0) := (blk_cell BK123.out 0).trans rfl
 have hfs63 := blk_frozen BK123.out 0
 have hns63_0 := NB107_123.out
 have hns63_1 := NB100_123.out
 have hms63_0 := NB123_107.out
 have hms63_1 := NB123_100.out
 have hs65 : w62.cell? ⟨gb123, 1, none⟩ = some (.slice none 0 0) := (blk_cell BK123.out 1).trans rfl
 have hfs65 := blk_frozen BK123.out 1
 have hns65_0 := NB107_123.out
 have hns65_1 := NB100_123.out
 have hms65_0 := NB123_107.out
 have hms65_1 := NB123_100.out
 refine skip_ (w1 := ?_) (by rfl) rfl ?_ ?_
 rotate_left
 · go_simp
   rfl
 refine hK.out _ _ ⟨((cell_far (p := ⟨gb123, _, none⟩) NB107_123.out _).trans (((cell_far (p := ⟨gb123, _, none⟩) NB107_123.out _).trans (hHeld.1)))), ((cell_far (p := ⟨gb123, _, none⟩) NB107_123.out _).trans (((cell_far (p := ⟨gb123, _, none⟩) NB107_123.out _).trans (hHeld.2.1)))), ((cell_far (p := ⟨gb123, _, none⟩) (by first | exact Kd.own_blk (Kd.R_ne HO_8.out BK123.out (by decide)) | (rw [add_block]; exact Kd.own_blk (Kd.R_ne HO_8.out BK123.out (by decide))) | (show (Addr.add _ _).block ≠ _; rw [add_block]; exact Kd.own_blk (Kd.R_ne HO_8.out BK123.out (by decide))) | (dsimp only; exact Kd.own_blk (Kd.R_ne HO_8.out BK123.out (by decide)))) _).trans (((cell_far (p := ⟨gb123, _, none⟩) (by first | exact Kd.own_blk (Kd.R_ne HO_8.out BK123.out (by decide)) | (rw [add_block]; exact Kd.own_blk (Kd.R_ne HO_8.out BK123.out (by decide))) | (show (Addr.add _ _).block ≠ _; rw [add_block]; exact Kd.own_blk (Kd.R_ne HO_8.out BK123.out (by decide))) | (dsimp only; exact Kd.own_blk (Kd.R_ne HO_8.out BK123.out (by decide)))) _).trans (hHeld.2.2.1)))), ((cell_far (p := ⟨gb123, _, none⟩) (by first | exact Kd.own_blk (Kd.R_ne HO_8.out BK123.out (by decide)) | (rw [add_block]; exact Kd.own_blk (Kd.R_ne HO_8.out BK123.out (by decide))) | (show (Addr.add _ _).block ≠ _; rw [add_block]; exact Kd.own_blk (Kd.R_ne HO_8.out BK123.out (by decide))) | (dsimp only; exact Kd.own_blk (Kd.R_ne HO_8.out BK123.out (by decide)))) _).trans (((cell_far (p := ⟨gb123, _, none⟩) (by first | exact Kd.own_blk (Kd.R_ne HO_8.out BK123.out (by decide)) | (rw [add_block]; exact Kd.own_blk (Kd.R_ne HO_8.out BK123.out (by decide))) | (show (Addr.add _ _).block ≠ _; rw [add_block]; exact Kd.own_blk (Kd.R_ne HO_8.out BK123.out (by decide))) | (dsimp only; exact Kd.own_blk (Kd.R_ne HO_8.out BK123.out (by decide)))) _).trans (hHeld.2.2.2.1)))), ((cell_far (p := ⟨gb123, _, none⟩) (by first | exact Kd.own_blk (Kd.R_ne HO_8.out BK123.out (by decide)) | (rw [add_block]; exact Kd.own_blk (Kd.R_ne HO_8.out BK123.out (by decide))) | (show (Addr.add _ _).block ≠ _; rw [add_block]; exact Kd.own_blk (Kd.R_ne HO_8.out BK123.out (by decide))) | (dsimp only; exact Kd.own_blk (Kd.R_ne HO_8.out BK123.out (by decide)))) _).trans (((cell_far (p := ⟨gb123, _, none⟩) (by first | exact Kd.own_blk (Kd.R_ne HO_8.out BK123.out (by decide)) | (rw [add_block]; exact Kd.own_blk (Kd.R_ne HO_8.out BK123.out (by decide))) | (show (Addr.add _ _).block ≠ _; rw [add_block]; exact Kd.own_blk (Kd.R_ne HO_8.out BK123.out (by decide))) | (dsimp only; exact Kd.own_blk (Kd.R_ne HO_8.out BK123.out (by decide)))) _).trans (hHeld.2.2.2.2.1)))), ((cell_far (p := ⟨gb123, _, none⟩) (by first | exact Kd.own_blk (Kd.R_ne HO_8.out BK123.out (by decide)) | (rw [add_block]; exact Kd.own_blk (Kd.R_ne HO_8.out BK123.out (by decide))) | (show (Addr.add _ _).block ≠ _; rw [add_block]; exact Kd.own_blk (Kd.R_ne HO_8.out BK123.out (by decide))) | (dsimp only; exact Kd.own_blk (Kd.R_ne HO_8.out BK123.out (by decide)))) _).trans (((cell_far (p := ⟨gb123, _, none⟩) (by first | exact Kd.own_blk (Kd.R_ne HO_8.out BK123.out (by decide)) | (rw [add_block]; exact Kd.own_blk (Kd.R_ne HO_8.out BK123.out (by decide))) | (show (Addr.add _ _).block ≠ _; rw [add_block]; exact Kd.own_blk (Kd.R_ne HO_8.out BK123.out (by decide))) | (dsimp only; exact Kd.own_blk (Kd.R_ne HO_8.out BK123.out (by decide)))) _).trans (hHeld.2.2.2.2.2))))⟩ (fun hHeld => ?_)
 clear hK K
 refine pu 17 (some 11) (ba 18 262143) HT_.out ?_
 refine done_ (done_of HT_.out (by kernel_rfl)) ?_
 have hnb66 := NB123_107.out
 have hnc66 := NB107_123.out
 have hnb67 := NB123_100.out
 have hnc67 := NB100_123.out
 have hcz68_0 : w62.cell? ⟨gb123, 0, none⟩ = some (.int .i64 0) := (blk_cell BK123.out 0).trans rfl
 have hcz68_1 : w62.cell? ⟨gb123, 1, none⟩ = some (.slice none 0 0) := (blk_cell BK123.out 1).trans rfl
 have hfz68_0 := blk_frozen BK123.out 0
 have hfz68_1 := blk_frozen BK123.out 1
 try go_wp2_with (first | ((with_reducible refine gate_callee (f := 51) rfl ?_); refine goesL_ (some 57) rfl rfl Try.func51 (by kernel_rfl) rfl #[.agg #[.int .i64 t102, .slice Ao64 t115.length co64], .int .i64 a1] rfl qm ?_; (with_reducible refine (spec_WayReach.calls k2 t102 _ _ t115 a1 t103 _ ?side1 ?side2 A40.out).mono ?_); (case side1 => refine (Kd.R_reads' (e := 27) (base := w.heap.size) (ok := fun k_ => (some k_ ≠ (.slice (some ad119) t101.length co58 : Value).ownBlock ∧ k_ ≠ gb100)) (n := t115.length) (c := co64) ?_).2.2; exact (by (with_reducible repeat (first | apply Kd.R_alloc | apply Kd.R_drewN | apply Kd.R_drew)); exact (Kd.R_mono (Kd.R_far (p := ⟨gb123, 1, none⟩) (Kd.R_far (p := ⟨gb123, 0, none⟩) (Kd.R_types HO122.out BK123.out (by decide)) (fun _ hk => hk.2) (.int .i64 t102)) (fun _ hk => hk.2) (.slice Ao64 t115.length co64)) (fun _ h_ => h_.1)))); (case side2 => exact (Kd.R_reads' HO122.out).2.1); rintro e w69 ⟨v124, rfl, ho0, hb⟩; refine ⟨_, rfl, ?_⟩; have n0_ := q0 (Kd.R_below (by (with_reducible repeat (first | apply Kd.R_alloc | apply Kd.R_drewN | apply Kd.R_drew)); exact (Kd.R_mono (Kd.R_far (p := ⟨gb123, 1, none⟩) (Kd.R_far (p := ⟨gb123, 0, none⟩) (Kd.R_types HO_8.out BK123.out (by decide)) (fun _ hk => hk.2) (.int .i64 t102)) (fun _ hk => hk.2) (.slice Ao64 t115.length co64)) (fun _ h_ => h_.1))) hb); have n1_ := q0 (Kd.R_below (by (with_reducible repeat (first | apply Kd.R_alloc | apply Kd.R_drewN | apply Kd.R_drew)); exact (Kd.R_mono (Kd.R_far (p := ⟨gb123, 1, none⟩) (Kd.R_far (p := ⟨gb123, 0, none⟩) (Kd.R_types HO122.out BK123.out (by decide)) (fun _ hk => hk.2) (.int .i64 t102)) (fun _ hk => hk.2) (.slice Ao64 t115.length co64)) (fun _ h_ => h_.1))) hb); have n2_ := q0 (Kd.R_lower ho0 (below_size (qb HB.out))); have n3_ := q0 (blk_below (g := gb107) (o := .cells #[.int .i64 a0_0, .slice A0_1 l0_1.length c0_1] 32 (0, 0)) (qf BK107.out) hb); have n4_ := q0 (blk_below (g := gb100) (o := .cells #[.int .i64 x104000_2, .int .i64 x104001_2] 27 (0, 0)) (qf BK100.out) hb); have n5_ := q0 (blk_below (g := gb123) (o := .cells #[.int .i64 t102, .slice Ao64 t115.length co64] 32 (0, 0)) (by (with_reducible repeat (first | refine blk_drewN ?_ _ | refine blk_drew ?_ | refine blk_alloc ?_ _)); refine blk_put (cs := #[.int .i64 t102, .slice none 0 0]) ?_ 1 _ rfl; (with_reducible repeat (first | refine blk_drewN ?_ _ | refine blk_drew ?_ | refine blk_alloc ?_ _)); refine blk_put (cs := #[.int .i64 0, .slice none 0 0]) ?_ 0 _ rfl; (with_reducible repeat (first | refine blk_drewN ?_ _ | refine blk_drew ?_ | refine blk_alloc ?_ _)); exact BK123.out) hb); have n6_ := q0 (below_step (qb HB.out) hb); clear HO_8 HO122 BK107 BK100 BK123 HB; have HO_8 := n0_; have HO122 := n1_; have HO125 := n2_; have BK107 := n3_; have BK100 := n4_; have BK123 := n5_; have HB := n6_; clear n0_ n1_ n2_ n3_ n4_ n5_ n6_; (try clear hb); (try clear hb2); (try clear hk); (try clear hi); (try clear ho0); obtain ⟨Ao70, co70, eo70⟩ := Kd.R_slice HO125.out; subst eo70; have p126 : 0 ≤ (a2 : Int) := of_decide_eq_true qa; have q126 : a2 < (t103.length : Int) := of_decide_eq_true qa; obtain ⟨ad126, e126, hx126_0⟩ := Kd.at_bool (Kd.R_reads' HO125.out).2.2 a2 p126 q126; (try rw [← Nbq43.out] at hx126_0); cases e126; replace p126 := eq_true p126; replace q126 := eq_true q126; have p127 : 0 ≤ (x9_2 : Int) := of_decide_eq_true qa; have q127 : x9_2 < (t101.length : Int) := of_decide_eq_true qa; obtain ⟨ad127, e127, hx127_0, hx127_1⟩ := at_TTie (Kd.R_reads' HO_8.out).2.2 x9_2 p127 q127; obtain rfl : ad119 = ad127 := (by injection e127); replace p127 := eq_true p127; replace q127 := eq_true q127; have hnb71 := NB100_107.out; have hnc71 := NB107_100.out; have hcz72_0 : w69.cell? ⟨gb100, 0, none⟩ = some (.int .i64 x104000_2) := (blk_cell BK100.out 0).trans rfl; have hcz72_1 : w69.cell? ⟨gb100, 1, none⟩ = some (.int .i64 x104001_2) := (blk_cell BK100.out 1).trans rfl; have hfz72_0 := blk_frozen BK100.out 0; have hfz72_1 := blk_frozen BK100.out 1))
 refine bodyPost_ret (results_ct rfl _ _ gb100 27 #[.int .i64 ((rd_TTie t101 x9_2).f0), .int .i64 ((rd_TTie t101 x9_2).f1)] (0, 0) _ rfl (by (with_reducible repeat (first | refine blk_drewN ?_ _ | refine blk_drew ?_ | refine blk_alloc ?_ _)); refine blk_put (cs := #[.int .i64 ((rd_TTie t101 x9_2).f0), .int .i64 x104001_2]) ?_ 1 _ rfl; (with_reducible repeat (first | refine blk_drewN ?_ _ | refine blk_drew ?_ | refine blk_alloc ?_ _)); refine blk_put (cs := #[.int .i64 x104000_2, .int .i64 x104001_2]) ?_ 0 _ rfl; (with_reducible repeat (first | refine blk_drewN ?_ _ | refine blk_drew ?_ | refine blk_alloc ?_ _)); exact BK100.out) Try.underlying27 rfl (by kernel_rfl)) rfl ?_
 exact ⟨qe, qb HB.out⟩

set_option maxHeartbeats 8000000 in
set_option maxRecDepth 100000 in
theorem impl_BridgeApart.calls (k : Nat) (a0_0 : Int) (A0_1 : Option Addr) (c0_1 : Nat) (l0_1 : List (STie)) (a1 : Int) (a2 : Int) (r1 : Int) (r2 : Int) (r3 : Bool) (w : World) (hr0_1 : Kd.C kTie w A0_1 l0_1.length l0_1) (hc0_1 : l0_1.length ≤ c0_1) (h : impl_BridgeApart.f k a0_0 l0_1 a1 a2 = some (r1, r2, r3)) :
    Calls Try.prog 16 #[.agg #[.int .i64 a0_0, .slice A0_1 l0_1.length c0_1], .int .i64 a1, .int .i64 a2] w fun e w' => e = .returned (.tuple #[.agg #[.int .i64 r1, .int .i64 r2], .bool r3]) ∧ Below w.heap.size w w' := by
 have hu32 := Try.underlying32
 have hu27 := Try.underlying27
 have HR0_1 := Aside0.mk hr0_1
 have HC0_1 := Aside0.mk hc0_1
 clear hr0_1 hc0_1
 have HB := q0 (Below.refl w.heap.size w)
 have H : ((impl_NetOk.f k a0_0 l0_1).bind fun t104 => (if t104 = true then ((impl_Net_knot.f a0_0 l0_1 a1).bind fun t105 => (if t105 = true then ((impl_Net_knot.f a0_0 l0_1 a2).bind fun t106 => (if t106 = true then ((impl_Net_joined.f k a0_0 l0_1 a1 a2).bind fun t107 => (impl_BridgeApart.j0 k a1 a2 (!t107) a0_0 l0_1)) else (impl_BridgeApart.j0 k a1 a2 true a0_0 l0_1))) else (impl_BridgeApart.j0 k a1 a2 true a0_0 l0_1))) else (impl_BridgeApart.j0 k a1 a2 true a0_0 l0_1))) = some (r1, r2, r3) := h
 clear h
 have HC4 := Aside0.mk H
 clear H
 go_enter Try.func16, Try.ntmps16
 go_upto_region 1 with (first | ((with_reducible refine gate_dst (N := 3) rfl ?_); refine be 3 #[.int .i64 a0_0, .slice A0_1 l0_1.length c0_1] 32 ?_; intro gb108 hg w5 hbox hb; have n0_ := q0 (below_step (qb HB.out) hb); have n1_ := q0 (hbox); have n2_ := q0 ((bs HB.out hg : w.heap.size ≤ gb108)); have n3_ := q0 ((bs HB.out hg : w.heap.size ≤ gb108)); clear HB; have HB := n0_; have BK108 := n1_; have GW108 := n2_; have GE108 := n3_; clear n0_ n1_ n2_ n3_ hb hbox hg) | ((with_reducible refine gate_dst (N := 6) rfl ?_); refine be 6 #[.int .i64 0, .int .i64 0] 27 ?_; intro gb100 hg w6 hbox hb; have n0_ := q0 (kb BK108.out hb); have n1_ := q0 (below_step (qb HB.out) hb); have n2_ := q0 (hbox); have n3_ := q0 ((bs HB.out hg : w.heap.size ≤ gb100)); have n4_ := q0 ((bs HB.out hg : w.heap.size ≤ gb100)); have n5_ := q0 ((bl BK108.out hg : gb108 ≠ gb100)); have n6_ := q0 ((bg BK108.out hg : gb100 ≠ gb108)); clear BK108 HB; have BK108 := n0_; have HB := n1_; have BK100 := n2_; have GW100 := n3_; have GE100 := n4_; have NB108_100 := n5_; have NB100_108 := n6_; clear n0_ n1_ n2_ n3_ n4_ n5_ n6_ hb hbox hg))
 (try simp only [Act.put, List.setIfInBounds_toArray, List.set_cons_zero, List.set_cons_succ])
 go_cut [31] (fun v31 wc => ∃ (kq : Nat) (x31_3 : Bool), v31 = .bool x31_3 ∧ Aside0 (impl_BridgeApart.j0 kq a1 a2 x31_3 a0_0 l0_1 = some (r1, r2, r3)) ∧ Aside0 (kq ≤ k) ∧ Aside0 (wc.heap[gb108]? = some (.cells #[.int .i64 a0_0, (.slice A0_1 l0_1.length c0_1)] 32 (0, 0))) ∧ Aside0 (wc.heap[gb100]? = some (.cells #[.int .i64 0, .int .i64 0] 27 (0, 0))) ∧ Aside0 (Below w.heap.size w wc))
 case first =>
   have H := HC4.out
   clear HC4
   replace H := Option.bind_eq_some_iff.mp H
   obtain ⟨t104, A70, H⟩ := H
   replace H : (if t104 = true then ((impl_Net_knot.f a0_0 l0_1 a1).bind fun t105 => (if t105 = true then ((impl_Net_knot.f a0_0 l0_1 a2).bind fun t106 => (if t106 = true then ((impl_Net_joined.f k a0_0 l0_1 a1 a2).bind fun t107 => (impl_BridgeApart.j0 k a1 a2 (!t107) a0_0 l0_1)) else (impl_BridgeApart.j0 k a1 a2 true a0_0 l0_1))) else (impl_BridgeApart.j0 k a1 a2 true a0_0 l0_1))) else (impl_BridgeApart.j0 k a1 a2 true a0_0 l0_1)) = some (r1, r2, r3) := H
   have A7 := Aside0.mk A70
   clear A70
   by_cases c8 : t104 = true
   rotate_left
   · replace c8 := Bool.eq_false_iff.mpr c8
     subst c8
     have H1 : (impl_BridgeApart.j0 k a1 a2 true a0_0 l0_1) = some (r1, r2, r3) := by rw [if_neg (show ¬ (false = true) by decide)] at H; exact H
     clear H
     have H := H1
     clear H1
     have H' := Aside0.mk H
     clear H
     have hnb35 := NB108_100.out
     have hnc35 := NB100_108.out
     have hcz36_0 : w6.cell? ⟨gb108, 0, none⟩ = some (.int .i64 a0_0) := (blk_cell BK108.out 0).trans rfl
     have hcz36_1 : w6.cell? ⟨gb108, 1, none⟩ = some (.slice A0_1 l0_1.length c0_1) := (blk_cell BK108.out 1).trans rfl
     have hfz36_0 := blk_frozen BK108.out 0
     have hfz36_1 := blk_frozen BK108.out 1
     go_wp2_with (first | ((with_reducible refine gate_callee (f := 54) rfl ?_); refine goesL_ (some 11) rfl rfl Try.func54 (by kernel_rfl) rfl #[.agg #[.int .i64 a0_0, .slice A0_1 l0_1.length c0_1]] rfl qm ?_; (with_reducible refine (impl_NetOk.calls k a0_0 _ _ l0_1 false _ ?side1 ?side2 A7.out).mono ?_); (case side1 => exact qc (Kd.C_below HR0_1.out HB.out)); (case side2 => exact HC0_1.out); rintro e w37 ⟨rfl, hb⟩; refine ⟨_, rfl, ?_⟩; have n0_ := q0 (kb BK108.out hb); have n1_ := q0 (kb BK100.out hb); have n2_ := q0 (below_step (qb HB.out) hb); clear BK108 BK100 HB; have BK108 := n0_; have BK100 := n1_; have HB := n2_; clear n0_ n1_ n2_; (try clear hb); (try clear hb2); (try clear hk); (try clear hi)))
     go_meet
     case rel => exact ⟨_, (true), qs, H', ⟨by first | omega | exact Nat.le_refl _⟩, ⟨qk BK108.out⟩, ⟨qk BK100.out⟩, ⟨qb HB.out⟩⟩
   subst c8
   have H1 : ((impl_Net_knot.f a0_0 l0_1 a1).bind fun t105 => (if t105 = true then ((impl_Net_knot.f a0_0 l0_1 a2).bind fun t106 => (if t106 = true then ((impl_Net_joined.f k a0_0 l0_1 a1 a2).bind fun t107 => (impl_BridgeApart.j0 k a1 a2 (!t107) a0_0 l0_1)) else (impl_BridgeApart.j0 k a1 a2 true a0_0 l0_1))) else (impl_BridgeApart.j0 k a1 a2 true a0_0 l0_1))) = some (r1, r2, r3) := by rw [if_pos rfl] at H; exact H
   clear H
   have H := H1
   clear H1
   replace H := Option.bind_eq_some_iff.mp H
   obtain ⟨t105, A90, H⟩ := H
   replace H : (if t105 = true then ((impl_Net_knot.f a0_0 l0_1 a2).bind fun t106 => (if t106 = true then ((impl_Net_joined.f k a0_0 l0_1 a1 a2).bind fun t107 => (impl_BridgeApart.j0 k a1 a2 (!t107) a0_0 l0_1)) else (impl_BridgeApart.j0 k a1 a2 true a0_0 l0_1))) else (impl_BridgeApart.j0 k a1 a2 true a0_0 l0_1)) = some (r1, r2, r3) := H
   have A9 := Aside0.mk A90
   clear A90
   by_cases c10 : t105 = true
   rotate_left
   · replace c10 := Bool.eq_false_iff.mpr c10
     subst c10
     have H1 : (impl_BridgeApart.j0 k a1 a2 true a0_0 l0_1) = some (r1, r2, r3) := by rw [if_neg (show ¬ (false = true) by decide)] at H; exact H
     clear H
     have H := H1
     clear H1
     have H' := Aside0.mk H
     clear H
     have hnb30 := NB108_100.out
     have hnc30 := NB100_108.out
     have hcz31_0 : w6.cell? ⟨gb108, 0, none⟩ = some (.int .i64 a0_0) := (blk_cell BK108.out 0).trans rfl
     have hcz31_1 : w6.cell? ⟨gb108, 1, none⟩ = some (.slice A0_1 l0_1.length c0_1) := (blk_cell BK108.out 1).trans rfl
     have hfz31_0 := blk_frozen BK108.out 0
     have hfz31_1 := blk_frozen BK108.out 1
     go_wp2_with (first | ((with_reducible refine gate_callee (f := 54) rfl ?_); refine goesL_ (some 11) rfl rfl Try.func54 (by kernel_rfl) rfl #[.agg #[.int .i64 a0_0, .slice A0_1 l0_1.length c0_1]] rfl qm ?_; (with_reducible refine (impl_NetOk.calls k a0_0 _ _ l0_1 true _ ?side1 ?side2 A7.out).mono ?_); (case side1 => exact qc (Kd.C_below HR0_1.out HB.out)); (case side2 => exact HC0_1.out); rintro e w32 ⟨rfl, hb⟩; refine ⟨_, rfl, ?_⟩; have n0_ := q0 (kb BK108.out hb); have n1_ := q0 (kb BK100.out hb); have n2_ := q0 (below_step (qb HB.out) hb); clear BK108 BK100 HB; have BK108 := n0_; have BK100 := n1_; have HB := n2_; clear n0_ n1_ n2_; (try clear hb); (try clear hb2); (try clear hk); (try clear hi); have hcz33_0 : w32.cell? ⟨gb108, 0, none⟩ = some (.int .i64 a0_0) := (blk_cell BK108.out 0).trans rfl; have hcz33_1 : w32.cell? ⟨gb108, 1, none⟩ = some (.slice A0_1 l0_1.length c0_1) := (blk_cell BK108.out 1).trans rfl; have hfz33_0 := blk_frozen BK108.out 0; have hfz33_1 := blk_frozen BK108.out 1) | (go_at_call 55; (with_reducible refine (impl_Net_knot.calls a0_0 _ _ l0_1 a1 false _ ?side1 ?side2 A9.out).mono ?_); (case side1 => exact qc (Kd.C_below HR0_1.out HB.out)); (case side2 => exact HC0_1.out); rintro e w34 ⟨rfl, hb⟩; have n0_ := q0 (kb BK108.out hb); have n1_ := q0 (kb BK100.out hb); have n2_ := q0 (below_step (qb HB.out) hb); clear BK108 BK100 HB; have BK108 := n0_; have BK100 := n1_; have HB := n2_; clear n0_ n1_ n2_; (try clear hb); (try clear hb2); (try clear hk); (try clear hi)))
     go_meet
     case rel => exact ⟨_, (true), qs, H', ⟨by first | omega | exact Nat.le_refl _⟩, ⟨qk BK108.out⟩, ⟨qk BK100.out⟩, ⟨qb HB.out⟩⟩
   subst c10
   have H1 : ((impl_Net_knot.f a0_0 l0_1 a2).bind fun t106 => (if t106 = true then ((impl_Net_joined.f k a0_0 l0_1 a1 a2).bind fun t107 => (impl_BridgeApart.j0 k a1 a2 (!t107) a0_0 l0_1)) else (impl_BridgeApart.j0 k a1 a2 true a0_0 l0_1))) = some (r1, r2, r3) := by rw [if_pos rfl] at H; exact H
   clear H
   have H := H1
   clear H1
   replace H := Option.bind_eq_some_iff.mp H
   obtain ⟨t106, A109, H⟩ := H
   replace H : (if t106 = true then ((impl_Net_joined.f k a0_0 l0_1 a1 a2).bind fun t107 => (impl_BridgeApart.j0 k a1 a2 (!t107) a0_0 l0_1)) else (impl_BridgeApart.j0 k a1 a2 true a0_0 l0_1)) = some (r1, r2, r3) := H
   have A11 := Aside0.mk A109
   clear A109
   by_cases c12 : t106 = true
   rotate_left
   · replace c12 := Bool.eq_false_iff.mpr c12
     subst c12
     have H1 : (impl_BridgeApart.j0 k a1 a2 true a0_0 l0_1) = some (r1, r2, r3) := by rw [if_neg (show ¬ (false = true) by decide)] at H; exact H
     clear H
     have H := H1
     clear H1
     have H' := Aside0.mk H
     clear H
     have hnb23 := NB108_100.out
     have hnc23 := NB100_108.out
     have hcz24_0 : w6.cell? ⟨gb108, 0, none⟩ = some (.int .i64 a0_0) := (blk_cell BK108.out 0).trans rfl
     have hcz24_1 : w6.cell? ⟨gb108, 1, none⟩ = some (.slice A0_1 l0_1.length c0_1) := (blk_cell BK108.out 1).trans rfl
     have hfz24_0 := blk_frozen BK108.out 0
     have hfz24_1 := blk_frozen BK108.out 1
     go_wp2_with (first | ((with_reducible refine gate_callee (f := 54) rfl ?_); refine goesL_ (some 11) rfl rfl Try.func54 (by kernel_rfl) rfl #[.agg #[.int .i64 a0_0, .slice A0_1 l0_1.length c0_1]] rfl qm ?_; (with_reducible refine (impl_NetOk.calls k a0_0 _ _ l0_1 true _ ?side1 ?side2 A7.out).mono ?_); (case side1 => exact qc (Kd.C_below HR0_1.out HB.out)); (case side2 => exact HC0_1.out); rintro e w25 ⟨rfl, hb⟩; refine ⟨_, rfl, ?_⟩; have n0_ := q0 (kb BK108.out hb); have n1_ := q0 (kb BK100.out hb); have n2_ := q0 (below_step (qb HB.out) hb); clear BK108 BK100 HB; have BK108 := n0_; have BK100 := n1_; have HB := n2_; clear n0_ n1_ n2_; (try clear hb); (try clear hb2); (try clear hk); (try clear hi); have hcz26_0 : w25.cell? ⟨gb108, 0, none⟩ = some (.int .i64 a0_0) := (blk_cell BK108.out 0).trans rfl; have hcz26_1 : w25.cell? ⟨gb108, 1, none⟩ = some (.slice A0_1 l0_1.length c0_1) := (blk_cell BK108.out 1).trans rfl; have hfz26_0 := blk_frozen BK108.out 0; have hfz26_1 := blk_frozen BK108.out 1) | (go_at_call 55; (with_reducible refine (impl_Net_knot.calls a0_0 _ _ l0_1 a1 true _ ?side1 ?side2 A9.out).mono ?_); (case side1 => exact qc (Kd.C_below HR0_1.out HB.out)); (case side2 => exact HC0_1.out); rintro e w27 ⟨rfl, hb⟩; have n0_ := q0 (kb BK108.out hb); have n1_ := q0 (kb BK100.out hb); have n2_ := q0 (below_step (qb HB.out) hb); clear BK108 BK100 HB; have BK108 := n0_; have BK100 := n1_; have HB := n2_; clear n0_ n1_ n2_; (try clear hb); (try clear hb2); (try clear hk); (try clear hi); have hcz28_0 : w27.cell? ⟨gb108, 0, none⟩ = some (.int .i64 a0_0) := (blk_cell BK108.out 0).trans rfl; have hcz28_1 : w27.cell? ⟨gb108, 1, none⟩ = some (.slice A0_1 l0_1.length c0_1) := (blk_cell BK108.out 1).trans rfl; have hfz28_0 := blk_frozen BK108.out 0; have hfz28_1 := blk_frozen BK108.out 1) | (go_at_call 55; (with_reducible refine (impl_Net_knot.calls a0_0 _ _ l0_1 a2 false _ ?side1 ?side2 A11.out).mono ?_); (case side1 => exact qc (Kd.C_below HR0_1.out HB.out)); (case side2 => exact HC0_1.out); rintro e w29 ⟨rfl, hb⟩; have n0_ := q0 (kb BK108.out hb); have n1_ := q0 (kb BK100.out hb); have n2_ := q0 (below_step (qb HB.out) hb); clear BK108 BK100 HB; have BK108 := n0_; have BK100 := n1_; have HB := n2_; clear n0_ n1_ n2_; (try clear hb); (try clear hb2); (try clear hk); (try clear hi)))
     go_meet
     case rel => exact ⟨_, (true), qs, H', ⟨by first | omega | exact Nat.le_refl _⟩, ⟨qk BK108.out⟩, ⟨qk BK100.out⟩, ⟨qb HB.out⟩⟩
   subst c12
   have H1 : ((impl_Net_joined.f k a0_0 l0_1 a1 a2).bind fun t107 => (impl_BridgeApart.j0 k a1 a2 (!t107) a0_0 l0_1)) = some (r1, r2, r3) := by rw [if_pos rfl] at H; exact H
   clear H
   have H := H1
   clear H1
   replace H := Option.bind_eq_some_iff.mp H
   obtain ⟨t107, A110, H⟩ := H
   replace H : (impl_BridgeApart.j0 k a1 a2 (!t107) a0_0 l0_1) = some (r1, r2, r3) := H
   have A13 := Aside0.mk A110
   clear A110
   have H' := Aside0.mk H
   clear H
   have hnb14 := NB108_100.out
   have hnc14 := NB100_108.out
   have hcz15_0 : w6.cell? ⟨gb108, 0, none⟩ = some (.int .i64 a0_0) := (blk_cell BK108.out 0).trans rfl
   have hcz15_1 : w6.cell? ⟨gb108, 1, none⟩ = some (.slice A0_1 l0_1.length c0_1) := (blk_cell BK108.out 1).trans rfl
   have hfz15_0 := blk_frozen BK108.out 0
   have hfz15_1 := blk_frozen BK108.out 1
   go_wp2_with (first | ((with_reducible refine gate_callee (f := 54) rfl ?_); refine goesL_ (some 11) rfl rfl Try.func54 (by kernel_rfl) rfl #[.agg #[.int .i64 a0_0, .slice A0_1 l0_1.length c0_1]] rfl qm ?_; (with_reducible refine (impl_NetOk.calls k a0_0 _ _ l0_1 true _ ?side1 ?side2 A7.out).mono ?_); (case side1 => exact qc (Kd.C_below HR0_1.out HB.out)); (case side2 => exact HC0_1.out); rintro e w16 ⟨rfl, hb⟩; refine ⟨_, rfl, ?_⟩; have n0_ := q0 (kb BK108.out hb); have n1_ := q0 (kb BK100.out hb); have n2_ := q0 (below_step (qb HB.out) hb); clear BK108 BK100 HB; have BK108 := n0_; have BK100 := n1_; have HB := n2_; clear n0_ n1_ n2_; (try clear hb); (try clear hb2); (try clear hk); (try clear hi); have hcz17_0 : w16.cell? ⟨gb108, 0, none⟩ = some (.int .i64 a0_0) := (blk_cell BK108.out 0).trans rfl; have hcz17_1 : w16.cell? ⟨gb108, 1, none⟩ = some (.slice A0_1 l0_1.length c0_1) := (blk_cell BK108.out 1).trans rfl; have hfz17_0 := blk_frozen BK108.out 0; have hfz17_1 := blk_frozen BK108.out 1) | (go_at_call 55; (with_reducible refine (impl_Net_knot.calls a0_0 _ _ l0_1 a1 true _ ?side1 ?side2 A9.out).mono ?_); (case side1 => exact qc (Kd.C_below HR0_1.out HB.out)); (case side2 => exact HC0_1.out); rintro e w18 ⟨rfl, hb⟩; have n0_ := q0 (kb BK108.out hb); have n1_ := q0 (kb BK100.out hb); have n2_ := q0 (below_step (qb HB.out) hb); clear BK108 BK100 HB; have BK108 := n0_; have BK100 := n1_; have HB := n2_; clear n0_ n1_ n2_; (try clear hb); (try clear hb2); (try clear hk); (try clear hi); have hcz19_0 : w18.cell? ⟨gb108, 0, none⟩ = some (.int .i64 a0_0) := (blk_cell BK108.out 0).trans rfl; have hcz19_1 : w18.cell? ⟨gb108, 1, none⟩ = some (.slice A0_1 l0_1.length c0_1) := (blk_cell BK108.out 1).trans rfl; have hfz19_0 := blk_frozen BK108.out 0; have hfz19_1 := blk_frozen BK108.out 1) | (go_at_call 55; (with_reducible refine (impl_Net_knot.calls a0_0 _ _ l0_1 a2 true _ ?side1 ?side2 A11.out).mono ?_); (case side1 => exact qc (Kd.C_below HR0_1.out HB.out)); (case side2 => exact HC0_1.out); rintro e w20 ⟨rfl, hb⟩; have n0_ := q0 (kb BK108.out hb); have n1_ := q0 (kb BK100.out hb); have n2_ := q0 (below_step (qb HB.out) hb); clear BK108 BK100 HB; have BK108 := n0_; have BK100 := n1_; have HB := n2_; clear n0_ n1_ n2_; (try clear hb); (try clear hb2); (try clear hk); (try clear hi); have hcz21_0 : w20.cell? ⟨gb108, 0, none⟩ = some (.int .i64 a0_0) := (blk_cell BK108.out 0).trans rfl; have hcz21_1 : w20.cell? ⟨gb108, 1, none⟩ = some (.slice A0_1 l0_1.length c0_1) := (blk_cell BK108.out 1).trans rfl; have hfz21_0 := blk_frozen BK108.out 0; have hfz21_1 := blk_frozen BK108.out 1) | (go_at_call 56; (with_reducible refine (impl_Net_joined.calls k a0_0 _ _ l0_1 a1 a2 t107 _ ?side1 ?side2 A13.out).mono ?_); (case side1 => exact qc (Kd.C_below HR0_1.out HB.out)); (case side2 => exact HC0_1.out); rintro e w22 ⟨rfl, hb⟩; have n0_ := q0 (kb BK108.out hb); have n1_ := q0 (kb BK100.out hb); have n2_ := q0 (below_step (qb HB.out) hb); clear BK108 BK100 HB; have BK108 := n0_; have BK100 := n1_; have HB := n2_; clear n0_ n1_ n2_; (try clear hb); (try clear hb2); (try clear hk); (try clear hi)))
   go_meet
   case rel => exact ⟨_, (!t107), qs, H', ⟨by first | omega | exact Nat.le_refl _⟩, ⟨qk BK108.out⟩, ⟨qk BK100.out⟩, ⟨qb HB.out⟩⟩
 clear HC4
 try clear c1
 try clear c2
 try clear p2
 try clear c3
 try clear c5
 try clear c8
 try clear c10
 try clear c12
 try clear c14
 try clear c16
 try clear c23
 try clear c30
 try clear c35
 try clear hcz15_0
 try clear hcz15_1
 try clear hcz17_0
 try clear hcz17_1
 try clear hcz19_0
 try clear hcz19_1
 try clear hcz21_0
 try clear hcz21_1
 try clear hcz24_0
 try clear hcz24_1
 try clear hcz26_0
 try clear hcz26_1
 try clear hcz28_0
 try clear hcz28_1
 try clear hcz31_0
 try clear hcz31_1
 try clear hcz33_0
 try clear hcz33_1
 try clear hcz36_0
 try clear hcz36_1
 try clear hfz15_0
 try clear hfz15_1
 try clear hfz17_0
 try clear hfz17_1
 try clear hfz19_0
 try clear hfz19_1
 try clear hfz21_0
 try clear hfz21_1
 try clear hfz24_0
 try clear hfz24_1
 try clear hfz26_0
 try clear hfz26_1
 try clear hfz28_0
 try clear hfz28_1
 try clear hfz31_0
 try clear hfz31_1
 try clear hfz33_0
 try clear hfz33_1
 try clear hfz36_0
 try clear hfz36_1
 obtain ⟨kq, x31_3, rfl, HA, HJ3, BK108, BK100, HB⟩ := hcut
 rcases kq with _ | kj3
 · exact absurd HA.out (by simp [impl_BridgeApart.j0])
 have H := HA.out
 clear HA
 simp only [impl_BridgeApart.j0] at H
 by_cases c38 : x31_3 = true
 · subst c38
   have H1 : (some (0, 0, false)) = some (r1, r2, r3) := by rw [if_pos rfl] at H; exact H
   clear H
   have H := H1
   clear H1
   simp only [Option.some.injEq, Prod.mk.injEq] at H
   obtain ⟨rfl, rfl, rfl⟩ := H
   have hnb39 := NB100_108.out
   have hnc39 := NB108_100.out
   have hcz40_0 : wc.cell? ⟨gb100, 0, none⟩ = some (.int .i64 0) := (blk_cell BK100.out 0).trans rfl
   have hcz40_1 : wc.cell? ⟨gb100, 1, none⟩ = some (.int .i64 0) := (blk_cell BK100.out 1).trans rfl
   have hfz40_0 := blk_frozen BK100.out 0
   have hfz40_1 := blk_frozen BK100.out 1
   go_wp2
   refine bodyPost_ret (results_ct rfl _ _ gb100 27 #[.int .i64 0, .int .i64 0] (0, 0) _ rfl (by (with_reducible repeat (first | refine blk_drewN ?_ _ | refine blk_drew ?_ | refine blk_alloc ?_ _)); refine blk_put (cs := #[.int .i64 0, .int .i64 0]) ?_ 1 _ rfl; (with_reducible repeat (first | refine blk_drewN ?_ _ | refine blk_drew ?_ | refine blk_alloc ?_ _)); refine blk_put (cs := #[.int .i64 0, .int .i64 0]) ?_ 0 _ rfl; (with_reducible repeat (first | refine blk_drewN ?_ _ | refine blk_drew ?_ | refine blk_alloc ?_ _)); exact BK100.out) Try.underlying27 rfl (by kernel_rfl)) rfl ?_
   exact ⟨qe, qb HB.out⟩
 replace c38 := Bool.eq_false_iff.mpr c38
 subst c38
 have H1 : ((impl_Net_bridges.f kj3 a0_0 l0_1).bind fun t101 => (impl_BridgeApart.l0 kj3 a1 a2 t101 (t101.length : Int) 0 a0_0 l0_1)) = some (r1, r2, r3) := by rw [if_neg (show ¬ (false = true) by decide)] at H; exact H
 clear H
 have H := H1
 clear H1
 replace H := Option.bind_eq_some_iff.mp H
 obtain ⟨t101, A111, H⟩ := H
 replace H : (impl_BridgeApart.l0 kj3 a1 a2 t101 (t101.length : Int) 0 a0_0 l0_1) = some (r1, r2, r3) := H
 have A41 := Aside0.mk A111
 clear A111
 have H' := Aside0.mk H
 clear H
 have hnb42 := NB108_100.out
 have hnc42 := NB100_108.out
 have hcz43_0 : wc.cell? ⟨gb108, 0, none⟩ = some (.int .i64 a0_0) := (blk_cell BK108.out 0).trans rfl
 have hcz43_1 : wc.cell? ⟨gb108, 1, none⟩ = some (.slice A0_1 l0_1.length c0_1) := (blk_cell BK108.out 1).trans rfl
 have hfz43_0 := blk_frozen BK108.out 0
 have hfz43_1 := blk_frozen BK108.out 1
 go_wp2_with (first | ((with_reducible refine gate_callee (f := 57) rfl ?_); refine goesL_ (some 34) rfl rfl Try.func57 (by kernel_rfl) rfl #[.agg #[.int .i64 a0_0, .slice A0_1 l0_1.length c0_1]] rfl qm ?_; (with_reducible refine (impl_Net_bridges.calls kj3 a0_0 _ _ l0_1 t101 _ ?side1 ?side2 A41.out).mono ?_); (case side1 => exact qc (Kd.C_below HR0_1.out HB.out)); (case side2 => exact HC0_1.out); rintro e w44 ⟨v112, rfl, ho0, hb⟩; refine ⟨_, rfl, ?_⟩; have n0_ := q0 (Kd.R_lower (Kd.R_newB ho0 (g := gb100) (o := .cells #[.int .i64 0, .int .i64 0] 27 (0, 0)) (qk BK100.out)) (below_size (qb HB.out))); have n1_ := q0 (kb BK108.out hb); have n2_ := q0 (kb BK100.out hb); have n3_ := q0 (below_step (qb HB.out) hb); clear BK108 BK100 HB; have HO113 := n0_; have BK108 := n1_; have BK100 := n2_; have HB := n3_; clear n0_ n1_ n2_ n3_; (try clear hb); (try clear hb2); (try clear hk); (try clear hi); (try clear ho0); obtain ⟨Ao45, co45, eo45⟩ := Kd.R_slice HO113.out; subst eo45))
 go_loopg [36] kj3 (fun kq v36 w' => ∃ (x36_2 : Int) (x104000_2 : Int) (x104001_2 : Int), v36 = .int .i64 x36_2 ∧ Aside0 (impl_BridgeApart.l0 kq a1 a2 t101 (t101.length : Int) x36_2 a0_0 l0_1 = some (r1, r2, r3)) ∧ Aside0 (kq ≤ kj3) ∧ Aside0 (Kd.R kTie 27 w' w.heap.size (fun k_ => k_ ≠ gb100) (.slice Ao45 t101.length co45) t101) ∧ Aside0 (w'.heap[gb108]? = some (.cells #[.int .i64 a0_0, (.slice A0_1 l0_1.length c0_1)] 32 (0, 0))) ∧ Aside0 (w'.heap[gb100]? = some (.cells #[.int .i64 x104000_2, .int .i64 x104001_2] 27 (0, 0))) ∧ Aside0 (Below w.heap.size w w'))
 case atStart => exact ⟨(0), (0), (0), qs, H', ⟨Nat.le_refl _⟩, ⟨by (with_reducible repeat (first | apply Kd.R_alloc | apply Kd.R_drewN | apply Kd.R_drew)); exact Kd.R_mono HO113.out (fun _ hk => hk.2)⟩, ⟨qk BK108.out⟩, ⟨qk BK100.out⟩, ⟨qb HB.out⟩⟩
 clear H'
 try clear c1
 try clear c2
 try clear p2
 try clear c3
 try clear c4
 try clear c5
 try clear c8
 try clear c10
 try clear c12
 try clear c14
 try clear c16
 try clear c23
 try clear c30
 try clear c35
 try clear c38
 try clear c39
 try clear c42
 try clear hcz15_0
 try clear hcz15_1
 try clear hcz17_0
 try clear hcz17_1
 try clear hcz19_0
 try clear hcz19_1
 try clear hcz21_0
 try clear hcz21_1
 try clear hcz24_0
 try clear hcz24_1
 try clear hcz26_0
 try clear hcz26_1
 try clear hcz28_0
 try clear hcz28_1
 try clear hcz31_0
 try clear hcz31_1
 try clear hcz33_0
 try clear hcz33_1
 try clear hcz36_0
 try clear hcz36_1
 try clear hcz40_0
 try clear hcz40_1
 try clear hcz43_0
 try clear hcz43_1
 try clear hfz15_0
 try clear hfz15_1
 try clear hfz17_0
 try clear hfz17_1
 try clear hfz19_0
 try clear hfz19_1
 try clear hfz21_0
 try clear hfz21_1
 try clear hfz24_0
 try clear hfz24_1
 try clear hfz26_0
 try clear hfz26_1
 try clear hfz28_0
 try clear hfz28_1
 try clear hfz31_0
 try clear hfz31_1
 try clear hfz33_0
 try clear hfz33_1
 try clear hfz36_0
 try clear hfz36_1
 try clear hfz40_0
 try clear hfz40_1
 try clear hfz43_0
 try clear hfz43_1
 try clear p2
 obtain ⟨x36_2, x104000_2, x104001_2, rfl, HA, HK2, HO_34, BK108, BK100, HB⟩ := hrel
 rcases gk with _ | k2
 · exact absurd HA.out (by simp [impl_BridgeApart.l0])
 have H := HA.out
 clear HA
 simp only [impl_BridgeApart.l0] at H
 by_cases c46 : x36_2 < (t101.length : Int)
 rotate_left
 · rw [if_neg c46] at H
   have c46b0 : decide (x36_2 < (t101.length : Int)) = false := decide_eq_false c46
   clear c46
   simp only [Option.some.injEq, Prod.mk.injEq] at H
   obtain ⟨rfl, rfl, rfl⟩ := H
   have hnb78 := NB100_108.out
   have hnc78 := NB108_100.out
   have hcz79_0 : wr.cell? ⟨gb100, 0, none⟩ = some (.int .i64 x104000_2) := (blk_cell BK100.out 0).trans rfl
   have hcz79_1 : wr.cell? ⟨gb100, 1, none⟩ = some (.int .i64 x104001_2) := (blk_cell BK100.out 1).trans rfl
   have hfz79_0 := blk_frozen BK100.out 0
   have hfz79_1 := blk_frozen BK100.out 1
   go_wp2
   refine bodyPost_ret (results_ct rfl _ _ gb100 27 #[.int .i64 0, .int .i64 0] (0, 0) _ rfl (by (with_reducible repeat (first | refine blk_drewN ?_ _ | refine blk_drew ?_ | refine blk_alloc ?_ _)); refine blk_put (cs := #[.int .i64 0, .int .i64 x104001_2]) ?_ 1 _ rfl; (with_reducible repeat (first | refine blk_drewN ?_ _ | refine blk_drew ?_ | refine blk_alloc ?_ _)); refine blk_put (cs := #[.int .i64 x104000_2, .int .i64 x104001_2]) ?_ 0 _ rfl; (with_reducible repeat (first | refine blk_drewN ?_ _ | refine blk_drew ?_ | refine blk_alloc ?_ _)); exact BK100.out) Try.underlying27 rfl (by kernel_rfl)) rfl ?_
   exact ⟨qe, qb HB.out⟩
 rw [if_pos c46] at H
 have c46b0 : decide (x36_2 < (t101.length : Int)) = true := decide_eq_true c46
 clear c46
 by_cases c47 : 0 ≤ x36_2
 rotate_left
 · rw [if_neg c47] at H
   exact absurd H (by simp)
 rw [if_pos c47] at H
 have c47b0 : decide (0 ≤ x36_2) = true := decide_eq_true c47
 clear c47
 by_cases c48 : x36_2 < (t101.length : Int)
 rotate_left
 · rw [if_neg c48] at H
   exact absurd H (by simp)
 rw [if_pos c48] at H
 have c48b0 : decide (x36_2 < (t101.length : Int)) = true := decide_eq_true c48
 clear c48
 obtain ⟨y114, hy114⟩ : ∃ y_ : List (STie), y_ = (([(⟨(rd_TTie t101 x36_2).f0, (rd_TTie t101 x36_2).f1⟩ : STie)] : List (STie))) := ⟨_, rfl⟩
 replace H : ((impl_Net_less.f k2 a0_0 l0_1 y114).bind fun bt102 => ((impl_Net_joined.f k2 bt102.1 bt102.2 a1 a2).bind fun t103 => (if t103 = true then (impl_BridgeApart.l0 k2 a1 a2 t101 (t101.length : Int) (wrap64 (x36_2 + 1)) a0_0 l0_1) else (some ((rd_TTie t101 x36_2).f0, (rd_TTie t101 x36_2).f1, true))))) = some (r1, r2, r3) := by first | (rw [hy114]; with_reducible exact H) | (have H2_ := (Option.bind_some _ _).symm.trans H; rw [hy114]; with_reducible exact H2_) | (have H2_ := (Option.bind_some _ _).symm.trans H; with_reducible exact H2_) | with_reducible exact H | (rw [hy114]; exact H) | exact H
 have Ny114 := Aside0.mk hy114
 clear hy114
 replace H := Option.bind_eq_some_iff.mp H
 obtain ⟨⟨t102, t115⟩, A116, H⟩ := H
 replace H : ((impl_Net_joined.f k2 t102 t115 a1 a2).bind fun t103 => (if t103 = true then (impl_BridgeApart.l0 k2 a1 a2 t101 (t101.length : Int) (wrap64 (x36_2 + 1)) a0_0 l0_1) else (some ((rd_TTie t101 x36_2).f0, (rd_TTie t101 x36_2).f1, true)))) = some (r1, r2, r3) := H
 have A49 := Aside0.mk A116
 clear A116
 replace H := Option.bind_eq_some_iff.mp H
 obtain ⟨t103, A117, H⟩ := H
 replace H : (if t103 = true then (impl_BridgeApart.l0 k2 a1 a2 t101 (t101.length : Int) (wrap64 (x36_2 + 1)) a0_0 l0_1) else (some ((rd_TTie t101 x36_2).f0, (rd_TTie t101 x36_2).f1, true))) = some (r1, r2, r3) := H
 have A50 := Aside0.mk A117
 clear A117
 by_cases c51 : t103 = true
 · subst c51
   have H1 : (impl_BridgeApart.l0 k2 a1 a2 t101 (t101.length : Int) (wrap64 (x36_2 + 1)) a0_0 l0_1) = some (r1, r2, r3) := by rw [if_pos rfl] at H; exact H
   clear H
   have H := H1
   clear H1
   have H' := Aside0.mk H
   clear H
   have p118 : 0 ≤ (x36_2 : Int) := of_decide_eq_true qa
   have q118 : x36_2 < (t101.length : Int) := of_decide_eq_true qa
   obtain ⟨ad118, e118, hx118_0, hx118_1⟩ := at_TTie (Kd.R_reads' HO_34.out).2.2 x36_2 p118 q118
   cases e118
   replace p118 := eq_true p118
   replace q118 := eq_true q118
   go_wp2_with (first | ((with_reducible refine gate_dst (N := 9) rfl ?_); refine be 9 #[.int .i64 0, .int .i64 0] 27 ?_; intro gb119 hg w52 hbox hb; have n0_ := q0 (Kd.R_below (Kd.R_elderB (qr HO_34.out) gb119 (Nat.le_of_eq hg.symm)) hb); have n1_ := q0 (kb BK108.out hb); have n2_ := q0 (kb BK100.out hb); have n3_ := q0 (below_step (qb HB.out) hb); have n4_ := q0 (hbox); have n5_ := q0 ((bs HB.out hg : w.heap.size ≤ gb119)); have n6_ := q0 ((bs HB.out hg : w.heap.size ≤ gb119)); have n7_ := q0 ((bl BK108.out hg : gb108 ≠ gb119)); have n8_ := q0 ((bg BK108.out hg : gb119 ≠ gb108)); have n9_ := q0 ((bl BK100.out hg : gb100 ≠ gb119)); have n10_ := q0 ((bg BK100.out hg : gb119 ≠ gb100)); clear HO_34 BK108 BK100 HB; have HO_34 := n0_; have BK108 := n1_; have BK100 := n2_; have HB := n3_; have BK119 := n4_; have GW119 := n5_; have GE119 := n6_; have NB108_119 := n7_; have NB119_108 := n8_; have NB100_119 := n9_; have NB119_100 := n10_; clear n0_ n1_ n2_ n3_ n4_ n5_ n6_ n7_ n8_ n9_ n10_ hb hbox hg; have hnb53 := NB119_108.out; have hnc53 := NB108_119.out; have hnb54 := NB119_100.out; have hnc54 := NB100_119.out; have hcz55_0 : w52.cell? ⟨gb119, 0, none⟩ = some (.int .i64 0) := (blk_cell BK119.out 0).trans rfl; have hcz55_1 : w52.cell? ⟨gb119, 1, none⟩ = some (.int .i64 0) := (blk_cell BK119.out 1).trans rfl; have hfz55_0 := blk_frozen BK119.out 0; have hfz55_1 := blk_frozen BK119.out 1; have hnb56 := NB108_100.out; have hnc56 := NB100_108.out; have hcz57_0 : w52.cell? ⟨gb108, 0, none⟩ = some (.int .i64 a0_0) := (blk_cell BK108.out 0).trans rfl; have hcz57_1 : w52.cell? ⟨gb108, 1, none⟩ = some (.slice A0_1 l0_1.length c0_1) := (blk_cell BK108.out 1).trans rfl; have hfz57_0 := blk_frozen BK108.out 0; have hfz57_1 := blk_frozen BK108.out 1) | ((with_reducible refine gate_dst (N := 42) rfl ?_); refine Kd.R_lit kTie _ 27 ?hg (N := 42) ?hd (xs := ([(⟨(rd_TTie t101 x36_2).f0, (rd_TTie t101 x36_2).f1⟩ : STie)] : List (STie))) (inner := [.int .i64 ((rd_TTie t101 x36_2).f0), .int .i64 ((rd_TTie t101 x36_2).f1)]) (ok := fun _ => True) (okp := fun _ => True) ?hr ?hp (fun _ hk => hk) trivial (Below.refl _ _) (Nat.le_refl _) (by simp) ?_; (case hd => rfl); (case hg => rfl); (case hr => first | (go_simp; done) | (go_simp; rfl)); (case hp => exact (Reps.c2 (show Kd.M kTie _ _ _ (⟨(rd_TTie t101 x36_2).f0, (rd_TTie t101 x36_2).f1⟩ : STie) [.int .i64 ((rd_TTie t101 x36_2).f0), .int .i64 ((rd_TTie t101 x36_2).f1)] from (kTie_mkM _ _ _ (⟨(rd_TTie t101 x36_2).f0, (rd_TTie t101 x36_2).f1⟩ : STie) )) (Reps.none _ _))); intro v120 w58 ho59 hb hg_ hnew_; clear hg_ hnew_; (first | rw [← Ny114.out] at ho59 | (simp only [Int.reduceToNat] at ho59; rw [← Ny114.out] at ho59)); have n0_ := q0 (Kd.R_elder' (by (with_reducible repeat (first | apply Kd.R_alloc | apply Kd.R_drewN | apply Kd.R_drew)); exact (Kd.R_mono (Kd.R_far (p := ⟨gb119, 1, none⟩) (Kd.R_far (p := ⟨gb119, 0, none⟩) (Kd.R_mono HO_34.out (fun k_ hk => (⟨hk, hk.2⟩ : _ ∧ k_ ≠ gb119))) (fun _ hk => hk.2) (.int .i64 ((rd_TTie t101 x36_2).f0))) (fun _ hk => hk.2) (.int .i64 ((rd_TTie t101 x36_2).f1))) (fun _ h_ => h_.1))) (Kd.R_base ho59) hb); have n1_ := q0 (Kd.R_lower (Kd.R_newB (Kd.R_newB (Kd.R_new' ho59 (Kd.R_lt (by (with_reducible repeat (first | apply Kd.R_alloc | apply Kd.R_drewN | apply Kd.R_drew)); exact (Kd.R_mono (Kd.R_far (p := ⟨gb119, 1, none⟩) (Kd.R_far (p := ⟨gb119, 0, none⟩) (Kd.R_mono HO_34.out (fun k_ hk => (⟨hk, hk.2⟩ : _ ∧ k_ ≠ gb119))) (fun _ hk => hk.2) (.int .i64 ((rd_TTie t101 x36_2).f0))) (fun _ hk => hk.2) (.int .i64 ((rd_TTie t101 x36_2).f1))) (fun _ h_ => h_.1))))) (g := gb100) (o := .cells #[.int .i64 x104000_2, .int .i64 x104001_2] 27 (0, 0)) (qf BK100.out)) (g := gb119) (o := .cells #[.int .i64 ((rd_TTie t101 x36_2).f0), .int .i64 ((rd_TTie t101 x36_2).f1)] 27 (0, 0)) (by (with_reducible repeat (first | refine blk_drewN ?_ _ | refine blk_drew ?_ | refine blk_alloc ?_ _)); refine blk_put (cs := #[.int .i64 ((rd_TTie t101 x36_2).f0), .int .i64 0]) ?_ 1 _ rfl; (with_reducible repeat (first | refine blk_drewN ?_ _ | refine blk_drew ?_ | refine blk_alloc ?_ _)); refine blk_put (cs := #[.int .i64 0, .int .i64 0]) ?_ 0 _ rfl; (with_reducible repeat (first | refine blk_drewN ?_ _ | refine blk_drew ?_ | refine blk_alloc ?_ _)); exact BK119.out)) (below_size (qb HB.out))); have n2_ := q0 (blk_below (g := gb108) (o := .cells #[.int .i64 a0_0, .slice A0_1 l0_1.length c0_1] 32 (0, 0)) (qf BK108.out) hb); have n3_ := q0 (blk_below (g := gb100) (o := .cells #[.int .i64 x104000_2, .int .i64 x104001_2] 27 (0, 0)) (qf BK100.out) hb); have n4_ := q0 (blk_below (g := gb119) (o := .cells #[.int .i64 ((rd_TTie t101 x36_2).f0), .int .i64 ((rd_TTie t101 x36_2).f1)] 27 (0, 0)) (by (with_reducible repeat (first | refine blk_drewN ?_ _ | refine blk_drew ?_ | refine blk_alloc ?_ _)); refine blk_put (cs := #[.int .i64 ((rd_TTie t101 x36_2).f0), .int .i64 0]) ?_ 1 _ rfl; (with_reducible repeat (first | refine blk_drewN ?_ _ | refine blk_drew ?_ | refine blk_alloc ?_ _)); refine blk_put (cs := #[.int .i64 0, .int .i64 0]) ?_ 0 _ rfl; (with_reducible repeat (first | refine blk_drewN ?_ _ | refine blk_drew ?_ | refine blk_alloc ?_ _)); exact BK119.out) hb); have n5_ := q0 (below_step (qb HB.out) hb); clear HO_34 BK108 BK100 BK119 HB; have HO_34 := n0_; have HO121 := n1_; have BK108 := n2_; have BK100 := n3_; have BK119 := n4_; have HB := n5_; clear n0_ n1_ n2_ n3_ n4_ n5_ hb ho59; obtain ⟨Ao60, co60, eo60⟩ := Kd.R_slice HO121.out; subst eo60) | ((with_reducible refine gate_callee (f := 58) rfl ?_); refine goesL_ (some 43) rfl rfl Try.func58 (by kernel_rfl) rfl #[.agg #[.int .i64 a0_0, .slice A0_1 l0_1.length c0_1], .slice Ao60 y114.length co60] rfl qm ?_; (with_reducible refine (impl_Net_less.calls k2 a0_0 _ _ l0_1 _ _ y114 t102 t115 _ ?side1 ?side2 ?side3 ?side4 A49.out).mono ?_); (case side1 => exact qc (Kd.C_below HR0_1.out HB.out)); (case side2 => exact HC0_1.out); (case side3 => exact qc (Kd.R_reads' HO121.out).2.2); (case side4 => exact (Kd.R_reads' HO121.out).2.1); rintro e w61 ⟨v122, rfl, ho0, hb⟩; refine ⟨_, rfl, ?_⟩; have n0_ := q0 (Kd.R_elder' (qr HO_34.out) (Kd.R_base ho0) hb); have n1_ := q0 (Kd.R_elder' (qr HO121.out) (Kd.R_base ho0) hb); have n2_ := q0 (Kd.R_lower (Kd.R_newB (Kd.R_newB (Kd.R_new' (Kd.R_new' ho0 (Kd.R_lt (qr HO_34.out))) (Kd.R_lt (qr HO121.out))) (g := gb100) (o := .cells #[.int .i64 x104000_2, .int .i64 x104001_2] 27 (0, 0)) (qk BK100.out)) (g := gb119) (o := .cells #[.int .i64 ((rd_TTie t101 x36_2).f0), .int .i64 ((rd_TTie t101 x36_2).f1)] 27 (0, 0)) (qk BK119.out)) (below_size (qb HB.out))); have n3_ := q0 (kb BK108.out hb); have n4_ := q0 (kb BK100.out hb); have n5_ := q0 (kb BK119.out hb); have n6_ := q0 (below_step (qb HB.out) hb); clear HO_34 HO121 BK108 BK100 BK119 HB; have HO_34 := n0_; have HO121 := n1_; have HO123 := n2_; have BK108 := n3_; have BK100 := n4_; have BK119 := n5_; have HB := n6_; clear n0_ n1_ n2_ n3_ n4_ n5_ n6_; (try clear hb); (try clear hb2); (try clear hk); (try clear hi); (try clear ho0); obtain ⟨Ao62, co62, eo62⟩ := Kd.R_slice HO123.out; subst eo62) | ((with_reducible refine gate_callee (f := 56) rfl ?_); refine goesL_ (some 46) rfl rfl Try.func56 (by kernel_rfl) rfl #[.agg #[.int .i64 t102, .slice Ao62 t115.length co62], .int .i64 a1, .int .i64 a2] rfl qm ?_; (with_reducible refine (impl_Net_joined.calls k2 t102 _ _ t115 a1 a2 true _ ?side1 ?side2 A50.out).mono ?_); (case side1 => exact qc (Kd.R_reads' HO123.out).2.2); (case side2 => exact (Kd.R_reads' HO123.out).2.1); rintro e w63 ⟨rfl, hb⟩; refine ⟨_, rfl, ?_⟩; have n0_ := q0 (Kd.R_below (qr HO_34.out) hb); have n1_ := q0 (Kd.R_below (qr HO121.out) hb); have n2_ := q0 (Kd.R_below (qr HO123.out) hb); have n3_ := q0 (kb BK108.out hb); have n4_ := q0 (kb BK100.out hb); have n5_ := q0 (kb BK119.out hb); have n6_ := q0 (below_step (qb HB.out) hb); clear HO_34 HO121 HO123 BK108 BK100 BK119 HB; have HO_34 := n0_; have HO121 := n1_; have HO123 := n2_; have BK108 := n3_; have BK100 := n4_; have BK119 := n5_; have HB := n6_; clear n0_ n1_ n2_ n3_ n4_ n5_ n6_; (try clear hb); (try clear hb2); (try clear hk); (try clear hi)))
   go_roundg k2
   case measure => have := HJ3.out; have := HK2.out; omega
   case rel => exact ⟨(wrap64 (x36_2 + 1)), (x104000_2), (x104001_2), qs, H', ⟨by have := HJ3.out; have := HK2.out; omega⟩, ⟨by (with_reducible repeat (first | apply Kd.R_alloc | apply Kd.R_drewN | apply Kd.R_drew)); exact Kd.R_mono HO_34.out (fun _ hk => hk.1.1.1)⟩, ⟨qk BK108.out⟩, ⟨qk BK100.out⟩, ⟨qb HB.out⟩⟩
 replace c51 := Bool.eq_false_iff.mpr c51
 subst c51
 have H1 : (some ((rd_TTie t101 x36_2).f0, (rd_TTie t101 x36_2).f1, true)) = some (r1, r2, r3) := by rw [if_neg (show ¬ (false = true) by decide)] at H; exact H
 clear H
 have H := H1
 clear H1
 simp only [Option.some.injEq, Prod.mk.injEq] at H
 obtain ⟨rfl, rfl, rfl⟩ := H
 have p118 : 0 ≤ (x36_2 : Int) := of_decide_eq_true qa
 have q118 : x36_2 < (t101.length : Int) := of_decide_eq_true qa
 obtain ⟨ad118, e118, hx118_0, hx118_1⟩ := at_TTie (Kd.R_reads' HO_34.out).2.2 x36_2 p118 q118
 cases e118
 replace p118 := eq_true p118
 replace q118 := eq_true q118
 go_wp2_with (first | ((with_reducible refine gate_dst (N := 9) rfl ?_); refine be 9 #[.int .i64 0, .int .i64 0] 27 ?_; intro gb119 hg w64 hbox hb; have n0_ := q0 (Kd.R_below (Kd.R_elderB (qr HO_34.out) gb119 (Nat.le_of_eq hg.symm)) hb); have n1_ := q0 (kb BK108.out hb); have n2_ := q0 (kb BK100.out hb); have n3_ := q0 (below_step (qb HB.out) hb); have n4_ := q0 (hbox); have n5_ := q0 ((bs HB.out hg : w.heap.size ≤ gb119)); have n6_ := q0 ((bs HB.out hg : w.heap.size ≤ gb119)); have n7_ := q0 ((bl BK108.out hg : gb108 ≠ gb119)); have n8_ := q0 ((bg BK108.out hg : gb119 ≠ gb108)); have n9_ := q0 ((bl BK100.out hg : gb100 ≠ gb119)); have n10_ := q0 ((bg BK100.out hg : gb119 ≠ gb100)); clear HO_34 BK108 BK100 HB; have HO_34 := n0_; have BK108 := n1_; have BK100 := n2_; have HB := n3_; have BK119 := n4_; have GW119 := n5_; have GE119 := n6_; have NB108_119 := n7_; have NB119_108 := n8_; have NB100_119 := n9_; have NB119_100 := n10_; clear n0_ n1_ n2_ n3_ n4_ n5_ n6_ n7_ n8_ n9_ n10_ hb hbox hg; have hnb65 := NB119_108.out; have hnc65 := NB108_119.out; have hnb66 := NB119_100.out; have hnc66 := NB100_119.out; have hcz67_0 : w64.cell? ⟨gb119, 0, none⟩ = some (.int .i64 0) := (blk_cell BK119.out 0).trans rfl; have hcz67_1 : w64.cell? ⟨gb119, 1, none⟩ = some (.int .i64 0) := (blk_cell BK119.out 1).trans rfl; have hfz67_0 := blk_frozen BK119.out 0; have hfz67_1 := blk_frozen BK119.out 1; have hnb68 := NB108_100.out; have hnc68 := NB100_108.out; have hcz69_0 : w64.cell? ⟨gb108, 0, none⟩ = some (.int .i64 a0_0) := (blk_cell BK108.out 0).trans rfl; have hcz69_1 : w64.cell? ⟨gb108, 1, none⟩ = some (.slice A0_1 l0_1.length c0_1) := (blk_cell BK108.out 1).trans rfl; have hfz69_0 := blk_frozen BK108.out 0; have hfz69_1 := blk_frozen BK108.out 1) | ((with_reducible refine gate_dst (N := 42) rfl ?_); refine Kd.R_lit kTie _ 27 ?hg (N := 42) ?hd (xs := ([(⟨(rd_TTie t101 x36_2).f0, (rd_TTie t101 x36_2).f1⟩ : STie)] : List (STie))) (inner := [.int .i64 ((rd_TTie t101 x36_2).f0), .int .i64 ((rd_TTie t101 x36_2).f1)]) (ok := fun _ => True) (okp := fun _ => True) ?hr ?hp (fun _ hk => hk) trivial (Below.refl _ _) (Nat.le_refl _) (by simp) ?_; (case hd => rfl); (case hg => rfl); (case hr => first | (go_simp; done) | (go_simp; rfl)); (case hp => exact (Reps.c2 (show Kd.M kTie _ _ _ (⟨(rd_TTie t101 x36_2).f0, (rd_TTie t101 x36_2).f1⟩ : STie) [.int .i64 ((rd_TTie t101 x36_2).f0), .int .i64 ((rd_TTie t101 x36_2).f1)] from (kTie_mkM _ _ _ (⟨(rd_TTie t101 x36_2).f0, (rd_TTie t101 x36_2).f1⟩ : STie) )) (Reps.none _ _))); intro v120 w70 ho71 hb hg_ hnew_; clear hg_ hnew_; (first | rw [← Ny114.out] at ho71 | (simp only [Int.reduceToNat] at ho71; rw [← Ny114.out] at ho71)); have n0_ := q0 (Kd.R_elder' (by (with_reducible repeat (first | apply Kd.R_alloc | apply Kd.R_drewN | apply Kd.R_drew)); exact (Kd.R_mono (Kd.R_far (p := ⟨gb119, 1, none⟩) (Kd.R_far (p := ⟨gb119, 0, none⟩) (Kd.R_mono HO_34.out (fun k_ hk => (⟨hk, hk.2⟩ : _ ∧ k_ ≠ gb119))) (fun _ hk => hk.2) (.int .i64 ((rd_TTie t101 x36_2).f0))) (fun _ hk => hk.2) (.int .i64 ((rd_TTie t101 x36_2).f1))) (fun _ h_ => h_.1))) (Kd.R_base ho71) hb); have n1_ := q0 (Kd.R_lower (Kd.R_newB (Kd.R_newB (Kd.R_new' ho71 (Kd.R_lt (by (with_reducible repeat (first | apply Kd.R_alloc | apply Kd.R_drewN | apply Kd.R_drew)); exact (Kd.R_mono (Kd.R_far (p := ⟨gb119, 1, none⟩) (Kd.R_far (p := ⟨gb119, 0, none⟩) (Kd.R_mono HO_34.out (fun k_ hk => (⟨hk, hk.2⟩ : _ ∧ k_ ≠ gb119))) (fun _ hk => hk.2) (.int .i64 ((rd_TTie t101 x36_2).f0))) (fun _ hk => hk.2) (.int .i64 ((rd_TTie t101 x36_2).f1))) (fun _ h_ => h_.1))))) (g := gb100) (o := .cells #[.int .i64 x104000_2, .int .i64 x104001_2] 27 (0, 0)) (qf BK100.out)) (g := gb119) (o := .cells #[.int .i64 ((rd_TTie t101 x36_2).f0), .int .i64 ((rd_TTie t101 x36_2).f1)] 27 (0, 0)) (by (with_reducible repeat (first | refine blk_drewN ?_ _ | refine blk_drew ?_ | refine blk_alloc ?_ _)); refine blk_put (cs := #[.int .i64 ((rd_TTie t101 x36_2).f0), .int .i64 0]) ?_ 1 _ rfl; (with_reducible repeat (first | refine blk_drewN ?_ _ | refine blk_drew ?_ | refine blk_alloc ?_ _)); refine blk_put (cs := #[.int .i64 0, .int .i64 0]) ?_ 0 _ rfl; (with_reducible repeat (first | refine blk_drewN ?_ _ | refine blk_drew ?_ | refine blk_alloc ?_ _)); exact BK119.out)) (below_size (qb HB.out))); have n2_ := q0 (blk_below (g := gb108) (o := .cells #[.int .i64 a0_0, .slice A0_1 l0_1.length c0_1] 32 (0, 0)) (qf BK108.out) hb); have n3_ := q0 (blk_below (g := gb100) (o := .cells #[.int .i64 x104000_2, .int .i64 x104001_2] 27 (0, 0)) (qf BK100.out) hb); have n4_ := q0 (blk_below (g := gb119) (o := .cells #[.int .i64 ((rd_TTie t101 x36_2).f0), .int .i64 ((rd_TTie t101 x36_2).f1)] 27 (0, 0)) (by (with_reducible repeat (first | refine blk_drewN ?_ _ | refine blk_drew ?_ | refine blk_alloc ?_ _)); refine blk_put (cs := #[.int .i64 ((rd_TTie t101 x36_2).f0), .int .i64 0]) ?_ 1 _ rfl; (with_reducible repeat (first | refine blk_drewN ?_ _ | refine blk_drew ?_ | refine blk_alloc ?_ _)); refine blk_put (cs := #[.int .i64 0, .int .i64 0]) ?_ 0 _ rfl; (with_reducible repeat (first | refine blk_drewN ?_ _ | refine blk_drew ?_ | refine blk_alloc ?_ _)); exact BK119.out) hb); have n5_ := q0 (below_step (qb HB.out) hb); clear HO_34 BK108 BK100 BK119 HB; have HO_34 := n0_; have HO121 := n1_; have BK108 := n2_; have BK100 := n3_; have BK119 := n4_; have HB := n5_; clear n0_ n1_ n2_ n3_ n4_ n5_ hb ho71; obtain ⟨Ao72, co72, eo72⟩ := Kd.R_slice HO121.out; subst eo72) | ((with_reducible refine gate_callee (f := 58) rfl ?_); refine goesL_ (some 43) rfl rfl Try.func58 (by kernel_rfl) rfl #[.agg #[.int .i64 a0_0, .slice A0_1 l0_1.length c0_1], .slice Ao72 y114.length co72] rfl qm ?_; (with_reducible refine (impl_Net_less.calls k2 a0_0 _ _ l0_1 _ _ y114 t102 t115 _ ?side1 ?side2 ?side3 ?side4 A49.out).mono ?_); (case side1 => exact qc (Kd.C_below HR0_1.out HB.out)); (case side2 => exact HC0_1.out); (case side3 => exact qc (Kd.R_reads' HO121.out).2.2); (case side4 => exact (Kd.R_reads' HO121.out).2.1); rintro e w73 ⟨v122, rfl, ho0, hb⟩; refine ⟨_, rfl, ?_⟩; have n0_ := q0 (Kd.R_elder' (qr HO_34.out) (Kd.R_base ho0) hb); have n1_ := q0 (Kd.R_elder' (qr HO121.out) (Kd.R_base ho0) hb); have n2_ := q0 (Kd.R_lower (Kd.R_newB (Kd.R_newB (Kd.R_new' (Kd.R_new' ho0 (Kd.R_lt (qr HO_34.out))) (Kd.R_lt (qr HO121.out))) (g := gb100) (o := .cells #[.int .i64 x104000_2, .int .i64 x104001_2] 27 (0, 0)) (qk BK100.out)) (g := gb119) (o := .cells #[.int .i64 ((rd_TTie t101 x36_2).f0), .int .i64 ((rd_TTie t101 x36_2).f1)] 27 (0, 0)) (qk BK119.out)) (below_size (qb HB.out))); have n3_ := q0 (kb BK108.out hb); have n4_ := q0 (kb BK100.out hb); have n5_ := q0 (kb BK119.out hb); have n6_ := q0 (below_step (qb HB.out) hb); clear HO_34 HO121 BK108 BK100 BK119 HB; have HO_34 := n0_; have HO121 := n1_; have HO123 := n2_; have BK108 := n3_; have BK100 := n4_; have BK119 := n5_; have HB := n6_; clear n0_ n1_ n2_ n3_ n4_ n5_ n6_; (try clear hb); (try clear hb2); (try clear hk); (try clear hi); (try clear ho0); obtain ⟨Ao74, co74, eo74⟩ := Kd.R_slice HO123.out; subst eo74) | ((with_reducible refine gate_callee (f := 56) rfl ?_); refine goesL_ (some 46) rfl rfl Try.func56 (by kernel_rfl) rfl #[.agg #[.int .i64 t102, .slice Ao74 t115.length co74], .int .i64 a1, .int .i64 a2] rfl qm ?_; (with_reducible refine (impl_Net_joined.calls k2 t102 _ _ t115 a1 a2 false _ ?side1 ?side2 A50.out).mono ?_); (case side1 => exact qc (Kd.R_reads' HO123.out).2.2); (case side2 => exact (Kd.R_reads' HO123.out).2.1); rintro e w75 ⟨rfl, hb⟩; refine ⟨_, rfl, ?_⟩; have n0_ := q0 (Kd.R_below (qr HO_34.out) hb); have n1_ := q0 (Kd.R_below (qr HO121.out) hb); have n2_ := q0 (Kd.R_below (qr HO123.out) hb); have n3_ := q0 (kb BK108.out hb); have n4_ := q0 (kb BK100.out hb); have n5_ := q0 (kb BK119.out hb); have n6_ := q0 (below_step (qb HB.out) hb); clear HO_34 HO121 HO123 BK108 BK100 BK119 HB; have HO_34 := n0_; have HO121 := n1_; have HO123 := n2_; have BK108 := n3_; have BK100 := n4_; have BK119 := n5_; have HB := n6_; clear n0_ n1_ n2_ n3_ n4_ n5_ n6_; (try clear hb); (try clear hb2); (try clear hk); (try clear hi); have hcz76_0 : w75.cell? ⟨gb119, 0, none⟩ = some (.int .i64 ((rd_TTie t101 x36_2).f0)) := (blk_cell BK119.out 0).trans rfl; have hcz76_1 : w75.cell? ⟨gb119, 1, none⟩ = some (.int .i64 ((rd_TTie t101 x36_2).f1)) := (blk_cell BK119.out 1).trans rfl; have hfz76_0 := blk_frozen BK119.out 0; have hfz76_1 := blk_frozen BK119.out 1; have hcz77_0 : w75.cell? ⟨gb100, 0, none⟩ = some (.int .i64 x104000_2) := (blk_cell BK100.out 0).trans rfl; have hcz77_1 : w75.cell? ⟨gb100, 1, none⟩ = some (.int .i64 x104001_2) := (blk_cell BK100.out 1).trans rfl; have hfz77_0 := blk_frozen BK100.out 0; have hfz77_1 := blk_frozen BK100.out 1))
 refine bodyPost_ret (results_ct rfl _ _ gb100 27 #[.int .i64 ((rd_TTie t101 x36_2).f0), .int .i64 ((rd_TTie t101 x36_2).f1)] (0, 0) _ rfl (by (with_reducible repeat (first | refine blk_drewN ?_ _ | refine blk_drew ?_ | refine blk_alloc ?_ _)); refine blk_put (cs := #[.int .i64 ((rd_TTie t101 x36_2).f0), .int .i64 x104001_2]) ?_ 1 _ rfl; (with_reducible repeat (first | refine blk_drewN ?_ _ | refine blk_drew ?_ | refine blk_alloc ?_ _)); refine blk_put (cs := #[.int .i64 x104000_2, .int .i64 x104001_2]) ?_ 0 _ rfl; (with_reducible repeat (first | refine blk_drewN ?_ _ | refine blk_drew ?_ | refine blk_alloc ?_ _)); exact BK100.out) Try.underlying27 rfl (by kernel_rfl)) rfl ?_
 exact ⟨qe, qb HB.out⟩

set_option maxHeartbeats 8000000 in
set_option maxRecDepth 100000 in
theorem laws_FnExactBridgeApart.calls (k : Nat) (a0_0 : Int) (A0_1 : Option Addr) (c0_1 : Nat) (l0_1 : List (SLTie)) (a1 : Int) (a2 : Int) (r : Bool) (w : World) (hr0_1 : Kd.C kLTie w A0_1 l0_1.length l0_1) (hc0_1 : l0_1.length ≤ c0_1) (h : laws_FnExactBridgeApart.f k a0_0 l0_1 a1 a2 = some r) :
    Calls Try.prog 3 #[.agg #[.int .i64 a0_0, .slice A0_1 l0_1.length c0_1], .int .i64 a1, .int .i64 a2] w fun e w' => e = .returned (.bool r) ∧ Below w.heap.size w w' := by
 have hu24 := Try.underlying24
 have hu27 := Try.underlying27
 have hu32 := Try.underlying32
 have HR0_1 := Aside0.mk hr0_1
 have HC0_1 := Aside0.mk hc0_1
 clear hr0_1 hc0_1
 have HB := q0 (Below.refl w.heap.size w)
 have H : ((laws_szNet.f a0_0 l0_1 1048576).bind fun t100 => (if t100 < 0 then (some true) else ((laws_toNet.f k a0_0 l0_1).bind fun bt104 => ((spec_BridgeApart.f k bt104.1 bt104.2 a1 a2).bind fun bt105 => ((laws_toNet.f k a0_0 l0_1).bind fun bt106 => ((impl_BridgeApart.f k bt106.1 bt106.2 a1 a2).bind fun bt101 => ((laws_eqTie.f bt101.1 bt101.2.1 bt105.1 bt105.2.1).bind fun t107 => (if t107 = true then (laws_FnExactBridgeApart.j0 k (bt101.2.2 != bt105.2.2) a0_0 l0_1 bt106.1 bt106.2) else (laws_FnExactBridgeApart.j0 k true a0_0 l0_1 bt106.1 bt106.2))))))))) = some r := h
 clear h
 replace H := Option.bind_eq_some_iff.mp H
 obtain ⟨t100, A40, H⟩ := H
 replace H : (if t100 < 0 then (some true) else ((laws_toNet.f k a0_0 l0_1).bind fun bt104 => ((spec_BridgeApart.f k bt104.1 bt104.2 a1 a2).bind fun bt105 => ((laws_toNet.f k a0_0 l0_1).bind fun bt106 => ((impl_BridgeApart.f k bt106.1 bt106.2 a1 a2).bind fun bt101 => ((laws_eqTie.f bt101.1 bt101.2.1 bt105.1 bt105.2.1).bind fun t107 => (if t107 = true then (laws_FnExactBridgeApart.j0 k (bt101.2.2 != bt105.2.2) a0_0 l0_1 bt106.1 bt106.2) else (laws_FnExactBridgeApart.j0 k true a0_0 l0_1 bt106.1 bt106.2)))))))) = some r := H
 have A4 := Aside0.mk A40
 clear A40
 by_cases c5 : t100 < 0
 · rw [if_pos c5] at H
   have c5b0 : decide (t100 < 0) = true := decide_eq_true c5
   clear c5
   obtain rfl := Option.some.inj H
   go_enter Try.func3, Try.ntmps3
   go_wp2_with (first | ((with_reducible refine gate_dst (N := 3) rfl ?_); refine be 3 #[.int .i64 a0_0, .slice A0_1 l0_1.length c0_1] 24 ?_; intro gb108 hg w6 hbox hb; have n0_ := q0 (below_step (qb HB.out) hb); have n1_ := q0 (hbox); have n2_ := q0 ((bs HB.out hg : w.heap.size ≤ gb108)); have n3_ := q0 ((bs HB.out hg : w.heap.size ≤ gb108)); clear HB; have HB := n0_; have BK108 := n1_; have GW108 := n2_; have GE108 := n3_; clear n0_ n1_ n2_ n3_ hb hbox hg; have hcz7_0 : w6.cell? ⟨gb108, 0, none⟩ = some (.int .i64 a0_0) := (blk_cell BK108.out 0).trans rfl; have hcz7_1 : w6.cell? ⟨gb108, 1, none⟩ = some (.slice A0_1 l0_1.length c0_1) := (blk_cell BK108.out 1).trans rfl; have hfz7_0 := blk_frozen BK108.out 0; have hfz7_1 := blk_frozen BK108.out 1) | ((with_reducible refine gate_callee (f := 13) rfl ?_); refine goesL_ (some 15) rfl rfl Try.func13 (by kernel_rfl) rfl #[.agg #[.int .i64 a0_0, .slice A0_1 l0_1.length c0_1], .int .i64 1048576] rfl qm ?_; (with_reducible refine (laws_szNet.calls a0_0 _ _ l0_1 1048576 t100 _ ?side1 ?side2 A4.out).mono ?_); (case side1 => exact qc (Kd.C_below HR0_1.out HB.out)); (case side2 => exact HC0_1.out); rintro e w8 ⟨rfl, hb⟩; refine ⟨_, rfl, ?_⟩; have n0_ := q0 (kb BK108.out hb); have n1_ := q0 (below_step (qb HB.out) hb); clear BK108 HB; have BK108 := n0_; have HB := n1_; clear n0_ n1_; (try clear hb); (try clear hb2); (try clear hk); (try clear hi)))
   go_ret
   exact ⟨qe, qb HB.out⟩
 rw [if_neg c5] at H
 have c5b0 : decide (t100 < 0) = false := decide_eq_false c5
 clear c5
 replace H := Option.bind_eq_some_iff.mp H
 obtain ⟨⟨t104, t109⟩, A90, H⟩ := H
 replace H : ((spec_BridgeApart.f k t104 t109 a1 a2).bind fun bt105 => ((laws_toNet.f k a0_0 l0_1).bind fun bt106 => ((impl_BridgeApart.f k bt106.1 bt106.2 a1 a2).bind fun bt101 => ((laws_eqTie.f bt101.1 bt101.2.1 bt105.1 bt105.2.1).bind fun t107 => (if t107 = true then (laws_FnExactBridgeApart.j0 k (bt101.2.2 != bt105.2.2) a0_0 l0_1 bt106.1 bt106.2) else (laws_FnExactBridgeApart.j0 k true a0_0 l0_1 bt106.1 bt106.2)))))) = some r := H
 have A9 := Aside0.mk A90
 clear A90
 replace H := Option.bind_eq_some_iff.mp H
 obtain ⟨⟨t105, t110, t111⟩, A112, H⟩ := H
 replace H : ((laws_toNet.f k a0_0 l0_1).bind fun bt106 => ((impl_BridgeApart.f k bt106.1 bt106.2 a1 a2).bind fun bt101 => ((laws_eqTie.f bt101.1 bt101.2.1 t105 t110).bind fun t107 => (if t107 = true then (laws_FnExactBridgeApart.j0 k (bt101.2.2 != t111) a0_0 l0_1 bt106.1 bt106.2) else (laws_FnExactBridgeApart.j0 k true a0_0 l0_1 bt106.1 bt106.2))))) = some r := H
 have A10 := Aside0.mk A112
 clear A112
 replace H := Option.bind_eq_some_iff.mp H
 obtain ⟨⟨t106, t113⟩, A114, H⟩ := H
 replace H : ((impl_BridgeApart.f k t106 t113 a1 a2).bind fun bt101 => ((laws_eqTie.f bt101.1 bt101.2.1 t105 t110).bind fun t107 => (if t107 = true then (laws_FnExactBridgeApart.j0 k (bt101.2.2 != t111) a0_0 l0_1 t106 t113) else (laws_FnExactBridgeApart.j0 k true a0_0 l0_1 t106 t113)))) = some r := H
 have A11 := Aside0.mk A114
 clear A114
 replace H := Option.bind_eq_some_iff.mp H
 obtain ⟨⟨t101, t115, t116⟩, A117, H⟩ := H
 replace H : ((laws_eqTie.f t101 t115 t105 t110).bind fun t107 => (if t107 = true then (laws_FnExactBridgeApart.j0 k (t116 != t111) a0_0 l0_1 t106 t113) else (laws_FnExactBridgeApart.j0 k true a0_0 l0_1 t106 t113))) = some r := H
 have A12 := Aside0.mk A117
 clear A117
 have HC13 := Aside0.mk H
 clear H
 go_enter Try.func3, Try.ntmps3
 go_upto_region 8 with (first | ((with_reducible refine gate_dst (N := 3) rfl ?_); refine be 3 #[.int .i64 a0_0, .slice A0_1 l0_1.length c0_1] 24 ?_; intro gb108 hg w14 hbox hb; have n0_ := q0 (below_step (qb HB.out) hb); have n1_ := q0 (hbox); have n2_ := q0 ((bs HB.out hg : w.heap.size ≤ gb108)); have n3_ := q0 ((bs HB.out hg : w.heap.size ≤ gb108)); clear HB; have HB := n0_; have BK108 := n1_; have GW108 := n2_; have GE108 := n3_; clear n0_ n1_ n2_ n3_ hb hbox hg; have hcz15_0 : w14.cell? ⟨gb108, 0, none⟩ = some (.int .i64 a0_0) := (blk_cell BK108.out 0).trans rfl; have hcz15_1 : w14.cell? ⟨gb108, 1, none⟩ = some (.slice A0_1 l0_1.length c0_1) := (blk_cell BK108.out 1).trans rfl; have hfz15_0 := blk_frozen BK108.out 0; have hfz15_1 := blk_frozen BK108.out 1) | ((with_reducible refine gate_callee (f := 13) rfl ?_); refine goesL_ (some 15) rfl rfl Try.func13 (by kernel_rfl) rfl #[.agg #[.int .i64 a0_0, .slice A0_1 l0_1.length c0_1], .int .i64 1048576] rfl qm ?_; (with_reducible refine (laws_szNet.calls a0_0 _ _ l0_1 1048576 t100 _ ?side1 ?side2 A4.out).mono ?_); (case side1 => exact qc (Kd.C_below HR0_1.out HB.out)); (case side2 => exact HC0_1.out); rintro e w16 ⟨rfl, hb⟩; refine ⟨_, rfl, ?_⟩; have n0_ := q0 (kb BK108.out hb); have n1_ := q0 (below_step (qb HB.out) hb); clear BK108 HB; have BK108 := n0_; have HB := n1_; clear n0_ n1_; (try clear hb); (try clear hb2); (try clear hk); (try clear hi); have hcz17_0 : w16.cell? ⟨gb108, 0, none⟩ = some (.int .i64 a0_0) := (blk_cell BK108.out 0).trans rfl; have hcz17_1 : w16.cell? ⟨gb108, 1, none⟩ = some (.slice A0_1 l0_1.length c0_1) := (blk_cell BK108.out 1).trans rfl; have hfz17_0 := blk_frozen BK108.out 0; have hfz17_1 := blk_frozen BK108.out 1) | ((with_reducible refine gate_callee (f := 15) rfl ?_); refine goesL_ (some 20) rfl rfl Try.func15 (by kernel_rfl) rfl #[.agg #[.int .i64 a0_0, .slice A0_1 l0_1.length c0_1]] rfl qm ?_; (with_reducible refine (laws_toNet.calls k a0_0 _ _ l0_1 t104 t109 _ ?side1 ?side2 A9.out).mono ?_); (case side1 => exact qc (Kd.C_below HR0_1.out HB.out)); (case side2 => exact HC0_1.out); rintro e w18 ⟨v118, rfl, ho0, hb⟩; refine ⟨_, rfl, ?_⟩; have n0_ := q0 (Kd.R_lower ho0 (below_size (qb HB.out))); have n1_ := q0 (kb BK108.out hb); have n2_ := q0 (below_step (qb HB.out) hb); clear BK108 HB; have HO119 := n0_; have BK108 := n1_; have HB := n2_; clear n0_ n1_ n2_; (try clear hb); (try clear hb2); (try clear hk); (try clear hi); (try clear ho0); obtain ⟨Ao19, co19, eo19⟩ := Kd.R_slice HO119.out; subst eo19) | ((with_reducible refine gate_callee (f := 14) rfl ?_); refine goesL_ (some 23) rfl rfl Try.func14 (by kernel_rfl) rfl #[.agg #[.int .i64 t104, .slice Ao19 t109.length co19], .int .i64 a1, .int .i64 a2] rfl qm ?_; (with_reducible refine (spec_BridgeApart.calls k t104 _ _ t109 a1 a2 t105 t110 t111 _ ?side1 ?side2 A10.out).mono ?_); (case side1 => exact qc (Kd.R_reads' HO119.out).2.2); (case side2 => exact (Kd.R_reads' HO119.out).2.1); rintro e w20 ⟨rfl, hb⟩; refine ⟨_, rfl, ?_⟩; have n0_ := q0 (Kd.R_below (qr HO119.out) hb); have n1_ := q0 (kb BK108.out hb); have n2_ := q0 (below_step (qb HB.out) hb); clear HO119 BK108 HB; have HO119 := n0_; have BK108 := n1_; have HB := n2_; clear n0_ n1_ n2_; (try clear hb); (try clear hb2); (try clear hk); (try clear hi)) | ((with_reducible refine gate_dst (N := 8) rfl ?_); refine be 8 #[.int .i64 0, .int .i64 0] 27 ?_; intro gb120 hg w21 hbox hb; have n0_ := q0 (Kd.R_below (Kd.R_elderB (qr HO119.out) gb120 (Nat.le_of_eq hg.symm)) hb); have n1_ := q0 (kb BK108.out hb); have n2_ := q0 (below_step (qb HB.out) hb); have n3_ := q0 (hbox); have n4_ := q0 ((bs HB.out hg : w.heap.size ≤ gb120)); have n5_ := q0 ((bs HB.out hg : w.heap.size ≤ gb120)); have n6_ := q0 ((bl BK108.out hg : gb108 ≠ gb120)); have n7_ := q0 ((bg BK108.out hg : gb120 ≠ gb108)); clear HO119 BK108 HB; have HO119 := n0_; have BK108 := n1_; have HB := n2_; have BK120 := n3_; have GW120 := n4_; have GE120 := n5_; have NB108_120 := n6_; have NB120_108 := n7_; clear n0_ n1_ n2_ n3_ n4_ n5_ n6_ n7_ hb hbox hg; have hnb22 := NB120_108.out; have hnc22 := NB108_120.out; have hcz23_0 : w21.cell? ⟨gb120, 0, none⟩ = some (.int .i64 0) := (blk_cell BK120.out 0).trans rfl; have hcz23_1 : w21.cell? ⟨gb120, 1, none⟩ = some (.int .i64 0) := (blk_cell BK120.out 1).trans rfl; have hfz23_0 := blk_frozen BK120.out 0; have hfz23_1 := blk_frozen BK120.out 1; have hcz24_0 : w21.cell? ⟨gb108, 0, none⟩ = some (.int .i64 a0_0) := (blk_cell BK108.out 0).trans rfl; have hcz24_1 : w21.cell? ⟨gb108, 1, none⟩ = some (.slice A0_1 l0_1.length c0_1) := (blk_cell BK108.out 1).trans rfl; have hfz24_0 := blk_frozen BK108.out 0; have hfz24_1 := blk_frozen BK108.out 1) | ((with_reducible refine gate_callee (f := 15) rfl ?_); refine goesL_ (some 27) rfl rfl Try.func15 (by kernel_rfl) rfl #[.agg #[.int .i64 a0_0, .slice A0_1 l0_1.length c0_1]] rfl qm ?_; (with_reducible refine (laws_toNet.calls k a0_0 _ _ l0_1 t106 t113 _ ?side1 ?side2 A11.out).mono ?_); (case side1 => exact Kd.C_below HR0_1.out (qb HB.out)); (case side2 => exact HC0_1.out); rintro e w25 ⟨v121, rfl, ho0, hb⟩; refine ⟨_, rfl, ?_⟩; have n0_ := q0 (Kd.R_elder' (by (with_reducible repeat (first | apply Kd.R_alloc | apply Kd.R_drewN | apply Kd.R_drew)); exact (Kd.R_mono (Kd.R_far (p := ⟨gb120, 1, none⟩) (Kd.R_far (p := ⟨gb120, 0, none⟩) (Kd.R_mono HO119.out (fun k_ hk => (⟨hk, hk.2⟩ : _ ∧ k_ ≠ gb120))) (fun _ hk => hk.2) (.int .i64 t105)) (fun _ hk => hk.2) (.int .i64 t110)) (fun _ h_ => h_.1))) (Kd.R_base ho0) hb); have n1_ := q0 (Kd.R_lower (Kd.R_newB (Kd.R_new' ho0 (Kd.R_lt (by (with_reducible repeat (first | apply Kd.R_alloc | apply Kd.R_drewN | apply Kd.R_drew)); exact (Kd.R_mono (Kd.R_far (p := ⟨gb120, 1, none⟩) (Kd.R_far (p := ⟨gb120, 0, none⟩) (Kd.R_mono HO119.out (fun k_ hk => (⟨hk, hk.2⟩ : _ ∧ k_ ≠ gb120))) (fun _ hk => hk.2) (.int .i64 t105)) (fun _ hk => hk.2) (.int .i64 t110)) (fun _ h_ => h_.1))))) (g := gb120) (o := .cells #[.int .i64 t105, .int .i64 t110] 27 (0, 0)) (by (with_reducible repeat (first | refine blk_drewN ?_ _ | refine blk_drew ?_ | refine blk_alloc ?_ _)); refine blk_put (cs := #[.int .i64 t105, .int .i64 0]) ?_ 1 _ rfl; (with_reducible repeat (first | refine blk_drewN ?_ _ | refine blk_drew ?_ | refine blk_alloc ?_ _)); refine blk_put (cs := #[.int .i64 0, .int .i64 0]) ?_ 0 _ rfl; (with_reducible repeat (first | refine blk_drewN ?_ _ | refine blk_drew ?_ | refine blk_alloc ?_ _)); exact BK120.out)) (below_size (qb HB.out))); have n2_ := q0 (blk_below (g := gb108) (o := .cells #[.int .i64 a0_0, .slice A0_1 l0_1.length c0_1] 24 (0, 0)) (qf BK108.out) hb); have n3_ := q0 (blk_below (g := gb120) (o := .cells #[.int .i64 t105, .int .i64 t110] 27 (0, 0)) (by (with_reducible repeat (first | refine blk_drewN ?_ _ | refine blk_drew ?_ | refine blk_alloc ?_ _)); refine blk_put (cs := #[.int .i64 t105, .int .i64 0]) ?_ 1 _ rfl; (with_reducible repeat (first | refine blk_drewN ?_ _ | refine blk_drew ?_ | refine blk_alloc ?_ _)); refine blk_put (cs := #[.int .i64 0, .int .i64 0]) ?_ 0 _ rfl; (with_reducible repeat (first | refine blk_drewN ?_ _ | refine blk_drew ?_ | refine blk_alloc ?_ _)); exact BK120.out) hb); have n4_ := q0 (below_step (qb HB.out) hb); clear HO119 BK108 BK120 HB; have HO119 := n0_; have HO122 := n1_; have BK108 := n2_; have BK120 := n3_; have HB := n4_; clear n0_ n1_ n2_ n3_ n4_; (try clear hb); (try clear hb2); (try clear hk); (try clear hi); (try clear ho0)) | ((with_reducible refine gate_dst (N := 10) rfl ?_); refine be 10 #[.int .i64 0, .slice none 0 0] 32 ?_; intro gb123 hg w26 hbox hb; have n0_ := q0 (Kd.R_below (qr HO119.out) hb); have n1_ := q0 (Kd.R_below (qr HO122.out) hb); have n2_ := q0 (kb BK108.out hb); have n3_ := q0 (kb BK120.out hb); have n4_ := q0 (below_step (qb HB.out) hb); have n5_ := q0 (hbox); have n6_ := q0 ((bs HB.out hg : w.heap.size ≤ gb123)); have n7_ := q0 ((bs HB.out hg : w.heap.size ≤ gb123)); have n8_ := q0 ((bl BK108.out hg : gb108 ≠ gb123)); have n9_ := q0 ((bg BK108.out hg : gb123 ≠ gb108)); have n10_ := q0 ((bl BK120.out hg : gb120 ≠ gb123)); have n11_ := q0 ((bg BK120.out hg : gb123 ≠ gb120)); clear HO119 HO122 BK108 BK120 HB; have HO119 := n0_; have HO122 := n1_; have BK108 := n2_; have BK120 := n3_; have HB := n4_; have BK123 := n5_; have GW123 := n6_; have GE123 := n7_; have NB108_123 := n8_; have NB123_108 := n9_; have NB120_123 := n10_; have NB123_120 := n11_; clear n0_ n1_ n2_ n3_ n4_ n5_ n6_ n7_ n8_ n9_ n10_ n11_ hb hbox hg; have hnb27 := NB123_108.out; have hnc27 := NB108_123.out; have hnb28 := NB123_120.out; have hnc28 := NB120_123.out; have hcz29_0 : w26.cell? ⟨gb123, 0, none⟩ = some (.int .i64 0) := (blk_cell BK123.out 0).trans rfl; have hcz29_1 : w26.cell? ⟨gb123, 1, none⟩ = some (.slice none 0 0) := (blk_cell BK123.out 1).trans rfl; have hfz29_0 := blk_frozen BK123.out 0; have hfz29_1 := blk_frozen BK123.out 1; obtain ⟨Ao30, co30, eo30⟩ := Kd.R_slice HO122.out; subst eo30) | ((with_reducible refine gate_callee (f := 16) rfl ?_); refine goesL_ (some 32) rfl rfl Try.func16 (by kernel_rfl) rfl #[.agg #[.int .i64 t106, .slice Ao30 t113.length co30], .int .i64 a1, .int .i64 a2] rfl qm ?_; (with_reducible refine (impl_BridgeApart.calls k t106 _ _ t113 a1 a2 t101 t115 t116 _ ?side1 ?side2 A12.out).mono ?_); (case side1 => refine (Kd.R_reads' (e := 27) (base := w.heap.size) (ok := fun k_ => ((True ∧ some k_ ≠ (.slice Ao19 t109.length co19 : Value).ownBlock) ∧ k_ ≠ gb120)) (n := t113.length) (c := co30) ?_).2.2; exact (by (with_reducible repeat (first | apply Kd.R_alloc | apply Kd.R_drewN | apply Kd.R_drew)); exact (Kd.R_mono (Kd.R_far (p := ⟨gb123, 1, none⟩) (Kd.R_far (p := ⟨gb123, 0, none⟩) (Kd.R_types HO122.out BK123.out (by decide)) (fun _ hk => hk.2) (.int .i64 t106)) (fun _ hk => hk.2) (.slice Ao30 t113.length co30)) (fun _ h_ => h_.1)))); (case side2 => exact (Kd.R_reads' HO122.out).2.1); rintro e w31 ⟨rfl, hb⟩; refine ⟨_, rfl, ?_⟩; have n0_ := q0 (Kd.R_below (by (with_reducible repeat (first | apply Kd.R_alloc | apply Kd.R_drewN | apply Kd.R_drew)); exact (Kd.R_mono (Kd.R_far (p := ⟨gb123, 1, none⟩) (Kd.R_far (p := ⟨gb123, 0, none⟩) (Kd.R_types HO119.out BK123.out (by decide)) (fun _ hk => hk.2) (.int .i64 t106)) (fun _ hk => hk.2) (.slice Ao30 t113.length co30)) (fun _ h_ => h_.1))) hb); have n1_ := q0 (Kd.R_below (by (with_reducible repeat (first | apply Kd.R_alloc | apply Kd.R_drewN | apply Kd.R_drew)); exact (Kd.R_mono (Kd.R_far (p := ⟨gb123, 1, none⟩) (Kd.R_far (p := ⟨gb123, 0, none⟩) (Kd.R_types HO122.out BK123.out (by decide)) (fun _ hk => hk.2) (.int .i64 t106)) (fun _ hk => hk.2) (.slice Ao30 t113.length co30)) (fun _ h_ => h_.1))) hb); have n2_ := q0 (blk_below (g := gb108) (o := .cells #[.int .i64 a0_0, .slice A0_1 l0_1.length c0_1] 24 (0, 0)) (qf BK108.out) hb); have n3_ := q0 (blk_below (g := gb120) (o := .cells #[.int .i64 t105, .int .i64 t110] 27 (0, 0)) (qf BK120.out) hb); have n4_ := q0 (blk_below (g := gb123) (o := .cells #[.int .i64 t106, .slice Ao30 t113.length co30] 32 (0, 0)) (by (with_reducible repeat (first | refine blk_drewN ?_ _ | refine blk_drew ?_ | refine blk_alloc ?_ _)); refine blk_put (cs := #[.int .i64 t106, .slice none 0 0]) ?_ 1 _ rfl; (with_reducible repeat (first | refine blk_drewN ?_ _ | refine blk_drew ?_ | refine blk_alloc ?_ _)); refine blk_put (cs := #[.int .i64 0, .slice none 0 0]) ?_ 0 _ rfl; (with_reducible repeat (first | refine blk_drewN ?_ _ | refine blk_drew ?_ | refine blk_alloc ?_ _)); exact BK123.out) hb); have n5_ := q0 (below_step (qb HB.out) hb); clear HO119 HO122 BK108 BK120 BK123 HB; have HO119 := n0_; have HO122 := n1_; have BK108 := n2_; have BK120 := n3_; have BK123 := n4_; have HB := n5_; clear n0_ n1_ n2_ n3_ n4_ n5_; (try clear hb); (try clear hb2); (try clear hk); (try clear hi)) | ((with_reducible refine gate_dst (N := 11) rfl ?_); refine be 11 #[.int .i64 0, .int .i64 0] 27 ?_; intro gb124 hg w32 hbox hb; have n0_ := q0 (Kd.R_below (Kd.R_elderB (qr HO119.out) gb124 (Nat.le_of_eq hg.symm)) hb); have n1_ := q0 (Kd.R_below (Kd.R_elderB (qr HO122.out) gb124 (Nat.le_of_eq hg.symm)) hb); have n2_ := q0 (kb BK108.out hb); have n3_ := q0 (kb BK120.out hb); have n4_ := q0 (kb BK123.out hb); have n5_ := q0 (below_step (qb HB.out) hb); have n6_ := q0 (hbox); have n7_ := q0 ((bs HB.out hg : w.heap.size ≤ gb124)); have n8_ := q0 ((bs HB.out hg : w.heap.size ≤ gb124)); have n9_ := q0 ((bl BK108.out hg : gb108 ≠ gb124)); have n10_ := q0 ((bg BK108.out hg : gb124 ≠ gb108)); have n11_ := q0 ((bl BK120.out hg : gb120 ≠ gb124)); have n12_ := q0 ((bg BK120.out hg : gb124 ≠ gb120)); have n13_ := q0 ((bl BK123.out hg : gb123 ≠ gb124)); have n14_ := q0 ((bg BK123.out hg : gb124 ≠ gb123)); clear HO119 HO122 BK108 BK120 BK123 HB; have HO119 := n0_; have HO122 := n1_; have BK108 := n2_; have BK120 := n3_; have BK123 := n4_; have HB := n5_; have BK124 := n6_; have GW124 := n7_; have GE124 := n8_; have NB108_124 := n9_; have NB124_108 := n10_; have NB120_124 := n11_; have NB124_120 := n12_; have NB123_124 := n13_; have NB124_123 := n14_; clear n0_ n1_ n2_ n3_ n4_ n5_ n6_ n7_ n8_ n9_ n10_ n11_ n12_ n13_ n14_ hb hbox hg; have hnb33 := NB124_108.out; have hnc33 := NB108_124.out; have hnb34 := NB124_120.out; have hnc34 := NB120_124.out; have hnb35 := NB124_123.out; have hnc35 := NB123_124.out; have hcz36_0 : w32.cell? ⟨gb124, 0, none⟩ = some (.int .i64 0) := (blk_cell BK124.out 0).trans rfl; have hcz36_1 : w32.cell? ⟨gb124, 1, none⟩ = some (.int .i64 0) := (blk_cell BK124.out 1).trans rfl; have hfz36_0 := blk_frozen BK124.out 0; have hfz36_1 := blk_frozen BK124.out 1))
 (try simp only [Act.put, List.setIfInBounds_toArray, List.set_cons_zero, List.set_cons_succ])
 go_cut [43] (fun v43 wc => ∃ (kq : Nat) (x43_12 : Bool), v43 = .bool x43_12 ∧ Aside0 (laws_FnExactBridgeApart.j0 kq x43_12 a0_0 l0_1 t106 t113 = some r) ∧ Aside0 (kq ≤ k) ∧ Aside0 (Kd.R kTie 27 wc w.heap.size (fun k_ => k_ ≠ gb120 ∧ k_ ≠ gb124) (.slice Ao30 t113.length co30) t113) ∧ Aside0 (wc.heap[gb108]? = some (.cells #[.int .i64 a0_0, (.slice A0_1 l0_1.length c0_1)] 24 (0, 0))) ∧ Aside0 (wc.heap[gb120]? = some (.cells #[.int .i64 t105, .int .i64 t110] 27 (0, 0))) ∧ Aside0 (wc.heap[gb123]? = some (.cells #[.int .i64 t106, (.slice Ao30 t113.length co30)] 32 (0, 0))) ∧ Aside0 (wc.heap[gb124]? = some (.cells #[.int .i64 t101, .int .i64 t115] 27 (0, 0))) ∧ Aside0 (Below w.heap.size w wc))
 case first =>
   have H := HC13.out
   clear HC13
   replace H := Option.bind_eq_some_iff.mp H
   obtain ⟨t107, A125, H⟩ := H
   replace H : (if t107 = true then (laws_FnExactBridgeApart.j0 k (t116 != t111) a0_0 l0_1 t106 t113) else (laws_FnExactBridgeApart.j0 k true a0_0 l0_1 t106 t113)) = some r := H
   have A37 := Aside0.mk A125
   clear A125
   by_cases c38 : t107 = true
   · subst c38
     have H1 : (laws_FnExactBridgeApart.j0 k (t116 != t111) a0_0 l0_1 t106 t113) = some r := by rw [if_pos rfl] at H; exact H
     clear H
     have H := H1
     clear H1
     have H' := Aside0.mk H
     clear H
     have hnb39 := NB124_108.out
     have hnc39 := NB108_124.out
     have hnb40 := NB124_120.out
     have hnc40 := NB120_124.out
     have hnb41 := NB124_123.out
     have hnc41 := NB123_124.out
     have hcz42_0 : w32.cell? ⟨gb124, 0, none⟩ = some (.int .i64 0) := (blk_cell BK124.out 0).trans rfl
     have hcz42_1 : w32.cell? ⟨gb124, 1, none⟩ = some (.int .i64 0) := (blk_cell BK124.out 1).trans rfl
     have hfz42_0 := blk_frozen BK124.out 0
     have hfz42_1 := blk_frozen BK124.out 1
     have hnb43 := NB120_108.out
     have hnc43 := NB108_120.out
     have hnb44 := NB120_123.out
     have hnc44 := NB123_120.out
     have hcz45_0 : w32.cell? ⟨gb120, 0, none⟩ = some (.int .i64 t105) := (blk_cell BK120.out 0).trans rfl
     have hcz45_1 : w32.cell? ⟨gb120, 1, none⟩ = some (.int .i64 t110) := (blk_cell BK120.out 1).trans rfl
     have hfz45_0 := blk_frozen BK120.out 0
     have hfz45_1 := blk_frozen BK120.out 1
     go_wp2_with (first | ((with_reducible refine gate_callee (f := 17) rfl ?_); refine goesL_ (some 37) rfl rfl Try.func17 (by kernel_rfl) rfl #[.agg #[.int .i64 t101, .int .i64 t115], .agg #[.int .i64 t105, .int .i64 t110]] rfl qm ?_; (with_reducible refine (laws_eqTie.calls t101 t115 t105 t110 true _ A37.out).mono ?_); rintro e w46 ⟨rfl, hb⟩; refine ⟨_, rfl, ?_⟩; have n0_ := q0 (Kd.R_below (by (with_reducible repeat (first | apply Kd.R_alloc | apply Kd.R_drewN | apply Kd.R_drew)); exact (Kd.R_mono (Kd.R_far (p := ⟨gb124, 1, none⟩) (Kd.R_far (p := ⟨gb124, 0, none⟩) (Kd.R_mono HO119.out (fun k_ hk => (⟨hk, hk.2⟩ : _ ∧ k_ ≠ gb124))) (fun _ hk => hk.2) (.int .i64 t101)) (fun _ hk => hk.2) (.int .i64 t115)) (fun _ h_ => h_.1))) hb); have n1_ := q0 (Kd.R_below (by (with_reducible repeat (first | apply Kd.R_alloc | apply Kd.R_drewN | apply Kd.R_drew)); exact (Kd.R_mono (Kd.R_far (p := ⟨gb124, 1, none⟩) (Kd.R_far (p := ⟨gb124, 0, none⟩) (Kd.R_mono HO122.out (fun k_ hk => (⟨hk, hk.2⟩ : _ ∧ k_ ≠ gb124))) (fun _ hk => hk.2) (.int .i64 t101)) (fun _ hk => hk.2) (.int .i64 t115)) (fun _ h_ => h_.1))) hb); have n2_ := q0 (blk_below (g := gb108) (o := .cells #[.int .i64 a0_0, .slice A0_1 l0_1.length c0_1] 24 (0, 0)) (qf BK108.out) hb); have n3_ := q0 (blk_below (g := gb120) (o := .cells #[.int .i64 t105, .int .i64 t110] 27 (0, 0)) (qf BK120.out) hb); have n4_ := q0 (blk_below (g := gb123) (o := .cells #[.int .i64 t106, .slice Ao30 t113.length co30] 32 (0, 0)) (qf BK123.out) hb); have n5_ := q0 (blk_below (g := gb124) (o := .cells #[.int .i64 t101, .int .i64 t115] 27 (0, 0)) (by (with_reducible repeat (first | refine blk_drewN ?_ _ | refine blk_drew ?_ | refine blk_alloc ?_ _)); refine blk_put (cs := #[.int .i64 t101, .int .i64 0]) ?_ 1 _ rfl; (with_reducible repeat (first | refine blk_drewN ?_ _ | refine blk_drew ?_ | refine blk_alloc ?_ _)); refine blk_put (cs := #[.int .i64 0, .int .i64 0]) ?_ 0 _ rfl; (with_reducible repeat (first | refine blk_drewN ?_ _ | refine blk_drew ?_ | refine blk_alloc ?_ _)); exact BK124.out) hb); have n6_ := q0 (below_step (qb HB.out) hb); clear HO119 HO122 BK108 BK120 BK123 BK124 HB; have HO119 := n0_; have HO122 := n1_; have BK108 := n2_; have BK120 := n3_; have BK123 := n4_; have BK124 := n5_; have HB := n6_; clear n0_ n1_ n2_ n3_ n4_ n5_ n6_; (try clear hb); (try clear hb2); (try clear hk); (try clear hi)))
     go_meet
     case rel => exact ⟨_, ((t116 != t111)), qs, H', ⟨by first | omega | exact Nat.le_refl _⟩, ⟨by (with_reducible repeat (first | apply Kd.R_alloc | apply Kd.R_drewN | apply Kd.R_drew)); exact Kd.R_mono HO122.out (fun _ hk => ⟨hk.1.2, hk.2⟩)⟩, ⟨qk BK108.out⟩, ⟨qk BK120.out⟩, ⟨qk BK123.out⟩, ⟨qk BK124.out⟩, ⟨qb HB.out⟩⟩
   replace c38 := Bool.eq_false_iff.mpr c38
   subst c38
   have H1 : (laws_FnExactBridgeApart.j0 k true a0_0 l0_1 t106 t113) = some r := by rw [if_neg (show ¬ (false = true) by decide)] at H; exact H
   clear H
   have H := H1
   clear H1
   have H' := Aside0.mk H
   clear H
   have hnb47 := NB124_108.out
   have hnc47 := NB108_124.out
   have hnb48 := NB124_120.out
   have hnc48 := NB120_124.out
   have hnb49 := NB124_123.out
   have hnc49 := NB123_124.out
   have hcz50_0 : w32.cell? ⟨gb124, 0, none⟩ = some (.int .i64 0) := (blk_cell BK124.out 0).trans rfl
   have hcz50_1 : w32.cell? ⟨gb124, 1, none⟩ = some (.int .i64 0) := (blk_cell BK124.out 1).trans rfl
   have hfz50_0 := blk_frozen BK124.out 0
   have hfz50_1 := blk_frozen BK124.out 1
   have hnb51 := NB120_108.out
   have hnc51 := NB108_120.out
   have hnb52 := NB120_123.out
   have hnc52 := NB123_120.out
   have hcz53_0 : w32.cell? ⟨gb120, 0, none⟩ = some (.int .i64 t105) := (blk_cell BK120.out 0).trans rfl
   have hcz53_1 : w32.cell? ⟨gb120, 1, none⟩ = some (.int .i64 t110) := (blk_cell BK120.out 1).trans rfl
   have hfz53_0 := blk_frozen BK120.out 0
   have hfz53_1 := blk_frozen BK120.out 1
   go_wp2_with (first | ((with_reducible refine gate_callee (f := 17) rfl ?_); refine goesL_ (some 37) rfl rfl Try.func17 (by kernel_rfl) rfl #[.agg #[.int .i64 t101, .int .i64 t115], .agg #[.int .i64 t105, .int .i64 t110]] rfl qm ?_; (with_reducible refine (laws_eqTie.calls t101 t115 t105 t110 false _ A37.out).mono ?_); rintro e w54 ⟨rfl, hb⟩; refine ⟨_, rfl, ?_⟩; have n0_ := q0 (Kd.R_below (by (with_reducible repeat (first | apply Kd.R_alloc | apply Kd.R_drewN | apply Kd.R_drew)); exact (Kd.R_mono (Kd.R_far (p := ⟨gb124, 1, none⟩) (Kd.R_far (p := ⟨gb124, 0, none⟩) (Kd.R_mono HO119.out (fun k_ hk => (⟨hk, hk.2⟩ : _ ∧ k_ ≠ gb124))) (fun _ hk => hk.2) (.int .i64 t101)) (fun _ hk => hk.2) (.int .i64 t115)) (fun _ h_ => h_.1))) hb); have n1_ := q0 (Kd.R_below (by (with_reducible repeat (first | apply Kd.R_alloc | apply Kd.R_drewN | apply Kd.R_drew)); exact (Kd.R_mono (Kd.R_far (p := ⟨gb124, 1, none⟩) (Kd.R_far (p := ⟨gb124, 0, none⟩) (Kd.R_mono HO122.out (fun k_ hk => (⟨hk, hk.2⟩ : _ ∧ k_ ≠ gb124))) (fun _ hk => hk.2) (.int .i64 t101)) (fun _ hk => hk.2) (.int .i64 t115)) (fun _ h_ => h_.1))) hb); have n2_ := q0 (blk_below (g := gb108) (o := .cells #[.int .i64 a0_0, .slice A0_1 l0_1.length c0_1] 24 (0, 0)) (qf BK108.out) hb); have n3_ := q0 (blk_below (g := gb120) (o := .cells #[.int .i64 t105, .int .i64 t110] 27 (0, 0)) (qf BK120.out) hb); have n4_ := q0 (blk_below (g := gb123) (o := .cells #[.int .i64 t106, .slice Ao30 t113.length co30] 32 (0, 0)) (qf BK123.out) hb); have n5_ := q0 (blk_below (g := gb124) (o := .cells #[.int .i64 t101, .int .i64 t115] 27 (0, 0)) (by (with_reducible repeat (first | refine blk_drewN ?_ _ | refine blk_drew ?_ | refine blk_alloc ?_ _)); refine blk_put (cs := #[.int .i64 t101, .int .i64 0]) ?_ 1 _ rfl; (with_reducible repeat (first | refine blk_drewN ?_ _ | refine blk_drew ?_ | refine blk_alloc ?_ _)); refine blk_put (cs := #[.int .i64 0, .int .i64 0]) ?_ 0 _ rfl; (with_reducible repeat (first | refine blk_drewN ?_ _ | refine blk_drew ?_ | refine blk_alloc ?_ _)); exact BK124.out) hb); have n6_ := q0 (below_step (qb HB.out) hb); clear HO119 HO122 BK108 BK120 BK123 BK124 HB; have HO119 := n0_; have HO122 := n1_; have BK108 := n2_; have BK120 := n3_; have BK123 := n4_; have BK124 := n5_; have HB := n6_; clear n0_ n1_ n2_ n3_ n4_ n5_ n6_; (try clear hb); (try clear hb2); (try clear hk); (try clear hi)))
   go_meet
   case rel => exact ⟨_, (true), qs, H', ⟨by first | omega | exact Nat.le_refl _⟩, ⟨by (with_reducible repeat (first | apply Kd.R_alloc | apply Kd.R_drewN | apply Kd.R_drew)); exact Kd.R_mono HO122.out (fun _ hk => ⟨hk.1.2, hk.2⟩)⟩, ⟨qk BK108.out⟩, ⟨qk BK120.out⟩, ⟨qk BK123.out⟩, ⟨qk BK124.out⟩, ⟨qb HB.out⟩⟩
 clear HC13
 try clear c1
 try clear c2
 try clear p2
 try clear c3
 try clear c4
 try clear c5
 try clear c5b0
 try clear c13
 try clear c14
 try clear c15
 try clear c16
 try clear c17
 try clear c22
 try clear c27
 try clear c28
 try clear c33
 try clear c34
 try clear c35
 try clear c38
 try clear c39
 try clear c40
 try clear c41
 try clear c43
 try clear c44
 try clear c47
 try clear c48
 try clear c49
 try clear c51
 try clear c52
 try clear hcz15_0
 try clear hcz15_1
 try clear hcz17_0
 try clear hcz17_1
 try clear hcz23_0
 try clear hcz23_1
 try clear hcz24_0
 try clear hcz24_1
 try clear hcz29_0
 try clear hcz29_1
 try clear hcz36_0
 try clear hcz36_1
 try clear hcz42_0
 try clear hcz42_1
 try clear hcz45_0
 try clear hcz45_1
 try clear hcz50_0
 try clear hcz50_1
 try clear hcz53_0
 try clear hcz53_1
 try clear hcz7_0
 try clear hcz7_1
 try clear hfz15_0
 try clear hfz15_1
 try clear hfz17_0
 try clear hfz17_1
 try clear hfz23_0
 try clear hfz23_1
 try clear hfz24_0
 try clear hfz24_1
 try clear hfz29_0
 try clear hfz29_1
 try clear hfz36_0
 try clear hfz36_1
 try clear hfz42_0
 try clear hfz42_1
 try clear hfz45_0
 try clear hfz45_1
 try clear hfz50_0
 try clear hfz50_1
 try clear hfz53_0
 try clear hfz53_1
 try clear hfz7_0
 try clear hfz7_1
 obtain ⟨kq, x43_12, rfl, HA, HJ12, HO_101001, BK108, BK120, BK123, BK124, HB⟩ := hcut
 rcases kq with _ | kj12
 · exact absurd HA.out (by simp [laws_FnExactBridgeApart.j0])
 have H := HA.out
 clear HA
 simp only [laws_FnExactBridgeApart.j0] at H
 by_cases c55 : x43_12 = true
 · subst c55
   have H1 : (some false) = some r := by rw [if_pos rfl] at H; exact H
   clear H
   have H := H1
   clear H1
   obtain rfl := Option.some.inj H
   go_wp2
   go_ret
   exact ⟨qe, qb HB.out⟩
 replace c55 := Bool.eq_false_iff.mpr c55
 subst c55
 have H1 : ((laws_toNet.f kj12 a0_0 l0_1).bind fun bt102 => ((laws_eqNet.f kj12 t106 t113 bt102.1 bt102.2).bind fun t103 => (if t103 = true then (some true) else (some false)))) = some r := by rw [if_neg (show ¬ (false = true) by decide)] at H; exact H
 clear H
 have H := H1
 clear H1
 replace H := Option.bind_eq_some_iff.mp H
 obtain ⟨⟨t102, t125⟩, A126, H⟩ := H
 replace H : ((laws_eqNet.f kj12 t106 t113 t102 t125).bind fun t103 => (if t103 = true then (some true) else (some false))) = some r := H
 have A56 := Aside0.mk A126
 clear A126
 replace H := Option.bind_eq_some_iff.mp H
 obtain ⟨t103, A127, H⟩ := H
 replace H : (if t103 = true then (some true) else (some false)) = some r := H
 have A57 := Aside0.mk A127
 clear A127
 by_cases c58 : t103 = true
 · subst c58
   have H1 : (some true) = some r := by rw [if_pos rfl] at H; exact H
   clear H
   have H := H1
   clear H1
   obtain rfl := Option.some.inj H
   try go_wp2
   have n0_ := q0 (Kd.R_drew HO_101001.out)
   have n1_ := q0 (blk_drew BK108.out)
   have n2_ := q0 (blk_drew BK120.out)
   have n3_ := q0 (blk_drew BK123.out)
   have n4_ := q0 (blk_drew BK124.out)
   have n5_ := q0 (below_drew1 HB.out)
   clear HO_101001
   clear BK108
   clear BK120
   clear BK123
   clear BK124
   clear HB
   have HO_101001 := n0_
   have BK108 := n1_
   have BK120 := n2_
   have BK123 := n3_
   have BK124 := n4_
   have HB := n5_
   clear n0_ n1_ n2_ n3_ n4_ n5_
   refine start_ (n := 5) (S := fun w' => w'.cell? ⟨gb123, 0, none⟩ = some (.int .i64 t106) ∧ w'.cell? ⟨gb123, 1, none⟩ = some (.slice Ao30 t113.length co30) ∧ w'.cell? ⟨gb108, 0, none⟩ = some (.int .i64 a0_0) ∧ w'.cell? ⟨gb108, 1, none⟩ = some (.slice A0_1 l0_1.length c0_1)) (ds := []) (ba 5 0) (by kernel_rfl) rfl (by kernel_rfl) ⟨(blk_cell BK123.out 0).trans rfl, (blk_cell BK123.out 1).trans rfl, (blk_cell BK108.out 0).trans rfl, (blk_cell BK108.out 1).trans rfl⟩ (fun hHeld => ?_)
   generalize wc.drew = w59 at HO_101001 BK108 BK120 BK123 BK124 HB hHeld ⊢
   refine tw 0 (some 44) (ba 5 1) hHeld ?_
   refine tw 1 (some 45) (ba 5 3) hHeld ?_
   refine one_ (i := 2) (N := some 46) (ba 5 7) rfl rfl (by kernel_rfl) (by decide) (fun K hK => ?_)
   refine goes_ Try.func15 (by kernel_rfl) rfl #[.agg #[.int .i64 a0_0, .slice A0_1 l0_1.length c0_1]] (by rfl) rfl rfl qm ?_
   with_reducible refine (laws_toNet.calls kj12 a0_0 _ _ l0_1 t102 t125 _ ?side1 ?side2 A56.out).mono ?_
   (case side1 => exact qc (Kd.C_below HR0_1.out HB.out))
   (case side2 => exact HC0_1.out)
   rintro e w60 ⟨v128, rfl, ho0, hb⟩
   refine ⟨_, rfl, ?_⟩
   have n0_ := q0 (Kd.R_elder' (qr HO_101001.out) (Kd.R_base ho0) hb)
   have n1_ := q0 (Kd.R_lower (Kd.R_newB (Kd.R_newB (Kd.R_new' ho0 (Kd.R_lt (qr HO_101001.out))) (g := gb120) (o := .cells #[.int .i64 t105, .int .i64 t110] 27 (0, 0)) (qk BK120.out)) (g := gb124) (o := .cells #[.int .i64 t101, .int .i64 t115] 27 (0, 0)) (qk BK124.out)) (below_size (qb HB.out)))
   have n2_ := q0 (kb BK108.out hb)
   have n3_ := q0 (kb BK120.out hb)
   have n4_ := q0 (kb BK123.out hb)
   have n5_ := q0 (kb BK124.out hb)
   have n6_ := q0 (below_step (qb HB.out) hb)
   clear HO_101001
   clear BK108
   clear BK120
   clear BK123
   clear BK124
   clear HB
   have HO_101001 := n0_
   have HO129 := n1_
   have BK108 := n2_
   have BK120 := n3_
   have BK123 := n4_
   have BK124 := n5_
   have HB := n6_
   clear n0_ n1_ n2_ n3_ n4_ n5_ n6_
   (try clear hb)
   (try clear hb2)
   (try clear hk)
   (try clear hi)
   (try clear ho0)
   obtain ⟨Ao61, co61, eo61⟩ := Kd.R_slice HO129.out
   (first | subst eo61 | (injection eo61 with f1_ f2_ f3_; have f4_ := f1_.symm; have f5_ := f3_.symm; clear f1_ f2_ f3_; subst f4_; subst f5_))
   refine hK.out _ _ ⟨(blk_cell BK123.out 0).trans rfl, (blk_cell BK123.out 1).trans rfl, (blk_cell BK108.out 0).trans rfl, (blk_cell BK108.out 1).trans rfl⟩ (fun hHeld => ?_)
   clear hK K
   refine nu 46 ?_
   refine one_ (i := 3) (N := some 47) (ba 5 15) rfl rfl (by kernel_rfl) (by decide) (fun K hK => ?_)
   refine goes_ Try.func18 (by kernel_rfl) rfl #[.agg #[.int .i64 t106, .slice Ao30 t113.length co30], .agg #[.int .i64 t102, .slice Ao61 t125.length co61]] (by rfl) rfl rfl qm ?_
   with_reducible refine (laws_eqNet.calls kj12 t106 _ _ t113 t102 _ _ t125 true _ ?side1 ?side2 ?side3 ?side4 A57.out).mono ?_
   (case side1 => exact qc (Kd.R_reads' HO_101001.out).2.2)
   (case side2 => exact (Kd.R_reads' HO_101001.out).2.1)
   (case side3 => exact qc (Kd.R_reads' HO129.out).2.2)
   (case side4 => exact (Kd.R_reads' HO129.out).2.1)
   rintro e w62 ⟨rfl, hb⟩
   refine ⟨_, rfl, ?_⟩
   have n0_ := q0 (Kd.R_below (qr HO_101001.out) hb)
   have n1_ := q0 (Kd.R_below (qr HO129.out) hb)
   have n2_ := q0 (kb BK108.out hb)
   have n3_ := q0 (kb BK120.out hb)
   have n4_ := q0 (kb BK123.out hb)
   have n5_ := q0 (kb BK124.out hb)
   have n6_ := q0 (below_step (qb HB.out) hb)
   clear HO_101001
   clear HO129
   clear BK108
   clear BK120
   clear BK123
   clear BK124
   clear HB
   have HO_101001 := n0_
   have HO129 := n1_
   have BK108 := n2_
   have BK120 := n3_
   have BK123 := n4_
   have BK124 := n5_
   have HB := n6_
   clear n0_ n1_ n2_ n3_ n4_ n5_ n6_
   (try clear hb)
   (try clear hb2)
   (try clear hk)
   (try clear hi)
   refine hK.out _ _ ⟨(blk_cell BK123.out 0).trans rfl, (blk_cell BK123.out 1).trans rfl, (blk_cell BK108.out 0).trans rfl, (blk_cell BK108.out 1).trans rfl⟩ (fun hHeld => ?_)
   clear hK K
   refine nu 47 ?_
   refine pw 4 (some 48) (ba 5 31) ?_
   refine done_ (by kernel_rfl) ?_
   try go_wp2
   go_ret
   exact ⟨qe, qb HB.out⟩
 replace c58 := Bool.eq_false_iff.mpr c58
 subst c58
 have H1 : (some false) = some r := by rw [if_neg (show ¬ (false = true) by decide)] at H; exact H
 clear H
 have H := H1
 clear H1
 obtain rfl := Option.some.inj H
 try go_wp2
 have n0_ := q0 (Kd.R_drew HO_101001.out)
 have n1_ := q0 (blk_drew BK108.out)
 have n2_ := q0 (blk_drew BK120.out)
 have n3_ := q0 (blk_drew BK123.out)
 have n4_ := q0 (blk_drew BK124.out)
 have n5_ := q0 (below_drew1 HB.out)
 clear HO_101001
 clear BK108
 clear BK120
 clear BK123
 clear BK124
 clear HB
 have HO_101001 := n0_
 have BK108 := n1_
 have BK120 := n2_
 have BK123 := n3_
 have BK124 := n4_
 have HB := n5_
 clear n0_ n1_ n2_ n3_ n4_ n5_
 refine start_ (n := 5) (S := fun w' => w'.cell? ⟨gb123, 0, none⟩ = some (.int .i64 t106) ∧ w'.cell? ⟨gb123, 1, none⟩ = some (.slice Ao30 t113.length co30) ∧ w'.cell? ⟨gb108, 0, none⟩ = some (.int .i64 a0_0) ∧ w'.cell? ⟨gb108, 1, none⟩ = some (.slice A0_1 l0_1.length c0_1)) (ds := []) (ba 5 0) (by kernel_rfl) rfl (by kernel_rfl) ⟨(blk_cell BK123.out 0).trans rfl, (blk_cell BK123.out 1).trans rfl, (blk_cell BK108.out 0).trans rfl, (blk_cell BK108.out 1).trans rfl⟩ (fun hHeld => ?_)
 generalize wc.drew = w63 at HO_101001 BK108 BK120 BK123 BK124 HB hHeld ⊢
 refine tw 0 (some 44) (ba 5 1) hHeld ?_
 refine tw 1 (some 45) (ba 5 3) hHeld ?_
 refine one_ (i := 2) (N := some 46) (ba 5 7) rfl rfl (by kernel_rfl) (by decide) (fun K hK => ?_)
 refine goes_ Try.func15 (by kernel_rfl) rfl #[.agg #[.int .i64 a0_0, .slice A0_1 l0_1.length c0_1]] (by rfl) rfl rfl qm ?_
 with_reducible refine (laws_toNet.calls kj12 a0_0 _ _ l0_1 t102 t125 _ ?side1 ?side2 A56.out).mono ?_
 (case side1 => exact qc (Kd.C_below HR0_1.out HB.out))
 (case side2 => exact HC0_1.out)
 rintro e w64 ⟨v128, rfl, ho0, hb⟩
 refine ⟨_, rfl, ?_⟩
 have n0_ := q0 (Kd.R_elder' (qr HO_101001.out) (Kd.R_base ho0) hb)
 have n1_ := q0 (Kd.R_lower (Kd.R_newB (Kd.R_newB (Kd.R_new' ho0 (Kd.R_lt (qr HO_101001.out))) (g := gb120) (o := .cells #[.int .i64 t105, .int .i64 t110] 27 (0, 0)) (qk BK120.out)) (g := gb124) (o := .cells #[.int .i64 t101, .int .i64 t115] 27 (0, 0)) (qk BK124.out)) (below_size (qb HB.out)))
 have n2_ := q0 (kb BK108.out hb)
 have n3_ := q0 (kb BK120.out hb)
 have n4_ := q0 (kb BK123.out hb)
 have n5_ := q0 (kb BK124.out hb)
 have n6_ := q0 (below_step (qb HB.out) hb)
 clear HO_101001
 clear BK108
 clear BK120
 clear BK123
 clear BK124
 clear HB
 have HO_101001 := n0_
 have HO129 := n1_
 have BK108 := n2_
 have BK120 := n3_
 have BK123 := n4_
 have BK124 := n5_
 have HB := n6_
 clear n0_ n1_ n2_ n3_ n4_ n5_ n6_
 (try clear hb)
 (try clear hb2)
 (try clear hk)
 (try clear hi)
 (try clear ho0)
 obtain ⟨Ao65, co65, eo65⟩ := Kd.R_slice HO129.out
 (first | subst eo65 | (injection eo65 with f1_ f2_ f3_; have f4_ := f1_.symm; have f5_ := f3_.symm; clear f1_ f2_ f3_; subst f4_; subst f5_))
 refine hK.out _ _ ⟨(blk_cell BK123.out 0).trans rfl, (blk_cell BK123.out 1).trans rfl, (blk_cell BK108.out 0).trans rfl, (blk_cell BK108.out 1).trans rfl⟩ (fun hHeld => ?_)
 clear hK K
 refine nu 46 ?_
 refine one_ (i := 3) (N := some 47) (ba 5 15) rfl rfl (by kernel_rfl) (by decide) (fun K hK => ?_)
 refine goes_ Try.func18 (by kernel_rfl) rfl #[.agg #[.int .i64 t106, .slice Ao30 t113.length co30], .agg #[.int .i64 t102, .slice Ao65 t125.length co65]] (by rfl) rfl rfl qm ?_
 with_reducible refine (laws_eqNet.calls kj12 t106 _ _ t113 t102 _ _ t125 false _ ?side1 ?side2 ?side3 ?side4 A57.out).mono ?_
 (case side1 => exact qc (Kd.R_reads' HO_101001.out).2.2)
 (case side2 => exact (Kd.R_reads' HO_101001.out).2.1)
 (case side3 => exact qc (Kd.R_reads' HO129.out).2.2)
 (case side4 => exact (Kd.R_reads' HO129.out).2.1)
 rintro e w66 ⟨rfl, hb⟩
 refine ⟨_, rfl, ?_⟩
 have n0_ := q0 (Kd.R_below (qr HO_101001.out) hb)
 have n1_ := q0 (Kd.R_below (qr HO129.out) hb)
 have n2_ := q0 (kb BK108.out hb)
 have n3_ := q0 (kb BK120.out hb)
 have n4_ := q0 (kb BK123.out hb)
 have n5_ := q0 (kb BK124.out hb)
 have n6_ := q0 (below_step (qb HB.out) hb)
 clear HO_101001
 clear HO129
 clear BK108
 clear BK120
 clear BK123
 clear BK124
 clear HB
 have HO_101001 := n0_
 have HO129 := n1_
 have BK108 := n2_
 have BK120 := n3_
 have BK123 := n4_
 have BK124 := n5_
 have HB := n6_
 clear n0_ n1_ n2_ n3_ n4_ n5_ n6_
 (try clear hb)
 (try clear hb2)
 (try clear hk)
 (try clear hi)
 refine hK.out _ _ ⟨(blk_cell BK123.out 0).trans rfl, (blk_cell BK123.out 1).trans rfl, (blk_cell BK108.out 0).trans rfl, (blk_cell BK108.out 1).trans rfl⟩ (fun hHeld => ?_)
 clear hK K
 refine nu 47 ?_
 refine pw 4 (some 48) (ba 5 31) ?_
 refine done_ (by kernel_rfl) ?_
 try go_wp2
 go_ret
 exact ⟨qe, qb HB.out⟩

end Go.Proofs.Ytheoebelhgbejab.P
