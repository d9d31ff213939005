import Derived.Test.YtheoebelhgbejabP0
import Derived.Test.YtheoebelhgbejabP1
import Derived.Test.YtheoebelhgbejabP6
import Derived.Test.YtheoebelhgbejabP10
namespace Go.Proofs.Ytheoebelhgbejab.P
open Go.RowKit Go.Proofs.YtheoebelhgbejabW.PrintWords Go.Proofs.YtheoebelhgbejabW.PrintLast Go.Proofs.YtheoebelhgbejabW.PrintMore
attribute [local go_sem] max2_int min2_int max_two min_two max_three min_three max_four min_four
set_option linter.unusedVariables false
set_option linter.unusedSimpArgs false
attribute [local go_sem high] eqATie
set_option maxHeartbeats 8000000 in
set_option maxRecDepth 100000 in
theorem spec_DrawTreeOf.calls (k : Nat) (A0 : Option Addr) (c0 : Nat) (l0 : List Int) (r1 : Int) (r2 : List (STie)) (w : World) (hr0 : Kd.C (Kd.int .u8) w A0 l0.length l0) (hc0 : l0.length ≤ c0) (h : spec_DrawTreeOf.f k l0 = some (r1, r2)) :
    Calls Try.prog 19 #[.slice A0 l0.length c0] w fun e w' => ∃ v1_ : Value, e = .returned (.agg #[.int .i64 r1, v1_]) ∧ Kd.R kTie 27 w' w.heap.size (fun _ => True) v1_ r2 ∧ Below w.heap.size w w' := by
 have hu32 := Try.underlying32
 have HR0 := Aside0.mk hr0
 have HC0 := Aside0.mk hc0
 clear hr0 hc0
 have HB := q0 (Below.refl w.heap.size w)
 have H : ((spec_l6Open.f l0).bind fun bt100 => ((spec_l71Any.f k bt100.1 bt100.2).bind fun bt101 => (some (bt101.1, bt101.2.1)))) = some (r1, r2) := h
 clear h
 replace H := Option.bind_eq_some_iff.mp H
 obtain ⟨⟨t100, t102⟩, A20, H⟩ := H
 replace H : ((spec_l71Any.f k t100 t102).bind fun bt101 => (some (bt101.1, bt101.2.1))) = some (r1, r2) := H
 have A2 := Aside0.mk A20
 clear A20
 replace H := Option.bind_eq_some_iff.mp H
 obtain ⟨⟨t101, t103, t104⟩, A30, H⟩ := H
 replace H : (some (t101, t103)) = some (r1, r2) := H
 have A3 := Aside0.mk A30
 clear A30
 simp only [Option.some.injEq, Prod.mk.injEq] at H
 obtain ⟨rfl, rfl⟩ := H
 go_enter Try.func19, Try.ntmps19
 go_wp2_with (first | ((with_reducible refine gate_dst (N := 2) rfl ?_); refine be 2 #[.int .i64 0, .slice none 0 0] 32 ?_; intro gb105 hg w4 hbox hb; have n0_ := q0 (below_step (qb HB.out) hb); have n1_ := q0 (hbox); have n2_ := q0 ((bs HB.out hg : w.heap.size ≤ gb105)); have n3_ := q0 ((bs HB.out hg : w.heap.size ≤ gb105)); clear HB; have HB := n0_; have BK105 := n1_; have GW105 := n2_; have GE105 := n3_; clear n0_ n1_ n2_ n3_ hb hbox hg) | ((with_reducible refine gate_callee (f := 60) rfl ?_); refine goesL_ (some 4) rfl rfl Try.func60 (by kernel_rfl) rfl #[.slice A0 l0.length c0] rfl qm ?_; (with_reducible refine (spec_l6Open.calls _ _ l0 t100 t102 w _ ?side1 ?side2 ?side3 A2.out).mono ?_); (case side1 => exact qb HB.out); (case side2 => exact HR0.out); (case side3 => exact HC0.out); rintro e w5 ⟨g106, rfl, hi, hb, hb2⟩; refine ⟨_, rfl, ?_⟩; have n0_ := q0 (kb BK105.out hb2); have n1_ := q0 (hb); have n2_ := q0 (hi); have n3_ := q0 (IsSRd.ne_blk hi (kb BK105.out hb2) (by decide)); have n4_ := q0 (Ne.symm (IsSRd.ne_blk hi (kb BK105.out hb2) (by decide))); clear BK105 HB; have BK105 := n0_; have HB := n1_; have HI106 := n2_; have NB106_105 := n3_; have NB105_106 := n4_; clear n0_ n1_ n2_ n3_ n4_; (try clear hb); (try clear hb2); (try clear hk); (try clear hi)) | ((with_reducible refine gate_callee (f := 59) rfl ?_); refine goesL_ (some 5) rfl rfl Try.func59 (by kernel_rfl) rfl #[.pointer (some ⟨g106, 0, none⟩)] rfl qm ?_; (with_reducible refine (spec_l71Any.calls k g106 t100 t102 t101 t103 t104 w _ ?side1 ?side2 A3.out).mono ?_); (case side1 => repeat (first | (with_reducible first | exact HI106.out | apply IsSRd.alloc | apply IsSRd.drewN | apply IsSRd.drew | apply IsSRd.set_1 | refine IsSRd.far ?_ NB106_105.out _) | exact HI106.out)); (case side2 => repeat (first | (with_reducible first | exact HB.out | apply below_alloc | apply pw_below_drewN | apply below_drew1 | refine below_set ?_ (IsSRd.ge HI106.out) | refine below_set ?_ GE105.out) | exact HB.out)); rintro e w6 ⟨v107, rfl, ho0, hi, hb, hk⟩; refine ⟨_, rfl, ?_⟩; have n0_ := q0 (KeepBut.blk hk (g' := gb105) (o := .cells #[.int .i64 0, .slice none 0 0] 32 (0, 0)) (qk BK105.out) NB105_106.out (by simp)); have n1_ := q0 (Kd.R_lower ho0 (below_size (qj HB.out HI106.out))); have n2_ := q0 (hb); have n3_ := q0 (hi); clear BK105 HB HI106; have BK105 := n0_; have HO108 := n1_; have HB := n2_; have HI106 := n3_; clear n0_ n1_ n2_ n3_; (try clear hb); (try clear hb2); (try clear hk); (try clear hi); (try clear ho0); have hnb7 := NB105_106.out; have hnc7 := NB106_105.out; have hcz8_0 : w6.cell? ⟨gb105, 0, none⟩ = some (.int .i64 0) := (blk_cell BK105.out 0).trans rfl; have hcz8_1 : w6.cell? ⟨gb105, 1, none⟩ = some (.slice none 0 0) := (blk_cell BK105.out 1).trans rfl; have hfz8_0 := blk_frozen BK105.out 0; have hfz8_1 := blk_frozen BK105.out 1; obtain ⟨Ao9, co9, eo9⟩ := Kd.R_slice HO108.out; subst eo9))
 refine bodyPost_ret (results_cell_row rfl _ _ gb105 32 #[.int .i64 t101, .slice Ao9 t103.length co9] (0, 0) _ rfl (by (with_reducible repeat (first | refine blk_drewN ?_ _ | refine blk_drew ?_ | refine blk_alloc ?_ _)); refine blk_put (cs := #[.int .i64 t101, .slice none 0 0]) ?_ 1 _ rfl; (with_reducible repeat (first | refine blk_drewN ?_ _ | refine blk_drew ?_ | refine blk_alloc ?_ _)); refine blk_put (cs := #[.int .i64 0, .slice none 0 0]) ?_ 0 _ rfl; (with_reducible repeat (first | refine blk_drewN ?_ _ | refine blk_drew ?_ | refine blk_alloc ?_ _)); exact BK105.out) Try.underlying32 rfl (by kernel_rfl)) rfl ?_
 exact ⟨_, qe, by (with_reducible repeat (first | apply Kd.R_alloc | apply Kd.R_drewN | apply Kd.R_drew)); exact Kd.R_mono (Kd.R_far (p := ⟨gb105, 1, none⟩) (Kd.R_far (p := ⟨gb105, 0, none⟩) (Kd.R_types HO108.out BK105.out (by decide)) (fun _ hk => hk.2) (.int .i64 t101)) (fun _ hk => hk.2) (.slice Ao9 t103.length co9)) (fun _ hk => trivial), qj HB.out HI106.out⟩

set_option maxHeartbeats 8000000 in
set_option maxRecDepth 100000 in
theorem impl_WayCount.calls (k : Nat) (a0_0 : Int) (A0_1 : Option Addr) (c0_1 : Nat) (l0_1 : List (STie)) (r : Int) (w : World) (hr0_1 : Kd.C kTie w A0_1 l0_1.length l0_1) (hc0_1 : l0_1.length ≤ c0_1) (h : impl_WayCount.f k a0_0 l0_1 = some r) :
    Calls Try.prog 25 #[.agg #[.int .i64 a0_0, .slice A0_1 l0_1.length c0_1]] w fun e w' => e = .returned (.int .i64 r) ∧ Below w.heap.size w w' := by
 have hu32 := Try.underlying32
 have HR0_1 := Aside0.mk hr0_1
 have HC0_1 := Aside0.mk hc0_1
 clear hr0_1 hc0_1
 have HB := q0 (Below.refl w.heap.size w)
 have H : ((impl_NetOk.f k a0_0 l0_1).bind fun t100 => (if t100 = true then ((impl_Net_count.f k a0_0 l0_1).bind fun t101 => (some t101)) else (some (-1)))) = some r := h
 clear h
 replace H := Option.bind_eq_some_iff.mp H
 obtain ⟨t100, A20, H⟩ := H
 replace H : (if t100 = true then ((impl_Net_count.f k a0_0 l0_1).bind fun t101 => (some t101)) else (some (-1))) = some r := H
 have A2 := Aside0.mk A20
 clear A20
 by_cases c3 : t100 = true
 rotate_left
 · replace c3 := Bool.eq_false_iff.mpr c3
   subst c3
   have H1 : (some (-1)) = some r := by rw [if_neg (show ¬ (false = true) by decide)] at H; exact H
   clear H
   have H := H1
   clear H1
   obtain rfl := Option.some.inj H
   go_enter Try.func25, Try.ntmps25
   go_wp2_with (first | ((with_reducible refine gate_dst (N := 1) rfl ?_); refine be 1 #[.int .i64 a0_0, .slice A0_1 l0_1.length c0_1] 32 ?_; intro gb102 hg w10 hbox hb; have n0_ := q0 (below_step (qb HB.out) hb); have n1_ := q0 (hbox); have n2_ := q0 ((bs HB.out hg : w.heap.size ≤ gb102)); have n3_ := q0 ((bs HB.out hg : w.heap.size ≤ gb102)); clear HB; have HB := n0_; have BK102 := n1_; have GW102 := n2_; have GE102 := n3_; clear n0_ n1_ n2_ n3_ hb hbox hg; have hcz11_0 : w10.cell? ⟨gb102, 0, none⟩ = some (.int .i64 a0_0) := (blk_cell BK102.out 0).trans rfl; have hcz11_1 : w10.cell? ⟨gb102, 1, none⟩ = some (.slice A0_1 l0_1.length c0_1) := (blk_cell BK102.out 1).trans rfl; have hfz11_0 := blk_frozen BK102.out 0; have hfz11_1 := blk_frozen BK102.out 1) | ((with_reducible refine gate_callee (f := 54) rfl ?_); refine goesL_ (some 4) rfl rfl Try.func54 (by kernel_rfl) rfl #[.agg #[.int .i64 a0_0, .slice A0_1 l0_1.length c0_1]] rfl qm ?_; (with_reducible refine (impl_NetOk.calls k a0_0 _ _ l0_1 false _ ?side1 ?side2 A2.out).mono ?_); (case side1 => exact qc (Kd.C_below HR0_1.out HB.out)); (case side2 => exact HC0_1.out); rintro e w12 ⟨rfl, hb⟩; refine ⟨_, rfl, ?_⟩; have n0_ := q0 (kb BK102.out hb); have n1_ := q0 (below_step (qb HB.out) hb); clear BK102 HB; have BK102 := n0_; have HB := n1_; clear n0_ n1_; (try clear hb); (try clear hb2); (try clear hk); (try clear hi)))
   go_ret
   exact ⟨qe, qb HB.out⟩
 subst c3
 have H1 : ((impl_Net_count.f k a0_0 l0_1).bind fun t101 => (some t101)) = some r := by rw [if_pos rfl] at H; exact H
 clear H
 have H := H1
 clear H1
 replace H := Option.bind_eq_some_iff.mp H
 obtain ⟨t101, A40, H⟩ := H
 replace H : (some t101) = some r := H
 have A4 := Aside0.mk A40
 clear A40
 obtain rfl := Option.some.inj H
 go_enter Try.func25, Try.ntmps25
 go_wp2_with (first | ((with_reducible refine gate_dst (N := 1) rfl ?_); refine be 1 #[.int .i64 a0_0, .slice A0_1 l0_1.length c0_1] 32 ?_; intro gb102 hg w5 hbox hb; have n0_ := q0 (below_step (qb HB.out) hb); have n1_ := q0 (hbox); have n2_ := q0 ((bs HB.out hg : w.heap.size ≤ gb102)); have n3_ := q0 ((bs HB.out hg : w.heap.size ≤ gb102)); clear HB; have HB := n0_; have BK102 := n1_; have GW102 := n2_; have GE102 := n3_; clear n0_ n1_ n2_ n3_ hb hbox hg; have hcz6_0 : w5.cell? ⟨gb102, 0, none⟩ = some (.int .i64 a0_0) := (blk_cell BK102.out 0).trans rfl; have hcz6_1 : w5.cell? ⟨gb102, 1, none⟩ = some (.slice A0_1 l0_1.length c0_1) := (blk_cell BK102.out 1).trans rfl; have hfz6_0 := blk_frozen BK102.out 0; have hfz6_1 := blk_frozen BK102.out 1) | ((with_reducible refine gate_callee (f := 54) rfl ?_); refine goesL_ (some 4) rfl rfl Try.func54 (by kernel_rfl) rfl #[.agg #[.int .i64 a0_0, .slice A0_1 l0_1.length c0_1]] rfl qm ?_; (with_reducible refine (impl_NetOk.calls k a0_0 _ _ l0_1 true _ ?side1 ?side2 A2.out).mono ?_); (case side1 => exact qc (Kd.C_below HR0_1.out HB.out)); (case side2 => exact HC0_1.out); rintro e w7 ⟨rfl, hb⟩; refine ⟨_, rfl, ?_⟩; have n0_ := q0 (kb BK102.out hb); have n1_ := q0 (below_step (qb HB.out) hb); clear BK102 HB; have BK102 := n0_; have HB := n1_; clear n0_ n1_; (try clear hb); (try clear hb2); (try clear hk); (try clear hi); have hcz8_0 : w7.cell? ⟨gb102, 0, none⟩ = some (.int .i64 a0_0) := (blk_cell BK102.out 0).trans rfl; have hcz8_1 : w7.cell? ⟨gb102, 1, none⟩ = some (.slice A0_1 l0_1.length c0_1) := (blk_cell BK102.out 1).trans rfl; have hfz8_0 := blk_frozen BK102.out 0; have hfz8_1 := blk_frozen BK102.out 1) | ((with_reducible refine gate_callee (f := 65) rfl ?_); refine goesL_ (some 7) rfl rfl Try.func65 (by kernel_rfl) rfl #[.agg #[.int .i64 a0_0, .slice A0_1 l0_1.length c0_1]] rfl qm ?_; (with_reducible refine (impl_Net_count.calls k a0_0 _ _ l0_1 t101 _ ?side1 ?side2 A4.out).mono ?_); (case side1 => exact qc (Kd.C_below HR0_1.out HB.out)); (case side2 => exact HC0_1.out); rintro e w9 ⟨rfl, hb⟩; refine ⟨_, rfl, ?_⟩; have n0_ := q0 (kb BK102.out hb); have n1_ := q0 (below_step (qb HB.out) hb); clear BK102 HB; have BK102 := n0_; have HB := n1_; clear n0_ n1_; (try clear hb); (try clear hb2); (try clear hk); (try clear hi)))
 go_ret
 exact ⟨qe, qb HB.out⟩

def laws_FnTreeOf.T7 : Bool × List (List Nat × List Nat) := (true, [([], []), ([], []), ([0, 1], [0, 1]), ([2, 2], [2]), ([3], [3]), ([4, 3], [3, 4]), ([3], [3]), ([6, 3], [3, 6]), ([3], [3]), ([8, 3, 3], [3, 8]), ([7, 9, 3], [3, 7, 9]), ([5, 10, 3], [3, 5, 10]), ([3, 11], [3, 11]), ([12, 9, 0, 1, 2, 3, 4, 5, 6, 7, 8, 9, 10, 11, 12], [12])])
def laws_FnTreeOf.B7 : List Nat := [0, 0, 3, 7, 15, 31, 15, 79, 15, 271, 975, 2047, 4095, 8191]
theorem laws_FnTreeOf.tab7 : rtab .any (opsOf Try.f4 7) = laws_FnTreeOf.T7 := by kernel_rfl
theorem laws_FnTreeOf.bits7 : waitsOk laws_FnTreeOf.T7.2 laws_FnTreeOf.B7 = true := by kernel_rfl
set_option maxHeartbeats 8000000 in
set_option maxRecDepth 100000 in
theorem laws_FnTreeOf.calls (k : Nat) (A0 : Option Addr) (c0 : Nat) (l0 : List Int) (r : Bool) (w : World) (hr0 : Kd.C (Kd.int .u8) w A0 l0.length l0) (hc0 : l0.length ≤ c0) (h : laws_FnTreeOf.f k l0 = some r) :
    Calls Try.prog 4 #[.slice A0 l0.length c0] w fun e w' => e = .returned (.bool r) ∧ Below w.heap.size w w' := by
 have hu32 := Try.underlying32
 have HR0 := Aside0.mk hr0
 have HC0 := Aside0.mk hc0
 clear hr0 hc0
 have HB := q0 (Below.refl w.heap.size w)
 have H : (if (l0.length : Int) > 1048576 then (some true) else ((spec_DrawTreeOf.f k l0).bind fun bt105 => ((impl_TreeOf.f k bt105.1 bt105.2).bind fun t100 => ((spec_TreeOf.f k bt105.1 bt105.2).bind fun t106 => ((laws_loTies.f k t100 t106).bind fun t107 => (if t107 = true then ((spec_NetOk.f k bt105.1 bt105.2).bind fun t108 => (laws_FnTreeOf.j0 k t100 (!t108) bt105.1 bt105.2)) else (laws_FnTreeOf.j0 k t100 true bt105.1 bt105.2))))))) = some r := h
 clear h
 by_cases c2 : (l0.length : Int) > 1048576
 · rw [if_pos c2] at H
   have c2b0 : decide (1048576 < (l0.length : Int)) = true := decide_eq_true c2
   have c2b1 : decide (1048576 < l0.length) = true := decide_eq_true (by omega)
   clear c2
   obtain rfl := Option.some.inj H
   go_enter Try.func4, Try.ntmps4
   go_wp2
   go_ret
   exact ⟨qe, qb HB.out⟩
 rw [if_neg c2] at H
 have c2b0 : decide (1048576 < (l0.length : Int)) = false := decide_eq_false c2
 have c2b1 : decide (1048576 < l0.length) = false := decide_eq_false (by omega)
 clear c2
 replace H := Option.bind_eq_some_iff.mp H
 obtain ⟨⟨t105, t109⟩, A30, H⟩ := H
 replace H : ((impl_TreeOf.f k t105 t109).bind fun t100 => ((spec_TreeOf.f k t105 t109).bind fun t106 => ((laws_loTies.f k t100 t106).bind fun t107 => (if t107 = true then ((spec_NetOk.f k t105 t109).bind fun t108 => (laws_FnTreeOf.j0 k t100 (!t108) t105 t109)) else (laws_FnTreeOf.j0 k t100 true t105 t109))))) = some r := H
 have A3 := Aside0.mk A30
 clear A30
 replace H := Option.bind_eq_some_iff.mp H
 obtain ⟨t100, A40, H⟩ := H
 replace H : ((spec_TreeOf.f k t105 t109).bind fun t106 => ((laws_loTies.f k t100 t106).bind fun t107 => (if t107 = true then ((spec_NetOk.f k t105 t109).bind fun t108 => (laws_FnTreeOf.j0 k t100 (!t108) t105 t109)) else (laws_FnTreeOf.j0 k t100 true t105 t109)))) = some r := H
 have A4 := Aside0.mk A40
 clear A40
 have HC5 := Aside0.mk H
 clear H
 go_enter Try.func4, Try.ntmps4
 go_upto_region 5 with (first | ((with_reducible refine gate_callee (f := 19) rfl ?_); refine goesL_ (some 9) rfl rfl Try.func19 (by kernel_rfl) rfl #[.slice A0 l0.length c0] rfl qm ?_; (with_reducible refine (spec_DrawTreeOf.calls k _ _ l0 t105 t109 _ ?side1 ?side2 A3.out).mono ?_); (case side1 => repeat (first | exact HR0.out | (with_reducible refine Kd.C_alloc ?_ _) | (with_reducible refine Kd.C_drewN ?_ _) | (with_reducible refine Kd.C_drew ?_))); (case side2 => exact HC0.out); rintro e w6 ⟨v110, rfl, ho0, hb⟩; refine ⟨_, rfl, ?_⟩; have n0_ := q0 (Kd.R_lower ho0 (below_size (qb HB.out))); have n1_ := q0 (below_step (qb HB.out) hb); clear HB; have HO111 := n0_; have HB := n1_; clear n0_ n1_; (try clear hb); (try clear hb2); (try clear hk); (try clear hi); (try clear ho0)) | ((with_reducible refine gate_dst (N := 3) rfl ?_); (try (refine gate_guard (by rfl) ?_; dsimp only)); refine be 3 #[.int .i64 0, .slice none 0 0] 32 ?_; intro gb112 hg w7 hbox hb; have n0_ := q0 (Kd.R_below (qr HO111.out) hb); have n1_ := q0 (below_step (qb HB.out) hb); have n2_ := q0 (hbox); have n3_ := q0 ((bs HB.out hg : w.heap.size ≤ gb112)); have n4_ := q0 ((bs HB.out hg : w.heap.size ≤ gb112)); clear HO111 HB; have HO111 := n0_; have HB := n1_; have BK112 := n2_; have GW112 := n3_; have GE112 := n4_; clear n0_ n1_ n2_ n3_ n4_ hb hbox hg; have hcz8_0 : w7.cell? ⟨gb112, 0, none⟩ = some (.int .i64 0) := (blk_cell BK112.out 0).trans rfl; have hcz8_1 : w7.cell? ⟨gb112, 1, none⟩ = some (.slice none 0 0) := (blk_cell BK112.out 1).trans rfl; have hfz8_0 := blk_frozen BK112.out 0; have hfz8_1 := blk_frozen BK112.out 1; obtain ⟨Ao9, co9, eo9⟩ := Kd.R_slice HO111.out; subst eo9) | ((with_reducible refine gate_callee (f := 20) rfl ?_); refine goesL_ (some 11) rfl rfl Try.func20 (by kernel_rfl) rfl #[.agg #[.int .i64 t105, .slice Ao9 t109.length co9]] rfl qm ?_; (with_reducible refine (impl_TreeOf.calls k t105 _ _ t109 t100 _ ?side1 ?side2 A4.out).mono ?_); (case side1 => refine (Kd.R_reads' (e := 27) (base := w.heap.size) (ok := fun k_ => True) (n := t109.length) (c := co9) ?_).2.2; exact (by (with_reducible repeat (first | apply Kd.R_alloc | apply Kd.R_drewN | apply Kd.R_drew)); exact (Kd.R_mono (Kd.R_far (p := ⟨gb112, 1, none⟩) (Kd.R_far (p := ⟨gb112, 0, none⟩) (Kd.R_types HO111.out BK112.out (by decide)) (fun _ hk => hk.2) (.int .i64 t105)) (fun _ hk => hk.2) (.slice Ao9 t109.length co9)) (fun _ h_ => h_.1)))); (case side2 => exact (Kd.R_reads' HO111.out).2.1); rintro e w10 ⟨v113, rfl, ho0, hb⟩; refine ⟨_, rfl, ?_⟩; have n0_ := q0 (Kd.R_elder' (by (with_reducible repeat (first | apply Kd.R_alloc | apply Kd.R_drewN | apply Kd.R_drew)); exact (Kd.R_mono (Kd.R_far (p := ⟨gb112, 1, none⟩) (Kd.R_far (p := ⟨gb112, 0, none⟩) (Kd.R_types HO111.out BK112.out (by decide)) (fun _ hk => hk.2) (.int .i64 t105)) (fun _ hk => hk.2) (.slice Ao9 t109.length co9)) (fun _ h_ => h_.1))) (Kd.R_base ho0) hb); have n1_ := q0 (Kd.R_lower (Kd.R_new' ho0 (Kd.R_lt (by (with_reducible repeat (first | apply Kd.R_alloc | apply Kd.R_drewN | apply Kd.R_drew)); exact (Kd.R_mono (Kd.R_far (p := ⟨gb112, 1, none⟩) (Kd.R_far (p := ⟨gb112, 0, none⟩) (Kd.R_types HO111.out BK112.out (by decide)) (fun _ hk => hk.2) (.int .i64 t105)) (fun _ hk => hk.2) (.slice Ao9 t109.length co9)) (fun _ h_ => h_.1))))) (below_size (qb HB.out))); have n2_ := q0 (blk_below (g := gb112) (o := .cells #[.int .i64 t105, .slice Ao9 t109.length co9] 32 (0, 0)) (by (with_reducible repeat (first | refine blk_drewN ?_ _ | refine blk_drew ?_ | refine blk_alloc ?_ _)); refine blk_put (cs := #[.int .i64 t105, .slice none 0 0]) ?_ 1 _ rfl; (with_reducible repeat (first | refine blk_drewN ?_ _ | refine blk_drew ?_ | refine blk_alloc ?_ _)); refine blk_put (cs := #[.int .i64 0, .slice none 0 0]) ?_ 0 _ rfl; (with_reducible repeat (first | refine blk_drewN ?_ _ | refine blk_drew ?_ | refine blk_alloc ?_ _)); exact BK112.out) hb); have n3_ := q0 (below_step (qb HB.out) hb); clear HO111 BK112 HB; have HO111 := n0_; have HO114 := n1_; have BK112 := n2_; have HB := n3_; clear n0_ n1_ n2_ n3_; (try clear hb); (try clear hb2); (try clear hk); (try clear hi); (try clear ho0)))
 (try simp only [Act.put, List.setIfInBounds_toArray, List.set_cons_zero, List.set_cons_succ])
 go_cut [21] (fun v21 wc => ∃ (kq : Nat) (x21_4 : Bool), v21 = .bool x21_4 ∧ Aside0 (laws_FnTreeOf.j0 kq t100 x21_4 t105 t109 = some r) ∧ Aside0 (kq ≤ k) ∧ Aside0 (Kd.R kTie 27 wc w.heap.size (fun k_ => some k_ ≠ ((.slice Ao9 t109.length co9) : Value).ownBlock) v113 t100) ∧ Aside0 (Kd.R kTie 27 wc w.heap.size (fun k_ => some k_ ≠ (v113 : Value).ownBlock) (.slice Ao9 t109.length co9) t109) ∧ Aside0 (wc.heap[gb112]? = some (.cells #[.int .i64 t105, (.slice Ao9 t109.length co9)] 32 (0, 0))) ∧ Aside0 (Below w.heap.size w wc))
 case first =>
   have H := HC5.out
   clear HC5
   replace H := Option.bind_eq_some_iff.mp H
   obtain ⟨t106, A115, H⟩ := H
   replace H : ((laws_loTies.f k t100 t106).bind fun t107 => (if t107 = true then ((spec_NetOk.f k t105 t109).bind fun t108 => (laws_FnTreeOf.j0 k t100 (!t108) t105 t109)) else (laws_FnTreeOf.j0 k t100 true t105 t109))) = some r := H
   have A11 := Aside0.mk A115
   clear A115
   replace H := Option.bind_eq_some_iff.mp H
   obtain ⟨t107, A116, H⟩ := H
   replace H : (if t107 = true then ((spec_NetOk.f k t105 t109).bind fun t108 => (laws_FnTreeOf.j0 k t100 (!t108) t105 t109)) else (laws_FnTreeOf.j0 k t100 true t105 t109)) = some r := H
   have A12 := Aside0.mk A116
   clear A116
   by_cases c13 : t107 = true
   rotate_left
   · replace c13 := Bool.eq_false_iff.mpr c13
     subst c13
     have H1 : (laws_FnTreeOf.j0 k t100 true t105 t109) = some r := by rw [if_neg (show ¬ (false = true) by decide)] at H; exact H
     clear H
     have H := H1
     clear H1
     have H' := Aside0.mk H
     clear H
     have hcz21_0 : w10.cell? ⟨gb112, 0, none⟩ = some (.int .i64 t105) := (blk_cell BK112.out 0).trans rfl
     have hcz21_1 : w10.cell? ⟨gb112, 1, none⟩ = some (.slice Ao9 t109.length co9) := (blk_cell BK112.out 1).trans rfl
     have hfz21_0 := blk_frozen BK112.out 0
     have hfz21_1 := blk_frozen BK112.out 1
     go_wp2_with (first | ((with_reducible refine gate_callee (f := 22) rfl ?_); refine goesL_ (some 14) rfl rfl Try.func22 (by kernel_rfl) rfl #[.agg #[.int .i64 t105, .slice Ao9 t109.length co9]] rfl qm ?_; (with_reducible refine (spec_TreeOf.calls k t105 _ _ t109 t106 _ ?side1 ?side2 A11.out).mono ?_); (case side1 => exact qc (Kd.R_reads' HO111.out).2.2); (case side2 => exact (Kd.R_reads' HO111.out).2.1); rintro e w22 ⟨v118, rfl, ho0, hb⟩; refine ⟨_, rfl, ?_⟩; have n0_ := q0 (Kd.R_elder' (qr HO111.out) (Kd.R_base ho0) hb); have n1_ := q0 (Kd.R_elder' (qr HO114.out) (Kd.R_base ho0) hb); have n2_ := q0 (Kd.R_lower (Kd.R_new' (Kd.R_new' ho0 (Kd.R_lt (qr HO111.out))) (Kd.R_lt (qr HO114.out))) (below_size (qb HB.out))); have n3_ := q0 (kb BK112.out hb); have n4_ := q0 (below_step (qb HB.out) hb); clear HO111 HO114 BK112 HB; have HO111 := n0_; have HO114 := n1_; have HO119 := n2_; have BK112 := n3_; have HB := n4_; clear n0_ n1_ n2_ n3_ n4_; (try clear hb); (try clear hb2); (try clear hk); (try clear hi); (try clear ho0); obtain ⟨Ao23, co23, eo23⟩ := Kd.R_slice HO114.out; subst eo23; obtain ⟨Ao24, co24, eo24⟩ := Kd.R_slice HO119.out; subst eo24) | ((with_reducible refine gate_callee (f := 21) rfl ?_); refine goesL_ (some 15) rfl rfl Try.func21 (by kernel_rfl) rfl #[.slice Ao23 t100.length co23, .slice Ao24 t106.length co24] rfl qm ?_; (with_reducible refine (laws_loTies.calls k _ _ t100 _ _ t106 false _ ?side1 ?side2 ?side3 ?side4 A12.out).mono ?_); (case side1 => exact qc (Kd.R_reads' HO114.out).2.2); (case side2 => exact (Kd.R_reads' HO114.out).2.1); (case side3 => exact qc (Kd.R_reads' HO119.out).2.2); (case side4 => exact (Kd.R_reads' HO119.out).2.1); rintro e w' ⟨rfl, ⟨nd, rfl⟩⟩; refine ⟨_, rfl, ?_⟩))
     go_meet
     case rel => exact ⟨_, (true), qs, H', ⟨by first | omega | exact Nat.le_refl _⟩, ⟨by (with_reducible repeat (first | apply Kd.R_alloc | apply Kd.R_drewN | apply Kd.R_drew)); exact Kd.R_mono HO114.out (fun _ hk => hk.1.2)⟩, ⟨by (with_reducible repeat (first | apply Kd.R_alloc | apply Kd.R_drewN | apply Kd.R_drew)); exact Kd.R_mono HO111.out (fun _ hk => hk.1.2)⟩, ⟨qk BK112.out⟩, ⟨qb HB.out⟩⟩
   subst c13
   have H1 : ((spec_NetOk.f k t105 t109).bind fun t108 => (laws_FnTreeOf.j0 k t100 (!t108) t105 t109)) = some r := by rw [if_pos rfl] at H; exact H
   clear H
   have H := H1
   clear H1
   replace H := Option.bind_eq_some_iff.mp H
   obtain ⟨t108, A117, H⟩ := H
   replace H : (laws_FnTreeOf.j0 k t100 (!t108) t105 t109) = some r := H
   have A14 := Aside0.mk A117
   clear A117
   have H' := Aside0.mk H
   clear H
   have hcz15_0 : w10.cell? ⟨gb112, 0, none⟩ = some (.int .i64 t105) := (blk_cell BK112.out 0).trans rfl
   have hcz15_1 : w10.cell? ⟨gb112, 1, none⟩ = some (.slice Ao9 t109.length co9) := (blk_cell BK112.out 1).trans rfl
   have hfz15_0 := blk_frozen BK112.out 0
   have hfz15_1 := blk_frozen BK112.out 1
   go_wp2_with (first | ((with_reducible refine gate_callee (f := 22) rfl ?_); refine goesL_ (some 14) rfl rfl Try.func22 (by kernel_rfl) rfl #[.agg #[.int .i64 t105, .slice Ao9 t109.length co9]] rfl qm ?_; (with_reducible refine (spec_TreeOf.calls k t105 _ _ t109 t106 _ ?side1 ?side2 A11.out).mono ?_); (case side1 => exact qc (Kd.R_reads' HO111.out).2.2); (case side2 => exact (Kd.R_reads' HO111.out).2.1); rintro e w16 ⟨v118, rfl, ho0, hb⟩; refine ⟨_, rfl, ?_⟩; have n0_ := q0 (Kd.R_elder' (qr HO111.out) (Kd.R_base ho0) hb); have n1_ := q0 (Kd.R_elder' (qr HO114.out) (Kd.R_base ho0) hb); have n2_ := q0 (Kd.R_lower (Kd.R_new' (Kd.R_new' ho0 (Kd.R_lt (qr HO111.out))) (Kd.R_lt (qr HO114.out))) (below_size (qb HB.out))); have n3_ := q0 (kb BK112.out hb); have n4_ := q0 (below_step (qb HB.out) hb); clear HO111 HO114 BK112 HB; have HO111 := n0_; have HO114 := n1_; have HO119 := n2_; have BK112 := n3_; have HB := n4_; clear n0_ n1_ n2_ n3_ n4_; (try clear hb); (try clear hb2); (try clear hk); (try clear hi); (try clear ho0); obtain ⟨Ao17, co17, eo17⟩ := Kd.R_slice HO114.out; subst eo17; obtain ⟨Ao18, co18, eo18⟩ := Kd.R_slice HO119.out; subst eo18) | ((with_reducible refine gate_callee (f := 21) rfl ?_); refine goesL_ (some 15) rfl rfl Try.func21 (by kernel_rfl) rfl #[.slice Ao17 t100.length co17, .slice Ao18 t106.length co18] rfl qm ?_; (with_reducible refine (laws_loTies.calls k _ _ t100 _ _ t106 true _ ?side1 ?side2 ?side3 ?side4 A12.out).mono ?_); (case side1 => exact qc (Kd.R_reads' HO114.out).2.2); (case side2 => exact (Kd.R_reads' HO114.out).2.1); (case side3 => exact qc (Kd.R_reads' HO119.out).2.2); (case side4 => exact (Kd.R_reads' HO119.out).2.1); rintro e w' ⟨rfl, ⟨nd, rfl⟩⟩; refine ⟨_, rfl, ?_⟩; have hcz19_0 : w16.cell? ⟨gb112, 0, none⟩ = some (.int .i64 t105) := (blk_cell BK112.out 0).trans rfl; have hcz19_1 : w16.cell? ⟨gb112, 1, none⟩ = some (.slice Ao9 t109.length co9) := (blk_cell BK112.out 1).trans rfl; have hfz19_0 := blk_frozen BK112.out 0; have hfz19_1 := blk_frozen BK112.out 1) | (go_at_call 23; (with_reducible refine (spec_NetOk.calls k t105 _ _ t109 t108 _ ?side1 ?side2 A14.out).mono ?_); (case side1 => exact qc (Kd.R_reads' HO111.out).2.2); (case side2 => exact (Kd.R_reads' HO111.out).2.1); rintro e w20 ⟨rfl, hb⟩; have n0_ := q0 (Kd.R_below (qr HO111.out) hb); have n1_ := q0 (Kd.R_below (qr HO114.out) hb); have n2_ := q0 (Kd.R_below (qr HO119.out) hb); have n3_ := q0 (kb BK112.out hb); have n4_ := q0 (below_step (qb HB.out) hb); clear HO111 HO114 HO119 BK112 HB; have HO111 := n0_; have HO114 := n1_; have HO119 := n2_; have BK112 := n3_; have HB := n4_; clear n0_ n1_ n2_ n3_ n4_; (try clear hb); (try clear hb2); (try clear hk); (try clear hi)))
   go_meet
   case rel => exact ⟨_, (!t108), qs, H', ⟨by first | omega | exact Nat.le_refl _⟩, ⟨by (with_reducible repeat (first | apply Kd.R_alloc | apply Kd.R_drewN | apply Kd.R_drew)); exact Kd.R_mono HO114.out (fun _ hk => hk.1.2)⟩, ⟨by (with_reducible repeat (first | apply Kd.R_alloc | apply Kd.R_drewN | apply Kd.R_drew)); exact Kd.R_mono HO111.out (fun _ hk => hk.1.2)⟩, ⟨qk BK112.out⟩, ⟨qb HB.out⟩⟩
 clear HC5
 try clear c1
 try clear c2
 try clear c2b0
 try clear c2b1
 try clear p2
 try clear c4
 try clear c13
 try clear c19
 try clear c20
 try clear c21
 try clear c22
 try clear hcz15_0
 try clear hcz15_1
 try clear hcz19_0
 try clear hcz19_1
 try clear hcz21_0
 try clear hcz21_1
 try clear hcz8_0
 try clear hcz8_1
 try clear hfz15_0
 try clear hfz15_1
 try clear hfz19_0
 try clear hfz19_1
 try clear hfz21_0
 try clear hfz21_1
 try clear hfz8_0
 try clear hfz8_1
 obtain ⟨kq, x21_4, rfl, HA, HJ4, HO_4, HO_100001, BK112, HB⟩ := hcut
 rcases kq with _ | kj4
 · exact absurd HA.out (by simp [laws_FnTreeOf.j0])
 have H := HA.out
 clear HA
 simp only [laws_FnTreeOf.j0] at H
 by_cases c25 : x21_4 = true
 · subst c25
   have H1 : ((spec_TreeOf.f kj4 t105 t109).bind fun t101 => ((laws_loTies.f kj4 t100 t101).bind fun t102 => (some t102))) = some r := by rw [if_pos rfl] at H; exact H
   clear H
   have H := H1
   clear H1
   replace H := Option.bind_eq_some_iff.mp H
   obtain ⟨t101, A120, H⟩ := H
   replace H : ((laws_loTies.f kj4 t100 t101).bind fun t102 => (some t102)) = some r := H
   have A26 := Aside0.mk A120
   clear A120
   replace H := Option.bind_eq_some_iff.mp H
   obtain ⟨t102, A121, H⟩ := H
   replace H : (some t102) = some r := H
   have A27 := Aside0.mk A121
   clear A121
   obtain rfl := Option.some.inj H
   have hcz28_0 : wc.cell? ⟨gb112, 0, none⟩ = some (.int .i64 t105) := (blk_cell BK112.out 0).trans rfl
   have hcz28_1 : wc.cell? ⟨gb112, 1, none⟩ = some (.slice Ao9 t109.length co9) := (blk_cell BK112.out 1).trans rfl
   have hfz28_0 := blk_frozen BK112.out 0
   have hfz28_1 := blk_frozen BK112.out 1
   go_wp2_with (first | ((with_reducible refine gate_callee (f := 22) rfl ?_); refine goesL_ (some 24) rfl rfl Try.func22 (by kernel_rfl) rfl #[.agg #[.int .i64 t105, .slice Ao9 t109.length co9]] rfl qm ?_; (with_reducible refine (spec_TreeOf.calls kj4 t105 _ _ t109 t101 _ ?side1 ?side2 A26.out).mono ?_); (case side1 => exact qc (Kd.R_reads' HO_100001.out).2.2); (case side2 => exact (Kd.R_reads' HO_100001.out).2.1); rintro e w29 ⟨v122, rfl, ho0, hb⟩; refine ⟨_, rfl, ?_⟩; have n0_ := q0 (Kd.R_elder' (qr HO_4.out) (Kd.R_base ho0) hb); have n1_ := q0 (Kd.R_elder' (qr HO_100001.out) (Kd.R_base ho0) hb); have n2_ := q0 (Kd.R_lower (Kd.R_new' (Kd.R_new' ho0 (Kd.R_lt (qr HO_4.out))) (Kd.R_lt (qr HO_100001.out))) (below_size (qb HB.out))); have n3_ := q0 (kb BK112.out hb); have n4_ := q0 (below_step (qb HB.out) hb); clear HO_4 HO_100001 BK112 HB; have HO_4 := n0_; have HO_100001 := n1_; have HO123 := n2_; have BK112 := n3_; have HB := n4_; clear n0_ n1_ n2_ n3_ n4_; (try clear hb); (try clear hb2); (try clear hk); (try clear hi); (try clear ho0); obtain ⟨Ao30, co30, eo30⟩ := Kd.R_slice HO_4.out; subst eo30; obtain ⟨Ao31, co31, eo31⟩ := Kd.R_slice HO123.out; subst eo31) | ((with_reducible refine gate_callee (f := 21) rfl ?_); refine goesL_ (some 25) rfl rfl Try.func21 (by kernel_rfl) rfl #[.slice Ao30 t100.length co30, .slice Ao31 t101.length co31] rfl qm ?_; (with_reducible refine (laws_loTies.calls kj4 _ _ t100 _ _ t101 t102 _ ?side1 ?side2 ?side3 ?side4 A27.out).mono ?_); (case side1 => exact qc (Kd.R_reads' HO_4.out).2.2); (case side2 => exact (Kd.R_reads' HO_4.out).2.1); (case side3 => exact qc (Kd.R_reads' HO123.out).2.2); (case side4 => exact (Kd.R_reads' HO123.out).2.1); rintro e w' ⟨rfl, ⟨nd, rfl⟩⟩; refine ⟨_, rfl, ?_⟩))
   go_ret
   exact ⟨qe, qb HB.out⟩
 replace c25 := Bool.eq_false_iff.mpr c25
 subst c25
 have H1 : ((impl_TreeOk.f kj4 t105 t109 t100).bind fun t103 => (if t103 = true then ((impl_WayCount.f kj4 t105 t109).bind fun t104 => (some ((t100.length : Int) == (wrap64 (t105 - t104))))) else (some false))) = some r := by rw [if_neg (show ¬ (false = true) by decide)] at H; exact H
 clear H
 have H := H1
 clear H1
 replace H := Option.bind_eq_some_iff.mp H
 obtain ⟨t103, A124, H⟩ := H
 replace H : (if t103 = true then ((impl_WayCount.f kj4 t105 t109).bind fun t104 => (some ((t100.length : Int) == (wrap64 (t105 - t104))))) else (some false)) = some r := H
 have A32 := Aside0.mk A124
 clear A124
 by_cases c33 : t103 = true
 rotate_left
 · replace c33 := Bool.eq_false_iff.mpr c33
   subst c33
   have H1 : (some false) = some r := by rw [if_neg (show ¬ (false = true) by decide)] at H; exact H
   clear H
   have H := H1
   clear H1
   obtain rfl := Option.some.inj H
   try go_wp2
   have n0_ := q0 (Kd.R_drew HO_4.out)
   have n1_ := q0 (Kd.R_drew HO_100001.out)
   have n2_ := q0 (blk_drew BK112.out)
   have n3_ := q0 (below_drew1 HB.out)
   clear HO_4
   clear HO_100001
   clear BK112
   clear HB
   have HO_4 := n0_
   have HO_100001 := n1_
   have BK112 := n2_
   have HB := n3_
   clear n0_ n1_ n2_ n3_
   obtain ⟨Ao40, co40, eo40⟩ := Kd.R_slice HO_4.out
   (first | subst eo40 | (injection eo40 with f1_ f2_ f3_; have f4_ := f1_.symm; have f5_ := f3_.symm; clear f1_ f2_ f3_; subst f4_; subst f5_))
   refine start_ (n := 14) (S := fun w' => w'.cell? ⟨gb112, 0, none⟩ = some (.int .i64 t105) ∧ w'.cell? ⟨gb112, 1, none⟩ = some (.slice Ao9 t109.length co9)) (ds := []) (ba 14 0) (by kernel_rfl) rfl (by kernel_rfl) ⟨(blk_cell BK112.out 0).trans rfl, (blk_cell BK112.out 1).trans rfl⟩ (fun hHeld => ?_); refine with_tabW laws_FnTreeOf.tab7 laws_FnTreeOf.bits7 (fun HT_ HW_ => ?_)
   generalize wc.drew = w39 at HO_4 HO_100001 BK112 HB hHeld ⊢
   refine pu 1 (some 27) (ba 14 2) HT_.out ?_
   refine tu 0 (some 26) (ba 14 3) HT_.out HW_.out hHeld ?_
   refine one_ (i := 2) (N := some 28) (ba 14 7) rfl rfl (one_of HT_.out (by kernel_rfl)) (by decide) (fun K hK => ?_)
   refine goes_ Try.func24 (by kernel_rfl) rfl #[.agg #[.int .i64 t105, .slice Ao9 t109.length co9], .slice Ao40 t100.length co40] (by rfl) rfl rfl qm ?_
   with_reducible refine (impl_TreeOk.calls kj4 t105 _ _ t109 _ _ t100 false _ ?side1 ?side2 ?side3 ?side4 A32.out).mono ?_
   (case side1 => exact qc (Kd.R_reads' HO_100001.out).2.2)
   (case side2 => exact (Kd.R_reads' HO_100001.out).2.1)
   (case side3 => exact qc (Kd.R_reads' HO_4.out).2.2)
   (case side4 => exact (Kd.R_reads' HO_4.out).2.1)
   rintro e w41 ⟨rfl, hb⟩
   refine ⟨_, rfl, ?_⟩
   have n0_ := q0 (Kd.R_below (qr HO_4.out) hb)
   have n1_ := q0 (Kd.R_below (qr HO_100001.out) hb)
   have n2_ := q0 (kb BK112.out hb)
   have n3_ := q0 (below_step (qb HB.out) hb)
   clear HO_4
   clear HO_100001
   clear BK112
   clear HB
   have HO_4 := n0_
   have HO_100001 := n1_
   have BK112 := n2_
   have HB := n3_
   clear n0_ n1_ n2_ n3_
   (try clear hb)
   (try clear hb2)
   (try clear hk)
   (try clear hi)
   refine hK.out _ _ ⟨(blk_cell BK112.out 0).trans rfl, (blk_cell BK112.out 1).trans rfl⟩ (fun hHeld => ?_)
   clear hK K
   refine nu 28 ?_
   refine pu 3 (some 29) (ba 14 15) HT_.out ?_
   refine pv 4 (some 30) (ba 14 31) HT_.out ?_
   refine pv 5 (some 31) (ba 14 63) HT_.out ?_
   refine pv 6 (some 32) (ba 14 127) HT_.out ?_
   refine pv 7 (some 33) (ba 14 255) HT_.out ?_
   refine pv 8 (some 34) (ba 14 511) HT_.out ?_
   refine pv 9 (some 35) (ba 14 1023) HT_.out ?_
   refine pv 10 (some 36) (ba 14 2047) HT_.out ?_
   refine pv 11 (some 37) (ba 14 4095) HT_.out ?_
   refine pu 12 (some 38) (ba 14 8191) HT_.out ?_
   refine pu 13 (some 2) (ba 14 16383) HT_.out ?_
   refine done_ (done_of HT_.out (by kernel_rfl)) ?_
   try go_wp2
   go_ret
   exact ⟨qe, qb HB.out⟩
 subst c33
 have H1 : ((impl_WayCount.f kj4 t105 t109).bind fun t104 => (some ((t100.length : Int) == (wrap64 (t105 - t104))))) = some r := by rw [if_pos rfl] at H; exact H
 clear H
 have H := H1
 clear H1
 replace H := Option.bind_eq_some_iff.mp H
 obtain ⟨t104, A125, H⟩ := H
 replace H : (some ((t100.length : Int) == (wrap64 (t105 - t104)))) = some r := H
 have A34 := Aside0.mk A125
 clear A125
 obtain rfl := Option.some.inj H
 try go_wp2
 have n0_ := q0 (Kd.R_drew HO_4.out)
 have n1_ := q0 (Kd.R_drew HO_100001.out)
 have n2_ := q0 (blk_drew BK112.out)
 have n3_ := q0 (below_drew1 HB.out)
 clear HO_4
 clear HO_100001
 clear BK112
 clear HB
 have HO_4 := n0_
 have HO_100001 := n1_
 have BK112 := n2_
 have HB := n3_
 clear n0_ n1_ n2_ n3_
 obtain ⟨Ao36, co36, eo36⟩ := Kd.R_slice HO_4.out
 (first | subst eo36 | (injection eo36 with f1_ f2_ f3_; have f4_ := f1_.symm; have f5_ := f3_.symm; clear f1_ f2_ f3_; subst f4_; subst f5_))
 refine start_ (n := 14) (S := fun w' => w'.cell? ⟨gb112, 0, none⟩ = some (.int .i64 t105) ∧ w'.cell? ⟨gb112, 1, none⟩ = some (.slice Ao9 t109.length co9)) (ds := []) (ba 14 0) (by kernel_rfl) rfl (by kernel_rfl) ⟨(blk_cell BK112.out 0).trans rfl, (blk_cell BK112.out 1).trans rfl⟩ (fun hHeld => ?_); refine with_tabW laws_FnTreeOf.tab7 laws_FnTreeOf.bits7 (fun HT_ HW_ => ?_)
 generalize wc.drew = w35 at HO_4 HO_100001 BK112 HB hHeld ⊢
 refine pu 1 (some 27) (ba 14 2) HT_.out ?_
 refine tu 0 (some 26) (ba 14 3) HT_.out HW_.out hHeld ?_
 refine one_ (i := 2) (N := some 28) (ba 14 7) rfl rfl (one_of HT_.out (by kernel_rfl)) (by decide) (fun K hK => ?_)
 refine goes_ Try.func24 (by kernel_rfl) rfl #[.agg #[.int .i64 t105, .slice Ao9 t109.length co9], .slice Ao36 t100.length co36] (by rfl) rfl rfl qm ?_
 with_reducible refine (impl_TreeOk.calls kj4 t105 _ _ t109 _ _ t100 true _ ?side1 ?side2 ?side3 ?side4 A32.out).mono ?_
 (case side1 => exact qc (Kd.R_reads' HO_100001.out).2.2)
 (case side2 => exact (Kd.R_reads' HO_100001.out).2.1)
 (case side3 => exact qc (Kd.R_reads' HO_4.out).2.2)
 (case side4 => exact (Kd.R_reads' HO_4.out).2.1)
 rintro e w37 ⟨rfl, hb⟩
 refine ⟨_, rfl, ?_⟩
 have n0_ := q0 (Kd.R_below (qr HO_4.out) hb)
 have n1_ := q0 (Kd.R_below (qr HO_100001.out) hb)
 have n2_ := q0 (kb BK112.out hb)
 have n3_ := q0 (below_step (qb HB.out) hb)
 clear HO_4
 clear HO_100001
 clear BK112
 clear HB
 have HO_4 := n0_
 have HO_100001 := n1_
 have BK112 := n2_
 have HB := n3_
 clear n0_ n1_ n2_ n3_
 (try clear hb)
 (try clear hb2)
 (try clear hk)
 (try clear hi)
 refine hK.out _ _ ⟨(blk_cell BK112.out 0).trans rfl, (blk_cell BK112.out 1).trans rfl⟩ (fun hHeld => ?_)
 clear hK K
 refine nu 28 ?_
 refine pu 3 (some 29) (ba 14 15) HT_.out ?_
 refine pu 4 (some 30) (ba 14 31) HT_.out ?_
 refine pu 5 (some 31) (ba 14 63) HT_.out ?_
 refine pu 6 (some 32) (ba 14 127) HT_.out ?_
 refine tu 7 (some 33) (ba 14 255) HT_.out HW_.out hHeld ?_
 refine tu 8 (some 34) (ba 14 511) HT_.out HW_.out hHeld ?_
 refine one_ (i := 9) (N := some 35) (ba 14 1023) rfl rfl (one_of HT_.out (by kernel_rfl)) (by decide) (fun K hK => ?_)
 refine goes_ Try.func25 (by kernel_rfl) rfl #[.agg #[.int .i64 t105, .slice Ao9 t109.length co9]] (by rfl) rfl rfl qm ?_
 with_reducible refine (impl_WayCount.calls kj4 t105 _ _ t109 t104 _ ?side1 ?side2 A34.out).mono ?_
 (case side1 => exact qc (Kd.R_reads' HO_100001.out).2.2)
 (case side2 => exact (Kd.R_reads' HO_100001.out).2.1)
 rintro e w38 ⟨rfl, hb⟩
 refine ⟨_, rfl, ?_⟩
 have n0_ := q0 (Kd.R_below (qr HO_4.out) hb)
 have n1_ := q0 (Kd.R_below (qr HO_100001.out) hb)
 have n2_ := q0 (kb BK112.out hb)
 have n3_ := q0 (below_step (qb HB.out) hb)
 clear HO_4
 clear HO_100001
 clear BK112
 clear HB
 have HO_4 := n0_
 have HO_100001 := n1_
 have BK112 := n2_
 have HB := n3_
 clear n0_ n1_ n2_ n3_
 (try clear hb)
 (try clear hb2)
 (try clear hk)
 (try clear hi)
 refine hK.out _ _ ⟨(blk_cell BK112.out 0).trans rfl, (blk_cell BK112.out 1).trans rfl⟩ (fun hHeld => ?_)
 clear hK K
 refine nu 35 ?_
 refine pu 10 (some 36) (ba 14 2047) HT_.out ?_
 refine pu 11 (some 37) (ba 14 4095) HT_.out ?_
 refine pu 12 (some 38) (ba 14 8191) HT_.out ?_
 refine pu 13 (some 2) (ba 14 16383) HT_.out ?_
 refine done_ (done_of HT_.out (by kernel_rfl)) ?_
 try go_wp2
 go_ret
 exact ⟨qe, qb HB.out⟩

theorem laws_FnTreeOf.walk (P : laws_FnTreeOf.Pure) (a0 : Option Addr) (len0 cap0 : Nat) (z0 : List Int) (w : World) (w0 : (a0 = none ∧ len0 = 0 ∧ cap0 = 0 ∧ z0 = []) ∨ ∃ x, a0 = some x ∧ len0 ≤ cap0 ∧ cap0 ≤ maxLen ∧ z0.length = cap0 ∧ (∀ i, i < z0.length → w.cell? (x.add i) = some (.int .u8 (z0.getD i 0))) ∧ ∀ n ∈ z0, (Lit.int .u8 n).wf = true) (y0 : len0 * 1 ≤ 140737488351232) :
    Calls Try.prog 4 #[.slice a0 len0 cap0] w fun e w' => e = .returned (.bool true) ∧ Below w.heap.size w w' := by
  obtain ⟨l0, rfl, hr0, hm0, hw0, hc0⟩ := ReadsInt.ofRowC w0
  obtain ⟨k, h⟩ := P l0 hm0 y0 hw0
  refine (laws_FnTreeOf.calls k _ _ l0 true w (Kd.C_of_reads (d := (0 : Int)) (h1 := fun _ => rfl) hr0) hc0 h).mono ?_
  rintro e w' ⟨rfl, hd⟩
  exact ⟨rfl, hd⟩
end Go.Proofs.Ytheoebelhgbejab.P
