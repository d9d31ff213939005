import Derived.Test.YtheoebelhgbejabP0
import Derived.Test.YtheoebelhgbejabP1
import Derived.Test.YtheoebelhgbejabP3
import Derived.Test.YtheoebelhgbejabP6
import Derived.Test.YtheoebelhgbejabP8
import Derived.Test.YtheoebelhgbejabP12
namespace Go.Proofs.Ytheoebelhgbejab.P
open Go.RowKit Go.Proofs.YtheoebelhgbejabW.PrintWords Go.Proofs.YtheoebelhgbejabW.PrintLast Go.Proofs.YtheoebelhgbejabW.PrintMore
attribute [local go_sem] max2_int min2_int max_two min_two max_three min_three max_four min_four
set_option linter.unusedVariables false
set_option linter.unusedSimpArgs false
attribute [local go_sem high] eqATie
set_option maxHeartbeats 8000000 in
set_option maxRecDepth 100000 in
theorem impl_BridgeIs.calls (k : Nat) (a0_0 : Int) (A0_1 : Option Addr) (c0_1 : Nat) (l0_1 : List (STie)) (a1 : Int) (a2 : Int) (r : Bool) (w : World) (hr0_1 : Kd.C kTie w A0_1 l0_1.length l0_1) (hc0_1 : l0_1.length ≤ c0_1) (h : impl_BridgeIs.f k a0_0 l0_1 a1 a2 = some r) :
    Calls Try.prog 33 #[.agg #[.int .i64 a0_0, .slice A0_1 l0_1.length c0_1], .int .i64 a1, .int .i64 a2] w fun e w' => e = .returned (.bool r) ∧ Below w.heap.size w w' := by
 have hu32 := Try.underlying32
 have HR0_1 := Aside0.mk hr0_1
 have HC0_1 := Aside0.mk hc0_1
 clear hr0_1 hc0_1
 have HB := q0 (Below.refl w.heap.size w)
 have H : ((impl_NetHas.f k a0_0 l0_1 a1 a2).bind fun t100 => (if t100 = true then ((impl_Net_bridges.f k a0_0 l0_1).bind fun t101 => ((impl_tie.f a1 a2).bind fun bt102 => ((slices_Contains_Tie.f k t101 bt102.1 bt102.2).bind fun t103 => (some t103)))) else (some false))) = some r := h
 clear h
 replace H := Option.bind_eq_some_iff.mp H
 obtain ⟨t100, A40, H⟩ := H
 replace H : (if t100 = true then ((impl_Net_bridges.f k a0_0 l0_1).bind fun t101 => ((impl_tie.f a1 a2).bind fun bt102 => ((slices_Contains_Tie.f k t101 bt102.1 bt102.2).bind fun t103 => (some t103)))) else (some false)) = some r := H
 have A4 := Aside0.mk A40
 clear A40
 by_cases c5 : t100 = true
 rotate_left
 · replace c5 := Bool.eq_false_iff.mpr c5
   subst c5
   have H1 : (some false) = some r := by rw [if_neg (show ¬ (false = true) by decide)] at H; exact H
   clear H
   have H := H1
   clear H1
   obtain rfl := Option.some.inj H
   go_enter Try.func33, Try.ntmps33
   go_wp2_with (first | ((with_reducible refine gate_dst (N := 3) rfl ?_); refine be 3 #[.int .i64 a0_0, .slice A0_1 l0_1.length c0_1] 32 ?_; intro gb105 hg w17 hbox hb; have n0_ := q0 (below_step (qb HB.out) hb); have n1_ := q0 (hbox); have n2_ := q0 ((bs HB.out hg : w.heap.size ≤ gb105)); have n3_ := q0 ((bs HB.out hg : w.heap.size ≤ gb105)); clear HB; have HB := n0_; have BK105 := n1_; have GW105 := n2_; have GE105 := n3_; clear n0_ n1_ n2_ n3_ hb hbox hg; have hcz18_0 : w17.cell? ⟨gb105, 0, none⟩ = some (.int .i64 a0_0) := (blk_cell BK105.out 0).trans rfl; have hcz18_1 : w17.cell? ⟨gb105, 1, none⟩ = some (.slice A0_1 l0_1.length c0_1) := (blk_cell BK105.out 1).trans rfl; have hfz18_0 := blk_frozen BK105.out 0; have hfz18_1 := blk_frozen BK105.out 1) | ((with_reducible refine gate_callee (f := 67) rfl ?_); refine goesL_ (some 10) rfl rfl Try.func67 (by kernel_rfl) rfl #[.agg #[.int .i64 a0_0, .slice A0_1 l0_1.length c0_1], .int .i64 a1, .int .i64 a2] rfl qm ?_; (with_reducible refine (impl_NetHas.calls k a0_0 _ _ l0_1 a1 a2 false _ ?side1 ?side2 A4.out).mono ?_); (case side1 => exact qc (Kd.C_below HR0_1.out HB.out)); (case side2 => exact HC0_1.out); rintro e w19 ⟨rfl, hb⟩; refine ⟨_, rfl, ?_⟩; have n0_ := q0 (kb BK105.out hb); have n1_ := q0 (below_step (qb HB.out) hb); clear BK105 HB; have BK105 := n0_; have HB := n1_; clear n0_ n1_; (try clear hb); (try clear hb2); (try clear hk); (try clear hi)))
   go_ret
   exact ⟨qe, qb HB.out⟩
 subst c5
 have H1 : ((impl_Net_bridges.f k a0_0 l0_1).bind fun t101 => ((impl_tie.f a1 a2).bind fun bt102 => ((slices_Contains_Tie.f k t101 bt102.1 bt102.2).bind fun t103 => (some t103)))) = some r := by rw [if_pos rfl] at H; exact H
 clear H
 have H := H1
 clear H1
 replace H := Option.bind_eq_some_iff.mp H
 obtain ⟨t101, A60, H⟩ := H
 replace H : ((impl_tie.f a1 a2).bind fun bt102 => ((slices_Contains_Tie.f k t101 bt102.1 bt102.2).bind fun t103 => (some t103))) = some r := H
 have A6 := Aside0.mk A60
 clear A60
 replace H := Option.bind_eq_some_iff.mp H
 obtain ⟨⟨t102, t104⟩, A70, H⟩ := H
 replace H : ((slices_Contains_Tie.f k t101 t102 t104).bind fun t103 => (some t103)) = some r := H
 have A7 := Aside0.mk A70
 clear A70
 replace H := Option.bind_eq_some_iff.mp H
 obtain ⟨t103, A80, H⟩ := H
 replace H : (some t103) = some r := H
 have A8 := Aside0.mk A80
 clear A80
 obtain rfl := Option.some.inj H
 go_enter Try.func33, Try.ntmps33
 go_wp2_with (first | ((with_reducible refine gate_dst (N := 3) rfl ?_); refine be 3 #[.int .i64 a0_0, .slice A0_1 l0_1.length c0_1] 32 ?_; intro gb105 hg w9 hbox hb; have n0_ := q0 (below_step (qb HB.out) hb); have n1_ := q0 (hbox); have n2_ := q0 ((bs HB.out hg : w.heap.size ≤ gb105)); have n3_ := q0 ((bs HB.out hg : w.heap.size ≤ gb105)); clear HB; have HB := n0_; have BK105 := n1_; have GW105 := n2_; have GE105 := n3_; clear n0_ n1_ n2_ n3_ hb hbox hg; have hcz10_0 : w9.cell? ⟨gb105, 0, none⟩ = some (.int .i64 a0_0) := (blk_cell BK105.out 0).trans rfl; have hcz10_1 : w9.cell? ⟨gb105, 1, none⟩ = some (.slice A0_1 l0_1.length c0_1) := (blk_cell BK105.out 1).trans rfl; have hfz10_0 := blk_frozen BK105.out 0; have hfz10_1 := blk_frozen BK105.out 1) | ((with_reducible refine gate_callee (f := 67) rfl ?_); refine goesL_ (some 10) rfl rfl Try.func67 (by kernel_rfl) rfl #[.agg #[.int .i64 a0_0, .slice A0_1 l0_1.length c0_1], .int .i64 a1, .int .i64 a2] rfl qm ?_; (with_reducible refine (impl_NetHas.calls k a0_0 _ _ l0_1 a1 a2 true _ ?side1 ?side2 A4.out).mono ?_); (case side1 => exact qc (Kd.C_below HR0_1.out HB.out)); (case side2 => exact HC0_1.out); rintro e w11 ⟨rfl, hb⟩; refine ⟨_, rfl, ?_⟩; have n0_ := q0 (kb BK105.out hb); have n1_ := q0 (below_step (qb HB.out) hb); clear BK105 HB; have BK105 := n0_; have HB := n1_; clear n0_ n1_; (try clear hb); (try clear hb2); (try clear hk); (try clear hi); have hcz12_0 : w11.cell? ⟨gb105, 0, none⟩ = some (.int .i64 a0_0) := (blk_cell BK105.out 0).trans rfl; have hcz12_1 : w11.cell? ⟨gb105, 1, none⟩ = some (.slice A0_1 l0_1.length c0_1) := (blk_cell BK105.out 1).trans rfl; have hfz12_0 := blk_frozen BK105.out 0; have hfz12_1 := blk_frozen BK105.out 1) | (go_at_call 57; (with_reducible refine (impl_Net_bridges.calls k a0_0 _ _ l0_1 t101 _ ?side1 ?side2 A6.out).mono ?_); (case side1 => exact qc (Kd.C_below HR0_1.out HB.out)); (case side2 => exact HC0_1.out); rintro e w13 ⟨v106, rfl, ho0, hb⟩; have n0_ := q0 (Kd.R_lower ho0 (below_size (qb HB.out))); have n1_ := q0 (kb BK105.out hb); have n2_ := q0 (below_step (qb HB.out) hb); clear BK105 HB; have HO107 := n0_; have BK105 := n1_; have HB := n2_; clear n0_ n1_ n2_; (try clear hb); (try clear hb2); (try clear hk); (try clear hi); (try clear ho0)) | (go_at_call 69; (with_reducible refine (impl_tie.calls a1 a2 t102 t104 _ A7.out).mono ?_); rintro e w14 ⟨rfl, hb⟩; have n0_ := q0 (Kd.R_below (qr HO107.out) hb); have n1_ := q0 (kb BK105.out hb); have n2_ := q0 (below_step (qb HB.out) hb); clear HO107 BK105 HB; have HO107 := n0_; have BK105 := n1_; have HB := n2_; clear n0_ n1_ n2_; (try clear hb); (try clear hb2); (try clear hk); (try clear hi); obtain ⟨Ao15, co15, eo15⟩ := Kd.R_slice HO107.out; subst eo15) | (go_at_call 68; (with_reducible refine (slices_Contains_Tie.calls k _ _ t101 t102 t104 t103 _ ?side1 ?side2 A8.out).mono ?_); (case side1 => exact qc (Kd.R_reads' HO107.out).2.2); (case side2 => exact (Kd.R_reads' HO107.out).2.1); rintro e w16 ⟨rfl, hb⟩; have n0_ := q0 (Kd.R_below (qr HO107.out) hb); have n1_ := q0 (kb BK105.out hb); have n2_ := q0 (below_step (qb HB.out) hb); clear HO107 BK105 HB; have HO107 := n0_; have BK105 := n1_; have HB := n2_; clear n0_ n1_ n2_; (try clear hb); (try clear hb2); (try clear hk); (try clear hi)))
 go_ret
 exact ⟨qe, qb HB.out⟩

attribute [local go_sem high] eqATie
def laws_FnBridgeList.T11 : Bool × List (List Nat × List Nat) := (true, [([], []), ([], []), ([1], [1]), ([], []), ([2, 3], [2, 3]), ([4], [4]), ([5], [5]), ([], []), ([7], [7]), ([], []), ([8, 9], [8, 9]), ([10], [10]), ([11], [11]), ([0, 6, 12], [0, 6, 12])])
def laws_FnBridgeList.B11 : List Nat := [0, 0, 2, 0, 14, 30, 62, 0, 128, 0, 896, 1920, 3968, 8191]
theorem laws_FnBridgeList.tab11 : rtab .any (opsOf Try.f6 11) = laws_FnBridgeList.T11 := by kernel_rfl
theorem laws_FnBridgeList.bits11 : waitsOk laws_FnBridgeList.T11.2 laws_FnBridgeList.B11 = true := by kernel_rfl
def laws_FnBridgeList.T12 : Bool × List (List Nat × List Nat) := (true, [([], []), ([], []), ([1], [1]), ([0, 2], [0, 2]), ([3], [3]), ([4], [4]), ([4], [4]), ([5, 6, 4], [4, 5, 6]), ([7, 4], [4, 7]), ([4], [4]), ([9, 4], [4, 9]), ([4], [4]), ([10, 11, 4], [4, 10, 11]), ([12, 4], [4, 12]), ([8, 13, 4], [4, 8, 13]), ([4, 14], [4, 14])])
def laws_FnBridgeList.B12 : List Nat := [0, 0, 2, 7, 15, 31, 31, 127, 255, 31, 543, 31, 3615, 7711, 16383, 32767]
theorem laws_FnBridgeList.tab12 : rtab .any (opsOf Try.f6 12) = laws_FnBridgeList.T12 := by kernel_rfl
theorem laws_FnBridgeList.bits12 : waitsOk laws_FnBridgeList.T12.2 laws_FnBridgeList.B12 = true := by kernel_rfl
set_option maxHeartbeats 8000000 in
set_option maxRecDepth 100000 in
theorem laws_FnBridgeList.calls (k : Nat) (A0 : Option Addr) (c0 : Nat) (l0 : List Int) (r : Bool) (w : World) (hr0 : Kd.C (Kd.int .u8) w A0 l0.length l0) (hc0 : l0.length ≤ c0) (h : laws_FnBridgeList.f k l0 = some r) :
    Calls Try.prog 6 #[.slice A0 l0.length c0] w fun e w' => e = .returned (.bool r) ∧ Below w.heap.size w w' := by
 have hu32 := Try.underlying32
 have hu27 := Try.underlying27
 have HR0 := Aside0.mk hr0
 have HC0 := Aside0.mk hc0
 clear hr0 hc0
 have HB := q0 (Below.refl w.heap.size w)
 have H : (if (l0.length : Int) > 1048576 then (some true) else ((spec_DrawBridgeList.f k l0).bind fun bt104 => ((impl_BridgeList.f k bt104.1 bt104.2).bind fun t100 => ((spec_BridgeList.f k bt104.1 bt104.2).bind fun t105 => ((laws_loTies.f k t100 t105).bind fun t106 => (if t106 = true then ((spec_NetOk.f k bt104.1 bt104.2).bind fun t107 => (laws_FnBridgeList.j0 k t100 (!t107) bt104.1 bt104.2)) else (laws_FnBridgeList.j0 k t100 true bt104.1 bt104.2))))))) = some r := h
 clear h
 by_cases c2 : (l0.length : Int) > 1048576
 · rw [if_pos c2] at H
   have c2b0 : decide (1048576 < (l0.length : Int)) = true := decide_eq_true c2
   have c2b1 : decide (1048576 < l0.length) = true := decide_eq_true (by omega)
   clear c2
   obtain rfl := Option.some.inj H
   go_enter Try.func6, Try.ntmps6
   go_wp2
   go_ret
   exact ⟨qe, qb HB.out⟩
 rw [if_neg c2] at H
 have c2b0 : decide (1048576 < (l0.length : Int)) = false := decide_eq_false c2
 have c2b1 : decide (1048576 < l0.length) = false := decide_eq_false (by omega)
 clear c2
 replace H := Option.bind_eq_some_iff.mp H
 obtain ⟨⟨t104, t108⟩, A30, H⟩ := H
 replace H : ((impl_BridgeList.f k t104 t108).bind fun t100 => ((spec_BridgeList.f k t104 t108).bind fun t105 => ((laws_loTies.f k t100 t105).bind fun t106 => (if t106 = true then ((spec_NetOk.f k t104 t108).bind fun t107 => (laws_FnBridgeList.j0 k t100 (!t107) t104 t108)) else (laws_FnBridgeList.j0 k t100 true t104 t108))))) = some r := H
 have A3 := Aside0.mk A30
 clear A30
 replace H := Option.bind_eq_some_iff.mp H
 obtain ⟨t100, A40, H⟩ := H
 replace H : ((spec_BridgeList.f k t104 t108).bind fun t105 => ((laws_loTies.f k t100 t105).bind fun t106 => (if t106 = true then ((spec_NetOk.f k t104 t108).bind fun t107 => (laws_FnBridgeList.j0 k t100 (!t107) t104 t108)) else (laws_FnBridgeList.j0 k t100 true t104 t108)))) = some r := H
 have A4 := Aside0.mk A40
 clear A40
 have HC5 := Aside0.mk H
 clear H
 go_enter Try.func6, Try.ntmps6
 go_upto_region 5 with (first | ((with_reducible refine gate_callee (f := 32) rfl ?_); refine goesL_ (some 11) rfl rfl Try.func32 (by kernel_rfl) rfl #[.slice A0 l0.length c0] rfl qm ?_; (with_reducible refine (spec_DrawBridgeList.calls k _ _ l0 t104 t108 _ ?side1 ?side2 A3.out).mono ?_); (case side1 => repeat (first | exact HR0.out | (with_reducible refine Kd.C_alloc ?_ _) | (with_reducible refine Kd.C_drewN ?_ _) | (with_reducible refine Kd.C_drew ?_))); (case side2 => exact HC0.out); rintro e w6 ⟨v109, rfl, ho0, hb⟩; refine ⟨_, rfl, ?_⟩; have n0_ := q0 (Kd.R_lower ho0 (below_size (qb HB.out))); have n1_ := q0 (below_step (qb HB.out) hb); clear HB; have HO110 := n0_; have HB := n1_; clear n0_ n1_; (try clear hb); (try clear hb2); (try clear hk); (try clear hi); (try clear ho0)) | ((with_reducible refine gate_dst (N := 3) rfl ?_); refine be 3 #[.int .i64 0, .slice none 0 0] 32 ?_; intro gb111 hg w7 hbox hb; have n0_ := q0 (Kd.R_below (qr HO110.out) hb); have n1_ := q0 (below_step (qb HB.out) hb); have n2_ := q0 (hbox); have n3_ := q0 ((bs HB.out hg : w.heap.size ≤ gb111)); have n4_ := q0 ((bs HB.out hg : w.heap.size ≤ gb111)); clear HO110 HB; have HO110 := n0_; have HB := n1_; have BK111 := n2_; have GW111 := n3_; have GE111 := n4_; clear n0_ n1_ n2_ n3_ n4_ hb hbox hg; have hcz8_0 : w7.cell? ⟨gb111, 0, none⟩ = some (.int .i64 0) := (blk_cell BK111.out 0).trans rfl; have hcz8_1 : w7.cell? ⟨gb111, 1, none⟩ = some (.slice none 0 0) := (blk_cell BK111.out 1).trans rfl; have hfz8_0 := blk_frozen BK111.out 0; have hfz8_1 := blk_frozen BK111.out 1; obtain ⟨Ao9, co9, eo9⟩ := Kd.R_slice HO110.out; subst eo9) | ((with_reducible refine gate_callee (f := 27) rfl ?_); refine goesL_ (some 13) rfl rfl Try.func27 (by kernel_rfl) rfl #[.agg #[.int .i64 t104, .slice Ao9 t108.length co9]] rfl qm ?_; (with_reducible refine (impl_BridgeList.calls k t104 _ _ t108 t100 _ ?side1 ?side2 A4.out).mono ?_); (case side1 => refine (Kd.R_reads' (e := 27) (base := w.heap.size) (ok := fun k_ => True) (n := t108.length) (c := co9) ?_).2.2; exact (by (with_reducible repeat (first | apply Kd.R_alloc | apply Kd.R_drewN | apply Kd.R_drew)); exact (Kd.R_mono (Kd.R_far (p := ⟨gb111, 1, none⟩) (Kd.R_far (p := ⟨gb111, 0, none⟩) (Kd.R_types HO110.out BK111.out (by decide)) (fun _ hk => hk.2) (.int .i64 t104)) (fun _ hk => hk.2) (.slice Ao9 t108.length co9)) (fun _ h_ => h_.1)))); (case side2 => exact (Kd.R_reads' HO110.out).2.1); rintro e w10 ⟨v112, rfl, ho0, hb⟩; refine ⟨_, rfl, ?_⟩; have n0_ := q0 (Kd.R_elder' (by (with_reducible repeat (first | apply Kd.R_alloc | apply Kd.R_drewN | apply Kd.R_drew)); exact (Kd.R_mono (Kd.R_far (p := ⟨gb111, 1, none⟩) (Kd.R_far (p := ⟨gb111, 0, none⟩) (Kd.R_types HO110.out BK111.out (by decide)) (fun _ hk => hk.2) (.int .i64 t104)) (fun _ hk => hk.2) (.slice Ao9 t108.length co9)) (fun _ h_ => h_.1))) (Kd.R_base ho0) hb); have n1_ := q0 (Kd.R_lower (Kd.R_new' ho0 (Kd.R_lt (by (with_reducible repeat (first | apply Kd.R_alloc | apply Kd.R_drewN | apply Kd.R_drew)); exact (Kd.R_mono (Kd.R_far (p := ⟨gb111, 1, none⟩) (Kd.R_far (p := ⟨gb111, 0, none⟩) (Kd.R_types HO110.out BK111.out (by decide)) (fun _ hk => hk.2) (.int .i64 t104)) (fun _ hk => hk.2) (.slice Ao9 t108.length co9)) (fun _ h_ => h_.1))))) (below_size (qb HB.out))); have n2_ := q0 (blk_below (g := gb111) (o := .cells #[.int .i64 t104, .slice Ao9 t108.length co9] 32 (0, 0)) (by (with_reducible repeat (first | refine blk_drewN ?_ _ | refine blk_drew ?_ | refine blk_alloc ?_ _)); refine blk_put (cs := #[.int .i64 t104, .slice none 0 0]) ?_ 1 _ rfl; (with_reducible repeat (first | refine blk_drewN ?_ _ | refine blk_drew ?_ | refine blk_alloc ?_ _)); refine blk_put (cs := #[.int .i64 0, .slice none 0 0]) ?_ 0 _ rfl; (with_reducible repeat (first | refine blk_drewN ?_ _ | refine blk_drew ?_ | refine blk_alloc ?_ _)); exact BK111.out) hb); have n3_ := q0 (below_step (qb HB.out) hb); clear HO110 BK111 HB; have HO110 := n0_; have HO113 := n1_; have BK111 := n2_; have HB := n3_; clear n0_ n1_ n2_ n3_; (try clear hb); (try clear hb2); (try clear hk); (try clear hi); (try clear ho0)))
 (try simp only [Act.put, List.setIfInBounds_toArray, List.set_cons_zero, List.set_cons_succ])
 go_cut [23] (fun v23 wc => ∃ (kq : Nat) (x23_4 : Bool), v23 = .bool x23_4 ∧ Aside0 (laws_FnBridgeList.j0 kq t100 x23_4 t104 t108 = some r) ∧ Aside0 (kq ≤ k) ∧ Aside0 (Kd.R kTie 27 wc w.heap.size (fun k_ => some k_ ≠ ((.slice Ao9 t108.length co9) : Value).ownBlock) v112 t100) ∧ Aside0 (Kd.R kTie 27 wc w.heap.size (fun k_ => some k_ ≠ (v112 : Value).ownBlock) (.slice Ao9 t108.length co9) t108) ∧ Aside0 (wc.heap[gb111]? = some (.cells #[.int .i64 t104, (.slice Ao9 t108.length co9)] 32 (0, 0))) ∧ Aside0 (Below w.heap.size w wc))
 case first =>
   have H := HC5.out
   clear HC5
   replace H := Option.bind_eq_some_iff.mp H
   obtain ⟨t105, A114, H⟩ := H
   replace H : ((laws_loTies.f k t100 t105).bind fun t106 => (if t106 = true then ((spec_NetOk.f k t104 t108).bind fun t107 => (laws_FnBridgeList.j0 k t100 (!t107) t104 t108)) else (laws_FnBridgeList.j0 k t100 true t104 t108))) = some r := H
   have A11 := Aside0.mk A114
   clear A114
   replace H := Option.bind_eq_some_iff.mp H
   obtain ⟨t106, A115, H⟩ := H
   replace H : (if t106 = true then ((spec_NetOk.f k t104 t108).bind fun t107 => (laws_FnBridgeList.j0 k t100 (!t107) t104 t108)) else (laws_FnBridgeList.j0 k t100 true t104 t108)) = some r := H
   have A12 := Aside0.mk A115
   clear A115
   by_cases c13 : t106 = true
   rotate_left
   · replace c13 := Bool.eq_false_iff.mpr c13
     subst c13
     have H1 : (laws_FnBridgeList.j0 k t100 true t104 t108) = some r := by rw [if_neg (show ¬ (false = true) by decide)] at H; exact H
     clear H
     have H := H1
     clear H1
     have H' := Aside0.mk H
     clear H
     have hcz21_0 : w10.cell? ⟨gb111, 0, none⟩ = some (.int .i64 t104) := (blk_cell BK111.out 0).trans rfl
     have hcz21_1 : w10.cell? ⟨gb111, 1, none⟩ = some (.slice Ao9 t108.length co9) := (blk_cell BK111.out 1).trans rfl
     have hfz21_0 := blk_frozen BK111.out 0
     have hfz21_1 := blk_frozen BK111.out 1
     go_wp2_with (first | ((with_reducible refine gate_callee (f := 26) rfl ?_); refine goesL_ (some 16) rfl rfl Try.func26 (by kernel_rfl) rfl #[.agg #[.int .i64 t104, .slice Ao9 t108.length co9]] rfl qm ?_; (with_reducible refine (spec_BridgeList.calls k t104 _ _ t108 t105 _ ?side1 ?side2 A11.out).mono ?_); (case side1 => exact qc (Kd.R_reads' HO110.out).2.2); (case side2 => exact (Kd.R_reads' HO110.out).2.1); rintro e w22 ⟨v117, rfl, ho0, hb⟩; refine ⟨_, rfl, ?_⟩; have n0_ := q0 (Kd.R_elder' (qr HO110.out) (Kd.R_base ho0) hb); have n1_ := q0 (Kd.R_elder' (qr HO113.out) (Kd.R_base ho0) hb); have n2_ := q0 (Kd.R_lower (Kd.R_new' (Kd.R_new' ho0 (Kd.R_lt (qr HO110.out))) (Kd.R_lt (qr HO113.out))) (below_size (qb HB.out))); have n3_ := q0 (kb BK111.out hb); have n4_ := q0 (below_step (qb HB.out) hb); clear HO110 HO113 BK111 HB; have HO110 := n0_; have HO113 := n1_; have HO118 := n2_; have BK111 := n3_; have HB := n4_; clear n0_ n1_ n2_ n3_ n4_; (try clear hb); (try clear hb2); (try clear hk); (try clear hi); (try clear ho0); obtain ⟨Ao23, co23, eo23⟩ := Kd.R_slice HO113.out; subst eo23; obtain ⟨Ao24, co24, eo24⟩ := Kd.R_slice HO118.out; subst eo24) | ((with_reducible refine gate_callee (f := 21) rfl ?_); refine goesL_ (some 17) rfl rfl Try.func21 (by kernel_rfl) rfl #[.slice Ao23 t100.length co23, .slice Ao24 t105.length co24] rfl qm ?_; (with_reducible refine (laws_loTies.calls k _ _ t100 _ _ t105 false _ ?side1 ?side2 ?side3 ?side4 A12.out).mono ?_); (case side1 => exact qc (Kd.R_reads' HO113.out).2.2); (case side2 => exact (Kd.R_reads' HO113.out).2.1); (case side3 => exact qc (Kd.R_reads' HO118.out).2.2); (case side4 => exact (Kd.R_reads' HO118.out).2.1); rintro e w' ⟨rfl, ⟨nd, rfl⟩⟩; refine ⟨_, rfl, ?_⟩))
     go_meet
     case rel => exact ⟨_, (true), qs, H', ⟨by first | omega | exact Nat.le_refl _⟩, ⟨by (with_reducible repeat (first | apply Kd.R_alloc | apply Kd.R_drewN | apply Kd.R_drew)); exact Kd.R_mono HO113.out (fun _ hk => hk.1.2)⟩, ⟨by (with_reducible repeat (first | apply Kd.R_alloc | apply Kd.R_drewN | apply Kd.R_drew)); exact Kd.R_mono HO110.out (fun _ hk => hk.1.2)⟩, ⟨qk BK111.out⟩, ⟨qb HB.out⟩⟩
   subst c13
   have H1 : ((spec_NetOk.f k t104 t108).bind fun t107 => (laws_FnBridgeList.j0 k t100 (!t107) t104 t108)) = some r := by rw [if_pos rfl] at H; exact H
   clear H
   have H := H1
   clear H1
   replace H := Option.bind_eq_some_iff.mp H
   obtain ⟨t107, A116, H⟩ := H
   replace H : (laws_FnBridgeList.j0 k t100 (!t107) t104 t108) = some r := H
   have A14 := Aside0.mk A116
   clear A116
   have H' := Aside0.mk H
   clear H
   have hcz15_0 : w10.cell? ⟨gb111, 0, none⟩ = some (.int .i64 t104) := (blk_cell BK111.out 0).trans rfl
   have hcz15_1 : w10.cell? ⟨gb111, 1, none⟩ = some (.slice Ao9 t108.length co9) := (blk_cell BK111.out 1).trans rfl
   have hfz15_0 := blk_frozen BK111.out 0
   have hfz15_1 := blk_frozen BK111.out 1
   go_wp2_with (first | ((with_reducible refine gate_callee (f := 26) rfl ?_); refine goesL_ (some 16) rfl rfl Try.func26 (by kernel_rfl) rfl #[.agg #[.int .i64 t104, .slice Ao9 t108.length co9]] rfl qm ?_; (with_reducible refine (spec_BridgeList.calls k t104 _ _ t108 t105 _ ?side1 ?side2 A11.out).mono ?_); (case side1 => exact qc (Kd.R_reads' HO110.out).2.2); (case side2 => exact (Kd.R_reads' HO110.out).2.1); rintro e w16 ⟨v117, rfl, ho0, hb⟩; refine ⟨_, rfl, ?_⟩; have n0_ := q0 (Kd.R_elder' (qr HO110.out) (Kd.R_base ho0) hb); have n1_ := q0 (Kd.R_elder' (qr HO113.out) (Kd.R_base ho0) hb); have n2_ := q0 (Kd.R_lower (Kd.R_new' (Kd.R_new' ho0 (Kd.R_lt (qr HO110.out))) (Kd.R_lt (qr HO113.out))) (below_size (qb HB.out))); have n3_ := q0 (kb BK111.out hb); have n4_ := q0 (below_step (qb HB.out) hb); clear HO110 HO113 BK111 HB; have HO110 := n0_; have HO113 := n1_; have HO118 := n2_; have BK111 := n3_; have HB := n4_; clear n0_ n1_ n2_ n3_ n4_; (try clear hb); (try clear hb2); (try clear hk); (try clear hi); (try clear ho0); obtain ⟨Ao17, co17, eo17⟩ := Kd.R_slice HO113.out; subst eo17; obtain ⟨Ao18, co18, eo18⟩ := Kd.R_slice HO118.out; subst eo18) | ((with_reducible refine gate_callee (f := 21) rfl ?_); refine goesL_ (some 17) rfl rfl Try.func21 (by kernel_rfl) rfl #[.slice Ao17 t100.length co17, .slice Ao18 t105.length co18] rfl qm ?_; (with_reducible refine (laws_loTies.calls k _ _ t100 _ _ t105 true _ ?side1 ?side2 ?side3 ?side4 A12.out).mono ?_); (case side1 => exact qc (Kd.R_reads' HO113.out).2.2); (case side2 => exact (Kd.R_reads' HO113.out).2.1); (case side3 => exact qc (Kd.R_reads' HO118.out).2.2); (case side4 => exact (Kd.R_reads' HO118.out).2.1); rintro e w' ⟨rfl, ⟨nd, rfl⟩⟩; refine ⟨_, rfl, ?_⟩; have hcz19_0 : w16.cell? ⟨gb111, 0, none⟩ = some (.int .i64 t104) := (blk_cell BK111.out 0).trans rfl; have hcz19_1 : w16.cell? ⟨gb111, 1, none⟩ = some (.slice Ao9 t108.length co9) := (blk_cell BK111.out 1).trans rfl; have hfz19_0 := blk_frozen BK111.out 0; have hfz19_1 := blk_frozen BK111.out 1) | (go_at_call 23; (with_reducible refine (spec_NetOk.calls k t104 _ _ t108 t107 _ ?side1 ?side2 A14.out).mono ?_); (case side1 => exact qc (Kd.R_reads' HO110.out).2.2); (case side2 => exact (Kd.R_reads' HO110.out).2.1); rintro e w20 ⟨rfl, hb⟩; have n0_ := q0 (Kd.R_below (qr HO110.out) hb); have n1_ := q0 (Kd.R_below (qr HO113.out) hb); have n2_ := q0 (Kd.R_below (qr HO118.out) hb); have n3_ := q0 (kb BK111.out hb); have n4_ := q0 (below_step (qb HB.out) hb); clear HO110 HO113 HO118 BK111 HB; have HO110 := n0_; have HO113 := n1_; have HO118 := n2_; have BK111 := n3_; have HB := n4_; clear n0_ n1_ n2_ n3_ n4_; (try clear hb); (try clear hb2); (try clear hk); (try clear hi)))
   go_meet
   case rel => exact ⟨_, (!t107), qs, H', ⟨by first | omega | exact Nat.le_refl _⟩, ⟨by (with_reducible repeat (first | apply Kd.R_alloc | apply Kd.R_drewN | apply Kd.R_drew)); exact Kd.R_mono HO113.out (fun _ hk => hk.1.2)⟩, ⟨by (with_reducible repeat (first | apply Kd.R_alloc | apply Kd.R_drewN | apply Kd.R_drew)); exact Kd.R_mono HO110.out (fun _ hk => hk.1.2)⟩, ⟨qk BK111.out⟩, ⟨qb HB.out⟩⟩
 clear HC5
 try clear c1
 try clear c2
 try clear c2b0
 try clear c2b1
 try clear p2
 try clear c3
 try clear c6
 try clear c13
 try clear c21
 try clear hcz15_0
 try clear hcz15_1
 try clear hcz19_0
 try clear hcz19_1
 try clear hcz21_0
 try clear hcz21_1
 try clear hcz8_0
 try clear hcz8_1
 try clear hfz15_0
 try clear hfz15_1
 try clear hfz19_0
 try clear hfz19_1
 try clear hfz21_0
 try clear hfz21_1
 try clear hfz8_0
 try clear hfz8_1
 obtain ⟨kq, x23_4, rfl, HA, HJ4, HO_4, HO_100001, BK111, HB⟩ := hcut
 rcases kq with _ | kj4
 · exact absurd HA.out (by simp [laws_FnBridgeList.j0])
 have H := HA.out
 clear HA
 simp only [laws_FnBridgeList.j0] at H
 by_cases c25 : x23_4 = true
 · subst c25
   have H1 : ((spec_BridgeList.f kj4 t104 t108).bind fun t101 => ((laws_loTies.f kj4 t100 t101).bind fun t102 => (some t102))) = some r := by rw [if_pos rfl] at H; exact H
   clear H
   have H := H1
   clear H1
   replace H := Option.bind_eq_some_iff.mp H
   obtain ⟨t101, A119, H⟩ := H
   replace H : ((laws_loTies.f kj4 t100 t101).bind fun t102 => (some t102)) = some r := H
   have A26 := Aside0.mk A119
   clear A119
   replace H := Option.bind_eq_some_iff.mp H
   obtain ⟨t102, A120, H⟩ := H
   replace H : (some t102) = some r := H
   have A27 := Aside0.mk A120
   clear A120
   obtain rfl := Option.some.inj H
   have hcz28_0 : wc.cell? ⟨gb111, 0, none⟩ = some (.int .i64 t104) := (blk_cell BK111.out 0).trans rfl
   have hcz28_1 : wc.cell? ⟨gb111, 1, none⟩ = some (.slice Ao9 t108.length co9) := (blk_cell BK111.out 1).trans rfl
   have hfz28_0 := blk_frozen BK111.out 0
   have hfz28_1 := blk_frozen BK111.out 1
   go_wp2_with (first | ((with_reducible refine gate_callee (f := 26) rfl ?_); refine goesL_ (some 26) rfl rfl Try.func26 (by kernel_rfl) rfl #[.agg #[.int .i64 t104, .slice Ao9 t108.length co9]] rfl qm ?_; (with_reducible refine (spec_BridgeList.calls kj4 t104 _ _ t108 t101 _ ?side1 ?side2 A26.out).mono ?_); (case side1 => exact qc (Kd.R_reads' HO_100001.out).2.2); (case side2 => exact (Kd.R_reads' HO_100001.out).2.1); rintro e w29 ⟨v121, rfl, ho0, hb⟩; refine ⟨_, rfl, ?_⟩; have n0_ := q0 (Kd.R_elder' (qr HO_4.out) (Kd.R_base ho0) hb); have n1_ := q0 (Kd.R_elder' (qr HO_100001.out) (Kd.R_base ho0) hb); have n2_ := q0 (Kd.R_lower (Kd.R_new' (Kd.R_new' ho0 (Kd.R_lt (qr HO_4.out))) (Kd.R_lt (qr HO_100001.out))) (below_size (qb HB.out))); have n3_ := q0 (kb BK111.out hb); have n4_ := q0 (below_step (qb HB.out) hb); clear HO_4 HO_100001 BK111 HB; have HO_4 := n0_; have HO_100001 := n1_; have HO122 := n2_; have BK111 := n3_; have HB := n4_; clear n0_ n1_ n2_ n3_ n4_; (try clear hb); (try clear hb2); (try clear hk); (try clear hi); (try clear ho0); obtain ⟨Ao30, co30, eo30⟩ := Kd.R_slice HO_4.out; subst eo30; obtain ⟨Ao31, co31, eo31⟩ := Kd.R_slice HO122.out; subst eo31) | ((with_reducible refine gate_callee (f := 21) rfl ?_); refine goesL_ (some 27) rfl rfl Try.func21 (by kernel_rfl) rfl #[.slice Ao30 t100.length co30, .slice Ao31 t101.length co31] rfl qm ?_; (with_reducible refine (laws_loTies.calls kj4 _ _ t100 _ _ t101 t102 _ ?side1 ?side2 ?side3 ?side4 A27.out).mono ?_); (case side1 => exact qc (Kd.R_reads' HO_4.out).2.2); (case side2 => exact (Kd.R_reads' HO_4.out).2.1); (case side3 => exact qc (Kd.R_reads' HO122.out).2.2); (case side4 => exact (Kd.R_reads' HO122.out).2.1); rintro e w' ⟨rfl, ⟨nd, rfl⟩⟩; refine ⟨_, rfl, ?_⟩))
   go_ret
   exact ⟨qe, qb HB.out⟩
 replace c25 := Bool.eq_false_iff.mpr c25
 subst c25
 have H1 : (laws_FnBridgeList.l0 kj4 t100 0 0 t104 t108) = some r := by rw [if_neg (show ¬ (false = true) by decide)] at H; exact H
 clear H
 have H := H1
 clear H1
 have H' := Aside0.mk H
 clear H
 go_wp2
 go_loopg [5, 6] kj4 (fun kq v5 v6 w' => ∃ (x5_2 : Int) (x6_2 : Int), v5 = .int .i64 x5_2 ∧ v6 = .int .i64 x6_2 ∧ Aside0 (laws_FnBridgeList.l0 kq t100 x5_2 x6_2 t104 t108 = some r) ∧ Aside0 (kq ≤ kj4) ∧ Aside0 (Kd.R kTie 27 w' w.heap.size (fun k_ => some k_ ≠ ((.slice Ao9 t108.length co9) : Value).ownBlock) v112 t100) ∧ Aside0 (Kd.R kTie 27 w' w.heap.size (fun k_ => some k_ ≠ (v112 : Value).ownBlock) (.slice Ao9 t108.length co9) t108) ∧ Aside0 (w'.heap[gb111]? = some (.cells #[.int .i64 t104, (.slice Ao9 t108.length co9)] 32 (0, 0))) ∧ Aside0 (Below w.heap.size w w'))
 case atStart => exact ⟨(0), (0), qs, qs, H', ⟨Nat.le_refl _⟩, ⟨qr HO_4.out⟩, ⟨qr HO_100001.out⟩, ⟨qk BK111.out⟩, ⟨qb HB.out⟩⟩
 clear H'
 try clear c1
 try clear c2
 try clear c2b0
 try clear c2b1
 try clear p2
 try clear c3
 try clear c6
 try clear c13
 try clear c21
 try clear c25
 try clear c26
 try clear c27
 try clear hcz15_0
 try clear hcz15_1
 try clear hcz19_0
 try clear hcz19_1
 try clear hcz21_0
 try clear hcz21_1
 try clear hcz28_0
 try clear hcz28_1
 try clear hcz8_0
 try clear hcz8_1
 try clear hfz15_0
 try clear hfz15_1
 try clear hfz19_0
 try clear hfz19_1
 try clear hfz21_0
 try clear hfz21_1
 try clear hfz28_0
 try clear hfz28_1
 try clear hfz8_0
 try clear hfz8_1
 try clear p2
 obtain ⟨x5_2, x6_2, rfl, rfl, HA, HK2, HO_4, HO_100001, BK111, HB⟩ := hrel
 rcases gk with _ | k2
 · exact absurd HA.out (by simp [laws_FnBridgeList.l0])
 have H := HA.out
 clear HA
 simp only [laws_FnBridgeList.l0] at H
 by_cases c32 : x6_2 < (t108.length : Int)
 rotate_left
 · rw [if_neg c32] at H
   have c32b0 : decide (x6_2 < (t108.length : Int)) = false := decide_eq_false c32
   clear c32
   obtain rfl := Option.some.inj H
   have hcz58_0 : wr.cell? ⟨gb111, 0, none⟩ = some (.int .i64 t104) := (blk_cell BK111.out 0).trans rfl
   have hcz58_1 : wr.cell? ⟨gb111, 1, none⟩ = some (.slice Ao9 t108.length co9) := (blk_cell BK111.out 1).trans rfl
   have hfz58_0 := blk_frozen BK111.out 0
   have hfz58_1 := blk_frozen BK111.out 1
   obtain ⟨Ao59, co59, eo59⟩ := Kd.R_slice HO_4.out
   subst eo59
   go_wp2
   go_ret
   exact ⟨qe, qb HB.out⟩
 rw [if_pos c32] at H
 have c32b0 : decide (x6_2 < (t108.length : Int)) = true := decide_eq_true c32
 clear c32
 by_cases c33 : 0 ≤ x6_2
 rotate_left
 · rw [if_neg c33] at H
   exact absurd H (by simp)
 rw [if_pos c33] at H
 have c33b0 : decide (0 ≤ x6_2) = true := decide_eq_true c33
 clear c33
 replace H := Option.bind_eq_some_iff.mp H
 obtain ⟨t103, A123, H⟩ := H
 replace H : (if t103 = true then (if x5_2 ≥ (t100.length : Int) then (some false) else (if 0 ≤ x5_2 then (if x5_2 < (t100.length : Int) then (if (!(((rd_TTie t100 x5_2).f0) == ((rd_TTie t108 x6_2).f0)) || (!(((rd_TTie t100 x5_2).f1) == ((rd_TTie t108 x6_2).f1)))) = true then (some false) else (laws_FnBridgeList.l0 k2 t100 (wrap64 (x5_2 + 1)) (wrap64 (x6_2 + 1)) t104 t108)) else (none)) else (none))) else (laws_FnBridgeList.l0 k2 t100 x5_2 (wrap64 (x6_2 + 1)) t104 t108)) = some r := H
 have A34 := Aside0.mk A123
 clear A123
 by_cases c35 : t103 = true
 rotate_left
 · replace c35 := Bool.eq_false_iff.mpr c35
   subst c35
   have H1 : (laws_FnBridgeList.l0 k2 t100 x5_2 (wrap64 (x6_2 + 1)) t104 t108) = some r := by rw [if_neg (show ¬ (false = true) by decide)] at H; exact H
   clear H
   have H := H1
   clear H1
   have H' := Aside0.mk H
   clear H
   have hcz55_0 : wr.cell? ⟨gb111, 0, none⟩ = some (.int .i64 t104) := (blk_cell BK111.out 0).trans rfl
   have hcz55_1 : wr.cell? ⟨gb111, 1, none⟩ = some (.slice Ao9 t108.length co9) := (blk_cell BK111.out 1).trans rfl
   have hfz55_0 := blk_frozen BK111.out 0
   have hfz55_1 := blk_frozen BK111.out 1
   try go_wp2
   have n0_ := q0 (Kd.R_drew HO_4.out)
   have n1_ := q0 (Kd.R_drew HO_100001.out)
   have n2_ := q0 (blk_drew BK111.out)
   have n3_ := q0 (below_drew1 HB.out)
   clear HO_4
   clear HO_100001
   clear BK111
   clear HB
   have HO_4 := n0_
   have HO_100001 := n1_
   have BK111 := n2_
   have HB := n3_
   clear n0_ n1_ n2_ n3_
   have p124 : 0 ≤ (x6_2 : Int) := of_decide_eq_true qa
   have q124 : x6_2 < (t108.length : Int) := of_decide_eq_true qa
   obtain ⟨ad124, e124, hx124_0, hx124_1⟩ := at_TTie (Kd.R_reads' HO_100001.out).2.2 x6_2 p124 q124
   cases e124
   replace p124 := eq_true p124
   replace q124 := eq_true q124
   have p125 : 0 ≤ (x6_2 : Int) := of_decide_eq_true qa
   have q125 : x6_2 < (t108.length : Int) := of_decide_eq_true qa
   obtain ⟨ad125, e125, hx125_0, hx125_1⟩ := at_TTie (Kd.R_reads' HO_100001.out).2.2 x6_2 p125 q125
   obtain rfl : ad124 = ad125 := (by injection e125)
   replace p125 := eq_true p125
   replace q125 := eq_true q125
   refine start_ (n := 14) (S := fun w' => w'.cell? ⟨gb111, 0, none⟩ = some (.int .i64 t104) ∧ w'.cell? ⟨gb111, 1, none⟩ = some (.slice (some ad124) t108.length co9) ∧ w'.cell? (ad124.add ((x6_2).toNat * 2)) = some (.int .i64 ((rd_TTie t108 x6_2).f0)) ∧ w'.cell? ⟨(ad124.add ((x6_2).toNat * 2)).block, (ad124.add ((x6_2).toNat * 2)).off + 1, none⟩ = some (.int .i64 ((rd_TTie t108 x6_2).f1)) ∧ w'.cell? (ad124.add ((x6_2).toNat * 2)) = some (.int .i64 ((rd_TTie t108 x6_2).f0)) ∧ w'.cell? ⟨(ad124.add ((x6_2).toNat * 2)).block, (ad124.add ((x6_2).toNat * 2)).off + 1, none⟩ = some (.int .i64 ((rd_TTie t108 x6_2).f1))) (ds := []) (ba 14 0) (by kernel_rfl) rfl (by kernel_rfl) ⟨(blk_cell BK111.out 0).trans rfl, (blk_cell BK111.out 1).trans rfl, hx124_0, hx124_1, hx125_0, hx125_1⟩ (fun hHeld => ?_); refine with_tabW laws_FnBridgeList.tab11 laws_FnBridgeList.bits11 (fun HT_ HW_ => ?_)
   generalize wr.drew = w56 at HO_4 HO_100001 BK111 HB hx124_0 hx124_1 hx125_0 hx125_1 hHeld ⊢
   refine pu 1 (some 36) (ba 14 2) HT_.out ?_
   refine pu 3 (some 38) (ba 14 10) HT_.out ?_
   refine pu 7 (some 42) (ba 14 138) HT_.out ?_
   refine pu 9 (some 44) (ba 14 650) HT_.out ?_
   refine tu 0 (some 35) (ba 14 651) HT_.out HW_.out hHeld ?_
   refine tu 2 (some 37) (ba 14 655) HT_.out HW_.out hHeld ?_
   refine pu 4 (some 39) (ba 14 671) HT_.out ?_
   refine pu 5 (some 40) (ba 14 703) HT_.out ?_
   refine tu 6 (some 41) (ba 14 767) HT_.out HW_.out hHeld ?_
   refine tu 8 (some 43) (ba 14 1023) HT_.out HW_.out hHeld ?_
   refine pu 10 (some 45) (ba 14 2047) HT_.out ?_
   refine pu 11 (some 46) (ba 14 4095) HT_.out ?_
   refine tu 12 (some 47) (ba 14 8191) HT_.out HW_.out hHeld ?_
   refine one_ (i := 13) (N := some 48) (ba 14 16383) rfl rfl (one_of HT_.out (by kernel_rfl)) (by decide) (fun K hK => ?_)
   refine goes_ Try.func33 (by kernel_rfl) rfl #[.agg #[.int .i64 t104, .slice (some ad124) t108.length co9], .int .i64 ((rd_TTie t108 x6_2).f0), .int .i64 ((rd_TTie t108 x6_2).f1)] (by rfl) rfl rfl qm ?_
   with_reducible refine (impl_BridgeIs.calls k2 t104 _ _ t108 ((rd_TTie t108 x6_2).f0) ((rd_TTie t108 x6_2).f1) false _ ?side1 ?side2 A34.out).mono ?_
   (case side1 => exact qc (Kd.R_reads' HO_100001.out).2.2)
   (case side2 => exact (Kd.R_reads' HO_100001.out).2.1)
   rintro e w57 ⟨rfl, hb⟩
   have HS2_ := (hb.cell (World.block_lt_of_cell? _ _ (hHeld.2.2.1))).trans (hHeld.2.2.1)
   have HS3_ := (hb.cell (World.block_lt_of_cell? _ _ (hHeld.2.2.2.1))).trans (hHeld.2.2.2.1)
   have HS4_ := (hb.cell (World.block_lt_of_cell? _ _ (hHeld.2.2.2.2.1))).trans (hHeld.2.2.2.2.1)
   have HS5_ := (hb.cell (World.block_lt_of_cell? _ _ (hHeld.2.2.2.2.2))).trans (hHeld.2.2.2.2.2)
   refine ⟨_, rfl, ?_⟩
   have n0_ := q0 (Kd.R_below (qr HO_4.out) hb)
   have n1_ := q0 (Kd.R_below (qr HO_100001.out) hb)
   have n2_ := q0 (kb BK111.out hb)
   have n3_ := q0 (below_step (qb HB.out) hb)
   clear HO_4
   clear HO_100001
   clear BK111
   clear HB
   have HO_4 := n0_
   have HO_100001 := n1_
   have BK111 := n2_
   have HB := n3_
   clear n0_ n1_ n2_ n3_
   (try clear hb)
   (try clear hb2)
   (try clear hk)
   (try clear hi)
   refine hK.out _ _ ⟨(blk_cell BK111.out 0).trans rfl, (blk_cell BK111.out 1).trans rfl, HS2_, HS3_, HS4_, HS5_⟩ (fun hHeld => ?_)
   clear hK K
   refine nu 48 ?_
   refine done_ (done_of HT_.out (by kernel_rfl)) ?_
   try go_wp2
   go_roundg k2
   case measure => have := HJ4.out; have := HK2.out; omega
   case rel => exact ⟨(x5_2), (wrap64 (x6_2 + 1)), qs, qs, H', ⟨by have := HJ4.out; have := HK2.out; omega⟩, ⟨qr HO_4.out⟩, ⟨qr HO_100001.out⟩, ⟨qk BK111.out⟩, ⟨qb HB.out⟩⟩
 subst c35
 have H1 : (if x5_2 ≥ (t100.length : Int) then (some false) else (if 0 ≤ x5_2 then (if x5_2 < (t100.length : Int) then (if (!(((rd_TTie t100 x5_2).f0) == ((rd_TTie t108 x6_2).f0)) || (!(((rd_TTie t100 x5_2).f1) == ((rd_TTie t108 x6_2).f1)))) = true then (some false) else (laws_FnBridgeList.l0 k2 t100 (wrap64 (x5_2 + 1)) (wrap64 (x6_2 + 1)) t104 t108)) else (none)) else (none))) = some r := by rw [if_pos rfl] at H; exact H
 clear H
 have H := H1
 clear H1
 by_cases c36 : x5_2 ≥ (t100.length : Int)
 · rw [if_pos c36] at H
   have c36b0 : decide ((t100.length : Int) ≤ x5_2) = true := decide_eq_true c36
   clear c36
   obtain rfl := Option.some.inj H
   have hcz37_0 : wr.cell? ⟨gb111, 0, none⟩ = some (.int .i64 t104) := (blk_cell BK111.out 0).trans rfl
   have hcz37_1 : wr.cell? ⟨gb111, 1, none⟩ = some (.slice Ao9 t108.length co9) := (blk_cell BK111.out 1).trans rfl
   have hfz37_0 := blk_frozen BK111.out 0
   have hfz37_1 := blk_frozen BK111.out 1
   try go_wp2
   have n0_ := q0 (Kd.R_drew HO_4.out)
   have n1_ := q0 (Kd.R_drew HO_100001.out)
   have n2_ := q0 (blk_drew BK111.out)
   have n3_ := q0 (below_drew1 HB.out)
   clear HO_4
   clear HO_100001
   clear BK111
   clear HB
   have HO_4 := n0_
   have HO_100001 := n1_
   have BK111 := n2_
   have HB := n3_
   clear n0_ n1_ n2_ n3_
   have p124 : 0 ≤ (x6_2 : Int) := of_decide_eq_true qa
   have q124 : x6_2 < (t108.length : Int) := of_decide_eq_true qa
   obtain ⟨ad124, e124, hx124_0, hx124_1⟩ := at_TTie (Kd.R_reads' HO_100001.out).2.2 x6_2 p124 q124
   cases e124
   replace p124 := eq_true p124
   replace q124 := eq_true q124
   have p125 : 0 ≤ (x6_2 : Int) := of_decide_eq_true qa
   have q125 : x6_2 < (t108.length : Int) := of_decide_eq_true qa
   obtain ⟨ad125, e125, hx125_0, hx125_1⟩ := at_TTie (Kd.R_reads' HO_100001.out).2.2 x6_2 p125 q125
   obtain rfl : ad124 = ad125 := (by injection e125)
   replace p125 := eq_true p125
   replace q125 := eq_true q125
   refine start_ (n := 14) (S := fun w' => w'.cell? ⟨gb111, 0, none⟩ = some (.int .i64 t104) ∧ w'.cell? ⟨gb111, 1, none⟩ = some (.slice (some ad124) t108.length co9) ∧ w'.cell? (ad124.add ((x6_2).toNat * 2)) = some (.int .i64 ((rd_TTie t108 x6_2).f0)) ∧ w'.cell? ⟨(ad124.add ((x6_2).toNat * 2)).block, (ad124.add ((x6_2).toNat * 2)).off + 1, none⟩ = some (.int .i64 ((rd_TTie t108 x6_2).f1)) ∧ w'.cell? (ad124.add ((x6_2).toNat * 2)) = some (.int .i64 ((rd_TTie t108 x6_2).f0)) ∧ w'.cell? ⟨(ad124.add ((x6_2).toNat * 2)).block, (ad124.add ((x6_2).toNat * 2)).off + 1, none⟩ = some (.int .i64 ((rd_TTie t108 x6_2).f1))) (ds := []) (ba 14 0) (by kernel_rfl) rfl (by kernel_rfl) ⟨(blk_cell BK111.out 0).trans rfl, (blk_cell BK111.out 1).trans rfl, hx124_0, hx124_1, hx125_0, hx125_1⟩ (fun hHeld => ?_); refine with_tabW laws_FnBridgeList.tab11 laws_FnBridgeList.bits11 (fun HT_ HW_ => ?_)
   generalize wr.drew = w38 at HO_4 HO_100001 BK111 HB hx124_0 hx124_1 hx125_0 hx125_1 hHeld ⊢
   refine pu 1 (some 36) (ba 14 2) HT_.out ?_
   refine pu 3 (some 38) (ba 14 10) HT_.out ?_
   refine pu 7 (some 42) (ba 14 138) HT_.out ?_
   refine pu 9 (some 44) (ba 14 650) HT_.out ?_
   refine tu 0 (some 35) (ba 14 651) HT_.out HW_.out hHeld ?_
   refine tu 2 (some 37) (ba 14 655) HT_.out HW_.out hHeld ?_
   refine pu 4 (some 39) (ba 14 671) HT_.out ?_
   refine pu 5 (some 40) (ba 14 703) HT_.out ?_
   refine tu 6 (some 41) (ba 14 767) HT_.out HW_.out hHeld ?_
   refine tu 8 (some 43) (ba 14 1023) HT_.out HW_.out hHeld ?_
   refine pu 10 (some 45) (ba 14 2047) HT_.out ?_
   refine pu 11 (some 46) (ba 14 4095) HT_.out ?_
   refine tu 12 (some 47) (ba 14 8191) HT_.out HW_.out hHeld ?_
   refine one_ (i := 13) (N := some 48) (ba 14 16383) rfl rfl (one_of HT_.out (by kernel_rfl)) (by decide) (fun K hK => ?_)
   refine goes_ Try.func33 (by kernel_rfl) rfl #[.agg #[.int .i64 t104, .slice (some ad124) t108.length co9], .int .i64 ((rd_TTie t108 x6_2).f0), .int .i64 ((rd_TTie t108 x6_2).f1)] (by rfl) rfl rfl qm ?_
   with_reducible refine (impl_BridgeIs.calls k2 t104 _ _ t108 ((rd_TTie t108 x6_2).f0) ((rd_TTie t108 x6_2).f1) true _ ?side1 ?side2 A34.out).mono ?_
   (case side1 => exact qc (Kd.R_reads' HO_100001.out).2.2)
   (case side2 => exact (Kd.R_reads' HO_100001.out).2.1)
   rintro e w39 ⟨rfl, hb⟩
   have HS2_ := (hb.cell (World.block_lt_of_cell? _ _ (hHeld.2.2.1))).trans (hHeld.2.2.1)
   have HS3_ := (hb.cell (World.block_lt_of_cell? _ _ (hHeld.2.2.2.1))).trans (hHeld.2.2.2.1)
   have HS4_ := (hb.cell (World.block_lt_of_cell? _ _ (hHeld.2.2.2.2.1))).trans (hHeld.2.2.2.2.1)
   have HS5_ := (hb.cell (World.block_lt_of_cell? _ _ (hHeld.2.2.2.2.2))).trans (hHeld.2.2.2.2.2)
   refine ⟨_, rfl, ?_⟩
   have n0_ := q0 (Kd.R_below (qr HO_4.out) hb)
   have n1_ := q0 (Kd.R_below (qr HO_100001.out) hb)
   have n2_ := q0 (kb BK111.out hb)
   have n3_ := q0 (below_step (qb HB.out) hb)
   clear HO_4
   clear HO_100001
   clear BK111
   clear HB
   have HO_4 := n0_
   have HO_100001 := n1_
   have BK111 := n2_
   have HB := n3_
   clear n0_ n1_ n2_ n3_
   (try clear hb)
   (try clear hb2)
   (try clear hk)
   (try clear hi)
   refine hK.out _ _ ⟨(blk_cell BK111.out 0).trans rfl, (blk_cell BK111.out 1).trans rfl, HS2_, HS3_, HS4_, HS5_⟩ (fun hHeld => ?_)
   clear hK K
   refine nu 48 ?_
   refine done_ (done_of HT_.out (by kernel_rfl)) ?_
   try go_wp2
   have n0_ := q0 (Kd.R_drew HO_4.out)
   have n1_ := q0 (Kd.R_drew HO_100001.out)
   have n2_ := q0 (blk_drew BK111.out)
   have n3_ := q0 (below_drew1 HB.out)
   clear HO_4
   clear HO_100001
   clear BK111
   clear HB
   have HO_4 := n0_
   have HO_100001 := n1_
   have BK111 := n2_
   have HB := n3_
   clear n0_ n1_ n2_ n3_
   obtain ⟨Ao41, co41, eo41⟩ := Kd.R_slice HO_4.out
   (first | subst eo41 | (injection eo41 with f1_ f2_ f3_; have f4_ := f1_.symm; have f5_ := f3_.symm; clear f1_ f2_ f3_; subst f4_; subst f5_))
   refine start_ (n := 16) (S := fun w' => True) (ds := []) (ba 16 0) (by kernel_rfl) rfl (by kernel_rfl) trivial (fun hHeld => ?_); refine with_tabW laws_FnBridgeList.tab12 laws_FnBridgeList.bits12 (fun HT_ HW_ => ?_)
   generalize w39.drew = w40 at HO_4 HO_100001 BK111 HB hHeld ⊢
   refine pu 0 (some 49) (ba 16 1) HT_.out ?_
   refine pu 1 (some 50) (ba 16 3) HT_.out ?_
   refine pu 2 (some 51) (ba 16 7) HT_.out ?_
   refine pu 3 (some 52) (ba 16 15) HT_.out ?_
   refine pu 4 (some 53) (ba 16 31) HT_.out ?_
   refine pv 5 (some 54) (ba 16 63) HT_.out ?_
   refine pv 6 (some 55) (ba 16 127) HT_.out ?_
   refine pv 7 (some 56) (ba 16 255) HT_.out ?_
   refine pv 8 (some 57) (ba 16 511) HT_.out ?_
   refine pv 9 (some 58) (ba 16 1023) HT_.out ?_
   refine pv 10 (some 59) (ba 16 2047) HT_.out ?_
   refine pv 11 (some 60) (ba 16 4095) HT_.out ?_
   refine pv 12 (some 61) (ba 16 8191) HT_.out ?_
   refine pv 13 (some 62) (ba 16 16383) HT_.out ?_
   refine pv 14 (some 63) (ba 16 32767) HT_.out ?_
   refine pu 15 (some 64) (ba 16 65535) HT_.out ?_
   refine done_ (done_of HT_.out (by kernel_rfl)) ?_
   try go_wp2
   go_ret
   exact ⟨qe, qb HB.out⟩
 rw [if_neg c36] at H
 have c36b0 : decide ((t100.length : Int) ≤ x5_2) = false := decide_eq_false c36
 clear c36
 by_cases c42 : 0 ≤ x5_2
 rotate_left
 · rw [if_neg c42] at H
   exact absurd H (by simp)
 rw [if_pos c42] at H
 have c42b0 : decide (0 ≤ x5_2) = true := decide_eq_true c42
 clear c42
 by_cases c43 : x5_2 < (t100.length : Int)
 rotate_left
 · rw [if_neg c43] at H
   exact absurd H (by simp)
 rw [if_pos c43] at H
 have c43b0 : decide (x5_2 < (t100.length : Int)) = true := decide_eq_true c43
 clear c43
 by_cases c44 : (!(((rd_TTie t100 x5_2).f0) == ((rd_TTie t108 x6_2).f0)) || (!(((rd_TTie t100 x5_2).f1) == ((rd_TTie t108 x6_2).f1)))) = true
 · rw [if_pos c44] at H
   have c44b0 : (!(((rd_TTie t100 x5_2).f0) == ((rd_TTie t108 x6_2).f0)) || (!(((rd_TTie t100 x5_2).f1) == ((rd_TTie t108 x6_2).f1)))) = true := c44
   clear c44
   obtain rfl := Option.some.inj H
   have hcz45_0 : wr.cell? ⟨gb111, 0, none⟩ = some (.int .i64 t104) := (blk_cell BK111.out 0).trans rfl
   have hcz45_1 : wr.cell? ⟨gb111, 1, none⟩ = some (.slice Ao9 t108.length co9) := (blk_cell BK111.out 1).trans rfl
   have hfz45_0 := blk_frozen BK111.out 0
   have hfz45_1 := blk_frozen BK111.out 1
   try go_wp2
   have n0_ := q0 (Kd.R_drew HO_4.out)
   have n1_ := q0 (Kd.R_drew HO_100001.out)
   have n2_ := q0 (blk_drew BK111.out)
   have n3_ := q0 (below_drew1 HB.out)
   clear HO_4
   clear HO_100001
   clear BK111
   clear HB
   have HO_4 := n0_
   have HO_100001 := n1_
   have BK111 := n2_
   have HB := n3_
   clear n0_ n1_ n2_ n3_
   have p124 : 0 ≤ (x6_2 : Int) := of_decide_eq_true qa
   have q124 : x6_2 < (t108.length : Int) := of_decide_eq_true qa
   obtain ⟨ad124, e124, hx124_0, hx124_1⟩ := at_TTie (Kd.R_reads' HO_100001.out).2.2 x6_2 p124 q124
   cases e124
   replace p124 := eq_true p124
   replace q124 := eq_true q124
   have p125 : 0 ≤ (x6_2 : Int) := of_decide_eq_true qa
   have q125 : x6_2 < (t108.length : Int) := of_decide_eq_true qa
   obtain ⟨ad125, e125, hx125_0, hx125_1⟩ := at_TTie (Kd.R_reads' HO_100001.out).2.2 x6_2 p125 q125
   obtain rfl : ad124 = ad125 := (by injection e125)
   replace p125 := eq_true p125
   replace q125 := eq_true q125
   refine start_ (n := 14) (S := fun w' => w'.cell? ⟨gb111, 0, none⟩ = some (.int .i64 t104) ∧ w'.cell? ⟨gb111, 1, none⟩ = some (.slice (some ad124) t108.length co9) ∧ w'.cell? (ad124.add ((x6_2).toNat * 2)) = some (.int .i64 ((rd_TTie t108 x6_2).f0)) ∧ w'.cell? ⟨(ad124.add ((x6_2).toNat * 2)).block, (ad124.add ((x6_2).toNat * 2)).off + 1, none⟩ = some (.int .i64 ((rd_TTie t108 x6_2).f1)) ∧ w'.cell? (ad124.add ((x6_2).toNat * 2)) = some (.int .i64 ((rd_TTie t108 x6_2).f0)) ∧ w'.cell? ⟨(ad124.add ((x6_2).toNat * 2)).block, (ad124.add ((x6_2).toNat * 2)).off + 1, none⟩ = some (.int .i64 ((rd_TTie t108 x6_2).f1))) (ds := []) (ba 14 0) (by kernel_rfl) rfl (by kernel_rfl) ⟨(blk_cell BK111.out 0).trans rfl, (blk_cell BK111.out 1).trans rfl, hx124_0, hx124_1, hx125_0, hx125_1⟩ (fun hHeld => ?_); refine with_tabW laws_FnBridgeList.tab11 laws_FnBridgeList.bits11 (fun HT_ HW_ => ?_)
   generalize wr.drew = w46 at HO_4 HO_100001 BK111 HB hx124_0 hx124_1 hx125_0 hx125_1 hHeld ⊢
   refine pu 1 (some 36) (ba 14 2) HT_.out ?_
   refine pu 3 (some 38) (ba 14 10) HT_.out ?_
   refine pu 7 (some 42) (ba 14 138) HT_.out ?_
   refine pu 9 (some 44) (ba 14 650) HT_.out ?_
   refine tu 0 (some 35) (ba 14 651) HT_.out HW_.out hHeld ?_
   refine tu 2 (some 37) (ba 14 655) HT_.out HW_.out hHeld ?_
   refine pu 4 (some 39) (ba 14 671) HT_.out ?_
   refine pu 5 (some 40) (ba 14 703) HT_.out ?_
   refine tu 6 (some 41) (ba 14 767) HT_.out HW_.out hHeld ?_
   refine tu 8 (some 43) (ba 14 1023) HT_.out HW_.out hHeld ?_
   refine pu 10 (some 45) (ba 14 2047) HT_.out ?_
   refine pu 11 (some 46) (ba 14 4095) HT_.out ?_
   refine tu 12 (some 47) (ba 14 8191) HT_.out HW_.out hHeld ?_
   refine one_ (i := 13) (N := some 48) (ba 14 16383) rfl rfl (one_of HT_.out (by kernel_rfl)) (by decide) (fun K hK => ?_)
   refine goes_ Try.func33 (by kernel_rfl) rfl #[.agg #[.int .i64 t104, .slice (some ad124) t108.length co9], .int .i64 ((rd_TTie t108 x6_2).f0), .int .i64 ((rd_TTie t108 x6_2).f1)] (by rfl) rfl rfl qm ?_
   with_reducible refine (impl_BridgeIs.calls k2 t104 _ _ t108 ((rd_TTie t108 x6_2).f0) ((rd_TTie t108 x6_2).f1) true _ ?side1 ?side2 A34.out).mono ?_
   (case side1 => exact qc (Kd.R_reads' HO_100001.out).2.2)
   (case side2 => exact (Kd.R_reads' HO_100001.out).2.1)
   rintro e w47 ⟨rfl, hb⟩
   have HS2_ := (hb.cell (World.block_lt_of_cell? _ _ (hHeld.2.2.1))).trans (hHeld.2.2.1)
   have HS3_ := (hb.cell (World.block_lt_of_cell? _ _ (hHeld.2.2.2.1))).trans (hHeld.2.2.2.1)
   have HS4_ := (hb.cell (World.block_lt_of_cell? _ _ (hHeld.2.2.2.2.1))).trans (hHeld.2.2.2.2.1)
   have HS5_ := (hb.cell (World.block_lt_of_cell? _ _ (hHeld.2.2.2.2.2))).trans (hHeld.2.2.2.2.2)
   refine ⟨_, rfl, ?_⟩
   have n0_ := q0 (Kd.R_below (qr HO_4.out) hb)
   have n1_ := q0 (Kd.R_below (qr HO_100001.out) hb)
   have n2_ := q0 (kb BK111.out hb)
   have n3_ := q0 (below_step (qb HB.out) hb)
   clear HO_4
   clear HO_100001
   clear BK111
   clear HB
   have HO_4 := n0_
   have HO_100001 := n1_
   have BK111 := n2_
   have HB := n3_
   clear n0_ n1_ n2_ n3_
   (try clear hb)
   (try clear hb2)
   (try clear hk)
   (try clear hi)
   refine hK.out _ _ ⟨(blk_cell BK111.out 0).trans rfl, (blk_cell BK111.out 1).trans rfl, HS2_, HS3_, HS4_, HS5_⟩ (fun hHeld => ?_)
   clear hK K
   refine nu 48 ?_
   refine done_ (done_of HT_.out (by kernel_rfl)) ?_
   try go_wp2
   have n0_ := q0 (Kd.R_drew HO_4.out)
   have n1_ := q0 (Kd.R_drew HO_100001.out)
   have n2_ := q0 (blk_drew BK111.out)
   have n3_ := q0 (below_drew1 HB.out)
   clear HO_4
   clear HO_100001
   clear BK111
   clear HB
   have HO_4 := n0_
   have HO_100001 := n1_
   have BK111 := n2_
   have HB := n3_
   clear n0_ n1_ n2_ n3_
   obtain ⟨Ao49, co49, eo49⟩ := Kd.R_slice HO_4.out
   (first | subst eo49 | (injection eo49 with f1_ f2_ f3_; have f4_ := f1_.symm; have f5_ := f3_.symm; clear f1_ f2_ f3_; subst f4_; subst f5_))
   have p126 : 0 ≤ (x5_2 : Int) := of_decide_eq_true qa
   have q126 : x5_2 < (t100.length : Int) := of_decide_eq_true qa
   obtain ⟨ad126, e126, hx126_0, hx126_1⟩ := at_TTie (Kd.R_reads' HO_4.out).2.2 x5_2 p126 q126
   cases e126
   replace p126 := eq_true p126
   replace q126 := eq_true q126
   have p127 : 0 ≤ (x6_2 : Int) := of_decide_eq_true qa
   have q127 : x6_2 < (t108.length : Int) := of_decide_eq_true qa
   obtain ⟨ad127, e127, hx127_0, hx127_1⟩ := at_TTie (Kd.R_reads' HO_100001.out).2.2 x6_2 p127 q127
   obtain rfl : ad124 = ad127 := (by injection e127)
   replace p127 := eq_true p127
   replace q127 := eq_true q127
   refine start_ (n := 16) (S := fun w' => w'.cell? ⟨gb111, 0, none⟩ = some (.int .i64 t104) ∧ w'.cell? ⟨gb111, 1, none⟩ = some (.slice (some ad124) t108.length co9) ∧ w'.cell? (ad126.add ((x5_2).toNat * 2)) = some (.int .i64 ((rd_TTie t100 x5_2).f0)) ∧ w'.cell? ⟨(ad126.add ((x5_2).toNat * 2)).block, (ad126.add ((x5_2).toNat * 2)).off + 1, none⟩ = some (.int .i64 ((rd_TTie t100 x5_2).f1)) ∧ w'.cell? (ad124.add ((x6_2).toNat * 2)) = some (.int .i64 ((rd_TTie t108 x6_2).f0)) ∧ w'.cell? ⟨(ad124.add ((x6_2).toNat * 2)).block, (ad124.add ((x6_2).toNat * 2)).off + 1, none⟩ = some (.int .i64 ((rd_TTie t108 x6_2).f1))) (ds := []) (ba 16 0) (by kernel_rfl) rfl (by kernel_rfl) ⟨(blk_cell BK111.out 0).trans rfl, (blk_cell BK111.out 1).trans rfl, hx126_0, hx126_1, hx127_0, hx127_1⟩ (fun hHeld => ?_); refine with_tabW laws_FnBridgeList.tab12 laws_FnBridgeList.bits12 (fun HT_ HW_ => ?_)
   generalize w47.drew = w48 at HO_4 HO_100001 BK111 HB hx126_0 hx126_1 hx127_0 hx127_1 hHeld ⊢
   refine pu 0 (some 49) (ba 16 1) HT_.out ?_
   refine pu 1 (some 50) (ba 16 3) HT_.out ?_
   refine pu 2 (some 51) (ba 16 7) HT_.out ?_
   refine pu 3 (some 52) (ba 16 15) HT_.out ?_
   refine pu 4 (some 53) (ba 16 31) HT_.out ?_
   refine pu 5 (some 54) (ba 16 63) HT_.out ?_
   refine pu 6 (some 55) (ba 16 127) HT_.out ?_
   refine pu 7 (some 56) (ba 16 255) HT_.out ?_
   refine pu 9 (some 58) (ba 16 767) HT_.out ?_
   refine pu 11 (some 60) (ba 16 2815) HT_.out ?_
   refine tu 8 (some 57) (ba 16 3071) HT_.out HW_.out hHeld ?_
   refine tu 10 (some 59) (ba 16 4095) HT_.out HW_.out hHeld ?_
   refine pu 12 (some 61) (ba 16 8191) HT_.out ?_
   refine tu 13 (some 62) (ba 16 16383) HT_.out HW_.out hHeld ?_
   refine pu 14 (some 63) (ba 16 32767) HT_.out ?_
   refine pu 15 (some 64) (ba 16 65535) HT_.out ?_
   refine done_ (done_of HT_.out (by kernel_rfl)) ?_
   try go_wp2
   go_ret
   exact ⟨qe, qb HB.out⟩
 rw [if_neg c44] at H
 have c44b0 : (!(((rd_TTie t100 x5_2).f0) == ((rd_TTie t108 x6_2).f0)) || (!(((rd_TTie t100 x5_2).f1) == ((rd_TTie t108 x6_2).f1)))) = false := by simpa using c44
 clear c44
 have H' := Aside0.mk H
 clear H
 have hcz50_0 : wr.cell? ⟨gb111, 0, none⟩ = some (.int .i64 t104) := (blk_cell BK111.out 0).trans rfl
 have hcz50_1 : wr.cell? ⟨gb111, 1, none⟩ = some (.slice Ao9 t108.length co9) := (blk_cell BK111.out 1).trans rfl
 have hfz50_0 := blk_frozen BK111.out 0
 have hfz50_1 := blk_frozen BK111.out 1
 try go_wp2
 have n0_ := q0 (Kd.R_drew HO_4.out)
 have n1_ := q0 (Kd.R_drew HO_100001.out)
 have n2_ := q0 (blk_drew BK111.out)
 have n3_ := q0 (below_drew1 HB.out)
 clear HO_4
 clear HO_100001
 clear BK111
 clear HB
 have HO_4 := n0_
 have HO_100001 := n1_
 have BK111 := n2_
 have HB := n3_
 clear n0_ n1_ n2_ n3_
 have p124 : 0 ≤ (x6_2 : Int) := of_decide_eq_true qa
 have q124 : x6_2 < (t108.length : Int) := of_decide_eq_true qa
 obtain ⟨ad124, e124, hx124_0, hx124_1⟩ := at_TTie (Kd.R_reads' HO_100001.out).2.2 x6_2 p124 q124
 cases e124
 replace p124 := eq_true p124
 replace q124 := eq_true q124
 have p125 : 0 ≤ (x6_2 : Int) := of_decide_eq_true qa
 have q125 : x6_2 < (t108.length : Int) := of_decide_eq_true qa
 obtain ⟨ad125, e125, hx125_0, hx125_1⟩ := at_TTie (Kd.R_reads' HO_100001.out).2.2 x6_2 p125 q125
 obtain rfl : ad124 = ad125 := (by injection e125)
 replace p125 := eq_true p125
 replace q125 := eq_true q125
 refine start_ (n := 14) (S := fun w' => w'.cell? ⟨gb111, 0, none⟩ = some (.int .i64 t104) ∧ w'.cell? ⟨gb111, 1, none⟩ = some (.slice (some ad124) t108.length co9) ∧ w'.cell? (ad124.add ((x6_2).toNat * 2)) = some (.int .i64 ((rd_TTie t108 x6_2).f0)) ∧ w'.cell? ⟨(ad124.add ((x6_2).toNat * 2)).block, (ad124.add ((x6_2).toNat * 2)).off + 1, none⟩ = some (.int .i64 ((rd_TTie t108 x6_2).f1)) ∧ w'.cell? (ad124.add ((x6_2).toNat * 2)) = some (.int .i64 ((rd_TTie t108 x6_2).f0)) ∧ w'.cell? ⟨(ad124.add ((x6_2).toNat * 2)).block, (ad124.add ((x6_2).toNat * 2)).off + 1, none⟩ = some (.int .i64 ((rd_TTie t108 x6_2).f1))) (ds := []) (ba 14 0) (by kernel_rfl) rfl (by kernel_rfl) ⟨(blk_cell BK111.out 0).trans rfl, (blk_cell BK111.out 1).trans rfl, hx124_0, hx124_1, hx125_0, hx125_1⟩ (fun hHeld => ?_); refine with_tabW laws_FnBridgeList.tab11 laws_FnBridgeList.bits11 (fun HT_ HW_ => ?_)
 generalize wr.drew = w51 at HO_4 HO_100001 BK111 HB hx124_0 hx124_1 hx125_0 hx125_1 hHeld ⊢
 refine pu 1 (some 36) (ba 14 2) HT_.out ?_
 refine pu 3 (some 38) (ba 14 10) HT_.out ?_
 refine pu 7 (some 42) (ba 14 138) HT_.out ?_
 refine pu 9 (some 44) (ba 14 650) HT_.out ?_
 refine tu 0 (some 35) (ba 14 651) HT_.out HW_.out hHeld ?_
 refine tu 2 (some 37) (ba 14 655) HT_.out HW_.out hHeld ?_
 refine pu 4 (some 39) (ba 14 671) HT_.out ?_
 refine pu 5 (some 40) (ba 14 703) HT_.out ?_
 refine tu 6 (some 41) (ba 14 767) HT_.out HW_.out hHeld ?_
 refine tu 8 (some 43) (ba 14 1023) HT_.out HW_.out hHeld ?_
 refine pu 10 (some 45) (ba 14 2047) HT_.out ?_
 refine pu 11 (some 46) (ba 14 4095) HT_.out ?_
 refine tu 12 (some 47) (ba 14 8191) HT_.out HW_.out hHeld ?_
 refine one_ (i := 13) (N := some 48) (ba 14 16383) rfl rfl (one_of HT_.out (by kernel_rfl)) (by decide) (fun K hK => ?_)
 refine goes_ Try.func33 (by kernel_rfl) rfl #[.agg #[.int .i64 t104, .slice (some ad124) t108.length co9], .int .i64 ((rd_TTie t108 x6_2).f0), .int .i64 ((rd_TTie t108 x6_2).f1)] (by rfl) rfl rfl qm ?_
 with_reducible refine (impl_BridgeIs.calls k2 t104 _ _ t108 ((rd_TTie t108 x6_2).f0) ((rd_TTie t108 x6_2).f1) true _ ?side1 ?side2 A34.out).mono ?_
 (case side1 => exact qc (Kd.R_reads' HO_100001.out).2.2)
 (case side2 => exact (Kd.R_reads' HO_100001.out).2.1)
 rintro e w52 ⟨rfl, hb⟩
 have HS2_ := (hb.cell (World.block_lt_of_cell? _ _ (hHeld.2.2.1))).trans (hHeld.2.2.1)
 have HS3_ := (hb.cell (World.block_lt_of_cell? _ _ (hHeld.2.2.2.1))).trans (hHeld.2.2.2.1)
 have HS4_ := (hb.cell (World.block_lt_of_cell? _ _ (hHeld.2.2.2.2.1))).trans (hHeld.2.2.2.2.1)
 have HS5_ := (hb.cell (World.block_lt_of_cell? _ _ (hHeld.2.2.2.2.2))).trans (hHeld.2.2.2.2.2)
 refine ⟨_, rfl, ?_⟩
 have n0_ := q0 (Kd.R_below (qr HO_4.out) hb)
 have n1_ := q0 (Kd.R_below (qr HO_100001.out) hb)
 have n2_ := q0 (kb BK111.out hb)
 have n3_ := q0 (below_step (qb HB.out) hb)
 clear HO_4
 clear HO_100001
 clear BK111
 clear HB
 have HO_4 := n0_
 have HO_100001 := n1_
 have BK111 := n2_
 have HB := n3_
 clear n0_ n1_ n2_ n3_
 (try clear hb)
 (try clear hb2)
 (try clear hk)
 (try clear hi)
 refine hK.out _ _ ⟨(blk_cell BK111.out 0).trans rfl, (blk_cell BK111.out 1).trans rfl, HS2_, HS3_, HS4_, HS5_⟩ (fun hHeld => ?_)
 clear hK K
 refine nu 48 ?_
 refine done_ (done_of HT_.out (by kernel_rfl)) ?_
 try go_wp2
 have n0_ := q0 (Kd.R_drew HO_4.out)
 have n1_ := q0 (Kd.R_drew HO_100001.out)
 have n2_ := q0 (blk_drew BK111.out)
 have n3_ := q0 (below_drew1 HB.out)
 clear HO_4
 clear HO_100001
 clear BK111
 clear HB
 have HO_4 := n0_
 have HO_100001 := n1_
 have BK111 := n2_
 have HB := n3_
 clear n0_ n1_ n2_ n3_
 obtain ⟨Ao54, co54, eo54⟩ := Kd.R_slice HO_4.out
 (first | subst eo54 | (injection eo54 with f1_ f2_ f3_; have f4_ := f1_.symm; have f5_ := f3_.symm; clear f1_ f2_ f3_; subst f4_; subst f5_))
 have p126 : 0 ≤ (x5_2 : Int) := of_decide_eq_true qa
 have q126 : x5_2 < (t100.length : Int) := of_decide_eq_true qa
 obtain ⟨ad126, e126, hx126_0, hx126_1⟩ := at_TTie (Kd.R_reads' HO_4.out).2.2 x5_2 p126 q126
 cases e126
 replace p126 := eq_true p126
 replace q126 := eq_true q126
 have p127 : 0 ≤ (x6_2 : Int) := of_decide_eq_true qa
 have q127 : x6_2 < (t108.length : Int) := of_decide_eq_true qa
 obtain ⟨ad127, e127, hx127_0, hx127_1⟩ := at_TTie (Kd.R_reads' HO_100001.out).2.2 x6_2 p127 q127
 obtain rfl : ad124 = ad127 := (by injection e127)
 replace p127 := eq_true p127
 replace q127 := eq_true q127
 refine start_ (n := 16) (S := fun w' => w'.cell? ⟨gb111, 0, none⟩ = some (.int .i64 t104) ∧ w'.cell? ⟨gb111, 1, none⟩ = some (.slice (some ad124) t108.length co9) ∧ w'.cell? (ad126.add ((x5_2).toNat * 2)) = some (.int .i64 ((rd_TTie t100 x5_2).f0)) ∧ w'.cell? ⟨(ad126.add ((x5_2).toNat * 2)).block, (ad126.add ((x5_2).toNat * 2)).off + 1, none⟩ = some (.int .i64 ((rd_TTie t100 x5_2).f1)) ∧ w'.cell? (ad124.add ((x6_2).toNat * 2)) = some (.int .i64 ((rd_TTie t108 x6_2).f0)) ∧ w'.cell? ⟨(ad124.add ((x6_2).toNat * 2)).block, (ad124.add ((x6_2).toNat * 2)).off + 1, none⟩ = some (.int .i64 ((rd_TTie t108 x6_2).f1))) (ds := []) (ba 16 0) (by kernel_rfl) rfl (by kernel_rfl) ⟨(blk_cell BK111.out 0).trans rfl, (blk_cell BK111.out 1).trans rfl, hx126_0, hx126_1, hx127_0, hx127_1⟩ (fun hHeld => ?_); refine with_tabW laws_FnBridgeList.tab12 laws_FnBridgeList.bits12 (fun HT_ HW_ => ?_)
 generalize w52.drew = w53 at HO_4 HO_100001 BK111 HB hx126_0 hx126_1 hx127_0 hx127_1 hHeld ⊢
 refine pu 0 (some 49) (ba 16 1) HT_.out ?_
 refine pu 1 (some 50) (ba 16 3) HT_.out ?_
 refine pu 2 (some 51) (ba 16 7) HT_.out ?_
 refine pu 3 (some 52) (ba 16 15) HT_.out ?_
 refine pu 4 (some 53) (ba 16 31) HT_.out ?_
 refine pu 5 (some 54) (ba 16 63) HT_.out ?_
 refine pu 6 (some 55) (ba 16 127) HT_.out ?_
 refine pu 7 (some 56) (ba 16 255) HT_.out ?_
 refine pu 9 (some 58) (ba 16 767) HT_.out ?_
 refine pu 11 (some 60) (ba 16 2815) HT_.out ?_
 refine tu 8 (some 57) (ba 16 3071) HT_.out HW_.out hHeld ?_
 refine tu 10 (some 59) (ba 16 4095) HT_.out HW_.out hHeld ?_
 refine pu 12 (some 61) (ba 16 8191) HT_.out ?_
 refine tu 13 (some 62) (ba 16 16383) HT_.out HW_.out hHeld ?_
 refine pu 14 (some 63) (ba 16 32767) HT_.out ?_
 refine pu 15 (some 64) (ba 16 65535) HT_.out ?_
 refine done_ (done_of HT_.out (by kernel_rfl)) ?_
 try go_wp2
 go_roundg k2
 case measure => have := HJ4.out; have := HK2.out; omega
 case rel => exact ⟨(wrap64 (x5_2 + 1)), (wrap64 (x6_2 + 1)), qs, qs, H', ⟨by have := HJ4.out; have := HK2.out; omega⟩, ⟨qr HO_4.out⟩, ⟨qr HO_100001.out⟩, ⟨qk BK111.out⟩, ⟨qb HB.out⟩⟩

theorem laws_FnBridgeList.walk (P : laws_FnBridgeList.Pure) (a0 : Option Addr) (len0 cap0 : Nat) (z0 : List Int) (w : World) (w0 : (a0 = none ∧ len0 = 0 ∧ cap0 = 0 ∧ z0 = []) ∨ ∃ x, a0 = some x ∧ len0 ≤ cap0 ∧ cap0 ≤ maxLen ∧ z0.length = cap0 ∧ (∀ i, i < z0.length → w.cell? (x.add i) = some (.int .u8 (z0.getD i 0))) ∧ ∀ n ∈ z0, (Lit.int .u8 n).wf = true) (y0 : len0 * 1 ≤ 140737488351232) :
    Calls Try.prog 6 #[.slice a0 len0 cap0] w fun e w' => e = .returned (.bool true) ∧ Below w.heap.size w w' := by
  obtain ⟨l0, rfl, hr0, hm0, hw0, hc0⟩ := ReadsInt.ofRowC w0
  obtain ⟨k, h⟩ := P l0 hm0 y0 hw0
  refine (laws_FnBridgeList.calls k _ _ l0 true w (Kd.C_of_reads (d := (0 : Int)) (h1 := fun _ => rfl) hr0) hc0 h).mono ?_
  rintro e w' ⟨rfl, hd⟩
  exact ⟨rfl, hd⟩
end Go.Proofs.Ytheoebelhgbejab.P
